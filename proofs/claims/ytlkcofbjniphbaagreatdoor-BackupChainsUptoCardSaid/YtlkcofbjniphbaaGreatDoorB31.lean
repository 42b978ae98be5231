/- A node taken away. -/
import Derived.Test.YtlkcofbjniphbaaGreatDoorB30
set_option maxHeartbeats 32000000
namespace Go.Fw
open Go Go.Proofs
set_option maxRecDepth 100000
set_option linter.unusedVariables false
set_option linter.unusedSimpArgs false
theorem X77 {α:Type}{l:List α}{i:Nat}{x:α} (h:l[i]? =some x):l=l.take i++x::l.drop (i+1):=by
 obtain⟨hi,rfl⟩:=List.getElem?_eq_some_iff.1 h
 rw[←List.drop_eq_getElem_cons hi,List.take_append_drop]
theorem Xad {α:Type}{key:α→Int}{l:List α}{k:Int} (hs:YX ltI key l) (hh:XO key l k=true):∃x,l[Xu ltI key l k]? =some x∧key x=k:=by
 rw[X0g V4 hs] at hh
 exact decide_eq_true_iff.1 hh
theorem X2O {P:Program}{rs:List ResultVar}{Lo:List (Nat×AObj)}{xs:List AVal}{T U:St} (h:T.le U) (k:Xy P rs Lo xs U):Xy P rs Lo xs T:=
 ⟨k.choose,fun E a w hs=>k.choose_spec.1 E a w (h E a w hs),k.choose_spec.2⟩
theorem XoJ (g:Gra) (c:Chg) (hg:GV g) (ho:c.op=2) (q1:XO Nod.id g.nodes c.id=true) (q2:X0p g.edges c.id=false):
  Con Tryz.prog 121 (edS g) [.ptr 0 0,Xx c] (edN {g with nodes:=UT Nod.id g.nodes c.id}) (.tup []):=by
 obtain⟨ns,es,nn,ne⟩:=g
 have hns:=hg.ns
 have hnl:=hg.nl
 have hel:=hg.el
 simp only at q1 q2 hns hnl hel
 obtain⟨x0,hx0,hk0⟩:=Xad hns q1
 have e0:UT Nod.id ns c.id=ns.take (Xu ltI Nod.id ns c.id)++ns.drop (Xu ltI Nod.id ns c.id+1):=XbJ V4 hns hx0 hk0
 simp only
 rw[e0]
 have hle:Xu ltI Nod.id ns c.id<ns.length:=(List.getElem?_eq_some_iff.1 hx0).1
 refine Xg (xs:=[]) Tryz.func121 rfl Tryz.ntmps121 rfl rfl rfl (fun E=> ?_)
 refine Vu rfl rfl rfl rfl (fun xs ys h1 h2=> ?_)
 subst h1 h2
 have hN:=VR (xs.map rXN) (ys.map rXE) nn ne c.id (by simp at hnl ⊢;omega) ((VP xs).2 hns)
 rw[VO,VN,q1] at hN
 simp only[edL,List.length_map] at hN hnl hle hel
 generalize Xu ltI Nod.id (xs.map (·.1)) c.id=i at*
 have hD:Con Tryz.prog 169 [(3,.row 3 ((xs.map rXN).map cRN))] [.own 3 ((xs.map rXN).map cRN).length,ai (i:Nat),ai ((i+1:Nat):Int)] [(3,.dead),(110,.row 3 (((xs.map rXN).map cRN).take i++((xs.map rXN).map cRN).drop (i+1)))] (.own 110 (((xs.map rXN).map cRN).length-1)):=
  U0 1 3 (XqR ((xs.map rXN).map cRN) i (X2t _) (by simp;omega) (by simp;omega))
 have hm10:=UW 10
 have hm12:=UW 12
 have eX:(xs.map (·.1)).take i++(xs.map (·.1)).drop (i+1)=(xs.take i++xs.drop (i+1)).map (·.1):=by simp[List.map_take,List.map_drop]
 have eL:(xs.take i++xs.drop (i+1)).length=xs.length-1:=by rw[List.length_append,List.length_take,List.length_drop];omega
 have eR:((xs.map rXN).map cRN).take i++((xs.map rXN).map cRN).drop (i+1)=((xs.take i++xs.drop (i+1)).map rXN).map cRN:=by simp[List.map_take,List.map_drop]
 obtain⟨y0,hy0⟩:∃y,xs[i]? =some y:=⟨_,List.getElem?_eq_getElem hle⟩
 have eB0:Y0 xs=Y0 (xs.take i)++(y0.2.1,1,y0.1.labels.map Xl)::(y0.2.2,6,y0.1.props.map Xh)::Y0 (xs.drop (i+1)):=by
  conv=>lhs;rw[X77 hy0,X5H,XaY]
 have eB:Y0 (xs.take i)++Y0 (xs.drop (i+1))=Y0 (xs.take i++xs.drop (i+1)):=(X5H _ _).symm
 rw[eX]
 have hlen2:((xs.map rXN).map cRN).length=xs.length:=by simp
 rw[hlen2] at hD
 simp only[edN,edS,List.length_map,eL]
 have hlen2':xs.length=((xs.map rXN).map cRN).length:=hlen2.symm
 have hEl:((ys.map rXE).map cRE).length=ys.length:=by simp
 have hE5:=X4d (ys.map rXE)
 have hEk:∀k:Nat,k<ys.length→∃y:XE,((ys.map rXE).map cRE)[k]? =some (cRE (rXE y))∧y.1.src≠c.id∧y.1.dst≠c.id:=by
  intro k hk
  refine⟨ys[k],by simp[List.getElem?_map,List.getElem?_eq_getElem hk],?_⟩
  unfold X0p at q2
  have:=(List.any_eq_false.1 q2) ys[k].1 (List.mem_map.2 ⟨ys[k],List.getElem_mem hk,rfl⟩)
  simpa using this
 clear hg hns e0 eX eL hx0 hk0 q1 q2 hy0
 generalize hR:(xs.map rXN).map cRN=R at*
 generalize hRE:(ys.map rXE).map cRE=RE' at*
 generalize hX:xs.take i++xs.drop (i+1)=X at*
 obtain⟨op,id,src,dst,name,⟨k0,k1,k2,k3,k4⟩⟩:=c
 simp only at ho hEk
 subst ho
 simp only[Xx,YW] at*
 have hEl':ys.length=RE'.length:=hEl.symm
 refine QIg ?_;refine W9_ ?_;refine QJg ?_;refine Xr ?_;refine JT ?_;refine Xt ?_;refine XK (fun k:Nat=>k≤RE'.length) (fun k=>⟨183,[(0,.ptr 0 0),(3,.ptr 100 0),(4,ai (i:Nat)),(91,.own 4 ys.length),(92,ai RE'.length),(93,ai k)],[(0,.box [.own 3 xs.length,.own 4 ys.length,ai nn,ai ne]),(3,.row 3 R),(210,.bag (Y0 xs)),(4,.row 5 RE'),(211,.bag (YC ys)),(100,.box [ai 2,ai id,ai src,ai dst,.d (.v (.string (Xb name))),ai k0,ai k1,ai k2,.d (.v (.string (Xb k3))),.d (.sl 5 (XU k4))])]⟩) (fun k=>RE'.length-k) 0 (Nat.zero_le _) (Xd rfl JM ⟨rfl,rfl,rfl,rfl,rfl,rfl,trivial⟩) ?_
 intro k hk
 by_cases hkl:k<RE'.length
 case pos=>
  have hkl':(k:Int)<RE'.length:=by omega
  obtain⟨y,hy,n1,n2⟩:=hEk k (by omega)
  have hpart:(RE'.flatten.drop (k*5)).take 5=[.v (.int .i64 y.1.id),.v (.int .i64 y.1.src),.v (.int .i64 y.1.dst),.v (.string (Xb y.1.typ)),.v y.2]:=by
   have:=XaT hE5 hy (o:=0) (q:=5) (by omega)
   simpa [cRE,rXE] using this
  have hroom:k*5+5≤RE'.length*5:=by omega
  refine QKg ?_;refine W8_ ?_;refine QLg ?_;refine Zk (op:= .neq) (r':= .bool true) (u:= .int .i64 y.1.dst) (v:= .int .i64 id) ?_ (hr':=by exact congrArg Value.bool (decide_eq_true n2));refine Qr ?_;refine Z3 (hcon:=hm12) ?_;refine W5_ ?_
  clear hEl hlen2 hD hR hRE hX eB0 eB eR hEk hE5
  exact⟨k+1,by omega,by omega,Xd rfl JM ⟨rfl,rfl,rfl,rfl,rfl,rfl,trivial⟩⟩
 have hkl':¬(k:Int)<RE'.length:=by omega
 clear hEl hlen2 hE5 hEk
 refine W5_ ?_;refine QUc ?_;(refine Z2 (op:= .add) (r':= .int .i64 ((i+1:Nat):Int)) (u:= .int .i64 (i:Nat)) (v:= .int .i64 1) ?_ (hr:=by exact UC (by unfold XT;omega)));refine Z3 (hcon:=hD) ?_;refine W5_ ?_
 show Xy _ _ _ _ _
 refine X2O (XaD 210 (Y0 (xs.take i)) ((y0.2.2,6,y0.1.props.map Xh)::Y0 (xs.drop (i+1))) (y0.2.1,1,y0.1.labels.map Xl) (by refine Eq.trans (b:= .bag (Y0 xs)) (by conv=>lhs;whnf) (by rw[eB0]))) ?_;refine X2O (XaD 210 (Y0 (xs.take i)) (Y0 (xs.drop (i+1))) (y0.2.2,6,y0.1.props.map Xh) (by conv=>lhs;whnf)) ?_;refine X2O (X32 110 210 X (by refine Eq.trans (b:= .row 3 (R.take i++R.drop (i+1))) (by conv=>lhs;whnf) (by rw[eR])) (by refine Eq.trans (b:= .bag (Y0 (xs.take i)++Y0 (xs.drop (i+1)))) (by conv=>lhs;whnf) (by rw[eB]))) ?_;refine X2O (X2S 4 211 ys (by refine Eq.trans (b:= .row 5 RE') (by conv=>lhs;whnf) (by rw[hRE])) (by conv=>lhs;whnf)) ?_;exact QMg
theorem X9S {α:Type}{sz i o:Nat}{v:α}:∀{R:List (List α)}{q:Nat}{r:List α},(∀x∈R,x.length=sz)→R[q]? =some r→o<sz→(R.set q (r.set o v)).flatten=R.flatten.set (q*sz+o) v
 |[],q,r,_,h,_=>by simp at h
 |x::R,0,r,hz,h,ho=>by
  simp only[List.length_cons,Nat.zero_lt_succ,List.getElem?_cons_zero,Option.some.injEq] at h
  subst h
  have:=hz x (by simp)
  rw[List.set_cons_zero,List.flatten_cons,List.flatten_cons,Nat.zero_mul,Nat.zero_add,List.set_append_left _ _ (by omega)]
 |x::R,q+1,r,hz,h,ho=>by
  have hx:=hz x (by simp)
  rw[List.getElem?_cons_succ] at h
  have ih:=X9S (v:=v) (i:=i) (fun y hy=>hz y (by simp[hy])) h ho
  rw[List.set_cons_succ,List.flatten_cons,List.flatten_cons,ih,List.set_append_right _ _ (by rw[hx,Nat.add_mul];omega),hx]
  congr 2
  rw[Nat.add_mul];omega
theorem X7R {α:Type}{sz o:Nat}{d:α}:∀{R:List (List α)}{q:Nat}{r:List α},(∀x∈R,x.length=sz)→R[q]? =some r→r[o]? =some d→R.flatten[q*sz+o]? =some d
 |[],q,r,_,h,_=>by simp at h
 |x::R,0,r,hz,h,ho=>by
  simp only[List.length_cons,Nat.zero_lt_succ,List.getElem?_cons_zero,Option.some.injEq] at h
  subst h
  rw[List.flatten_cons,Nat.zero_mul,Nat.zero_add,List.getElem?_append_left (List.getElem?_eq_some_iff.1 ho).1];exact ho
 |x::R,q+1,r,hz,h,ho=>by
  have hx:=hz x (by simp)
  rw[List.getElem?_cons_succ] at h
  have ih:=X7R (fun y hy=>hz y (by simp[hy])) h ho
  rw[List.flatten_cons,List.getElem?_append_right (by rw[hx,Nat.add_mul];omega),hx,←ih]
  congr 1
  rw[Nat.add_mul];omega
theorem X2K {sz o q:Nat}{d:D}{R:List (List D)}{r:List D} (T:List (Option D)) (hz:∀x∈R,x.length=sz) (hq:R[q]? =some r) (ho:r[o]? =some d):(R.flatten.map some++T)[q*sz+o]? =some (some d):=by
 have h:=X7R hz hq ho
 have hl:q*sz+o<R.flatten.length:=(List.getElem?_eq_some_iff.1 h).1
 rw[List.getElem?_append_left (by rw[List.length_map];exact hl),List.getElem?_map,h];rfl
theorem X7I {sz o q n:Nat}{d:D}{R:List (List D)}{r:List D} (T:List (Option D)) (hz:∀x∈R,x.length=sz) (hq:R[q]? =some r) (ho:o<r.length) (hn:n=R.length):
  ((R.flatten.map some++T).set (q*sz+o) (some d)).take (n*sz)=(R.set q (r.set o d)).flatten.map some:=by
 have hr:r.length=sz:=hz r (List.mem_of_getElem? hq)
 have h:=X7R hz hq (List.getElem?_eq_getElem ho)
 have hl:q*sz+o<R.flatten.length:=(List.getElem?_eq_some_iff.1 h).1
 have hfl:R.flatten.length=n*sz:=by
  subst hn
  exact Eq.trans (by rw[←List.length_map (f:=some)]) (Uq hz)
 rw[X9S (i:=0) hz hq (by omega),List.map_set,List.set_append_left _ _ (by rw[List.length_map];exact hl),List.take_left' (by rw[List.length_set,List.length_map];exact hfl)]
theorem X0Z {sz k:Nat}{R:List (List D)} (hz:∀x∈R,x.length=sz):(R.flatten.map some++List.replicate k (none:Option D)).length=R.length*sz+k:=by
 rw[List.length_append,List.length_replicate]
 exact congrArg (· +k) (Uq hz)
theorem X3l {C:List (Option D)}{j:Nat}{y:AVal} (h:j<C.length):(Y6 C (some (j,y)))[j]? =some y:=by
 simp only[Y6]
 rw[List.getElem?_set_self (by rw[List.length_map];exact h)]
theorem Xig {α:Type}{y z:α}:∀{l:List α}{j:Nat},j<l.length→l.set j z=(l.set j y).take j++[z]++(l.set j y).drop (j+1)
 |[],j,h=>by simp at h
 |x::l,0,h=>rfl
 |x::l,j+1,h=>by
  have ih:=Xig (y:=y) (z:=z) (l:=l) (j:=j) (by simpa using h)
  rw[List.set_cons_succ,List.set_cons_succ,List.take_succ_cons,List.drop_succ_cons,List.cons_append,List.cons_append,←ih]
theorem X6r {C:List (Option D)}{j:Nat}{y z:AVal} (h:j<C.length):Y6 C (some (j,z))=(Y6 C (some (j,y))).take j++[z]++(Y6 C (some (j,y))).drop (j+1):=
 Xig (by rw[List.length_map];exact h)
theorem X7d {α:Type}{n:α}:∀{l:List α}{i:Nat},i<l.length→l.set i n=l.take i++[n]++l.drop (i+1)
 |[],i,h=>by simp at h
 |x::l,0,h=>rfl
 |x::l,i+1,h=>by
  rw[List.set_cons_succ,X7d (by simpa using h),List.take_succ_cons,List.drop_succ_cons];rfl
theorem XcB {ns:List Nod}{es:List Edg}{nn ne:Int}{x n:Nod}{k:Int} (hg:GV ⟨ns,es,nn,ne⟩) (hx:ns[Xu ltI Nod.id ns k]? =some x) (hk:x.id=k) (hn:n.id=k):
  VC ⟨ns,es,nn,ne⟩ n=⟨ns.set (Xu ltI Nod.id ns k) n,es,nn,ne⟩:=by
 have h1:=(hg.nodes x (List.mem_of_getElem? hx)).2.1
 simp only at h1
 have hlt:=(List.getElem?_eq_some_iff.1 hx).1
 unfold VC
 simp only
 have hmax:max nn (n.id+1)=nn:=by omega
 subst hn
 rw[X67 V4 hg.ns hx hk,hmax]
 simp only
 rw[X7d hlt]
theorem X3P {xs:List XN}{i:Nat}{y:XN} (h:xs[i]? =some y):Y0 xs=Y0 (xs.take i)++(y.2.1,1,y.1.labels.map Xl)::(y.2.2,6,y.1.props.map Xh)::Y0 (xs.drop (i+1)):=by
 conv=>lhs;rw[X77 h,X5H,XaY]
theorem Xbs {xs:List XN}{i:Nat}{y x:XN} (h:xs[i]? =some x):Y0 (xs.take i)++(y.2.1,1,y.1.labels.map Xl)::(y.2.2,6,y.1.props.map Xh)::Y0 (xs.drop (i+1))=Y0 (xs.set i y):=by
 have hi:=(List.getElem?_eq_some_iff.1 h).1
 have h2:(xs.set i y)[i]? =some y:=List.getElem?_set_self hi
 rw[X3P h2,List.take_set_of_le (Nat.le_refl i),List.drop_set_of_lt (by omega)]
theorem Xco {xs:List XN}{i:Nat}{x y:XN} (h:xs[i]? =some x):((xs.map rXN).map cRN).set i (cRN (rXN y))=((xs.set i y).map rXN).map cRN:=by
 rw[List.map_set,List.map_set]
theorem XqS (g:Gra) (c:Chg) (x:Nod) (hg:GV g) (ho:c.op=3) (hx:V8 g.nodes c.id=some x) (q1:XO Y7 x.labels c.name=false) (q2:x.labels.length<8):
  Con Tryz.prog 121 (edS g) [.ptr 0 0,Xx c] (edN (VC g ⟨x.id,Uv ltS Y7 x.labels c.name [c.name],x.props⟩)) (.tup []):=by
 have hxm:=X3p hx
 rw[X4E hg] at hx
 obtain⟨ns,es,nn,ne⟩:=g
 have hns:=hg.ns
 have hnl:=hg.nl
 have hlr:=(hg.nodes x hxm.1).2.2.lr
 simp only at hx hns hnl
 obtain⟨x',hx',hx2⟩:=Option.bind_eq_some_iff.1 hx
 obtain⟨hk,rfl⟩:x'.id=c.id∧x'=x:=by by_cases e:x'.id=c.id<;>simp[e] at hx2 ⊢;exact hx2
 have q0:XO Nod.id ns c.id=true:=by rw[X0g V4 hns];exact decide_eq_true ⟨x',hx',hk⟩
 rw[XcB hg hx' hk (by exact hk)]
 rw[X55 q1]
 have hle:Xu ltI Nod.id ns c.id<ns.length:=(List.getElem?_eq_some_iff.1 hx').1
 refine Xg (xs:=[]) Tryz.func121 rfl Tryz.ntmps121 rfl rfl rfl (fun E=> ?_)
 refine X8v ?_
 refine Vu rfl rfl rfl rfl (fun xs ys h1 h2=> ?_)
 subst h1 h2
 have hN:=VR (xs.map rXN) (ys.map rXE) nn ne c.id (by simp at hnl ⊢;omega) ((VP xs).2 hns)
 rw[VO,VN,q0] at hN
 simp only[edL,List.length_map] at hN hnl hle
 generalize Xu ltI Nod.id (xs.map (·.1)) c.id=i at*
 obtain⟨⟨x1,u,v⟩,hy0,rfl⟩:∃y:XN,xs[i]? =some y∧y.1=x':=by
  rw[List.getElem?_map] at hx'
  obtain⟨y,e1,e2⟩:=Option.map_eq_some_iff.1 hx'
  exact⟨y,e1,e2⟩
 simp only at*
 have hm10:=UW 10
 have hm7:=UW 7
 have hm20:=UW 20
 have hS:=X3e 121 (X6z x1.labels c.name (by omega) hlr)
 have hll:(x1.labels.map Xl).length=x1.labels.length:=by simp
 have hal:=X6X (lt:=ltS) (key:=Y7) x1.labels c.name
 rw[q1,hll] at hS
 have hI:=U0 110 122 (U0 1 121 (Xli (x1.labels.map Xl) (Xu ltS Y7 x1.labels c.name) [.v (.string (Xb c.name))] (fun x hx=>by obtain⟨p,_,rfl⟩:=List.mem_map.1 hx;rfl) rfl (by omega) (by omega)))
 rw[hll] at hI
 have hI:Con Tryz.prog 171 [(121,.row 1 (x1.labels.map Xl))] [.own 121 x1.labels.length,ai (Xu ltS Y7 x1.labels c.name:Nat),.d (.sl 1 [[.v (.string (Xb c.name))]])] [(121,.dead),(122,.row 1 ((x1.labels.map Xl).take (Xu ltS Y7 x1.labels c.name)++[.v (.string (Xb c.name))]::(x1.labels.map Xl).drop (Xu ltS Y7 x1.labels c.name)))] (.own 122 (x1.labels.length+1)):=hI
 have eI:(x1.labels.map Xl).take (Xu ltS Y7 x1.labels c.name)++[.v (.string (Xb c.name))]::(x1.labels.map Xl).drop (Xu ltS Y7 x1.labels c.name)=(x1.labels.take (Xu ltS Y7 x1.labels c.name)++[c.name]++x1.labels.drop (Xu ltS Y7 x1.labels c.name)).map Xl:=by
  simp[List.map_take,List.map_drop,Xl]
 rw[eI] at hI
 have eIl:(x1.labels.take (Xu ltS Y7 x1.labels c.name)++[c.name]++x1.labels.drop (Xu ltS Y7 x1.labels c.name)).length=x1.labels.length+1:=by
  rw[List.append_assoc];exact XbQ hal
 generalize x1.labels.take (Xu ltS Y7 x1.labels c.name)++[c.name]++x1.labels.drop (Xu ltS Y7 x1.labels c.name)=ls' at*
 generalize Xu ltS Y7 x1.labels c.name=p at*
 have hq8:((x1.labels.map Xl).length:Int)<8:=by rw[List.length_map];omega
 have eR:∀u',((xs.map rXN).map cRN).set i ([.v (.int .i64 x1.id),.v u',.v v])=((xs.set i ((⟨x1.id,ls',x1.props⟩:Nod),u',v)).map rXN).map cRN:=fun u'=>Xco hy0 (y:=((⟨x1.id,ls',x1.props⟩:Nod),u',v))
 have eB:∀u',Y0 (xs.take i)++(u',1,ls'.map Xl)::(v,6,x1.props.map Xh)::Y0 (xs.drop (i+1))=Y0 (xs.set i ((⟨x1.id,ls',x1.props⟩:Nod),u',v)):=fun u'=>Xbs hy0 (y:=((⟨x1.id,ls',x1.props⟩:Nod),u',v))
 have eB0:=X3P hy0
 simp only at eB0
 have eX:∀u',(xs.map (·.1)).set i ⟨x1.id,ls',x1.props⟩=(xs.set i ((⟨x1.id,ls',x1.props⟩:Nod),u',v)).map (·.1):=fun u'=>by rw[List.map_set]
 have eXl:∀u':Value,(xs.set i ((⟨x1.id,ls',x1.props⟩:Nod),u',v)).length=xs.length:=fun u'=>by simp
 have hlen2:xs.length=((xs.map rXN).map cRN).length:=by simp
 have hRi:((xs.map rXN).map cRN)[i]? =some [.v (.int .i64 x1.id),.v u,.v v]:=by
  rw[List.getElem?_map,List.getElem?_map,hy0];rfl
 have hz3:=X2t (xs.map rXN)
 simp only[edN,edS,List.length_map]
 clear hg hns hx hx' hx2 hxm hlr q0 q1 hnl
 generalize hR:(xs.map rXN).map cRN=R at*
 have hlm:(x1.labels.map Xl).length=x1.labels.length:=by simp
 generalize hnl:x1.labels.length=nl at*
 obtain⟨op,id,src,dst,name,⟨k0,k1,k2,k3,k4⟩⟩:=c
 simp only at ho
 subst ho
 simp only[Xx,YW] at*
 refine QIg ?_;refine W2_ ?_
 show AWP Tryz.prog E _ _ _
 refine X25 0 0 3 120 rfl (by omega) rfl rfl hlen2 rfl rfl (fun cp k hc1 hc2 hc3 _=> ?_)
 refine Xq (X3g 120 210 (i*3+1) 121 rfl (X2K _ hz3 hRi rfl) (Eq.trans (b:= .bag (Y0 xs)) (by conv=>lhs;whnf) (by rw[eB0])) rfl rfl) ?_
 rw[hlm]
 have hCl:=X0Z (k:=k) hz3
 have hset:=fun u':Value=>X7I (n:=xs.length) (List.replicate k none) hz3 hRi (o:=1) (d:= .v u') (by simp) hlen2
 simp only[List.set_cons_succ,List.set_cons_zero] at hset
 generalize List.map some R.flatten++List.replicate k none=C at*
 have hj:i*3+1<C.length:=by omega
 have hrd:=X3l (y:= .own 121 nl) hj
 have hwr:=X6r (y:= .own 121 nl) (z:= .own 122 (nl+1)) hj
 have hiz:0+i*3+1=i*3+1:=by omega
 have hrd0:=Eq.trans (congrArg (fun z=>(Y6 C (some (_,.own 121 nl)))[z]?) hiz) hrd
 have hbd:0+i*3+1+1≤C.length:=by omega
 have hRl:R.length=xs.length:=hlen2.symm
 clear hlen2 hll hnl
 have hlm':=hlm.symm
 refine QPg ?_;refine Xj ?_;refine Z3 (hcon:=hm7) ?_;refine W6_ ?_;refine QNg ?_;refine W1_ ?_;refine Zj (op:= .lss) (r':= .bool true) (u:= .int .i64 ((x1.labels.map Xl).length:Nat)) (v:= .int .i64 8) ?_ (hr':=by exact congrArg Value.bool (decide_eq_true hq8));refine Z3 (hcon:=hm20) ?_;refine W6_ ?_;refine QQg ?_;refine Z3 (hcon:=hI) ?_;refine W2_ ?_;(refine Zi (cs':=C) (ho':=some (i*3+1,.own 122 (nl+1))) ?_ (hcs:= ?hcs54);(case hcs54=>exact(by rw[hiz];exact hwr)));refine W1_ ?_
 show clo _ _ _ _
 refine X8w 120 210 (i*3+1) 122 (Y0 (xs.take i)) ((v,6,x1.props.map Xh)::Y0 (xs.drop (i+1))) (by conv=>lhs;whnf) hj (by conv=>lhs;whnf) (by conv=>lhs;whnf) (by rw[List.length_map,eIl]) (fun u'=> ?_)
 have hcap:cp*3≤(C.set (i*3+1) (some (.v u'))).length:=by rw[List.length_set];omega
 refine X1Z (X5h 0 0 120 110 (R.set i [.v (.int .i64 x1.id),.v u',.v v]) (by conv=>lhs;whnf) (by conv=>lhs;whnf) rfl (hset u') (by rw[List.length_set];exact hRl) (fun y hy=>by
  rcases List.mem_or_eq_of_mem_set hy with hy|rfl
  ·exact hz3 y hy
  ·rfl) (by omega) hc2 hcap rfl rfl) ?_
 refine X1Z (X32 110 210 (xs.set i ((⟨x1.id,ls',x1.props⟩:Nod),u',v)) (by refine Eq.trans (b:= .row 3 (R.set i [.v (.int .i64 x1.id),.v u',.v v])) (by conv=>lhs;whnf) (by rw[eR])) (by refine Eq.trans (b:= .bag (Y0 (xs.take i)++(u',1,ls'.map Xl)::(v,6,x1.props.map Xh)::Y0 (xs.drop (i+1)))) (by conv=>lhs;whnf) (by rw[eB]))) ?_;refine X1Z (X2S 4 211 ys (by conv=>lhs;whnf) (by conv=>lhs;whnf)) ?_
 refine X8u (show Xy _ _ _ _ _ from⟨_,St.le_refl _,trivial,?_⟩)
 rw[eX u',List.length_map,List.length_set]
 exact Xn ⟨rfl,rfl,rfl,rfl,trivial⟩
theorem XrW (g:Gra) (c:Chg) (x:Nod) (hg:GV g) (ho:c.op=4) (hx:V8 g.nodes c.id=some x) (q1:XO Y7 x.labels c.name=true):
  Con Tryz.prog 121 (edS g) [.ptr 0 0,Xx c] (edN (VC g ⟨x.id,UT Y7 x.labels c.name,x.props⟩)) (.tup []):=by
 have hxm:=X3p hx
 rw[X4E hg] at hx
 obtain⟨ns,es,nn,ne⟩:=g
 have hns:=hg.ns
 have hnl:=hg.nl
 have hpv:=(hg.nodes x hxm.1).2.2
 simp only at hx hns hnl
 obtain⟨x',hx',hx2⟩:=Option.bind_eq_some_iff.1 hx
 obtain⟨hk,rfl⟩:x'.id=c.id∧x'=x:=by by_cases e:x'.id=c.id<;>simp[e] at hx2 ⊢;exact hx2
 have q0:XO Nod.id ns c.id=true:=by rw[X0g V4 hns];exact decide_eq_true ⟨x',hx',hk⟩
 rw[XcB hg hx' hk (by exact hk)]
 have hle:Xu ltI Nod.id ns c.id<ns.length:=(List.getElem?_eq_some_iff.1 hx').1
 refine Xg (xs:=[]) Tryz.func121 rfl Tryz.ntmps121 rfl rfl rfl (fun E=> ?_)
 refine X8v ?_
 refine Vu rfl rfl rfl rfl (fun xs ys h1 h2=> ?_)
 subst h1 h2
 have hN:=VR (xs.map rXN) (ys.map rXE) nn ne c.id (by simp at hnl ⊢;omega) ((VP xs).2 hns)
 rw[VO,VN,q0] at hN
 simp only[edL,List.length_map] at hN hnl hle
 generalize Xu ltI Nod.id (xs.map (·.1)) c.id=i at*
 obtain⟨⟨x1,u,v⟩,hy0,rfl⟩:∃y:XN,xs[i]? =some y∧y.1=x':=by
  rw[List.getElem?_map] at hx'
  obtain⟨y,e1,e2⟩:=Option.map_eq_some_iff.1 hx'
  exact⟨y,e1,e2⟩
 simp only at*
 have hm10:=UW 10
 have hlr:=hpv.lr
 have hl8:=hpv.ll
 have hm23:=UW 23
 have hS:=X3e 121 (X6z x1.labels c.name (by omega) hlr)
 have hll:(x1.labels.map Xl).length=x1.labels.length:=by simp
 obtain⟨z0,hz0,ez0⟩:∃z,x1.labels[Xu ltS Y7 x1.labels c.name]? =some z∧Y7 z=c.name:=by
  have h:=q1
  rw[X0g X0Y hlr] at h
  exact decide_eq_true_iff.1 h
 have hal:Xu ltS Y7 x1.labels c.name<x1.labels.length:=(List.getElem?_eq_some_iff.1 hz0).1
 rw[q1,hll] at hS
 rw[XbJ X0Y hlr hz0 ez0]
 have hI:=U0 110 122 (U0 1 121 (Xmb (x1.labels.map Xl) (Xu ltS Y7 x1.labels c.name) (fun x hx=>by obtain⟨p,_,rfl⟩:=List.mem_map.1 hx;rfl) (by omega) (by omega)))
 rw[hll] at hI
 have hI:Con Tryz.prog 172 [(121,.row 1 (x1.labels.map Xl))] [.own 121 x1.labels.length,ai (Xu ltS Y7 x1.labels c.name:Nat),ai ((Xu ltS Y7 x1.labels c.name+1:Nat):Int)] [(121,.dead),(122,.row 1 ((x1.labels.map Xl).take (Xu ltS Y7 x1.labels c.name)++(x1.labels.map Xl).drop (Xu ltS Y7 x1.labels c.name+1)))] (.own 122 (x1.labels.length-1)):=hI
 have eI:(x1.labels.map Xl).take (Xu ltS Y7 x1.labels c.name)++(x1.labels.map Xl).drop (Xu ltS Y7 x1.labels c.name+1)=(x1.labels.take (Xu ltS Y7 x1.labels c.name)++x1.labels.drop (Xu ltS Y7 x1.labels c.name+1)).map Xl:=by
  simp[List.map_take,List.map_drop]
 rw[eI] at hI
 have eIl:(x1.labels.take (Xu ltS Y7 x1.labels c.name)++x1.labels.drop (Xu ltS Y7 x1.labels c.name+1)).length=x1.labels.length-1:=by
  rw[List.length_append,List.length_take,List.length_drop];omega
 clear hz0 ez0 q1 eI hlr
 generalize x1.labels.take (Xu ltS Y7 x1.labels c.name)++x1.labels.drop (Xu ltS Y7 x1.labels c.name+1)=ls' at*
 generalize Xu ltS Y7 x1.labels c.name=p at*
 have eR:∀u',((xs.map rXN).map cRN).set i ([.v (.int .i64 x1.id),.v u',.v v])=((xs.set i ((⟨x1.id,ls',x1.props⟩:Nod),u',v)).map rXN).map cRN:=fun u'=>Xco hy0 (y:=((⟨x1.id,ls',x1.props⟩:Nod),u',v))
 have eB:∀u',Y0 (xs.take i)++(u',1,ls'.map Xl)::(v,6,x1.props.map Xh)::Y0 (xs.drop (i+1))=Y0 (xs.set i ((⟨x1.id,ls',x1.props⟩:Nod),u',v)):=fun u'=>Xbs hy0 (y:=((⟨x1.id,ls',x1.props⟩:Nod),u',v))
 have eB0:=X3P hy0
 simp only at eB0
 have eX:∀u',(xs.map (·.1)).set i ⟨x1.id,ls',x1.props⟩=(xs.set i ((⟨x1.id,ls',x1.props⟩:Nod),u',v)).map (·.1):=fun u'=>by rw[List.map_set]
 have hlen2:xs.length=((xs.map rXN).map cRN).length:=by simp
 have hRi:((xs.map rXN).map cRN)[i]? =some [.v (.int .i64 x1.id),.v u,.v v]:=by
  rw[List.getElem?_map,List.getElem?_map,hy0];rfl
 have hz3:=X2t (xs.map rXN)
 simp only[edN,edS,List.length_map]
 clear hg hns hx hx' hx2 hxm hpv q0 hnl
 generalize hR:(xs.map rXN).map cRN=R at*
 have hlm:(x1.labels.map Xl).length=x1.labels.length:=by simp
 generalize hnl:x1.labels.length=nl at*
 obtain⟨op,id,src,dst,name,⟨k0,k1,k2,k3,k4⟩⟩:=c
 simp only at ho
 subst ho
 simp only[Xx,YW,Xv,VY] at*
 refine QIg ?_;refine W2_ ?_
 show AWP Tryz.prog E _ _ _
 refine X25 0 0 3 120 rfl (by omega) rfl rfl hlen2 rfl rfl (fun cp k hc1 hc2 hc3 _=> ?_)
 refine QRg ?_
 rw[hlm]
 have hCl:=X0Z (k:=k) hz3
 have hset:=fun u':Value=>X7I (n:=xs.length) (List.replicate k none) hz3 hRi (o:=1) (d:= .v u') (by simp) hlen2
 simp only[List.set_cons_succ,List.set_cons_zero] at hset
 generalize List.map some R.flatten++List.replicate k none=C at*
 have hj:i*3+1<C.length:=by omega
 have hrd:=X3l (y:= .own 121 nl) hj
 have hwr:=X6r (y:= .own 121 nl) (z:= .own 122 (nl-1)) hj
 have hiz:0+i*3+1=i*3+1:=by omega
 have hrd0:=Eq.trans (congrArg (fun z=>(Y6 C (some (_,.own 121 nl)))[z]?) hiz) hrd
 have hbd:0+i*3+1+1≤C.length:=by omega
 have hRl:R.length=xs.length:=hlen2.symm
 clear hlen2 hnl hll
 have hlm':=hlm.symm
 refine QSg ?_;refine QCa ?_;refine QOg ?_;refine W9_ ?_;refine Z3 (hcon:=hm23) ?_;refine W6_ ?_;refine QNg ?_;refine W2_ ?_;(refine Z2 (op:= .add) (r':= .int .i64 ((p+1:Nat):Int)) (u:= .int .i64 (p:Nat)) (v:= .int .i64 1) ?_ (hr:=by exact UC (by unfold XT;omega)));refine Z3 (hcon:=hI) ?_;refine W2_ ?_;(refine Zi (cs':=C) (ho':=some (i*3+1,.own 122 (nl-1))) ?_ (hcs:= ?hcs55);(case hcs55=>exact(by rw[hiz];exact hwr)));refine W1_ ?_
 show clo _ _ _ _
 refine X8w 120 210 (i*3+1) 122 (Y0 (xs.take i)) ((v,6,x1.props.map Xh)::Y0 (xs.drop (i+1))) (by conv=>lhs;whnf) hj (by conv=>lhs;whnf) (by conv=>lhs;whnf) (by rw[List.length_map,eIl]) (fun u'=> ?_)
 have hcap:cp*3≤(C.set (i*3+1) (some (.v u'))).length:=by rw[List.length_set];omega
 refine X1Z (X5h 0 0 120 110 (R.set i ([.v (.int .i64 x1.id),.v u',.v v])) (by conv=>lhs;whnf) (by conv=>lhs;whnf) rfl (hset u') (by rw[List.length_set];exact hRl) (fun y hy=>by
  rcases List.mem_or_eq_of_mem_set hy with hy|rfl
  ·exact hz3 y hy
  ·rfl) (by omega) hc2 hcap rfl rfl) ?_
 refine X1Z (X32 110 210 (xs.set i ((⟨x1.id,ls',x1.props⟩:Nod),u',v)) (by refine Eq.trans (b:= .row 3 (R.set i ([.v (.int .i64 x1.id),.v u',.v v]))) (by conv=>lhs;whnf) (by rw[eR])) (by refine Eq.trans (b:= .bag (Y0 (xs.take i)++(u',1,ls'.map Xl)::(v,6,x1.props.map Xh)::Y0 (xs.drop (i+1)))) (by conv=>lhs;whnf) (by rw[eB]))) ?_;refine X1Z (X2S 4 211 ys (by conv=>lhs;whnf) (by conv=>lhs;whnf)) ?_
 refine X8u (show Xy _ _ _ _ _ from⟨_,St.le_refl _,trivial,?_⟩)
 rw[eX u',List.length_map,List.length_set]
 exact Xn ⟨rfl,rfl,rfl,rfl,trivial⟩
theorem Xq4 (g:Gra) (c:Chg) (x:Nod) (hg:GV g) (ho:c.op=5) (hx:V8 g.nodes c.id=some x) (q1:(YI x.props c.name c.v).length≤16):
  Con Tryz.prog 121 (edS g) [.ptr 0 0,Xx c] (edN (VC g ⟨x.id,x.labels,YI x.props c.name c.v⟩)) (.tup []):=by
 have hxm:=X3p hx
 rw[X4E hg] at hx
 obtain⟨ns,es,nn,ne⟩:=g
 have hns:=hg.ns
 have hnl:=hg.nl
 have hpv:=(hg.nodes x hxm.1).2.2
 simp only at hx hns hnl
 obtain⟨x',hx',hx2⟩:=Option.bind_eq_some_iff.1 hx
 obtain⟨hk,rfl⟩:x'.id=c.id∧x'=x:=by by_cases e:x'.id=c.id<;>simp[e] at hx2 ⊢;exact hx2
 have q0:XO Nod.id ns c.id=true:=by rw[X0g V4 hns];exact decide_eq_true ⟨x',hx',hk⟩
 rw[XcB hg hx' hk (by exact hk)]
 have hle:Xu ltI Nod.id ns c.id<ns.length:=(List.getElem?_eq_some_iff.1 hx').1
 refine Xg (xs:=[]) Tryz.func121 rfl Tryz.ntmps121 rfl rfl rfl (fun E=> ?_)
 refine X8v ?_
 refine Vu rfl rfl rfl rfl (fun xs ys h1 h2=> ?_)
 subst h1 h2
 have hN:=VR (xs.map rXN) (ys.map rXE) nn ne c.id (by simp at hnl ⊢;omega) ((VP xs).2 hns)
 rw[VO,VN,q0] at hN
 simp only[edL,List.length_map] at hN hnl hle
 generalize Xu ltI Nod.id (xs.map (·.1)) c.id=i at*
 obtain⟨⟨x1,u,v⟩,hy0,rfl⟩:∃y:XN,xs[i]? =some y∧y.1=x':=by
  rw[List.getElem?_map] at hx'
  obtain⟨y,e1,e2⟩:=Option.map_eq_some_iff.1 hx'
  exact⟨y,e1,e2⟩
 simp only at*
 have hm10:=UW 10
 have hS:=U0 110 122 (U0 1 121 (Xhh x1.props c.name c.v hpv.pr hpv.pl q1))
 have hS:Con Tryz.prog 173 [(121,.row 6 (x1.props.map Xh))] [.own 121 x1.props.length,.d (.v (.string (Xb c.name))),Xv c.v] [(121,.dead),(122,.row 6 ((YI x1.props c.name c.v).map Xh))] (.own 122 (YI x1.props c.name c.v).length):=by
  clear q1
  rcases c with ⟨_,_,_,_,_,⟨_,_,_,_,_⟩⟩
  exact hS
 clear q1
 generalize YI x1.props c.name c.v=ps' at*
 have eR:∀u',((xs.map rXN).map cRN).set i ([.v (.int .i64 x1.id),.v u,.v u'])=((xs.set i ((⟨x1.id,x1.labels,ps'⟩:Nod),u,u')).map rXN).map cRN:=fun u'=>Xco hy0 (y:=((⟨x1.id,x1.labels,ps'⟩:Nod),u,u'))
 have eB:∀u',(Y0 (xs.take i)++[(u,1,x1.labels.map Xl)])++(u',6,ps'.map Xh)::Y0 (xs.drop (i+1))=Y0 (xs.set i ((⟨x1.id,x1.labels,ps'⟩:Nod),u,u')):=fun u'=>Eq.trans (by rw[List.append_assoc];rfl)<|Xbs hy0 (y:=((⟨x1.id,x1.labels,ps'⟩:Nod),u,u'))
 have eB0:=X3P hy0
 simp only at eB0
 have eX:∀u',(xs.map (·.1)).set i ⟨x1.id,x1.labels,ps'⟩=(xs.set i ((⟨x1.id,x1.labels,ps'⟩:Nod),u,u')).map (·.1):=fun u'=>by rw[List.map_set]
 have hlen2:xs.length=((xs.map rXN).map cRN).length:=by simp
 have hRi:((xs.map rXN).map cRN)[i]? =some [.v (.int .i64 x1.id),.v u,.v v]:=by
  rw[List.getElem?_map,List.getElem?_map,hy0];rfl
 have hz3:=X2t (xs.map rXN)
 simp only[edN,edS,List.length_map]
 clear hg hns hx hx' hx2 hxm hpv q0 hnl
 generalize hR:(xs.map rXN).map cRN=R at*
 have hlm:(x1.props.map Xh).length=x1.props.length:=by simp
 generalize hnl:x1.props.length=nl at*
 obtain⟨op,id,src,dst,name,⟨k0,k1,k2,k3,k4⟩⟩:=c
 simp only at ho
 subst ho
 simp only[Xx,YW,Xv,VY] at*
 refine QIg ?_;refine W2_ ?_
 show AWP Tryz.prog E _ _ _
 refine X25 0 0 3 120 rfl (by omega) rfl rfl hlen2 rfl rfl (fun cp k hc1 hc2 hc3 _=> ?_)
 refine QTg ?_
 rw[hlm]
 have hCl:=X0Z (k:=k) hz3
 have hset:=fun u':Value=>X7I (n:=xs.length) (List.replicate k none) hz3 hRi (o:=2) (d:= .v u') (by simp) hlen2
 simp only[List.set_cons_succ,List.set_cons_zero] at hset
 generalize List.map some R.flatten++List.replicate k none=C at*
 have hj:i*3+2<C.length:=by omega
 have hrd:=X3l (y:= .own 121 nl) hj
 have hwr:=X6r (y:= .own 121 nl) (z:= .own 122 (ps'.length)) hj
 have hiz:0+i*3+2=i*3+2:=by omega
 have hrd0:=Eq.trans (congrArg (fun z=>(Y6 C (some (_,.own 121 nl)))[z]?) hiz) hrd
 have hbd:0+i*3+2+1≤C.length:=by omega
 have hRl:R.length=xs.length:=hlen2.symm
 clear hlen2 hnl
 have hlm':=hlm.symm
 refine QSg ?_;refine Qc ?_;refine QQg ?_;refine Z3 (hcon:=hS) ?_;refine W2_ ?_;(refine Zi (cs':=C) (ho':=some (i*3+2,.own 122 (ps'.length))) ?_ (hcs:= ?hcs56);(case hcs56=>exact(by rw[hiz];exact hwr)));refine W1_ ?_
 show clo _ _ _ _
 refine X8w 120 210 (i*3+2) 122 (Y0 (xs.take i)++[(u,1,x1.labels.map Xl)]) (Y0 (xs.drop (i+1))) (by conv=>lhs;whnf) hj (by conv=>lhs;whnf) (by conv=>lhs;whnf) (by rw[List.length_map]) (fun u'=> ?_)
 have hcap:cp*3≤(C.set (i*3+2) (some (.v u'))).length:=by rw[List.length_set];omega
 refine X1Z (X5h 0 0 120 110 (R.set i ([.v (.int .i64 x1.id),.v u,.v u'])) (by conv=>lhs;whnf) (by conv=>lhs;whnf) rfl (hset u') (by rw[List.length_set];exact hRl) (fun y hy=>by
  rcases List.mem_or_eq_of_mem_set hy with hy|rfl
  ·exact hz3 y hy
  ·rfl) (by omega) hc2 hcap rfl rfl) ?_
 refine X1Z (X32 110 210 (xs.set i ((⟨x1.id,x1.labels,ps'⟩:Nod),u,u')) (by refine Eq.trans (b:= .row 3 (R.set i ([.v (.int .i64 x1.id),.v u,.v u']))) (by conv=>lhs;whnf) (by rw[eR])) (by refine Eq.trans (b:= .bag ((Y0 (xs.take i)++[(u,1,x1.labels.map Xl)])++(u',6,ps'.map Xh)::Y0 (xs.drop (i+1)))) (by conv=>lhs;whnf) (by rw[eB]))) ?_;refine X1Z (X2S 4 211 ys (by conv=>lhs;whnf) (by conv=>lhs;whnf)) ?_
 refine X8u (show Xy _ _ _ _ _ from⟨_,St.le_refl _,trivial,?_⟩)
 rw[eX u',List.length_map,List.length_set]
 exact Xn ⟨rfl,rfl,rfl,rfl,trivial⟩
theorem Xlq (g:Gra) (c:Chg) (hg:GV g) (hc:1≤c.id∧c.id≤1000000) (ho:c.op=6) (q1:XO Edg.id g.edges c.id=false) (qs:XO Nod.id g.nodes c.src=true) (qd:XO Nod.id g.nodes c.dst=true) (q2:g.edges.length<4000):
  Con Tryz.prog 122 (edS g) [.ptr 0 0,Xx c] (edE (X0T g ⟨c.id,c.src,c.dst,c.name,[]⟩)) (.tup []):=by
 obtain⟨ns,es,nn,ne⟩:=g
 have hns:=hg.ns
 have hnl:=hg.nl
 have hes:=hg.es
 have hne:=hg.ne
 simp only at q1 qs qd q2 hns hes hnl hne
 have e0:X0T ⟨ns,es,nn,ne⟩ ⟨c.id,c.src,c.dst,c.name,[]⟩=⟨ns,es.take (Xu ltI Edg.id es c.id)++[⟨c.id,c.src,c.dst,c.name,[]⟩]++es.drop (Xu ltI Edg.id es c.id),nn,max ne (c.id+1)⟩:=by
  unfold X0T
  simp only
  rw[X55 q1]
 rw[e0]
 have hle:=X6X (lt:=ltI) (key:=Edg.id) es c.id
 refine Xg (xs:=[]) Tryz.func122 rfl Tryz.ntmps122 rfl rfl rfl (fun E=> ?_)
 refine Vu rfl rfl rfl rfl (fun xs ys h1 h2=> ?_)
 subst h1 h2
 have hE:=X2Q (xs.map rXN) (ys.map rXE) nn ne c.id (by simp at q2 ⊢;omega) ((X2L ys).2 hes)
 have hNs:=VR (xs.map rXN) (ys.map rXE) nn ne c.src (by simp at hnl ⊢;omega) ((VP xs).2 hns)
 have hNd:=VR (xs.map rXN) (ys.map rXE) nn ne c.dst (by simp at hnl ⊢;omega) ((VP xs).2 hns)
 rw[X2G,X2J,q1] at hE
 rw[VO,VN,qs] at hNs
 rw[VO,VN,qd] at hNd
 simp only[edL,List.length_map] at hE hNs hNd q2 hle
 generalize Xu ltI Edg.id (ys.map (·.1)) c.id=i at*
 have hI:Con Tryz.prog 175 [(4,.row 5 ((ys.map rXE).map cRE))] [.own 4 ((ys.map rXE).map cRE).length,ai (i:Nat),.d (.sl 5 [[.v (.int .i64 c.id),.v (.int .i64 c.src),.v (.int .i64 c.dst),.v (.string (Xb c.name)),.v (.slice none 0 0)]])] [(4,.dead),(110,.row 5 (((ys.map rXE).map cRE).take i++[.v (.int .i64 c.id),.v (.int .i64 c.src),.v (.int .i64 c.dst),.v (.string (Xb c.name)),.v (.slice none 0 0)]::((ys.map rXE).map cRE).drop i))] (.own 110 (((ys.map rXE).map cRE).length+1)):=
  U0 1 4 (XpW ((ys.map rXE).map cRE) i [.v (.int .i64 c.id),.v (.int .i64 c.src),.v (.int .i64 c.dst),.v (.string (Xb c.name)),.v (.slice none 0 0)] (X4d _) rfl (by simp;omega) (by simp;omega))
 have hm7:=UW 7
 have hm10:=UW 10
 have hm20:=UW 20
 have eX:(ys.map (·.1)).take i++[⟨c.id,c.src,c.dst,c.name,[]⟩]++(ys.map (·.1)).drop i=(ys.take i++((⟨c.id,c.src,c.dst,c.name,[]⟩:Edg),VH)::ys.drop i).map (·.1):=by
  simp[List.map_take,List.map_drop]
 have eL:(ys.take i++((⟨c.id,c.src,c.dst,c.name,[]⟩:Edg),VH)::ys.drop i).length=ys.length+1:=XbQ hle
 have eR:((ys.map rXE).map cRE).take i++[.v (.int .i64 c.id),.v (.int .i64 c.src),.v (.int .i64 c.dst),.v (.string (Xb c.name)),.v (.slice none 0 0)]::((ys.map rXE).map cRE).drop i=((ys.take i++((⟨c.id,c.src,c.dst,c.name,[]⟩:Edg),VH)::ys.drop i).map rXE).map cRE:=by
  simp[List.map_take,List.map_drop,rXE,cRE]
 have eB:YC (ys.take i)++(VH,6,[])::YC (ys.drop i)=YC (ys.take i++((⟨c.id,c.src,c.dst,c.name,[]⟩:Edg),VH)::ys.drop i):=by rw[X6u,Xgn];rfl
 have eB0:YC ys=YC (ys.take i)++YC (ys.drop i):=by rw[←X6u,List.take_append_drop]
 rw[eX]
 have hlen2:((ys.map rXE).map cRE).length=ys.length:=by simp
 rw[hlen2] at hI
 simp only[edE,edS,List.length_map,eL]
 have q2':(((ys.map rXE).map cRE).length:Int)<4000:=by rw[hlen2];omega
 have hlen2':ys.length=((ys.map rXE).map cRE).length:=hlen2.symm
 clear hg hns hes e0 eX eL hnl
 generalize hR:(ys.map rXE).map cRE=R at*
 generalize hX:ys.take i++((⟨c.id,c.src,c.dst,c.name,[]⟩:Edg),VH)::ys.drop i=X at*
 obtain⟨op,id,src,dst,name,⟨k0,k1,k2,k3,k4⟩⟩:=c
 try simp only at*
 subst ho
 simp only[Xx,YW] at*
 refine QUg ?_;refine QC ?_;refine Z3 (hcon:=hm10) ?_;refine W9_ ?_;refine Zj (op:= .lss) (r':= .bool true) (u:= .int .i64 (R.length:Nat)) (v:= .int .i64 4000) ?_ (hr':=by exact congrArg Value.bool (decide_eq_true q2'));refine Z3 (hcon:=hm20) ?_;refine X5m ?_;refine Z3 (hcon:=hI) ?_;refine UY ?_
 show Xy _ _ _ _ _
 refine X2O (X9n 211 6 (YC (ys.take i)) (YC (ys.drop i)) (by refine Eq.trans (b:= .bag (YC ys)) (by conv=>lhs;whnf) (by rw[eB0]))) ?_;refine X2O (X2S 110 211 X (by refine Eq.trans (b:= .row 5 (R.take i++[.v (.int .i64 id),.v (.int .i64 src),.v (.int .i64 dst),.v (.string (Xb name)),.v (.slice none 0 0)]::R.drop i)) (by conv=>lhs;whnf) (by rw[eR])) (by refine Eq.trans (b:= .bag (YC (ys.take i)++(VH,6,[])::YC (ys.drop i))) (by conv=>lhs;whnf) (by rw[eB]))) ?_;refine X2O (X32 3 210 xs (by conv=>lhs;whnf) (by conv=>lhs;whnf)) ?_;exact QMg
theorem X8J {xs:List XE}{i:Nat}{y:XE} (h:xs[i]? =some y):YC xs=YC (xs.take i)++(y.2,6,y.1.props.map Xh)::YC (xs.drop (i+1)):=by
 conv=>lhs;rw[X77 h,X6u,Xgn]
theorem XlN {xs:List XE}{i:Nat}{y x:XE} (h:xs[i]? =some x):YC (xs.take i)++(y.2,6,y.1.props.map Xh)::YC (xs.drop (i+1))=YC (xs.set i y):=by
 have hi:=(List.getElem?_eq_some_iff.1 h).1
 have h2:(xs.set i y)[i]? =some y:=List.getElem?_set_self hi
 rw[X8J h2,List.take_set_of_le (Nat.le_refl i),List.drop_set_of_lt (by omega)]
theorem XkB {xs:List XE}{i:Nat}{x y:XE} (h:xs[i]? =some x):((xs.map rXE).map cRE).set i (cRE (rXE y))=((xs.set i y).map rXE).map cRE:=by
 rw[List.map_set,List.map_set]
theorem Xm4 {ns:List Nod}{es:List Edg}{nn ne:Int}{x n:Edg}{k:Int} (hg:GV ⟨ns,es,nn,ne⟩) (hx:es[Xu ltI Edg.id es k]? =some x) (hk:x.id=k) (hn:n.id=k):
  X0T ⟨ns,es,nn,ne⟩ n=⟨ns,es.set (Xu ltI Edg.id es k) n,nn,ne⟩:=by
 have h1:=(hg.edges x (List.mem_of_getElem? hx)).2.1
 simp only at h1
 have hlt:=(List.getElem?_eq_some_iff.1 hx).1
 unfold X0T
 simp only
 have hmax:max ne (n.id+1)=ne:=by omega
 subst hn
 rw[X67 V4 hg.es hx hk,hmax]
 simp only
 rw[X7d hlt]
theorem XlS (g:Gra) (c:Chg) (hg:GV g) (ho:c.op=7) (q1:XO Edg.id g.edges c.id=true):
  Con Tryz.prog 122 (edS g) [.ptr 0 0,Xx c] (edE {g with edges:=UT Edg.id g.edges c.id}) (.tup []):=by
 obtain⟨ns,es,nn,ne⟩:=g
 have hes:=hg.es
 have hel:=hg.el
 simp only at q1 hes hel
 obtain⟨x0,hx0,hk0⟩:=Xad hes q1
 have e0:UT Edg.id es c.id=es.take (Xu ltI Edg.id es c.id)++es.drop (Xu ltI Edg.id es c.id+1):=XbJ V4 hes hx0 hk0
 simp only
 rw[e0]
 have hle:Xu ltI Edg.id es c.id<es.length:=(List.getElem?_eq_some_iff.1 hx0).1
 refine Xg (xs:=[]) Tryz.func122 rfl Tryz.ntmps122 rfl rfl rfl (fun E=> ?_)
 refine Vu rfl rfl rfl rfl (fun xs ys h1 h2=> ?_)
 subst h1 h2
 have hE:=X2Q (xs.map rXN) (ys.map rXE) nn ne c.id (by simp at hel ⊢;omega) ((X2L ys).2 hes)
 rw[X2G,X2J,q1] at hE
 simp only[edL,List.length_map] at hE hel hle
 generalize Xu ltI Edg.id (ys.map (·.1)) c.id=i at*
 have hD:Con Tryz.prog 176 [(4,.row 5 ((ys.map rXE).map cRE))] [.own 4 ((ys.map rXE).map cRE).length,ai (i:Nat),ai ((i+1:Nat):Int)] [(4,.dead),(110,.row 5 (((ys.map rXE).map cRE).take i++((ys.map rXE).map cRE).drop (i+1)))] (.own 110 (((ys.map rXE).map cRE).length-1)):=
  U0 1 4 (Xpn ((ys.map rXE).map cRE) i (X4d _) (by simp;omega) (by simp;omega))
 have hm11:=UW 11
 have eX:(ys.map (·.1)).take i++(ys.map (·.1)).drop (i+1)=(ys.take i++ys.drop (i+1)).map (·.1):=by simp[List.map_take,List.map_drop]
 have eL:(ys.take i++ys.drop (i+1)).length=ys.length-1:=by rw[List.length_append,List.length_take,List.length_drop];omega
 have eR:((ys.map rXE).map cRE).take i++((ys.map rXE).map cRE).drop (i+1)=((ys.take i++ys.drop (i+1)).map rXE).map cRE:=by simp[List.map_take,List.map_drop]
 obtain⟨y0,hy0⟩:∃y,ys[i]? =some y:=⟨_,List.getElem?_eq_getElem hle⟩
 have eB0:=X8J hy0
 have eB:YC (ys.take i)++YC (ys.drop (i+1))=YC (ys.take i++ys.drop (i+1)):=(X6u _ _).symm
 rw[eX]
 have hlen2:((ys.map rXE).map cRE).length=ys.length:=by simp
 rw[hlen2] at hD
 simp only[edE,edS,List.length_map,eL]
 have hlen2':ys.length=((ys.map rXE).map cRE).length:=hlen2.symm
 clear hg hes e0 eX eL hx0 hk0 q1 hy0 hlen2
 generalize hR:(ys.map rXE).map cRE=R at*
 generalize hX:ys.take i++ys.drop (i+1)=X at*
 obtain⟨op,id,src,dst,name,⟨k0,k1,k2,k3,k4⟩⟩:=c
 simp only at ho
 subst ho
 simp only[Xx,YW] at*
 refine QVg ?_;refine Qqc ?_;refine Z3 (hcon:=hm11) ?_;refine Xj ?_;(refine Z2 (op:= .add) (r':= .int .i64 ((i+1:Nat):Int)) (u:= .int .i64 (i:Nat)) (v:= .int .i64 1) ?_ (hr:=by exact UC (by unfold XT;omega)));refine Z3 (hcon:=hD) ?_;refine W5_ ?_
 show Xy _ _ _ _ _
 refine X2O (XaD 211 (YC (ys.take i)) (YC (ys.drop (i+1))) (y0.2,6,y0.1.props.map Xh) (by refine Eq.trans (b:= .bag (YC ys)) (by conv=>lhs;whnf) (by rw[eB0]))) ?_;refine X2O (X2S 110 211 X (by refine Eq.trans (b:= .row 5 (R.take i++R.drop (i+1))) (by conv=>lhs;whnf) (by rw[eR])) (by refine Eq.trans (b:= .bag (YC (ys.take i)++YC (ys.drop (i+1)))) (by conv=>lhs;whnf) (by rw[eB]))) ?_;refine X2O (X32 3 210 xs (by conv=>lhs;whnf) (by conv=>lhs;whnf)) ?_;exact QMg
theorem XlY (g:Gra) (c:Chg) (x:Edg) (hg:GV g) (ho:c.op=8) (hx:VJ g.edges c.id=some x) (q1:(YI x.props c.name c.v).length≤16):
  Con Tryz.prog 122 (edS g) [.ptr 0 0,Xx c] (edE (X0T g ⟨x.id,x.src,x.dst,x.typ,YI x.props c.name c.v⟩)) (.tup []):=by
 have hxm:=X7U hx
 rw[Xgk hg] at hx
 obtain⟨ns,es,nn,ne⟩:=g
 have hes:=hg.es
 have hel:=hg.el
 have hpv:=(hg.edges x hxm.1).2.2.2.2.2
 simp only at hx hes hel
 obtain⟨x',hx',hx2⟩:=Option.bind_eq_some_iff.1 hx
 obtain⟨hk,rfl⟩:x'.id=c.id∧x'=x:=by by_cases e:x'.id=c.id<;>simp[e] at hx2 ⊢;exact hx2
 have q0:XO Edg.id es c.id=true:=by rw[X0g V4 hes];exact decide_eq_true ⟨x',hx',hk⟩
 rw[Xm4 hg hx' hk (by exact hk)]
 have hle:Xu ltI Edg.id es c.id<es.length:=(List.getElem?_eq_some_iff.1 hx').1
 refine Xg (xs:=[]) Tryz.func122 rfl Tryz.ntmps122 rfl rfl rfl (fun E=> ?_)
 refine X8v ?_
 refine Vu rfl rfl rfl rfl (fun xs ys h1 h2=> ?_)
 subst h1 h2
 have hE:=X2Q (xs.map rXN) (ys.map rXE) nn ne c.id (by simp at hel ⊢;omega) ((X2L ys).2 hes)
 rw[X2G,X2J,q0] at hE
 simp only[edL,List.length_map] at hE hel hle
 generalize Xu ltI Edg.id (ys.map (·.1)) c.id=i at*
 obtain⟨⟨x1,u⟩,hy0,rfl⟩:∃y:XE,ys[i]? =some y∧y.1=x':=by
  rw[List.getElem?_map] at hx'
  obtain⟨y,e1,e2⟩:=Option.map_eq_some_iff.1 hx'
  exact⟨y,e1,e2⟩
 simp only at*
 have hm11:=UW 11
 have hS:=U0 110 122 (U0 1 121 (Xhh x1.props c.name c.v hpv.pr hpv.pl q1))
 have hS:Con Tryz.prog 173 [(121,.row 6 (x1.props.map Xh))] [.own 121 x1.props.length,.d (.v (.string (Xb c.name))),Xv c.v] [(121,.dead),(122,.row 6 ((YI x1.props c.name c.v).map Xh))] (.own 122 (YI x1.props c.name c.v).length):=by
  clear q1
  rcases c with ⟨_,_,_,_,_,⟨_,_,_,_,_⟩⟩
  exact hS
 clear q1
 generalize YI x1.props c.name c.v=ps' at*
 have eR:∀u',((ys.map rXE).map cRE).set i ([.v (.int .i64 x1.id),.v (.int .i64 x1.src),.v (.int .i64 x1.dst),.v (.string (Xb x1.typ)),.v u'])=((ys.set i ((⟨x1.id,x1.src,x1.dst,x1.typ,ps'⟩:Edg),u')).map rXE).map cRE:=fun u'=>XkB hy0 (y:=((⟨x1.id,x1.src,x1.dst,x1.typ,ps'⟩:Edg),u'))
 have eB:∀u',(YC (ys.take i))++(u',6,ps'.map Xh)::YC (ys.drop (i+1))=YC (ys.set i ((⟨x1.id,x1.src,x1.dst,x1.typ,ps'⟩:Edg),u')):=fun u'=>XlN hy0 (y:=((⟨x1.id,x1.src,x1.dst,x1.typ,ps'⟩:Edg),u'))
 have eB0:=X8J hy0
 simp only at eB0
 have eX:∀u',(ys.map (·.1)).set i ⟨x1.id,x1.src,x1.dst,x1.typ,ps'⟩=(ys.set i ((⟨x1.id,x1.src,x1.dst,x1.typ,ps'⟩:Edg),u')).map (·.1):=fun u'=>by rw[List.map_set]
 have hlen2:ys.length=((ys.map rXE).map cRE).length:=by simp
 have hRi:((ys.map rXE).map cRE)[i]? =some [.v (.int .i64 x1.id),.v (.int .i64 x1.src),.v (.int .i64 x1.dst),.v (.string (Xb x1.typ)),.v u]:=by
  rw[List.getElem?_map,List.getElem?_map,hy0];rfl
 have hz5:=X4d (ys.map rXE)
 simp only[edE,edS,List.length_map]
 clear hg hes hx hx' hx2 hxm hpv q0 hel
 generalize hR:(ys.map rXE).map cRE=R at*
 have hlm:(x1.props.map Xh).length=x1.props.length:=by simp
 generalize hnl:x1.props.length=nl at*
 obtain⟨op,id,src,dst,name,⟨k0,k1,k2,k3,k4⟩⟩:=c
 simp only at ho
 subst ho
 simp only[Xx,YW,Xv,VY] at*
 refine QVg ?_;refine JF ?_;refine W3_ ?_;refine Z3 (hcon:=hm11) ?_;refine W1_ ?_
 show AWP Tryz.prog E _ _ _
 refine X25 0 1 4 120 rfl (by omega) rfl rfl hlen2 rfl rfl (fun cp k hc1 hc2 hc3 _=> ?_)
 refine QWg ?_
 rw[hlm]
 have hCl:=X0Z (k:=k) hz5
 have hset:=fun u':Value=>X7I (n:=ys.length) (List.replicate k none) hz5 hRi (o:=4) (d:= .v u') (by simp) hlen2
 simp only[List.set_cons_succ,List.set_cons_zero] at hset
 generalize List.map some R.flatten++List.replicate k none=C at*
 have hj:i*5+4<C.length:=by omega
 have hrd:=X3l (y:= .own 121 nl) hj
 have hwr:=X6r (y:= .own 121 nl) (z:= .own 122 (ps'.length)) hj
 have hiz:0+i*5+4=i*5+4:=by omega
 have hrd0:=Eq.trans (congrArg (fun z=>(Y6 C (some (_,.own 121 nl)))[z]?) hiz) hrd
 have hbd:0+i*5+4+1≤C.length:=by omega
 have hRl:R.length=ys.length:=hlen2.symm
 clear hlen2 hnl
 have hlm':=hlm.symm
 refine Xr ?_;refine Zh (sz:=5) ?_;refine W1_ ?_;refine QQg ?_;refine Z3 (hcon:=hS) ?_;refine Zh (sz:=5) ?_;refine W1_ ?_;(refine Zi (cs':=C) (ho':=some (i*5+4,.own 122 (ps'.length))) ?_ (hcs:= ?hcs57);(case hcs57=>exact(by rw[hiz];exact hwr)));refine W1_ ?_
 show clo _ _ _ _
 refine X8w 120 211 (i*5+4) 122 (YC (ys.take i)) (YC (ys.drop (i+1))) (by conv=>lhs;whnf) hj (by conv=>lhs;whnf) (by conv=>lhs;whnf) (by rw[List.length_map]) (fun u'=> ?_)
 have hcap:cp*5≤(C.set (i*5+4) (some (.v u'))).length:=by rw[List.length_set];omega
 refine X1Z (X5h 0 1 120 110 (R.set i ([.v (.int .i64 x1.id),.v (.int .i64 x1.src),.v (.int .i64 x1.dst),.v (.string (Xb x1.typ)),.v u'])) (by conv=>lhs;whnf) (by conv=>lhs;whnf) rfl (hset u') (by rw[List.length_set];exact hRl) (fun y hy=>by
  rcases List.mem_or_eq_of_mem_set hy with hy|rfl
  ·exact hz5 y hy
  ·rfl) (by omega) hc2 hcap rfl rfl) ?_
 refine X1Z (X2S 110 211 (ys.set i ((⟨x1.id,x1.src,x1.dst,x1.typ,ps'⟩:Edg),u')) (by refine Eq.trans (b:= .row 5 (R.set i ([.v (.int .i64 x1.id),.v (.int .i64 x1.src),.v (.int .i64 x1.dst),.v (.string (Xb x1.typ)),.v u']))) (by conv=>lhs;whnf) (by rw[eR])) (by refine Eq.trans (b:= .bag (YC (ys.take i)++(u',6,ps'.map Xh)::YC (ys.drop (i+1)))) (by conv=>lhs;whnf) (by rw[eB]))) ?_;refine X1Z (X32 3 210 xs (by conv=>lhs;whnf) (by conv=>lhs;whnf)) ?_
 refine X8u (show Xy _ _ _ _ _ from⟨_,St.le_refl _,trivial,?_⟩)
 rw[eX u',List.length_map,List.length_set]
 exact Xn ⟨rfl,rfl,rfl,rfl,trivial⟩
end Go.Fw

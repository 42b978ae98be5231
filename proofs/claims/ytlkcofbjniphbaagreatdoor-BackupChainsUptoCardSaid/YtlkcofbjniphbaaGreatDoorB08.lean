/- A row aZ a block of cells, with the room behind it; a row inside another one taken out, and put back. -/
import Derived.Test.YtlkcofbjniphbaaGreatDoorB07
namespace Go.Fw
open Go
set_option linter.unusedVariables false
set_option linter.unusedSimpArgs false
theorem X8B {g:Gh}{cs:List AVal}{us:List Value} (h:XB g cs us) {j:Nat}{x:AVal} (hx:∀u,us[j]? =some u→x.sat g u):XB g (cs.set j x) us:=by
 have hl:=Ue h
 refine X24 (by rw[List.length_set];exact hl) fun i y u hy hu=> ?_
 rw[List.getElem?_set] at hy
 by_cases hij:j=i
 ·subst hij
  rw[if_pos rfl] at hy
  split at hy
  ·cases hy;exact hx u hu
  ·cases hy
 ·rw[if_neg hij] at hy
  obtain⟨u',h1,h2⟩:=UX h i y hy
  rw[h1] at hu;cases hu;exact h2
theorem Xb2 {g:Gh}:∀(us:List Value),XB g (List.replicate us.length .any) us
 |[]=>by simp only[List.length_nil,List.replicate_zero,XB]
 |u::us=>by simp only[List.length_cons,List.replicate_succ,XB,AVal.sat,true_and];exact Xb2 us
theorem UE {g:Gh}{γ b:Nat}{h:Value}{k:Nat} (hk:k≠γ):(g.put γ b h).blk k=g.blk k∧(g.put γ b h).hd k=g.hd k∧(g.put γ b h).ihd k=g.ihd k:=⟨by simp[Gh.put,hk],by simp[Gh.put,hk],rfl⟩
theorem Xg3 {E:Env}{S:St}{g:Gh}{a:Act}{w:World} (hs:Vl E S g a w) {γ β sz:Nat}{xs:List (List D)} (hL:S.obj γ= .row sz xs) (hne:0<xs.length) (hdead:S.obj β= .dead) (hf:S.free β=true):
  ∃c k b,xs.length≤c∧c≤maxLen∧c*sz≤xs.length*sz+k∧(∀x∈xs,x.length=sz)∧g.hd γ= .slice (some ⟨b,0,none⟩) xs.length c∧
   Vl E ⟨S.n,S.τ,(γ,.dead)::(β,.raw (xs.flatten.map some++List.replicate k none) none)::S.L⟩ (g.put β b undef) a w:=by
 have hγβ:γ≠β:=by rintro rfl;rw[hL] at hdead;cases hdead
 have ho:=hs.1.obj γ
 rw[hL] at ho
 have ho:UU g w (g.hd γ) sz xs:=ho
 rcases ho.2 with ⟨_,rfl⟩|⟨b,c,vs,e,fr,h1,h2,h3,h4,h5,h6,h7⟩
 ·simp at hne
 have hfx:=X0A xs ho.1
 have hle:xs.length*sz≤vs.size:=Nat.le_trans (Nat.mul_le_mul_right _ h2) h6
 refine⟨c,vs.size-xs.length*sz,b,h2,h3,by omega,ho.1,h1,?_⟩
 generalize hcs:xs.flatten.map some++List.replicate (vs.size-xs.length*sz) none=cs
 have hsat:XB g (Y6 cs none) vs.toList:=by
  rw[←hcs,←List.take_append_drop (xs.length*sz) vs.toList]
  have e1:Y6 (xs.flatten.map some++List.replicate (vs.size-xs.length*sz) none) none=xs.flatten.map AVal.d++List.replicate (vs.size-xs.length*sz) .any:=by
   simp only[Y6,List.map_append,List.map_map,List.map_replicate]
   rfl
  rw[e1]
  refine X1O h7 ?_
  have:=Xb2 (g:=g) (vs.toList.drop (xs.length*sz))
  rw[List.length_drop,Array.length_toList] at this
  exact this
 have eγ:Xo .dead ((γ,AObj.dead)::(β,.raw cs none)::S.L) γ= .dead:=Yq _ _ _ _
 have eβ:Xo .dead ((γ,AObj.dead)::(β,.raw cs none)::S.L) β= .raw cs none:=by rw[Y9 _ _ _ hγβ,Yq]
 have hblk:(g.put β b undef).blk β=b:=by simp[Gh.put]
 refine⟨Inv.part hs.1 (fun k=>k=γ∨k=β) rfl (fun k hk=> ?_) (fun k cs us _ e h=>X6Q (S:=S) (g:=g) (g':=g.put β b undef) rfl (fun k=>k=β) (fun k e=> .inl (e ▸ hf)) (fun k hk=>UE hk) e h) (fun k hk=> ?_) (fun k b' hk hb=> ?_) (fun k k' b' hk hk' hb hb'=> ?_) (fun k hk h100=> ?_),hs.2.1,hs.2.2.1,X5Y (S:=S) (g:=g) (g':=g.put β b undef) rfl (fun k=>k=β) (fun k e=> .inl (e ▸ hf)) (fun k hk=>UE hk) hs.2.2.2⟩
 ·obtain⟨k1,k2⟩:=not_or.1 hk
  exact⟨by show Xo _ _ _=_;rw[Y9 _ _ _ (Ne.symm k1),Y9 _ _ _ (Ne.symm k2)];rfl,UE k2⟩
 ·show Ua _ _ _ (Xo _ _ _)
  rcases hk with rfl|rfl
  ·rw[eγ];trivial
  ·rw[eβ]
   exact⟨vs,e,fr,by rw[hblk];exact h4,h5,Xak (g:=g) (g':=g.put k b undef) (Yj.refl _) (fun vs h=>by cases vs<;>exact h) hsat⟩
 ·replace hb:XM _ (Xo _ _ _) k b':=hb
  rcases hk with rfl|rfl
  ·rw[eγ] at hb;exact hb.elim
  ·rw[eβ] at hb
   refine⟨γ,.inl rfl,?_⟩
   rw[hL]
   replace hb:(g.put k b undef).blk k=b':=hb
   rw[hblk] at hb;subst hb
   exact⟨_,_,_,h1,rfl⟩
 ·replace hb:XM _ (Xo _ _ _) k b':=hb
  replace hb':XM _ (Xo _ _ _) k' b':=hb'
  rcases hk with rfl|rfl
  ·rw[eγ] at hb;exact hb.elim
  ·rcases hk' with rfl|rfl
   ·rw[eγ] at hb';exact hb'.elim
   ·rfl
 ·rcases hk with rfl|rfl
  ·exact Gh.keeps_of (UE hγβ).1 (UE hγβ).2.1 (UE hγβ).2.2
  ·have:=X94 hf;omega
theorem X2z {P:Program}{E:Env}{cd:Code}{S:St}{Q:Exit→St→Prop} (t γ β:Nat) {sz n:Nat}{xs:List (List D)} (hL:S.obj γ= .row sz xs) (hne:0<xs.length) (ht:S.get t= .own γ n) (hn:n=xs.length) (hdead:S.obj β= .dead) (hf:S.free β=true)
  (h:∀c k:Nat,xs.length≤c→c≤maxLen→c*sz≤xs.length*sz+k→(∀x∈xs,x.length=sz)→AWP P E cd ⟨S.n,(t,.rs β 0 n c)::S.τ,(γ,.dead)::(β,.raw (xs.flatten.map some++List.replicate k none) none)::S.L⟩ Q):AWP P E cd S Q:=by
 refine X7y (ι:=Nat×Nat) (fun i=>⟨S.n,(t,.rs β 0 n i.1)::S.τ,(γ,.dead)::(β,.raw (xs.flatten.map some++List.replicate i.2 none) none)::S.L⟩) (fun i=>xs.length≤i.1∧i.1≤maxLen∧i.1*sz≤xs.length*sz+i.2∧∀x∈xs,x.length=sz) ?_ (fun i hi=>h i.1 i.2 hi.1 hi.2.1 hi.2.2.1 hi.2.2.2)
 rintro E a w ⟨g,hs⟩
 obtain⟨c,k,b,h1,h2,h3,h4,h5,h6⟩:=Xg3 hs hL hne hdead hf
 refine⟨(c,k),⟨h1,h2,h3,h4⟩,_,h6.1,h6.2.1,h6.2.2.1,fun t'=> ?_⟩
 by_cases htt:t'=t
 ·subst htt
  show AVal.sat _ (Xo .any ((t',_)::S.τ) t') _
  rw[Yq]
  have hv:=hs.2.2.2 t'
  rw[ht] at hv
  simp only[AVal.sat] at hv ⊢
  obtain⟨_,a',m,c',q1,q2,q3⟩:=hv
  rw[h5] at q1;cases q1
  rw[q3 hn];simp[Gh.put,hn]
 ·show AVal.sat _ (Xo .any ((t,_)::S.τ) t') _
  rw[Y9 _ _ _ (Ne.symm htt)]
  exact h6.2.2.2 t'
theorem XfL {E:Env}{S:St}{g:Gh}{a:Act}{w:World} (hs:Vl E S g a w) {κ i:Nat}{bs:List AVal}{y:AVal} (hK:S.obj κ= .box bs) {x:AVal} (hi:bs[i]? =some x) (hx:∀u,x.sat g u→y.sat g u) (hy:y.cellish=true):
  Vl E ⟨S.n,S.τ,(κ,.box (bs.set i y))::S.L⟩ g a w:=by
 have ho:=hs.1.obj κ
 rw[hK] at ho
 obtain⟨vs,e,fr,h1,h2,h3,h4⟩:=ho
 refine⟨Inv.upd hs.1 κ _ (Yq _ _ _ _) (fun k hk=>Y9 _ _ _ (Ne.symm hk)) (fun _ _ _=>rfl) (Nat.le_refl _) rfl rfl rfl (fun _ _=>⟨rfl,rfl,rfl⟩) (fun _ _ _ _ _ h=>h) ?_ (fun b hb'=> .inl (by rw[hK];exact hb')) (fun _=>Gh.keeps_refl _ _),hs.2.1,hs.2.2.1,hs.2.2.2⟩
 refine⟨vs,e,fr,h1,h2,X8B h3 fun u hu=> ?_,fun c hc=> ?_⟩
 ·obtain⟨u',q1,q2⟩:=UX h3 i _ hi
  rw[q1] at hu;cases hu;exact hx _ q2
 ·rcases List.mem_or_eq_of_mem_set hc with hc|rfl
  ·exact h4 c hc
  ·exact hy
theorem X25 {P:Program}{E:Env}{cd:Code}{S:St}{Q:Exit→St→Prop} (κ i γ β:Nat) {sz n:Nat}{xs:List (List D)}{bs:List AVal} (hL:S.obj γ= .row sz xs) (hne:0<xs.length) (hK:S.obj κ= .box bs) (hi:bs[i]? =some (.own γ n)) (hn:n=xs.length) (hdead:S.obj β= .dead) (hf:S.free β=true)
  (h:∀c k:Nat,xs.length≤c→c≤maxLen→c*sz≤xs.length*sz+k→(∀x∈xs,x.length=sz)→AWP P E cd ⟨S.n,S.τ,(κ,.box (bs.set i (.rs β 0 n c)))::(γ,.dead)::(β,.raw (xs.flatten.map some++List.replicate k none) none)::S.L⟩ Q):AWP P E cd S Q:=by
 refine X7y (ι:=Nat×Nat) (fun j=>⟨S.n,S.τ,(κ,.box (bs.set i (.rs β 0 n j.1)))::(γ,.dead)::(β,.raw (xs.flatten.map some++List.replicate j.2 none) none)::S.L⟩) (fun i=>xs.length≤i.1∧i.1≤maxLen∧i.1*sz≤xs.length*sz+i.2∧∀x∈xs,x.length=sz) ?_ (fun i hi=>h i.1 i.2 hi.1 hi.2.1 hi.2.2.1 hi.2.2.2)
 rintro E a w ⟨g,hs⟩
 have hκγ:κ≠γ:=by rintro rfl;rw[hL] at hK;cases hK
 have hκβ:κ≠β:=by rintro rfl;rw[hK] at hdead;cases hdead
 obtain⟨c,k,b,h1,h2,h3,h4,h5,h6⟩:=Xg3 hs hL hne hdead hf
 refine⟨(c,k),⟨h1,h2,h3,h4⟩,g.put β b undef,?_⟩
 refine XfL (bs:=bs) h6 (show Xo _ _ _=_ by rw[Y9 _ _ _ (Ne.symm hκγ),Y9 _ _ _ (Ne.symm hκβ)];exact hK) hi (fun u hu=> ?_) rfl
 have hγβ:γ≠β:=by rintro rfl;rw[hL] at hdead;cases hdead
 simp only[AVal.sat] at hu ⊢
 obtain⟨_,a',m,c',q1,q2,q3⟩:=hu
 rw[(UE hγβ).2.1,h5] at q1;cases q1
 rw[q3 hn];simp[Gh.put,hn]
theorem XeQ {E:Env}{S:St}{g:Gh}{a:Act}{w:World} (hs:Vl E S g a w) {γ β sz n c:Nat}{cs:List (Option D)}{ys:List (List D)} (hL:S.obj β= .raw cs none) (hcs:cs.take (n*sz)=ys.flatten.map some) (hys:ys.length=n) (hsz:∀y∈ys,y.length=sz) (hc:n≤c) (hcm:c≤maxLen) (hcap:c*sz≤cs.length)
  (hdead:S.obj γ= .dead) (hf:S.free γ=true):Vl E ⟨S.n,S.τ,(β,.dead)::(γ,.row sz ys)::S.L⟩ (g.put γ 0 (.slice (some ⟨g.blk β,0,none⟩) n c)) a w:=by
 have hγβ:β≠γ:=by rintro rfl;rw[hL] at hdead;cases hdead
 have ho:=hs.1.obj β
 rw[hL] at ho
 obtain⟨vs,e,fr,h1,h2,h3⟩:=ho
 have hvl:vs.size=cs.length:=by have:=Ue h3;simpa [Y6] using this
 have eβ:Xo .dead ((β,AObj.dead)::(γ,.row sz ys)::S.L) β= .dead:=Yq _ _ _ _
 have eγ:Xo .dead ((β,AObj.dead)::(γ,.row sz ys)::S.L) γ= .row sz ys:=by rw[Y9 _ _ _ hγβ,Yq]
 have hhd:(g.put γ 0 (.slice (some ⟨g.blk β,0,none⟩) n c)).hd γ= .slice (some ⟨g.blk β,0,none⟩) n c:=by simp[Gh.put]
 refine⟨Inv.part hs.1 (fun k=>k=β∨k=γ) rfl (fun k hk=> ?_) (fun k cs us _ e h=>X6Q (S:=S) (g:=g) (g':=g.put γ 0 (.slice (some ⟨g.blk β,0,none⟩) n c)) rfl (fun k=>k=γ) (fun k e=> .inl (e ▸ hf)) (fun k hk=>UE hk) e h) (fun k hk=> ?_) (fun k b' hk hb=> ?_) (fun k k' b' hk hk' hb hb'=> ?_) (fun k hk h100=> ?_),hs.2.1,hs.2.2.1,X5Y (S:=S) (g:=g) (g':=g.put γ 0 (.slice (some ⟨g.blk β,0,none⟩) n c)) rfl (fun k=>k=γ) (fun k e=> .inl (e ▸ hf)) (fun k hk=>UE hk) hs.2.2.2⟩
 ·obtain⟨k1,k2⟩:=not_or.1 hk
  exact⟨by show Xo _ _ _=_;rw[Y9 _ _ _ (Ne.symm k1),Y9 _ _ _ (Ne.symm k2)];rfl,UE k2⟩
 ·show Ua _ _ _ (Xo _ _ _)
  rcases hk with rfl|rfl
  ·rw[eβ];trivial
  ·rw[eγ]
   refine⟨hsz,.inr ⟨g.blk β,c,vs,e,fr,by rw[hhd,hys],by omega,hcm,h1,h2,by omega,?_⟩⟩
   have h3':=X2N h3 (n*sz)
   rw[Y6,←List.map_take,hcs,List.map_map] at h3'
   rw[hys]
   exact X0r (g:=g) (g':=g.put k 0 (.slice (some ⟨g.blk β,0,none⟩) n c)) (Yj.refl _) _ _ (fun j hj=>by rw[X85] at hj;simp at hj) h3'
 ·replace hb:XM _ (Xo _ _ _) k b':=hb
  rcases hk with rfl|rfl
  ·rw[eβ] at hb;exact hb.elim
  ·rw[eγ] at hb
   refine⟨β,.inl rfl,?_⟩
   rw[hL]
   obtain⟨a1,n1,c1,e1,e2⟩:=hb
   rw[hhd] at e1;cases e1
   exact e2
 ·replace hb:XM _ (Xo _ _ _) k b':=hb
  replace hb':XM _ (Xo _ _ _) k' b':=hb'
  rcases hk with rfl|rfl
  ·rw[eβ] at hb;exact hb.elim
  ·rcases hk' with rfl|rfl
   ·rw[eβ] at hb';exact hb'.elim
   ·rfl
 ·rcases hk with rfl|rfl
  ·exact Gh.keeps_of (UE hγβ).1 (UE hγβ).2.1 (UE hγβ).2.2
  ·have:=X94 hf;omega
theorem X0J {S:St} (t β γ:Nat) {sz n c:Nat}{cs:List (Option D)} (ys:List (List D)) (hL:S.obj β= .raw cs none) (ht:S.get t= .rs β 0 n c) (hcs:cs.take (n*sz)=ys.flatten.map some) (hys:ys.length=n) (hsz:∀y∈ys,y.length=sz) (hc:n≤c) (hcm:c≤maxLen) (hcap:c*sz≤cs.length)
  (hdead:S.obj γ= .dead) (hf:S.free γ=true):S.le ⟨S.n,(t,.own γ n)::S.τ,(β,.dead)::(γ,.row sz ys)::S.L⟩:=by
 rintro E a w ⟨g,hs⟩
 have h6:=XeQ hs hL hcs hys hsz hc hcm hcap hdead hf
 refine⟨_,h6.1,h6.2.1,h6.2.2.1,fun t'=> ?_⟩
 by_cases htt:t'=t
 ·subst htt
  show AVal.sat _ (Xo .any ((t',_)::S.τ) t') _
  rw[Yq]
  have hv:=hs.2.2.2 t'
  rw[ht] at hv
  simp only[AVal.sat] at hv ⊢
  rw[hv]
  exact⟨rfl,_,n,c,by simp only[Gh.put,if_true],Nat.le_refl _,fun _=>rfl⟩
 ·show AVal.sat _ (Xo .any ((t,_)::S.τ) t') _
  rw[Y9 _ _ _ (Ne.symm htt)]
  exact h6.2.2.2 t'
theorem X5h {S:St} (κ i β γ:Nat) {sz n c:Nat}{cs:List (Option D)}{bs:List AVal} (ys:List (List D)) (hL:S.obj β= .raw cs none) (hK:S.obj κ= .box bs) (hi:bs[i]? =some (.rs β 0 n c)) (hcs:cs.take (n*sz)=ys.flatten.map some) (hys:ys.length=n) (hsz:∀y∈ys,y.length=sz) (hc:n≤c) (hcm:c≤maxLen) (hcap:c*sz≤cs.length)
  (hdead:S.obj γ= .dead) (hf:S.free γ=true):S.le ⟨S.n,S.τ,(κ,.box (bs.set i (.own γ n)))::(β,.dead)::(γ,.row sz ys)::S.L⟩:=by
 rintro E a w ⟨g,hs⟩
 have hκβ:κ≠β:=by rintro rfl;rw[hL] at hK;cases hK
 have hκγ:κ≠γ:=by rintro rfl;rw[hK] at hdead;cases hdead
 have hβγ:β≠γ:=by rintro rfl;rw[hL] at hdead;cases hdead
 have h6:=XeQ hs hL hcs hys hsz hc hcm hcap hdead hf
 refine⟨_,XfL (bs:=bs) h6 (show Xo _ _ _=_ by rw[Y9 _ _ _ (Ne.symm hκβ),Y9 _ _ _ (Ne.symm hκγ)];exact hK) hi (fun u hu=> ?_) rfl⟩
 simp only[AVal.sat] at hu ⊢
 rw[hu,(UE hβγ).1]
 exact⟨rfl,_,n,c,by simp only[Gh.put,if_true],Nat.le_refl _,fun _=>rfl⟩
theorem XfS {g:Gh}{w:World}{A B:List Hd}{h:Hd} (hb:X15 g w (A++h::B)):X15 g w (A++B)∧UU g w h.1 h.2.1 h.2.2∧∀q∈A++B,∀b,Ux q.1 b→¬Ux h.1 b:=by
 obtain⟨h1,h2⟩:=hb
 obtain⟨p1,p2,p3⟩:=List.pairwise_append.1 h2
 obtain⟨p4,p5⟩:=List.pairwise_cons.1 p2
 refine⟨⟨fun k hk=>h1 k ?_,List.pairwise_append.2 ⟨p1,p5,fun a ha b hb=>p3 a ha b (List.mem_cons_of_mem _ hb)⟩⟩,h1 h (by simp),fun q hq b hqb hhb=> ?_⟩
 ·rcases List.mem_append.1 hk with k1|k1
  ·exact List.mem_append_left _ k1
  ·exact List.mem_append_right _ (List.mem_cons_of_mem _ k1)
 ·rcases List.mem_append.1 hq with k1|k1
  ·exact p3 q k1 h (by simp) b hqb hhb
  ·exact p4 q k1 b hhb hqb
theorem Xhf {g:Gh}{w:World}{A B:List Hd}{h:Hd} (hb:X15 g w (A++B)) (hr:UU g w h.1 h.2.1 h.2.2) (ha:∀q∈A++B,∀b,Ux q.1 b→¬Ux h.1 b):X15 g w (A++h::B):=by
 obtain⟨h1,h2⟩:=hb
 obtain⟨p1,p2,p3⟩:=List.pairwise_append.1 h2
 refine⟨fun k hk=> ?_,List.pairwise_append.2 ⟨p1,List.pairwise_cons.2 ⟨fun q hq b hb hqb=>ha q (List.mem_append_right _ hq) b hqb hb,p2⟩,fun a ha' b hb=> ?_⟩⟩
 ·rcases List.mem_append.1 hk with k1|k1
  ·exact h1 k (List.mem_append_left _ k1)
  ·rcases List.mem_cons.1 k1 with rfl|k1
   ·exact hr
   ·exact h1 k (List.mem_append_right _ k1)
 ·rcases List.mem_cons.1 hb with rfl|hb
  ·exact ha a (List.mem_append_left _ ha')
  ·exact p3 a ha' b hb
theorem Xgq {g:Gh}{w:World}{h:Value}{sz:Nat}{xs:List (List D)} (hr:UU g w h sz xs):∃a c,h= .slice a xs.length c:=by
 rcases hr.2 with ⟨e,rfl⟩|⟨b,cap,vs,e',fr,e,_⟩
 ·exact⟨_,_,e⟩
 ·exact⟨_,_,e⟩
theorem X3g {S:St} (β δ j γ:Nat) {cs:List (Option D)}{A B:List Hd}{u:Value}{z:Nat}{rows:List (List D)} (hL:S.obj β= .raw cs none) (hj:cs[j]? =some (some (.v u))) (hB:S.obj δ= .bag (A++(u,z,rows)::B)) (hdead:S.obj γ= .dead) (hf:S.free γ=true):
  S.le ⟨S.n,S.τ,(β,.raw cs (some (j,.own γ rows.length)))::(δ,.bag (A++B))::(γ,.row z rows)::S.L⟩:=by
 rintro E a w ⟨g,hs⟩
 have hβδ:β≠δ:=by rintro rfl;rw[hL] at hB;cases hB
 have hβγ:β≠γ:=by rintro rfl;rw[hL] at hdead;cases hdead
 have hδγ:δ≠γ:=by rintro rfl;rw[hB] at hdead;cases hdead
 have ho:=hs.1.obj β
 rw[hL] at ho
 have hb:=hs.1.obj δ
 rw[hB] at hb
 obtain⟨b1,b2,b3⟩:=XfS (show X15 g w (A++(u,z,rows)::B) from hb)
 have b2:UU g w u z rows:=b2
 obtain⟨ua,uc,hu⟩:=Xgq b2
 have hhd:(g.put γ 0 u).hd γ=u:=by simp[Gh.put]
 have eβ:Xo .dead ((β,AObj.raw cs (some (j,.own γ rows.length)))::(δ,.bag (A++B))::(γ,.row z rows)::S.L) β= .raw cs (some (j,.own γ rows.length)):=Yq _ _ _ _
 have eδ:Xo .dead ((β,AObj.raw cs (some (j,.own γ rows.length)))::(δ,.bag (A++B))::(γ,.row z rows)::S.L) δ= .bag (A++B):=by rw[Y9 _ _ _ hβδ,Yq]
 have eγ:Xo .dead ((β,AObj.raw cs (some (j,.own γ rows.length)))::(δ,.bag (A++B))::(γ,.row z rows)::S.L) γ= .row z rows:=by rw[Y9 _ _ _ hβγ,Y9 _ _ _ hδγ,Yq]
 refine⟨g.put γ 0 u,Inv.part hs.1 (fun k=>k=β∨k=δ∨k=γ) rfl (fun k hk=> ?_) (fun k cs us _ e h=>X6Q (S:=S) (g:=g) (g':=g.put γ 0 u) rfl (fun k=>k=γ) (fun k e=> .inl (e ▸ hf)) (fun k hk=>UE hk) e h) (fun k hk=> ?_) (fun k b hk hb=> ?_) (fun k k' b hk hk' hb hb'=> ?_) (fun k hk h100=> ?_),hs.2.1,hs.2.2.1,X5Y (S:=S) (g:=g) (g':=g.put γ 0 u) rfl (fun k=>k=γ) (fun k e=> .inl (e ▸ hf)) (fun k hk=>UE hk) hs.2.2.2⟩
 ·obtain⟨k1,k2⟩:=not_or.1 hk
  obtain⟨k2,k3⟩:=not_or.1 k2
  exact⟨by show Xo _ _ _=_;rw[Y9 _ _ _ (Ne.symm k1),Y9 _ _ _ (Ne.symm k2),Y9 _ _ _ (Ne.symm k3)];rfl,UE k3⟩
 ·show Ua _ _ _ (Xo _ _ _)
  rcases hk with rfl|rfl|rfl
  ·rw[eβ]
   obtain⟨vs,e,fr,h1,h2,h3⟩:=ho
   refine⟨vs,e,fr,by rw[(UE hβγ).1];exact h1,h2,?_⟩
   have h3':=Xak (g:=g) (g':=g.put γ 0 u) (Yj.refl _) (fun vs h=>by cases vs<;>exact h) h3
   refine X8B h3' fun v hv=> ?_
   obtain⟨v',q1,q2⟩:=UX h3 j (.d (.v u)) (by simp only[Y6,List.getElem?_map,hj];rfl)
   rw[q1] at hv;cases hv
   simp only[AVal.sat,D.rep] at q2 ⊢
   exact⟨by rw[q2.1];exact q2.2,ua,rows.length,uc,by rw[hhd];exact hu,Nat.le_refl _,fun _=>by rw[q2.1];exact hu⟩
  ·rw[eδ];exact X8g (g:=g) (g':=g.put γ 0 u) (Yj.refl _) (fun _ _=>rfl) b1
  ·rw[eγ]
   show UU _ _ ((g.put k 0 u).hd k) _ _
   rw[hhd];exact X4j (g:=g) (g':=g.put k 0 u) (Yj.refl _) (fun _ _=>rfl) b2
 ·replace hb:XM _ (Xo _ _ _) k b:=hb
  rcases hk with rfl|rfl|rfl
  ·rw[eβ] at hb
   refine⟨k,.inl rfl,?_⟩
   rw[hL]
   replace hb:(g.put γ 0 u).blk k=b:=hb
   rw[(UE hβγ).1] at hb;exact hb
  ·rw[eδ] at hb
   obtain⟨q,hq,hqb⟩:=hb
   refine⟨k,.inr (.inl rfl),?_⟩
   rw[hB]
   refine⟨q,?_,hqb⟩
   rcases List.mem_append.1 hq with k1|k1
   ·exact List.mem_append_left _ k1
   ·exact List.mem_append_right _ (List.mem_cons_of_mem _ k1)
  ·rw[eγ] at hb
   replace hb:Ux ((g.put k 0 u).hd k) b:=hb
   rw[hhd] at hb
   exact⟨δ,.inr (.inl rfl),by rw[hB];exact⟨(u,z,rows),by simp,hb⟩⟩
 ·have hold:∀k b,k=δ∨k=γ→XM (g.put γ 0 u) (Xo .dead ((β,AObj.raw cs (some (j,.own γ rows.length)))::(δ,.bag (A++B))::(γ,.row z rows)::S.L) k) k b→XM g (S.obj δ) δ b:=by
   intro k b hk hb
   rw[hB]
   rcases hk with rfl|rfl
   ·rw[eδ] at hb
    obtain⟨q,hq,hqb⟩:=hb
    refine⟨q,?_,hqb⟩
    rcases List.mem_append.1 hq with k1|k1
    ·exact List.mem_append_left _ k1
    ·exact List.mem_append_right _ (List.mem_cons_of_mem _ k1)
   ·rw[eγ] at hb
    replace hb:Ux ((g.put k 0 u).hd k) b:=hb
    rw[hhd] at hb
    exact⟨(u,z,rows),by simp,hb⟩
  have holdβ:∀b,XM (g.put γ 0 u) (Xo .dead ((β,AObj.raw cs (some (j,.own γ rows.length)))::(δ,.bag (A++B))::(γ,.row z rows)::S.L) β) β b→XM g (S.obj β) β b:=by
   intro b hb
   rw[eβ] at hb;rw[hL]
   replace hb:(g.put γ 0 u).blk β=b:=hb
   rw[(UE hβγ).1] at hb;exact hb
  have hdg:∀b,XM (g.put γ 0 u) (Xo .dead ((β,AObj.raw cs (some (j,.own γ rows.length)))::(δ,.bag (A++B))::(γ,.row z rows)::S.L) δ) δ b→XM (g.put γ 0 u) (Xo .dead ((β,AObj.raw cs (some (j,.own γ rows.length)))::(δ,.bag (A++B))::(γ,.row z rows)::S.L) γ) γ b→False:=by
   intro b hb hb'
   rw[eδ] at hb;rw[eγ] at hb'
   replace hb':Ux ((g.put γ 0 u).hd γ) b:=hb'
   rw[hhd] at hb'
   obtain⟨q,hq,hqb⟩:=hb
   exact b3 q hq b hqb hb'
  replace hb:XM _ (Xo _ _ _) k b:=hb
  replace hb':XM _ (Xo _ _ _) k' b:=hb'
  rcases hk with rfl|hk
  ·rcases hk' with rfl|hk'
   ·rfl
   ·exact absurd (hs.1.inj _ _ b (holdβ b hb) (hold k' b hk' hb')) hβδ
  ·rcases hk' with rfl|hk'
   ·exact absurd (hs.1.inj _ _ b (holdβ b hb') (hold k b hk hb)) hβδ
   ·rcases hk with rfl|rfl<;>rcases hk' with rfl|rfl
    ·rfl
    ·exact(hdg b hb hb').elim
    ·exact(hdg b hb' hb).elim
    ·rfl
 ·rcases hk with rfl|rfl|rfl
  ·exact Gh.keeps_of (UE hβγ).1 (UE hβγ).2.1 (UE hβγ).2.2
  ·exact Gh.keeps_of (UE hδγ).1 (UE hδγ).2.1 (UE hδγ).2.2
  ·have:=X94 hf;omega
theorem Xgy {E:Env}{a:Act}{w:World}{S:St} (β δ j γ:Nat) {cs:List (Option D)} (A B:List Hd) {z n:Nat}{rows:List (List D)} (hL:S.obj β= .raw cs (some (j,.own γ n))) (hj:j<cs.length) (hB:S.obj δ= .bag (A++B)) (hr:S.obj γ= .row z rows) (hn:n=rows.length) (hs:holds E S a w):
  ∃u:Value,holds E ⟨S.n,S.τ,(β,.raw (cs.set j (some (.v u))) none)::(δ,.bag (A++(u,z,rows)::B))::(γ,.dead)::S.L⟩ a w:=by
 obtain⟨g,hs⟩:=hs
 have hβδ:β≠δ:=by rintro rfl;rw[hL] at hB;cases hB
 have hβγ:β≠γ:=by rintro rfl;rw[hL] at hr;cases hr
 have hδγ:δ≠γ:=by rintro rfl;rw[hB] at hr;cases hr
 have ho:=hs.1.obj β
 rw[hL] at ho
 have hb:=hs.1.obj δ
 rw[hB] at hb
 have hrr:=hs.1.obj γ
 rw[hr] at hrr
 have hrow:UU g w (g.hd γ) z rows:=hrr
 refine⟨g.hd γ,g,?_,hs.2.1,hs.2.2.1,hs.2.2.2⟩
 have eβ:Xo .dead ((β,AObj.raw (cs.set j (some (.v (g.hd γ)))) none)::(δ,.bag (A++(g.hd γ,z,rows)::B))::(γ,.dead)::S.L) β= .raw (cs.set j (some (.v (g.hd γ)))) none:=Yq _ _ _ _
 have eδ:Xo .dead ((β,AObj.raw (cs.set j (some (.v (g.hd γ)))) none)::(δ,.bag (A++(g.hd γ,z,rows)::B))::(γ,.dead)::S.L) δ= .bag (A++(g.hd γ,z,rows)::B):=by rw[Y9 _ _ _ hβδ,Yq]
 have eγ:Xo .dead ((β,AObj.raw (cs.set j (some (.v (g.hd γ)))) none)::(δ,.bag (A++(g.hd γ,z,rows)::B))::(γ,.dead)::S.L) γ= .dead:=by rw[Y9 _ _ _ hβγ,Y9 _ _ _ hδγ,Yq]
 have hapart:∀q∈A++B,∀b,Ux q.1 b→¬Ux (g.hd γ) b:=fun q hq b hqb hb'=>hδγ (hs.1.inj _ _ b (by rw[hB];exact⟨q,hq,hqb⟩) (by rw[hr];exact hb'))
 have hδl:∀b,XM g (.bag (A++(g.hd γ,z,rows)::B)) δ b→XM g (S.obj δ) δ b∨XM g (S.obj γ) γ b:=by
  rintro b ⟨q,hq,hqb⟩
  rw[hB,hr]
  rcases List.mem_append.1 hq with k1|k1
  ·exact .inl ⟨q,List.mem_append_left _ k1,hqb⟩
  ·rcases List.mem_cons.1 k1 with rfl|k1
   ·exact .inr hqb
   ·exact .inl ⟨q,List.mem_append_right _ k1,hqb⟩
 refine Inv.part hs.1 (fun k=>k=β∨k=δ∨k=γ) rfl (fun k hk=> ?_) (fun k cs us _ e h=>h) (fun k hk=> ?_) (fun k b hk hb=> ?_) (fun k k' b hk hk' hb hb'=> ?_) (fun k hk h100=>Gh.keeps_refl _ _)
 ·obtain⟨k1,k2⟩:=not_or.1 hk
  obtain⟨k2,k3⟩:=not_or.1 k2
  exact⟨by show Xo _ _ _=_;rw[Y9 _ _ _ (Ne.symm k1),Y9 _ _ _ (Ne.symm k2),Y9 _ _ _ (Ne.symm k3)];rfl,rfl,rfl,rfl⟩
 ·show Ua _ _ _ (Xo _ _ _)
  rcases hk with rfl|rfl|rfl
  ·rw[eβ]
   obtain⟨vs,e,fr,h1,h2,h3⟩:=ho
   refine⟨vs,e,fr,h1,h2,?_⟩
   have e1:Y6 (cs.set j (some (.v (g.hd γ)))) none=(Y6 cs (some (j,.own γ n))).set j (.d (.v (g.hd γ))):=by
    simp only[Y6,List.map_set,List.set_set];rfl
   rw[e1]
   refine X8B h3 fun v hv=> ?_
   obtain⟨v',q1,q2⟩:=UX h3 j (.own γ n) (by simp only[Y6,List.getElem?_set_self (show j<(cs.map oA).length by rw[List.length_map];exact hj)])
   rw[q1] at hv;cases hv
   have e:=X23 q2 (w:=w) (show Ua g w γ (.row z rows) from hrow) hn
   simp only[AVal.sat] at q2
   rw[e] at q2 ⊢
   exact VB q2.1
  ·rw[eδ];exact Xhf hb hrow hapart
  ·rw[eγ];trivial
 ·replace hb:XM _ (Xo _ _ _) k b:=hb
  rcases hk with rfl|rfl|rfl
  ·rw[eβ] at hb
   exact⟨k,.inl rfl,by rw[hL];exact hb⟩
  ·rw[eδ] at hb
   rcases hδl b hb with q|q
   ·exact⟨k,.inr (.inl rfl),q⟩
   ·exact⟨γ,.inr (.inr rfl),q⟩
  ·rw[eγ] at hb;exact hb.elim
 ·have key:∀b,XM g (.raw (cs.set j (some (.v (g.hd γ)))) none) β b→XM g (.bag (A++(g.hd γ,z,rows)::B)) δ b→False:=by
   intro b q1 q2
   have q1:XM g (S.obj β) β b:=by rw[hL];exact q1
   rcases hδl b q2 with q|q
   ·exact hβδ (hs.1.inj _ _ b q1 q)
   ·exact hβγ (hs.1.inj _ _ b q1 q)
  replace hb:XM _ (Xo _ _ _) k b:=hb
  replace hb':XM _ (Xo _ _ _) k' b:=hb'
  rcases hk with rfl|rfl|rfl<;>rcases hk' with rfl|rfl|rfl<;>first
   |rfl
   |(rw[eγ] at hb;exact hb.elim)
   |(rw[eγ] at hb';exact hb'.elim)
   |(rw[eβ] at hb;rw[eδ] at hb';exact(key b hb hb').elim)
   |(rw[eβ] at hb';rw[eδ] at hb;exact(key b hb' hb).elim)
theorem XcF {P:Program}{E:Env}{cd:Code}{S:St}{Q:Exit→St→Prop} (β δ j γ:Nat) {cs:List (Option D)} (A B:List Hd) {z n:Nat}{rows:List (List D)} (hL:S.obj β= .raw cs (some (j,.own γ n))) (hj:j<cs.length) (hB:S.obj δ= .bag (A++B)) (hr:S.obj γ= .row z rows) (hn:n=rows.length)
  (h:∀u:Value,AWP P E cd ⟨S.n,S.τ,(β,.raw (cs.set j (some (.v u))) none)::(δ,.bag (A++(u,z,rows)::B))::(γ,.dead)::S.L⟩ Q):AWP P E cd S Q:=
 X7y (ι:=Value) (fun u=>⟨S.n,S.τ,(β,.raw (cs.set j (some (.v u))) none)::(δ,.bag (A++(u,z,rows)::B))::(γ,.dead)::S.L⟩) (fun _=>True) (fun E a w hs=>let ⟨u,hu⟩:=Xgy β δ j γ A B hL hj hB hr hn hs;⟨u,trivial,hu⟩) (fun u _=>h u)
theorem Xek {S:St} (δ:Nat) {hs:List Hd} (hs':List Hd) (hB:S.obj δ= .bag hs) (h:∀g w,X15 g w hs→X15 g w hs') (hl:∀q∈hs',q∈hs∨∀b,¬Ux q.1 b):S.le ⟨S.n,S.τ,(δ,.bag hs')::S.L⟩:=by
 rintro E a w ⟨g,hg⟩
 have hb:=hg.1.obj δ
 rw[hB] at hb
 refine⟨g,Inv.upd hg.1 δ _ (Yq _ _ _ _) (fun k hk=>Y9 _ _ _ (Ne.symm hk)) (fun _ _ _=>rfl) (Nat.le_refl _) rfl rfl rfl (fun _ _=>⟨rfl,rfl,rfl⟩) (fun _ _ _ _ _ h=>h) (h g w hb) (fun b hb'=> .inl ?_) (fun _=>Gh.keeps_refl _ _),hg.2.1,hg.2.2.1,hg.2.2.2⟩
 obtain⟨q,hq,hqb⟩:=hb'
 rcases hl q hq with h1|h1
 ·rw[hB];exact⟨q,h1,hqb⟩
 ·exact(h1 b hqb).elim
theorem Xix (b:Nat):¬Ux (.slice none 0 0) b:=by
 rintro⟨a,n,c,e,_⟩;cases e
theorem X9n {S:St} (δ z:Nat) (A B:List Hd) (hB:S.obj δ= .bag (A++B)):S.le ⟨S.n,S.τ,(δ,.bag (A++(.slice none 0 0,z,[])::B))::S.L⟩:=
 Xek δ _ hB (fun g w h=>Xhf h ⟨by simp,.inl ⟨rfl,rfl⟩⟩ (fun q _ b _=>Xix b)) (fun q hq=>by
  rcases List.mem_append.1 hq with k1|k1
  ·exact .inl (List.mem_append_left _ k1)
  ·rcases List.mem_cons.1 k1 with rfl|k1
   ·exact .inr Xix
   ·exact .inl (List.mem_append_right _ k1))
theorem XaD {S:St} (δ:Nat) (A B:List Hd) (h:Hd) (hB:S.obj δ= .bag (A++h::B)):S.le ⟨S.n,S.τ,(δ,.bag (A++B))::S.L⟩:=
 Xek δ _ hB (fun g w h=>(XfS h).1) (fun q hq=> .inl (by
  rcases List.mem_append.1 hq with k1|k1
  ·exact List.mem_append_left _ k1
  ·exact List.mem_append_right _ (List.mem_cons_of_mem _ k1)))
theorem X7t {S:St} (δ:Nat) (hdead:S.obj δ= .dead):S.le ⟨S.n,S.τ,(δ,.bag [])::S.L⟩:=by
 rintro E a w ⟨g,hg⟩
 refine⟨g,Inv.upd hg.1 δ _ (Yq _ _ _ _) (fun k hk=>Y9 _ _ _ (Ne.symm hk)) (fun _ _ _=>rfl) (Nat.le_refl _) rfl rfl rfl (fun _ _=>⟨rfl,rfl,rfl⟩) (fun _ _ _ _ _ h=>h) ⟨by simp,List.Pairwise.nil⟩ (fun b hb'=> ?_) (fun _=>Gh.keeps_refl _ _),hg.2.1,hg.2.2.1,hg.2.2.2⟩
 obtain⟨q,hq,_⟩:=hb'
 simp at hq
def clo (E:Env) (Q:Exit→St→Prop) (e:Exit) (T:St):Prop:=∀a w,holds E T a w→∃U,Q e U∧holds E U a w
theorem X8v {P:Program}{E:Env}{cd:Code}{S:St}{Q:Exit→St→Prop} (h:AWP P E cd S (clo E Q)):AWP P E cd S Q:=
 ⟨fun a w hs=>wp_mono (h.run a w hs) fun e a' w' ⟨T,h1,h2⟩=>h1 a' w' h2⟩
theorem X1Z {E:Env}{S T:St}{e:Exit}{Q:Exit→St→Prop} (h:S.le T) (k:clo E Q e T):clo E Q e S:=fun a w hs=>k a w (h E a w hs)
theorem X8u {E:Env}{S:St}{e:Exit}{Q:Exit→St→Prop} (h:Q e S):clo E Q e S:=fun a w hs=>⟨S,h,hs⟩
theorem X8w {E:Env}{S:St}{e:Exit}{Q:Exit→St→Prop} (β δ j γ:Nat) {cs:List (Option D)} (A B:List Hd) {z n:Nat}{rows:List (List D)} (hL:S.obj β= .raw cs (some (j,.own γ n))) (hj:j<cs.length) (hB:S.obj δ= .bag (A++B)) (hr:S.obj γ= .row z rows) (hn:n=rows.length)
  (h:∀u:Value,clo E Q e ⟨S.n,S.τ,(β,.raw (cs.set j (some (.v u))) none)::(δ,.bag (A++(u,z,rows)::B))::(γ,.dead)::S.L⟩):clo E Q e S:=fun a w hs=>
 let ⟨u,hu⟩:=Xgy β δ j γ A B hL hj hB hr hn hs
 h u a w hu
section
variable {P:Program}
theorem XdD {E:Env}{S:St}{g:Gh}{w:World} (hi:Inv E S.obj g w) {β o:Nat}{cs cs':List (Option D)}{ho ho':Option (Nat×AVal)}{ys:List AVal} (hL:S.obj β= .raw cs ho) {news:Array Value} (hs:XB g ys news.toList) (h1:∀u∈news.toList,u.oneCell'=true) (hb:o+ys.length≤cs.length)
  (hc:Y6 cs' ho'=(Y6 cs ho).take o++ys++(Y6 cs ho).drop (o+ys.length)):
  ∃w',(storeCells ⟨g.blk β,o,none⟩ news.toList).run P w= .ok () w'∧Inv E (Xo .dead ((β,.raw cs' ho')::S.L)) g w':=by
 have hob:=hi.obj β
 rw[hL] at hob
 obtain⟨vs,e,fr,h2,h3,h4⟩:=hob
 have hlen:news.toList.length=ys.length:=Ue hs
 have hrl:(Y6 cs ho).length=cs.length:=by cases ho<;>simp[Y6]
 have hvl:vs.size=cs.length:=by have:=Ue h4;rw[hrl] at this;simpa using this
 obtain⟨vs',k1,k2⟩:=X6T (P:=P) (g.blk β) e fr vs.size h3 news.toList o 0 vs w h2 rfl (by rw[hlen];omega) h1
 simp only[Nat.add_zero,hlen] at k1 k2
 have hsz':vs'.size=vs.size:=by
  have:=congrArg List.length k2
  simp only[Array.length_toList,List.length_append,List.length_take,List.length_drop,hlen] at this
  rw[this];simp only[Array.length_toList] at hlen;omega
 refine⟨w.setRow (g.blk β) vs',k1,Inv.upd hi β _ (Yq _ _ _ _) (fun k hk=>Y9 _ _ _ (Ne.symm hk)) (fun b hb hnl=> ?_) (by simp) rfl rfl rfl (fun k hk=>⟨rfl,rfl,rfl⟩) (fun k cs us _ _ h=>h) ?_ (fun b hb=> .inl (by rw[hL];exact hb)) (fun _=>Gh.keeps_refl _ _)⟩
 ·refine setRow_other w _ b vs' (fun e=>hnl ?_)
  rw[hL,e];rfl
 ·refine⟨vs',e,fr,setRow_heap w _ vs _ e fr h2,by rw[hsz'];exact h3,?_⟩
  rw[k2,hc]
  exact X1O (X1O (X2N h4 o) hs) (X3o h4 _)
theorem X8A {E:Env}{S:St}{g:Gh}{w:World} (hi:Inv E S.obj g w) {β o:Nat}{cs ys:List (Option D)} (hL:S.obj β= .raw cs none) {news:Array Value} (hs:XB g (ys.map oA) news.toList) (h1:∀u∈news.toList,u.oneCell'=true) (hb:o+ys.length≤cs.length):
  ∃w',(storeCells ⟨g.blk β,o,none⟩ news.toList).run P w= .ok () w'∧Inv E (Xo .dead ((β,.raw (cs.take o++ys++cs.drop (o+ys.length)) none)::S.L)) g w':=
 XdD hi hL hs h1 (by rw[List.length_map];exact hb) (by simp only[Y6,List.map_append,List.map_take,List.map_drop,List.length_map])
theorem Xbz {g:Gh}{w:World}{β o q:Nat}{cs:List (Option D)} (ho:Ua g w β (.raw cs none)) (hb:o+q≤cs.length):
  ∃vs:List Value,vs.length=q∧XB g (((cs.drop o).take q).map oA) vs∧∀w',w'.heap=w.heap→(loadCells ⟨g.blk β,o,none⟩ q).run P w'= .ok vs.toArray w':=by
 obtain⟨vs,e,fr,h2,h3,h4⟩:=ho
 have hsub:=X2N (X3o h4 o) q
 have hl:=Ue hsub
 have hlq:((vs.toList.drop o).take q).length=q:=by rw[hl,List.length_take,List.length_drop];simp only[Y6,List.length_map];omega
 refine⟨(vs.toList.drop o).take q,hlq,by simpa only[Y6,List.map_take,List.map_drop] using hsub,fun w' hw'=> ?_⟩
 have:=run_loadCells_list (P:=P) w' ⟨g.blk β,o,none⟩ ((vs.toList.drop o).take q) (fun j v hv=>by
  rw[Uw,cell_of_row w' _ _ vs e fr (by rw[hw'];exact h2)]
  rw[List.getElem?_take] at hv
  split at hv
  ·rw[List.getElem?_drop] at hv;simpa using hv
  ·simp at hv)
 rw[hlq] at this
 exact this
def X0a:List (Option D)→Bool
 |[]=>true
 |c::r=>c.isSome&&X0a r
theorem Xa1 {g:Gh}:∀{cs:List (Option D)}{us:List Value},X0a cs=true→XB g (cs.map oA) us→∀u∈us,u.oneCell'=true
 |[],[],_,_,u,hu=>by simp at hu
 |[],_::_,_,h,_,_=>h.elim
 |c::cs,[],_,h,_,_=>h.elim
 |c::cs,v::us,hc,h,u,hu=>by
  simp only[X0a,Bool.and_eq_true] at hc
  simp only[List.map_cons,XB] at h
  rcases List.mem_cons.1 hu with rfl|hu
  ·cases c with
   |none=>simp at hc
   |some d=>exact D.rep_one (by simpa only[oA,AVal.sat] using h.1)
  ·exact Xa1 hc.2 h.2 u hu
theorem Xfj {g:Gh}{ys:List AVal}{us:List Value} (h:XB g ys us) (hc:X0S ys=true):∀u∈us,u.oneCell'=true:=by
 intro u hu
 obtain⟨i,hi⟩:=List.getElem?_of_mem hu
 have hl:=Ue h
 have hlt:i<us.length:=(List.getElem?_eq_some_iff.1 hi).1
 obtain⟨u',h1,h2⟩:=UX h i _ (List.getElem?_eq_getElem (by omega))
 rw[hi] at h1;cases h1
 exact AVal.sat_one ((X33 _).1 hc _ (List.getElem_mem _)) h2
variable {ops:Array Oper}{draw:Bool}{K:Y4→St→Prop}{rest:List Oper}{l:Y4}{S:St}
variable {d:Nat}{ty:TypeId}{pos:String}{aft:Array Edge}{gd:Option (Nat×Bool)}
theorem X1v {g:Gh}{β o n c:Nat}{u:Value} (h:(AVal.rs β o n c).sat g u):u= .slice (some ⟨g.blk β,o,none⟩) n c:=by simpa only[AVal.sat] using h
theorem VG {x:Operand}{T:TypeId}{β o n c:Nat} (hx:S.ev x= .rs β o n c) (hT:isSl P T=true)
  (hd:Nat.blt d S.n=true) (hg:XR ops S gd)
  (h:Walk P ops draw K rest ((l.length,⟨some d,.call ⟨.builtin .len,#[x],#[T]⟩,ty,pos,aft,gd⟩,⟨XQ ops gd++[(x,.rs β o n c)],some (d,ai n),[],[],[]⟩)::l) (S.set d (ai n))):
  Walk P ops draw K (⟨some d,.call ⟨.builtin .len,#[x],#[T]⟩,ty,pos,aft,gd⟩::rest) l S:=
 Yh ⟨[(x,.rs β o n c)],some (d,ai n),[],[],[]⟩ (U6 rfl fun E S g a w hs hq hl=>by
  obtain⟨e,h1⟩:=X54 hT
  have hv:=X1v hq.1
  refine⟨.int .i64 n,?_,VB rfl⟩
  simp[execOp,resolve,invoke,builtin,hv,Builtin.len_,run_underlying h1,goInt]) hg ⟨⟨hx,trivial⟩,trivial,trivial,hd⟩ h
theorem X3v {x:Operand}{T:TypeId}{β o n c:Nat} (hx:S.ev x= .rs β o n c) (hT:isSl P T=true)
  (hd:Nat.blt d S.n=true) (hg:XR ops S gd)
  (h:Walk P ops draw K rest ((l.length,⟨some d,.call ⟨.builtin .cap,#[x],#[T]⟩,ty,pos,aft,gd⟩,⟨XQ ops gd++[(x,.rs β o n c)],some (d,ai c),[],[],[]⟩)::l) (S.set d (ai c))):
  Walk P ops draw K (⟨some d,.call ⟨.builtin .cap,#[x],#[T]⟩,ty,pos,aft,gd⟩::rest) l S:=
 Yh ⟨[(x,.rs β o n c)],some (d,ai c),[],[],[]⟩ (U6 rfl fun E S g a w hs hq hl=>by
  obtain⟨e,h1⟩:=X54 hT
  have hv:=X1v hq.1
  refine⟨.int .i64 c,?_,VB rfl⟩
  simp[execOp,resolve,invoke,builtin,hv,Builtin.cap_,run_underlying h1,goInt]) hg ⟨⟨hx,trivial⟩,trivial,trivial,hd⟩ h
theorem Xpg {x i:Operand}{T:TypeId}{β o n c k sz p:Nat}{kd:IntKind}{m:Int} (hx:S.ev x= .rs β o n c) (hi:S.ev i= .d (.v (.int kd m))) (hk:m=(k:Nat)) (hlt:k<n) (hp:o+k*sz=p)
  (hT:Ui P T sz=true) (hd:Nat.blt d S.n=true) (hg:XR ops S gd)
  (h:Walk P ops draw K rest ((l.length,⟨some d,.indexAddr T x i,ty,pos,aft,gd⟩,⟨XQ ops gd++[(x,.rs β o n c),(i,.d (.v (.int kd m)))],some (d,.ptr β p),[],[],[]⟩)::l) (S.set d (.ptr β p))):
  Walk P ops draw K (⟨some d,.indexAddr T x i,ty,pos,aft,gd⟩::rest) l S:=
 Yh ⟨[(x,.rs β o n c),(i,.d (.v (.int kd m)))],some (d,.ptr β p),[],[],[]⟩ (U6 rfl fun E S g a w hs hq hl=>by
  obtain⟨e,h1,h2,h3⟩:=X1i hT
  have hv:=X1v hq.1
  refine⟨.pointer (some ⟨g.blk β,p,none⟩),?_,by simp only[AVal.sat]⟩
  have hb:(0:Int)≤m∧m<(n:Int):=by omega
  have hm:m.toNat=k:=by omega
  have:=run_indexAt_slice (P:=P) w T ⟨g.blk β,o,none⟩ n c kd m (by rw[h3];exact h1)
  rw[if_pos hb,h3,h2 w,Result.andThen_ok,Uw,hm,hp] at this
  simp only[execOp,hv,Uc hq.2.1,Sem.run_bind,this];rfl) hg ⟨⟨hx,hi,trivial⟩,trivial,trivial,hd⟩ h
theorem VF {t:TypeId}{x:Operand}{γ o:Nat}{cs:List (Option D)}{ho:Option (Nat×AVal)}{y:AVal} (hx:S.ev x= .ptr γ o) (hL:S.obj γ= .raw cs ho) (hy:(Y6 cs ho)[o]? =some y)
  (ht:X0I P t false 1=true) (hd:Nat.blt d S.n=true) (hg:XR ops S gd)
  (h:Walk P ops draw K rest ((l.length,⟨some d,.load t x,ty,pos,aft,gd⟩,⟨XQ ops gd++[(x,.ptr γ o)],some (d,y),[(γ,.raw cs ho)],[],[]⟩)::l) (S.set d (y))):
  Walk P ops draw K (⟨some d,.load t x,ty,pos,aft,gd⟩::rest) l S:=
 Yh ⟨[(x,.ptr γ o)],some (d,y),[(γ,.raw cs ho)],[],[]⟩ (U6 rfl fun E S g a w hs hq hl=>by
  have ho:=hs.1.obj γ
  rw[hl.1] at ho
  obtain⟨vs,e,fr,h1,h2,h3⟩:=ho
  obtain⟨u,hu,hsu⟩:=UX h3 o y hy
  refine⟨u,?_,hsu⟩
  have hp:a.eval x= .pointer (some ⟨g.blk γ,o,none⟩):=by have:=hq.1;simpa only[AVal.sat] using this
  have hc:w.cell? ⟨g.blk γ,o,none⟩=some u:=by rw[cell_of_row w _ o vs e fr h1];simpa using hu
  simp[execOp,hp,Instr.loadAt,Instr.sureAddr,X6q ht hc]) hg ⟨⟨hx,trivial⟩,⟨hL,trivial⟩,trivial,hd⟩ h
theorem Xq7 {t:TypeId}{x:Operand}{γ o sz:Nat}{cs:List (Option D)}{ho:Option (Nat×AVal)}{ys:List AVal} (hx:S.ev x= .ptr γ o) (hL:S.obj γ= .raw cs ho)
  (ht:X0I P t true sz=true) (hy:((Y6 cs ho).drop o).take sz=ys) (hlen:ys.length=sz) (hd:Nat.blt d S.n=true) (hg:XR ops S gd)
  (h:Walk P ops draw K rest ((l.length,⟨some d,.load t x,ty,pos,aft,gd⟩,⟨XQ ops gd++[(x,.ptr γ o)],some (d,.agg ys),[(γ,.raw cs ho)],[],[]⟩)::l) (S.set d (.agg ys))):
  Walk P ops draw K (⟨some d,.load t x,ty,pos,aft,gd⟩::rest) l S:=
 Yh ⟨[(x,.ptr γ o)],some (d,.agg ys),[(γ,.raw cs ho)],[],[]⟩ (U6 rfl fun E S g a w hs hq hl=>by
  have ho:=hs.1.obj γ
  rw[hl.1] at ho
  obtain⟨vs,e,fr,h1,h2,h3⟩:=ho
  have hsub:=X2N (X3o h3 o) sz
  rw[hy] at hsub
  have hl1:=Ue hsub
  refine⟨.agg ((vs.toList.drop o).take sz).toArray,?_,by simp only[AVal.sat];exact⟨_,rfl,hsub⟩⟩
  have hp:a.eval x= .pointer (some ⟨g.blk γ,o,none⟩):=by have:=hq.1;simpa only[AVal.sat] using this
  have:=X6b (P:=P) (p:=⟨g.blk γ,o,none⟩) (w:=w) (vs:=(vs.toList.drop o).take sz) (t:=t) (by rw[hl1,hlen];exact ht) (fun j v hv=>by
   rw[Uw,cell_of_row w _ _ vs e fr h1]
   rw[List.getElem?_take] at hv
   split at hv
   ·rw[List.getElem?_drop] at hv;simpa using hv
   ·simp at hv)
  simp[execOp,hp,Instr.loadAt,Instr.sureAddr,this]) hg ⟨⟨hx,trivial⟩,⟨hL,trivial⟩,trivial,hd⟩ h
theorem Xrc {t:TypeId}{x v:Operand}{γ o:Nat}{cs cs':List (Option D)}{ho ho':Option (Nat×AVal)}{y:AVal} (hx:S.ev x= .ptr γ o) (hL:S.obj γ= .raw cs ho) (hv:S.ev v=y) (hc:X0S y.parts=true)
  (ht:X59 P t y.parts.length=true) (hb:o+y.parts.length≤cs.length) (hcs:Y6 cs' ho'=(Y6 cs ho).take o++y.parts++(Y6 cs ho).drop (o+y.parts.length)) (hg:XR ops S gd)
  (h:Walk P ops draw K rest ((l.length,⟨none,.store t x v,ty,pos,aft,gd⟩,⟨XQ ops gd++[(x,.ptr γ o),(v,y)],none,[(γ,.raw cs ho)],[(γ,.raw cs' ho')],[]⟩)::l)
   (S.own γ (.raw cs' ho'))):
  Walk P ops draw K (⟨none,.store t x v,ty,pos,aft,gd⟩::rest) l S:=by
 refine Yh ⟨[(x,.ptr γ o),(v,y)],none,[(γ,.raw cs ho)],[(γ,.raw cs' ho')],[]⟩ (X9p rfl fun E S g a w hs hq hl hn=> ?_) hg ⟨⟨hx,hv,trivial⟩,⟨hL,trivial⟩,trivial,trivial⟩ h
 have hp:a.eval x= .pointer (some ⟨g.blk γ,o,none⟩):=by have:=hq.1;simpa only[AVal.sat] using this
 have hps:=X5K hq.2.1 hc
 obtain⟨w',k1,k2⟩:=XdD (P:=P) hs.1 hl.1 hps (Xfj hps hc) hb hcs
 have hlen:(a.eval v).cells.toList.length=y.parts.length:=Ue hps
 refine⟨g,w',?_,k2,hs.2.2.2⟩
 have hsz:=Xbv ht w
 simp only[Array.length_toList] at hlen
 simp[execOp,hp,Instr.storeAt,Instr.sureAddr,storeVar,hsz,hlen,k1]
theorem XrJ {T:TypeId}{x:Operand}{lo hi:Option Operand}{β o n c sz lb hb o' m c':Nat} (hx:S.ev x= .rs β o n c) (hlo:X6M S lo lb) (hhi:X6x S n hi hb) (hlh:lb≤hb) (hh:hb≤c)
  (hm:hb-lb=m) (hc':c-lb=c') (ho':(if c=lb then o else o+lb*sz)=o')
  (hT:Ui P T sz=true) (hd:Nat.blt d S.n=true) (hg:XR ops S gd)
  (h:Walk P ops draw K rest ((l.length,⟨some d,.slice T x lo hi none,ty,pos,aft,gd⟩,⟨XQ ops gd++((x,.rs β o n c)::(X0y lo lb++X0y hi hb)),some (d,.rs β o' m c'),[],[],[]⟩)::l) (S.set d (.rs β o' m c'))):
  Walk P ops draw K (⟨some d,.slice T x lo hi none,ty,pos,aft,gd⟩::rest) l S:=by
 refine Yh ⟨(x,.rs β o n c)::(X0y lo lb++X0y hi hb),some (d,.rs β o' m c'),[],[],[]⟩ (U6 rfl fun E S g a w hs hq hl=> ?_) hg
  ⟨⟨hx,Xes.2 ⟨X8T fun y e=>by subst e;exact hlo,X8T fun y e=>by subst e;exact hhi⟩⟩,trivial,trivial,hd⟩ h
 obtain⟨e,h1,h2,h3⟩:=X1i hT
 obtain⟨hq1,hq2⟩:=hq
 rw[X9t] at hq2
 have hv:=X1v hq1
 have hbd:=XbW (P:=P) (isSl:=true) (len:=n) (cap:=c) (fun e=>by subst e;exact hlo) (fun e=>by subst e;exact hhi) hq2.1 hq2.2 hlh hh w
 have hrun:=run_slice_any (P:=P) w T (some ⟨g.blk β,o,none⟩) n c (by rw[h3];exact h1) (lo.map a.eval) (hi.map a.eval) none
 rw[hbd,Result.andThen_ok,h3,h2 w,Result.andThen_ok] at hrun
 refine⟨sliced (some ⟨g.blk β,o,none⟩) lb hb c sz,?_,?_⟩
 ·simp only[execOp,hv,Instr.sliceAt,Sem.run_bind,run_underlying h1,Result.andThen_ok,Option.map_none,hrun];rfl
 ·simp only[AVal.sat,sliced]
  subst hm hc' ho'
  by_cases hcl:c=lb
  ·rw[if_pos hcl,if_pos hcl]
  ·rw[if_neg hcl,if_neg hcl,Option.map_some,Uw]
end
section
variable {P:Program}
variable {ops:Array Oper}{draw:Bool}{K:Y4→St→Prop}{rest:List Oper}{l:Y4}{S:St}
variable {d:Nat}{ty:TypeId}{pos:String}{aft:Array Edge}{gd:Option (Nat×Bool)}
theorem Xa8 {w:World}{p:Addr}{n c sz m:Nat}{vs:Array Value} (h:(loadCells p (m*sz)).run P w= .ok vs w):(Builtin.firstCells sz m (.slice (some p) n c)).run P w= .ok vs w:=by
 simp only[Builtin.firstCells];exact h
theorem XkV {x y:Operand}{T T2:TypeId}{β o1 n1 c1 o2 n2 c2 sz m:Nat}{cs cs':List (Option D)} (hx:S.ev x= .rs β o1 n1 c1) (hy:S.ev y= .rs β o2 n2 c2) (hL:S.obj β= .raw cs none) (hm:m=min n2 n1)
  (hc:X0a ((cs.drop o2).take (m*sz))=true) (h2:o2+m*sz≤cs.length) (h1:o1+m*sz≤cs.length) (hcs:cs.take o1++(cs.drop o2).take (m*sz)++cs.drop (o1+m*sz)=cs')
  (hT:Ui P T sz=true) {d':Option (Nat×AVal)} (hd:X3u S d') (hd':d'=none∨∃t,d'=some (t,ai m)) (hg:XR ops S gd)
  (h:Walk P ops draw K rest ((l.length,⟨d'.map (·.1),.call ⟨.builtin .copy,#[x,y],#[T,T2]⟩,ty,pos,aft,gd⟩,⟨XQ ops gd++[(x,.rs β o1 n1 c1),(y,.rs β o2 n2 c2)],d',[(β,.raw cs none)],[(β,.raw cs' none)],[]⟩)::l)
   ⟨S.n,d'.toList++S.τ,(β,.raw cs' none)::S.L⟩):
  Walk P ops draw K (⟨d'.map (·.1),.call ⟨.builtin .copy,#[x,y],#[T,T2]⟩,ty,pos,aft,gd⟩::rest) l S:=by
 refine Yh ⟨[(x,.rs β o1 n1 c1),(y,.rs β o2 n2 c2)],d',[(β,.raw cs none)],[(β,.raw cs' none)],[]⟩ ?_ hg ⟨⟨hx,hy,trivial⟩,⟨hL,trivial⟩,trivial,hd⟩ h
 intro E S a w g hs hok Q K hK
 obtain⟨ok1,⟨l1,_⟩,_,ok4⟩:=hok
 have hq:=X0M hs _ ok1
 have ho:=hs.1.obj β
 rw[l1] at ho
 have hx':=X1v hq.1
 have hy':=X1v hq.2.1
 obtain⟨vs,r1,r2,r3⟩:=Xbz (P:=P) (q:=m*sz) ho h2
 have hyl:((cs.drop o2).take (m*sz)).length=m*sz:=by rw[List.length_take,List.length_drop];omega
 obtain⟨w',k1,k2⟩:=X8A (P:=P) (o:=o1) (ys:=(cs.drop o2).take (m*sz)) (news:=vs.toArray) hs.1 l1 r2 (Xa1 hc r2) (by rw[hyl];exact h1)
 rw[hyl,hcs] at k2
 have hrun:=X9f (P:=P) (T2:=T2) (ty:=ty) (sz:=sz) (m:=m) (x:= .slice (some ⟨g.blk β,o1,none⟩) n1 c1) (y:= .slice (some ⟨g.blk β,o2,none⟩) n2 c2) (news:=vs.toArray) (w:=w) (w':=w') hT rfl (by simp[Builtin.lenOf]) hm (Xa8 (r3 w rfl)) (by
  simp only[Nat.zero_mul,Addr.add_zero'];exact k1)
 have hrun':(execOp a.eval ⟨d'.map (·.1),.call ⟨.builtin .copy,#[x,y],#[T,T2]⟩,ty,pos,aft,gd⟩).run P w= .ok (.value (.int .i64 m)) w':=by
  simp[execOp,resolve,invoke,builtin,hx',hy',hrun]
 unfold Oper.wp
 rw[hrun',Oper.upon_value]
 rcases hd' with rfl|⟨t,rfl⟩
 ·exact hK _ _ ⟨g,k2,hs.2.1,hs.2.2.1,hs.2.2.2⟩
 ·exact hK _ _ (X1u k2 hs.2.1 hs.2.2.1 hs.2.2.2 (VB rfl) ok4)
theorem XnX {x y:Operand}{T T2:TypeId}{β o1 n1 c1 o2 n2 c2 sz m:Nat}{cs cs':List (Option D)} (hx:S.ev x= .rs β o1 n1 c1) (hy:S.ev y= .rs β o2 n2 c2) (hL:S.obj β= .raw cs none) (hm:m=min n2 n1)
  (hc:X0a ((cs.drop o2).take (m*sz))=true) (h2:o2+m*sz≤cs.length) (h1:o1+m*sz≤cs.length) (hcs:cs.take o1++(cs.drop o2).take (m*sz)++cs.drop (o1+m*sz)=cs')
  (hT:Ui P T sz=true) (hd:Nat.blt d S.n=true) (hg:XR ops S gd)
  (h:Walk P ops draw K rest ((l.length,⟨some d,.call ⟨.builtin .copy,#[x,y],#[T,T2]⟩,ty,pos,aft,gd⟩,⟨XQ ops gd++[(x,.rs β o1 n1 c1),(y,.rs β o2 n2 c2)],some (d,ai m),[(β,.raw cs none)],[(β,.raw cs' none)],[]⟩)::l)
   ⟨S.n,(d,ai m)::S.τ,(β,.raw cs' none)::S.L⟩):
  Walk P ops draw K (⟨some d,.call ⟨.builtin .copy,#[x,y],#[T,T2]⟩,ty,pos,aft,gd⟩::rest) l S:=
 XkV (d':=some (d,ai m)) hx hy hL hm hc h2 h1 hcs hT hd (.inr ⟨d,rfl⟩) hg h
theorem Xlb {x y:Operand}{yv:AVal}{T T2:TypeId}{β o1 n1 c1 sz m:Nat}{ys:List (List D)}{cs cs':List (Option D)} (hx:S.ev x= .rs β o1 n1 c1) (hL:S.obj β= .raw cs none) (hy:S.ev y=yv) (hsrc:SrcV P yv sz ys) (hm:m=min ys.length n1)
  (h1:o1+m*sz≤cs.length) (hcs:cs.take o1++(ys.take m).flatten.map some++cs.drop (o1+m*sz)=cs')
  (hT:Ui P T sz=true) {d':Option (Nat×AVal)} (hd:X3u S d') (hd':d'=none∨∃t,d'=some (t,ai m)) (hg:XR ops S gd)
  (h:Walk P ops draw K rest ((l.length,⟨d'.map (·.1),.call ⟨.builtin .copy,#[x,y],#[T,T2]⟩,ty,pos,aft,gd⟩,⟨XQ ops gd++[(x,.rs β o1 n1 c1),(y,yv)],d',[(β,.raw cs none)],[(β,.raw cs' none)],[]⟩)::l)
   ⟨S.n,d'.toList++S.τ,(β,.raw cs' none)::S.L⟩):
  Walk P ops draw K (⟨d'.map (·.1),.call ⟨.builtin .copy,#[x,y],#[T,T2]⟩,ty,pos,aft,gd⟩::rest) l S:=by
 refine Yh ⟨[(x,.rs β o1 n1 c1),(y,yv)],d',[(β,.raw cs none)],[(β,.raw cs' none)],[]⟩ ?_ hg ⟨⟨hx,hy,trivial⟩,⟨hL,trivial⟩,trivial,hd⟩ h
 intro E S a w g hs hok Q K hK
 obtain⟨ok1,⟨l1,_⟩,_,ok4⟩:=hok
 have hq:=X0M hs _ ok1
 have hx':=X1v hq.1
 obtain⟨news,n1',n2',n3',n4',n5'⟩:=hsrc.src E _ g w _ hs.1 hq.2.1 m (by omega)
 have hyl:((ys.take m).flatten.map some).length=m*sz:=by
  have:=Ue n3'
  rw[List.length_map] at this ⊢
  rw[←this,Array.length_toList,n2']
 have n3:XB g (((ys.take m).flatten.map some).map oA) news.toList:=by rw[List.map_map];exact n3'
 have hone:∀u∈news.toList,u.oneCell'=true:=by
  refine Xfj n3' ((X33 _).2 fun c hc=> ?_)
  obtain⟨y,_,rfl⟩:=List.mem_map.1 hc
  rfl
 obtain⟨w',k1,k2⟩:=X8A (P:=P) (o:=o1) (ys:=(ys.take m).flatten.map some) (news:=news) hs.1 l1 n3 hone (by rw[hyl];exact h1)
 rw[hyl,hcs] at k2
 have hrun:=X9f (P:=P) (T2:=T2) (ty:=ty) (sz:=sz) (m:=m) (x:= .slice (some ⟨g.blk β,o1,none⟩) n1 c1) (y:=a.eval y) (news:=news) (w:=w) (w':=w') hT rfl n4' hm n1' (by
  simp only[Nat.zero_mul,Addr.add_zero'];exact k1)
 have hrun':(execOp a.eval ⟨d'.map (·.1),.call ⟨.builtin .copy,#[x,y],#[T,T2]⟩,ty,pos,aft,gd⟩).run P w= .ok (.value (.int .i64 m)) w':=by
  simp[execOp,resolve,invoke,builtin,hx',hrun]
 unfold Oper.wp
 rw[hrun',Oper.upon_value]
 rcases hd' with rfl|⟨t,rfl⟩
 ·exact hK _ _ ⟨g,k2,hs.2.1,hs.2.2.1,hs.2.2.2⟩
 ·exact hK _ _ (X1u k2 hs.2.1 hs.2.2.1 hs.2.2.2 (VB rfl) ok4)
theorem XmH {x y:Operand}{yv:AVal}{T T2:TypeId}{β o1 n1 c1 sz m:Nat}{ys:List (List D)}{cs cs':List (Option D)} (hx:S.ev x= .rs β o1 n1 c1) (hL:S.obj β= .raw cs none) (hy:S.ev y=yv) (hsrc:SrcV P yv sz ys) (hm:m=min ys.length n1)
  (h1:o1+m*sz≤cs.length) (hcs:cs.take o1++(ys.take m).flatten.map some++cs.drop (o1+m*sz)=cs')
  (hT:Ui P T sz=true) (hd:Nat.blt d S.n=true) (hg:XR ops S gd)
  (h:Walk P ops draw K rest ((l.length,⟨some d,.call ⟨.builtin .copy,#[x,y],#[T,T2]⟩,ty,pos,aft,gd⟩,⟨XQ ops gd++[(x,.rs β o1 n1 c1),(y,yv)],some (d,ai m),[(β,.raw cs none)],[(β,.raw cs' none)],[]⟩)::l)
   ⟨S.n,(d,ai m)::S.τ,(β,.raw cs' none)::S.L⟩):
  Walk P ops draw K (⟨some d,.call ⟨.builtin .copy,#[x,y],#[T,T2]⟩,ty,pos,aft,gd⟩::rest) l S:=
 Xlb (d':=some (d,ai m)) hx hL hy hsrc hm h1 hcs hT hd (.inr ⟨d,rfl⟩) hg h
theorem XlJ {w:World}{p:Addr}{n c sz:Nat}{vs:List Value} (hl:vs.length=n*sz) (h:∀w',w'.heap=w.heap→(loadCells p (n*sz)).run P w'= .ok vs.toArray w'):Src P w sz (.slice (some p) n c) n vs.toArray:=
 ⟨fun w' hw'=>⟨by simp[Builtin.lenOf],Xa8 (h w' hw')⟩,by simpa using hl⟩
theorem Xqp {x y:Operand}{T T2:TypeId}{β o1 n1 c1 o2 n2 c2 sz bytes n':Nat}{cs cs':List (Option D)} (hx:S.ev x= .rs β o1 n1 c1) (hy:S.ev y= .rs β o2 n2 c2) (hL:S.obj β= .raw cs none) (hroom:n1+n2≤c1) (hn':n1+n2=n')
  (hc:X0a ((cs.drop o2).take (n2*sz))=true) (h2:o2+n2*sz≤cs.length) (h1:o1+n1*sz+n2*sz≤cs.length) (hcs:cs.take (o1+n1*sz)++(cs.drop o2).take (n2*sz)++cs.drop (o1+n1*sz+n2*sz)=cs')
  (hB:elB P T=bytes) (hT:X0K P T sz bytes=true) (hT2:X2U P T2=true) (hd:Nat.blt d S.n=true) (hg:XR ops S gd)
  (h:Walk P ops draw K rest ((l.length,⟨some d,.call ⟨.builtin .append,#[x,y],#[T,T2]⟩,ty,pos,aft,gd⟩,⟨XQ ops gd++[(x,.rs β o1 n1 c1),(y,.rs β o2 n2 c2)],some (d,.rs β o1 n' c1),[(β,.raw cs none)],[(β,.raw cs' none)],[]⟩)::l)
   ((S.set d (.rs β o1 n' c1)).own β (.raw cs' none))):
  Walk P ops draw K (⟨some d,.call ⟨.builtin .append,#[x,y],#[T,T2]⟩,ty,pos,aft,gd⟩::rest) l S:=by
 refine Yh ⟨[(x,.rs β o1 n1 c1),(y,.rs β o2 n2 c2)],some (d,.rs β o1 n' c1),[(β,.raw cs none)],[(β,.raw cs' none)],[]⟩ (X1c rfl fun E S g a w hs hq hl hnw=> ?_) hg ⟨⟨hx,hy,trivial⟩,⟨hL,trivial⟩,trivial,hd⟩ h
 obtain⟨e,i,z,hu,hi,hsz,hbt,hz,hzs,hz1⟩:=X4W hT
 have ho:=hs.1.obj β
 rw[hl.1] at ho
 have hx':=X1v hq.1
 have hy':=X1v hq.2.1
 obtain⟨vs,r1,r2,r3⟩:=Xbz (P:=P) (q:=n2*sz) ho h2
 have hyl:((cs.drop o2).take (n2*sz)).length=n2*sz:=by rw[List.length_take,List.length_drop];omega
 obtain⟨w',k1,k2⟩:=X8A (P:=P) (o:=o1+n1*sz) (ys:=(cs.drop o2).take (n2*sz)) (news:=vs.toArray) hs.1 hl.1 r2 (Xa1 hc r2) (by rw[hyl];exact h1)
 rw[hyl,hcs] at k2
 have hr:=X70 (P:=P) (w:=w) (T:=T) (T2:=T2) (ty:=ty) (base:=some ⟨g.blk β,o1,none⟩) (n:=n1) (cap:=c1) (x:= .slice (some ⟨g.blk β,o2,none⟩) n2 c2) (news:=vs.toArray) (m:=n2) hu hi (X9K hT2) (by rw[hsz];exact XlJ r1 r3) hroom
 simp only at hr
 rw[hsz,Uw,k1,Result.andThen_ok,hn'] at hr
 exact⟨_,g,w',X65 rfl (by rw[hx',hy'];exact hr),by simp only[AVal.sat],k2,hs.2.2.2⟩
end
end Go.Fw

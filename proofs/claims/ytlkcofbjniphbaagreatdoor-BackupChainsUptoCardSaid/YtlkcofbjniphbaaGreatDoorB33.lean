/- The step, all of it. -/
import Derived.KernelRfl
import Derived.Test.YtlkcofbjniphbaaGreatDoorB28
import Derived.Test.YtlkcofbjniphbaaGreatDoorB32
set_option maxHeartbeats 32000000
namespace Go.Fw
open Go Go.Proofs
set_option linter.unusedVariables false
set_option linter.unusedSimpArgs false
theorem X73 (l:List Nod) (n:Int):XO Nod.id l n=(V8 l n).isSome:=by
 unfold XO V8;rw[Bool.eq_iff_iff,List.any_eq_true,List.find?_isSome]
theorem Xas (l:List Edg) (n:Int):XO Edg.id l n=(VJ l n).isSome:=by
 unfold XO VJ;rw[Bool.eq_iff_iff,List.any_eq_true,List.find?_isSome]
section
variable (g:Gra) (c:Chg)
theorem XeN (hg:GV g) (hc:YJ c=0) (ho:c.op≤5):
  ((VA g c).2=0∧Con Tryz.prog 121 (edS g) [.ptr 0 0,Xx c] (edN (VA g c).1) (.tup []))∨((VA g c).2≠0∧V7 Tryz.prog 121 (edS g) [.ptr 0 0,Xx c] (Vx (VA g c).2)):=by
 obtain⟨⟨o1,o8⟩,hid,-,-⟩:=X7g hc
 by_cases h1:c.op=1
 ·have e:VA g c=if XO Nod.id g.nodes c.id=true then (YL,7) else if 2000≤g.nodes.length then (YL,20) else (VC g ⟨c.id,[],[]⟩,0):=by unfold VA;rw[if_pos h1]
  rw[e]
  by_cases q1:XO Nod.id g.nodes c.id=true
  ·rw[if_pos q1];exact .inr ⟨by simp,Xjt g c hg h1 q1⟩
  ·rw[if_neg q1]
   have q1:XO Nod.id g.nodes c.id=false:=by simpa using q1
   by_cases q2:2000≤g.nodes.length
   ·rw[if_pos q2];exact .inr ⟨by simp,Xja g c hg h1 q1 (by omega)⟩
   ·rw[if_neg q2];exact .inl ⟨rfl,XmO g c hg hid h1 q1 (by omega)⟩
 have e:VA g c=match V8 g.nodes c.id with|none=>(YL,10)|some n=>X2Y g c n:=by unfold VA;rw[if_neg h1,if_neg (by omega),if_neg (by omega)];rfl
 rw[e]
 cases hn:V8 g.nodes c.id with
 |none=>exact .inr ⟨by simp,XlU g c hg h1 (by rw[X73,hn];rfl)⟩
 |some x=>
  simp only
  have q0:XO Nod.id g.nodes c.id=true:=by rw[X73,hn];rfl
  unfold X2Y
  by_cases h2:c.op=2
  ·rw[if_pos h2]
   by_cases q2:X0p g.edges c.id=true
   ·rw[if_pos q2];exact .inr ⟨by simp,Xoa g c hg h2 q0 q2⟩
   ·rw[if_neg q2];exact .inl ⟨rfl,XoJ g c hg h2 q0 (by simpa using q2)⟩
  rw[if_neg h2]
  by_cases h3:c.op=3
  ·rw[if_pos h3]
   by_cases q1:XO Y7 x.labels c.name=true
   ·rw[if_pos q1];exact .inr ⟨by simp,Xpr g c x hg h3 hn q1⟩
   ·rw[if_neg q1]
    have q1:XO Y7 x.labels c.name=false:=by simpa using q1
    by_cases q2:8≤x.labels.length
    ·rw[if_pos q2];exact .inr ⟨by simp,XnG g c x hg h3 hn q1 (by omega)⟩
    ·rw[if_neg q2];exact .inl ⟨rfl,XqS g c x hg h3 hn q1 (by omega)⟩
  rw[if_neg h3]
  by_cases h4:c.op=4
  ·rw[if_pos h4]
   by_cases q1:XO Y7 x.labels c.name=false
   ·rw[if_pos q1];exact .inr ⟨by simp,Xke g c x hg h4 hn q1⟩
   ·rw[if_neg q1];exact .inl ⟨rfl,XrW g c x hg h4 hn (by simpa using q1)⟩
  rw[if_neg h4]
  have h5:c.op=5:=by omega
  by_cases q1:16<(YI x.props c.name c.v).length
  ·rw[if_pos q1];exact .inr ⟨by simp,Xp1 g c x hg h5 hn (by omega)⟩
  ·rw[if_neg q1];exact .inl ⟨rfl,Xq4 g c x hg h5 hn (by omega)⟩
theorem Xj5 (hg:GV g) (hc:YJ c=0) (ho:¬c.op≤5):
  ((VA g c).2=0∧Con Tryz.prog 122 (edS g) [.ptr 0 0,Xx c] (edE (VA g c).1) (.tup []))∨((VA g c).2≠0∧V7 Tryz.prog 122 (edS g) [.ptr 0 0,Xx c] (Vx (VA g c).2)):=by
 obtain⟨⟨o1,o8⟩,hid,-,-⟩:=X7g hc
 by_cases h6:c.op=6
 ·have e:VA g c=if XO Edg.id g.edges c.id=true then (YL,7) else if XO Nod.id g.nodes c.src=false∨XO Nod.id g.nodes c.dst=false then (YL,10) else if 4000≤g.edges.length then (YL,20) else (X0T g ⟨c.id,c.src,c.dst,c.name,[]⟩,0):=by unfold VA;rw[if_neg (by omega),if_pos h6]
  rw[e]
  by_cases q1:XO Edg.id g.edges c.id=true
  ·rw[if_pos q1];exact .inr ⟨by simp,XnI g c hg h6 q1⟩
  rw[if_neg q1]
  have q1:XO Edg.id g.edges c.id=false:=by simpa using q1
  cases qs:XO Nod.id g.nodes c.src with
  |false=>rw[if_pos (.inl rfl)];exact .inr ⟨by simp,XoZ g c hg h6 q1 qs⟩
  |true=>
   cases qd:XO Nod.id g.nodes c.dst with
   |false=>rw[if_pos (.inr rfl)];exact .inr ⟨by simp,XkL g c hg h6 q1 qs qd⟩
   |true=>
    rw[if_neg (by simp)]
    by_cases q2:4000≤g.edges.length
    ·rw[if_pos q2];exact .inr ⟨by simp,XqG g c hg h6 q1 qs qd (by omega)⟩
    ·rw[if_neg q2];exact .inl ⟨rfl,Xlq g c hg hid h6 q1 qs qd (by omega)⟩
 have h78:c.op=7∨c.op=8:=by omega
 have e:VA g c=match VJ g.edges c.id with|none=>(YL,11)|some n=>X2X g c n:=by unfold VA;rw[if_neg (by omega),if_neg h6,if_pos h78];rfl
 rw[e]
 cases hn:VJ g.edges c.id with
 |none=>
  have q1:XO Edg.id g.edges c.id=false:=by rw[Xas,hn];rfl
  rcases h78 with h|h
  ·exact .inr ⟨by simp,Xmi g c hg h q1⟩
  ·exact .inr ⟨by simp,Xrp g c hg h q1⟩
 |some x=>
  simp only
  have q0:XO Edg.id g.edges c.id=true:=by rw[Xas,hn];rfl
  unfold X2X
  by_cases h8:c.op=8
  ·rw[if_pos h8]
   by_cases q1:16<(YI x.props c.name c.v).length
   ·rw[if_pos q1];exact .inr ⟨by simp,Xn0 g c x hg h8 hn (by omega)⟩
   ·rw[if_neg q1];exact .inl ⟨rfl,XlY g c x hg h8 hn (by omega)⟩
  ·rw[if_neg h8]
   exact .inl ⟨rfl,XlS g c hg (by omega) q0⟩
theorem Xkc (hg:GV g) (ho:c.op≤5) (h:(YD g c).2=0):Con Tryz.prog 73 (edS g) [.ptr 0 0,Xx c] (edN (YD g c).1) (ai 0):=by
 by_cases hc:YJ c=0
 ·have e:YD g c=VA g c:=by unfold YD;rw[if_neg (by simp[hc])]
  rw[e] at h ⊢
  rcases XeN g c hg hc ho with ⟨-,k⟩|⟨k,-⟩
  ·exact XoF g _ c hc ho k
  ·exact absurd h k
 ·unfold YD at h;rw[if_pos hc] at h;exact absurd h hc
theorem Xka (hg:GV g) (ho:¬c.op≤5) (h:(YD g c).2=0):Con Tryz.prog 73 (edS g) [.ptr 0 0,Xx c] (edE (YD g c).1) (ai 0):=by
 by_cases hc:YJ c=0
 ·have e:YD g c=VA g c:=by unfold YD;rw[if_neg (by simp[hc])]
  rw[e] at h ⊢
  rcases Xj5 g c hg hc ho with ⟨-,k⟩|⟨k,-⟩
  ·exact XrN g _ c hc ho k
  ·exact absurd h k
 ·unfold YD at h;rw[if_pos hc] at h;exact absurd h hc
theorem Xpq (hg:GV g) (h:(YD g c).2≠0):Con Tryz.prog 73 (edS g) [.ptr 0 0,Xx c] edD (ai (YD g c).2):=by
 by_cases hc:YJ c=0
 ·have e:YD g c=VA g c:=by unfold YD;rw[if_neg (by simp[hc])]
  rw[e] at h ⊢
  by_cases ho:c.op≤5
  ·rcases XeN g c hg hc ho with ⟨k,-⟩|⟨-,k⟩
   ·exact absurd k h
   ·exact Xmw g c hc ho _ k
  ·rcases Xj5 g c hg hc ho with ⟨k,-⟩|⟨-,k⟩
   ·exact absurd k h
   ·exact XpU g c hc ho _ k
 ·have e:YD g c=(YL,YJ c):=by unfold YD;rw[if_pos hc]
  rw[e];exact Xk7 g c hc
end
set_option maxRecDepth 100000
theorem XpR (γ:Nat) (xs:List (List D)) (hl:xs.length≤100000):Con Tryz.prog 116 [] [.d (.sl 3 xs)] [(swp 100 γ 100,.row 3 xs)] (.own (swp 100 γ 100) xs.length):=by
 have h:Con Tryz.prog 116 [] [.d (.sl 3 xs)] [(100,.row 3 xs)] (.own 100 xs.length):=by
  refine Xg (xs:=[.own 100 xs.length]) Tryz.func116 rfl Tryz.ntmps116 rfl rfl rfl (fun E=> ?_)
  refine Xj ?_
  refine X6e rfl (fun h=> ?_) (fun _=> ?_)
  ·subst h
   refine W4_ ?_;refine X1 ?_;exact⟨_,V3 2 100 3 rfl rfl rfl,⟨rfl,trivial⟩,Xn ⟨rfl,trivial⟩⟩
  ·refine W8_ ?_;refine X1 ?_
   refine⟨_,St.le_refl _,⟨?_,trivial⟩,Xn ⟨rfl,trivial⟩⟩
   simp only[X5A];simp[St.get,St.set,St.own,Xo]
 exact U0 100 γ h
theorem XmX (γ:Nat) (xs:List (List D)) (hl:xs.length≤100000):Con Tryz.prog 119 [] [.d (.sl 5 xs)] [(swp 100 γ 100,.row 5 xs)] (.own (swp 100 γ 100) xs.length):=by
 have h:Con Tryz.prog 119 [] [.d (.sl 5 xs)] [(100,.row 5 xs)] (.own 100 xs.length):=by
  refine Xg (xs:=[.own 100 xs.length]) Tryz.func119 rfl Tryz.ntmps119 rfl rfl rfl (fun E=> ?_)
  refine Xj ?_
  refine X6e rfl (fun h=> ?_) (fun _=> ?_)
  ·subst h
   refine W4_ ?_;refine X1 ?_;exact⟨_,V3 2 100 5 rfl rfl rfl,⟨rfl,trivial⟩,Xn ⟨rfl,trivial⟩⟩
  ·refine W8_ ?_;refine X1 ?_
   refine⟨_,St.le_refl _,⟨?_,trivial⟩,Xn ⟨rfl,trivial⟩⟩
   simp only[X5A];simp[St.get,St.set,St.own,Xo]
 exact U0 100 γ h
theorem Xkp (γ:Nat) (xs:List (List D)) (hl:xs.length≤100000):Con Tryz.prog 117 [] [.d (.sl 1 xs)] [(swp 100 γ 100,.row 1 xs)] (.own (swp 100 γ 100) xs.length):=by
 have h:Con Tryz.prog 117 [] [.d (.sl 1 xs)] [(100,.row 1 xs)] (.own 100 xs.length):=by
  refine Xg (xs:=[.own 100 xs.length]) Tryz.func117 rfl Tryz.ntmps117 rfl rfl rfl (fun E=> ?_)
  refine Xj ?_
  refine X6e rfl (fun h=> ?_) (fun _=> ?_)
  ·subst h
   refine W4_ ?_;refine X1 ?_;exact⟨_,V3 2 100 1 rfl rfl rfl,⟨rfl,trivial⟩,Xn ⟨rfl,trivial⟩⟩
  ·refine W8_ ?_;refine X1 ?_
   refine⟨_,St.le_refl _,⟨?_,trivial⟩,Xn ⟨rfl,trivial⟩⟩
   simp only[X5A];simp[St.get,St.set,St.own,Xo]
 exact U0 100 γ h
theorem Xdz (γ:Nat) (xs:List (List D)) (hl:xs.length≤100000):Con Tryz.prog 118 [] [.d (.sl 6 xs)] [(swp 100 γ 100,.row 6 xs)] (.own (swp 100 γ 100) xs.length):=by
 have h:Con Tryz.prog 118 [] [.d (.sl 6 xs)] [(100,.row 6 xs)] (.own 100 xs.length):=by
  refine Xg (xs:=[.own 100 xs.length]) Tryz.func118 rfl Tryz.ntmps118 rfl rfl rfl (fun E=> ?_)
  refine Xj ?_
  refine X6e rfl (fun h=> ?_) (fun _=> ?_)
  ·subst h
   refine W4_ ?_;refine X1 ?_;exact⟨_,V3 2 100 6 rfl rfl rfl,⟨rfl,trivial⟩,Xn ⟨rfl,trivial⟩⟩
  ·refine W8_ ?_;refine X1 ?_
   refine⟨_,St.le_refl _,⟨?_,trivial⟩,Xn ⟨rfl,trivial⟩⟩
   simp only[X5A];simp[St.get,St.set,St.own,Xo]
 exact U0 100 γ h
theorem XaI {sz o q:Nat}{d:D}{R:List (List D)}{r:List D} (T:List (Option D)) (hz:∀x∈R,x.length=sz) (hq:R[q]? =some r) (ho:o<r.length):
  (R.flatten.map some++T).set (q*sz+o) (some d)=(R.set q (r.set o d)).flatten.map some++T:=by
 have hr:r.length=sz:=hz r (List.mem_of_getElem? hq)
 have h:=X7R hz hq (List.getElem?_eq_getElem ho)
 have hl:q*sz+o<R.flatten.length:=(List.getElem?_eq_some_iff.1 h).1
 rw[X9S (i:=0) hz hq (by omega),List.map_set,List.set_append_left _ _ (by rw[List.length_map];exact hl)]
theorem X9u {sz q:Nat}{R:List (List D)}{r:List D} (T:List (Option D)) (hz:∀x∈R,x.length=sz) (hq:R[q]? =some r):((Y6 (R.flatten.map some++T) none).drop (0+q*sz)).take sz=r.map .d:=by
 rw[Nat.zero_add]
 have hr:r.length=sz:=hz r (List.mem_of_getElem? hq)
 have hq':=(List.getElem?_eq_some_iff.1 hq).1
 have e1:=X77 hq
 have hl:(R.take q).flatten.length=q*sz:=by
  have h:=Uq (fun x hx=>hz x (List.mem_of_mem_take (i:=q) hx))
  rw[List.length_take,Nat.min_eq_left (by omega)] at h
  exact Eq.trans (by rw[←List.length_map (f:=some)]) h
 conv=>lhs;rw[e1]
 simp only[Y6,List.map_append,List.flatten_append,List.flatten_cons,List.append_assoc]
 rw[List.drop_left' (by rw[List.length_map,List.length_map];exact hl),List.take_left' (by rw[List.length_map,List.length_map];exact hr),List.map_map]
 rfl
theorem XbA {C:List (Option D)}{j:Nat}{z:AVal} (h:j<C.length):Y6 C (some (j,z))=(Y6 C none).take j++[z]++(Y6 C none).drop (j+1):=by
 simp only[Y6]
 exact X7d (by rw[List.length_map];exact h)
def X0E (ns:List Nod) (ys:List XN):List (List D):=(ys.map rXN).map cRN++(ns.drop ys.length).map Xp
theorem XqE (ns:List Nod) (ys:List XN):∀x∈X0E ns ys,x.length=3:=by
 intro x hx
 rcases List.mem_append.1 hx with h|h
 ·obtain⟨p,_,rfl⟩:=List.mem_map.1 h;rfl
 ·obtain⟨p,_,rfl⟩:=List.mem_map.1 h;rfl
theorem Xnx {ns:List Nod}{ys:List XN} (h:ys.length≤ns.length):(X0E ns ys).length=ns.length:=by
 unfold X0E
 rw[List.length_append,List.length_map,List.length_map,List.length_map,List.length_drop];omega
theorem Xqc {ns:List Nod}{ys:List XN}{n:Nod} (h:ns[ys.length]? =some n):(X0E ns ys)[ys.length]? =some (Xp n):=by
 unfold X0E
 rw[List.getElem?_append_right (by rw[List.length_map,List.length_map];exact Nat.le_refl _),List.length_map,List.length_map,Nat.sub_self,List.getElem?_map,List.getElem?_drop,Nat.add_zero,h];rfl
theorem XnB {ns:List Nod}{ys:List XN}{n:Nod}{u:Value}{v:Value} (h:ns[ys.length]? =some n):(X0E ns ys).set ys.length (cRN (rXN (n,u,v)))=X0E ns (ys++[(n,u,v)]):=by
 unfold X0E
 have hlt:=(List.getElem?_eq_some_iff.1 h).1
 have hd:ns.drop ys.length=n::ns.drop (ys.length+1):=by
  have:=List.drop_eq_getElem_cons hlt
  rw[List.getElem?_eq_getElem hlt] at h
  rw[this];congr 1;simpa using h
 rw[List.set_append_right _ _ (by rw[List.length_map,List.length_map];exact Nat.le_refl _),List.length_map,List.length_map,Nat.sub_self,hd,List.map_cons,List.set_cons_zero,List.map_append,List.map_append,List.append_assoc,List.length_append,List.length_singleton]
 rfl
theorem XjY (ns:List Nod):X0E ns []=ns.map Xp:=by simp[X0E]
theorem Xor {ns:List Nod}{ys:List XN} (h:ns.length≤ys.length):X0E ns ys=(ys.map rXN).map cRN:=by
 unfold X0E;rw[List.drop_eq_nil_of_le h];simp
theorem Xoz {ns:List Nod}{ys:List XN}{n:Nod}{u:Value}{v:Value} (hy:ys.map (·.1)=ns.take ys.length) (h:ns[ys.length]? =some n):(ys++[((n,u,v):XN)]).map (·.1)=ns.take (ys++[((n,u,v):XN)]).length:=by
 have hlt:=(List.getElem?_eq_some_iff.1 h).1
 rw[List.map_append,hy,List.length_append,List.length_singleton,List.take_add_one,h];rfl
def X0L (ns:List Edg) (ys:List XE):List (List D):=(ys.map rXE).map cRE++(ns.drop ys.length).map Xs
theorem Xm6 (ns:List Edg) (ys:List XE):∀x∈X0L ns ys,x.length=5:=by
 intro x hx
 rcases List.mem_append.1 hx with h|h
 ·obtain⟨p,_,rfl⟩:=List.mem_map.1 h;rfl
 ·obtain⟨p,_,rfl⟩:=List.mem_map.1 h;rfl
theorem XrL {ns:List Edg}{ys:List XE} (h:ys.length≤ns.length):(X0L ns ys).length=ns.length:=by
 unfold X0L
 rw[List.length_append,List.length_map,List.length_map,List.length_map,List.length_drop];omega
theorem XrR {ns:List Edg}{ys:List XE}{n:Edg} (h:ns[ys.length]? =some n):(X0L ns ys)[ys.length]? =some (Xs n):=by
 unfold X0L
 rw[List.getElem?_append_right (by rw[List.length_map,List.length_map];exact Nat.le_refl _),List.length_map,List.length_map,Nat.sub_self,List.getElem?_map,List.getElem?_drop,Nat.add_zero,h];rfl
theorem XmY {ns:List Edg}{ys:List XE}{n:Edg}{u:Value} (h:ns[ys.length]? =some n):(X0L ns ys).set ys.length (cRE (rXE (n,u)))=X0L ns (ys++[(n,u)]):=by
 unfold X0L
 have hlt:=(List.getElem?_eq_some_iff.1 h).1
 have hd:ns.drop ys.length=n::ns.drop (ys.length+1):=by
  have:=List.drop_eq_getElem_cons hlt
  rw[List.getElem?_eq_getElem hlt] at h
  rw[this];congr 1;simpa using h
 rw[List.set_append_right _ _ (by rw[List.length_map,List.length_map];exact Nat.le_refl _),List.length_map,List.length_map,Nat.sub_self,hd,List.map_cons,List.set_cons_zero,List.map_append,List.map_append,List.append_assoc,List.length_append,List.length_singleton]
 rfl
theorem Xn6 (ns:List Edg):X0L ns []=ns.map Xs:=by simp[X0L]
theorem Xki {ns:List Edg}{ys:List XE} (h:ns.length≤ys.length):X0L ns ys=(ys.map rXE).map cRE:=by
 unfold X0L;rw[List.drop_eq_nil_of_le h];simp
theorem Xl0 {ns:List Edg}{ys:List XE}{n:Edg}{u:Value} (hy:ys.map (·.1)=ns.take ys.length) (h:ns[ys.length]? =some n):(ys++[((n,u):XE)]).map (·.1)=ns.take (ys++[((n,u):XE)]).length:=by
 have hlt:=(List.getElem?_eq_some_iff.1 h).1
 rw[List.map_append,hy,List.length_append,List.length_singleton,List.take_add_one,h];rfl
section
variable {P:Program}{E:Env}{S:St}{Q:Exit→St→Prop}
theorem XiZ {x y z:Code}{Q' Q'':Exit→St→Prop} (U:St) (h:AWP P E x S (X2j (fun T=>AWP P E y T (X2j (fun T=>T.le U) Q'')) Q')) (k:AWP P E z U Q):AWP P E x S (X2j (fun T=>AWP P E y T (X2j (fun T=>AWP P E z T Q) Q'')) Q'):=
 X7M h fun e T hq=>by
  cases e with
  |normal=>exact X2h U hq k
  |_=>exact hq
end
theorem X5N {sz k:Nat}{R:List (List D)} (hz:∀x∈R,x.length=sz):(R.flatten.map some++List.replicate k (none:Option D)).take (R.length*sz)=R.flatten.map some:=by
 rw[List.take_left' (by rw[List.length_map];exact X0A R hz)]
theorem XjB {R:List (List D)}{i k:Nat}{a b c u v:D} (T:List (Option D)) (hz:∀x∈R,x.length=3) (hi:R[i]? =some [a,b,c]):
  ((R.flatten.map some++T).set (i*3+1) (some u)).set (i*3+2) (some v)=(R.set i [a,u,v]).flatten.map some++T:=by
 have hlt:=(List.getElem?_eq_some_iff.1 hi).1
 rw[XaI T hz hi (by simp)]
 have hz':∀x∈R.set i [a,u,c],x.length=3:=fun x hx=>by
  rcases List.mem_or_eq_of_mem_set hx with h|rfl
  ·exact hz x h
  ·rfl
 have hi':(R.set i [a,u,c])[i]? =some [a,u,c]:=by rw[List.getElem?_set_self hlt]
 have e:=XaI (o:=2) (d:=v) T hz' hi' (by simp)
 simp only[List.set_cons_succ,List.set_cons_zero] at e ⊢
 rw[e,List.set_set]
theorem Xm5 (g:Gra) (hg:GV g):Con Tryz.prog 72 [] [XG g] [(110,.nest 3 (g.nodes.map cNN)),(111,.nest 5 (g.edges.map cNE))] (.agg [.own 110 g.nodes.length,.own 111 g.edges.length,ai g.nn,ai g.ne]):=by
 obtain⟨ns,es,nn,ne⟩:=g
 have hnl:=hg.nl
 have hel:=hg.el
 have hnp:∀n∈ns,n.labels.length≤8∧n.props.length≤16:=fun n hn=>⟨((hg.nodes n hn).2.2).ll,((hg.nodes n hn).2.2).pl⟩
 have hep:∀n∈es,n.props.length≤16:=fun n hn=>((hg.edges n hn).2.2.2.2.2).pl
 simp only at hnl hel
 clear hg
 refine Xg (xs:=[.agg [.own 110 ns.length,.own 111 es.length,ai nn,ai ne]]) Tryz.func72 rfl Tryz.ntmps72 rfl rfl rfl (fun E=> ?_)
 have hcn:=XpR 110 (ns.map Xp) (by rw[List.length_map];omega)
 have hce:=XmX 111 (es.map Xs) (by rw[List.length_map];omega)
 have hnL:(ns.map Xp).length=ns.length:=by simp
 have heL:(es.map Xs).length=es.length:=by simp
 rw[hnL] at hcn
 rw[heL] at hce
 have hcn:Con Tryz.prog 116 [] [.d (.sl 3 (ns.map Xp))] [(110,.row 3 (ns.map Xp))] (.own 110 ns.length):=hcn
 have hce:Con Tryz.prog 119 [] [.d (.sl 5 (es.map Xs))] [(111,.row 5 (es.map Xs))] (.own 111 es.length):=hce
 unfold XG
 simp only
 have hnL':ns.length=(ns.map Xp).length:=hnL.symm
 have heL':es.length=(es.map Xs).length:=heL.symm
 refine XA ?_;refine Z3 (hcon:=hcn) ?_;refine W5_ ?_
 refine XiZ ⟨60,[(1,.ptr 100 0),(2,.ptr 101 0),(3,.ptr 102 0)],[(100,.box [.d (.sl 3 (ns.map Xp)),.d (.sl 5 (es.map Xs)),ai nn,ai ne]),(101,.box [ani,ani,ai 0,ai 0]),(102,.box [.own 110 ns.length,.d (.sl 5 (es.map Xs)),ai nn,ai ne]),(110,.nest 3 (ns.map cNN))]⟩ ?_ ?_
 ·by_cases h0:ns=[]
  ·subst h0
   refine W7_ ?_;refine XK (fun _:Unit=>True) (fun _=>⟨60,[(1,.ptr 100 0),(2,.ptr 101 0),(3,.ptr 102 0),(15,ai (([]:List D).length:Nat)),(16,ai 0)],[(100,.box [.d (.sl 3 []),.d (.sl 5 (es.map Xs)),ai nn,ai ne]),(101,.box [ani,ani,ai 0,ai 0]),(102,.box [.own 110 0,.d (.sl 5 (es.map Xs)),ai nn,ai ne]),(110,.row 3 [])]⟩) (fun _=>0) () trivial (Xd rfl JM ⟨rfl,rfl,rfl,rfl,trivial⟩) ?_
   intro _ _
   have hn:¬(0:Int)<(([]:List D).length:Nat):=by simp
   refine QFg ?_;refine St.le_trans (X7t 210 rfl) ?_;refine St.le_trans (X32 110 210 [] rfl rfl) ?_;exact Qbh
  have hpos:0<(ns.map Xp).length:=by rw[hnL];exact List.length_pos_iff.2 h0
  refine X25 102 0 110 120 rfl hpos rfl rfl hnL' rfl rfl (fun cp k hc1 hc2 hc3 _=> ?_)
  rw[hnL] at hc1 hc3
  have hb0:(ns.map Xp).flatten.map some++List.replicate k none=(X0E ns []).flatten.map some++List.replicate k none:=by rw[XjY]
  rw[hb0]
  refine Xq (X7t 210 rfl) ?_
  clear hel hep heL heL' hpos hb0 h0 hnL hnL' hcn hce
  refine W3_ ?_;refine Qrg ?_;refine W3_ ?_
  refine XK (ι:=List XN) (fun ys=>ys.map (·.1)=ns.take ys.length∧ys.length≤ns.length) (fun ys=>⟨60,[(1,.ptr 100 0),(2,.ptr 101 0),(3,.ptr 102 0),(14,.rs 120 0 ns.length cp),(15,ai ns.length),(16,ai ys.length)],[(100,.box [.d (.sl 3 (ns.map Xp)),.d (.sl 5 (es.map Xs)),ai nn,ai ne]),(101,.box [ani,ani,ai 0,ai 0]),(102,.box [.rs 120 0 ns.length cp,.d (.sl 5 (es.map Xs)),ai nn,ai ne]),(120,.raw ((X0E ns ys).flatten.map some++List.replicate k none) none),(210,.bag (Y0 ys))]⟩) (fun ys=>ns.length-ys.length) [] ⟨rfl,Nat.zero_le _⟩ (Xd rfl JM ⟨rfl,rfl,rfl,rfl,rfl,trivial⟩) ?_
  rintro ys ⟨hy,hyl⟩
  by_cases hil:ys.length<ns.length
  case neg=>
   have hn:¬((ys.length:Nat):Int)<(ns.length:Nat):=by omega
   have hye:ys.map (·.1)=ns:=by rw[hy,List.take_of_length_le (by omega)]
   rw[Xor (by omega)]
   have hz3:=X2t (ys.map rXN)
   have hrl:((ys.map rXN).map cRN).length=ns.length:=by rw[List.length_map,List.length_map];omega
   have hlen:=X0Z (k:=k) hz3
   rw[hrl] at hlen
   have htk:=X5N (k:=k) hz3
   rw[hrl] at htk
   refine QFg ?_;refine St.le_trans (X5h 102 0 120 110 (n:=ns.length) (c:=cp) ((ys.map rXN).map cRN) (by conv=>lhs;whnf) (by conv=>lhs;whnf) rfl htk hrl hz3 hc1 hc2 (by rw[hlen];exact hc3) rfl rfl) ?_;refine St.le_trans (X32 110 210 ys (by conv=>lhs;whnf) (by conv=>lhs;whnf)) ?_
   rw[hye]
   exact Qbh
  have hn:((ys.length:Nat):Int)<(ns.length:Nat):=by omega
  obtain⟨x,hx⟩:=XI (l:=ns) hil
  have hxr:=Xqc hx
  have hz3:=XqE ns ys
  have hrl:=Xnx hyl
  have hlen:=X0Z (k:=k) hz3
  rw[hrl] at hlen
  obtain⟨p1,p2⟩:=hnp x (List.mem_of_getElem? hx)
  have hset:=fun u v=>XnB (u:=u) (v:=v) hx
  have hsn:=fun u v=>Xoz (u:=u) (v:=v) hy hx
  obtain⟨xid,xl,xp⟩:=x
  simp only[Xp] at hxr p1 p2
  have hrow:((Y6 ((X0E ns ys).flatten.map some++List.replicate k none) none).drop (0+ys.length*3)).take 3=[ai xid,.d (.sl 1 (xl.map Xl)),.d (.sl 6 (xp.map Xh))]:=X9u (List.replicate k none) hz3 hxr
  have h3:=fun u v:Value=>XjB (k:=k) (u:= .v u) (v:= .v v) (List.replicate k none) hz3 hxr
  clear hx
  generalize hi:ys.length=i at*
  have hcl:=Xkp 121 (xl.map Xl) (by rw[List.length_map];omega)
  have hcp:=Xdz 122 (xp.map Xh) (by rw[List.length_map];omega)
  have hcl:Con Tryz.prog 117 [] [.d (.sl 1 (xl.map Xl))] [(121,.row 1 (xl.map Xl))] (.own 121 (xl.map Xl).length):=hcl
  have hcp:Con Tryz.prog 118 [] [.d (.sl 6 (xp.map Xh))] [(122,.row 6 (xp.map Xh))] (.own 122 (xp.map Xh).length):=hcp
  clear hxr hz3
  generalize hC:(X0E ns ys).flatten.map some++List.replicate k (none:Option D)=C at*
  have hj1:i*3+1<C.length:=by omega
  have hw1:=XbA (z:= .own 121 (xl.map Xl).length) hj1
  have e1:0+i*3+1=i*3+1:=by omega
  have hb1:0+i*3+1+1≤C.length:=by omega
  have hb2:0+i*3+2+1≤C.length:=by omega
  refine W5_ ?_;refine Qb ?_;refine Zh (sz:=3) ?_;(refine Zm (ys:=[ai xid,.d (.sl 1 (xl.map Xl)),.d (.sl 6 (xp.map Xh))]) (sz:=3) ?_ (hy:= ?hy60);(case hy60=>exact hrow));refine W5_ ?_;refine W6_ ?_;refine Z3 (hcon:=hcl) ?_;refine Zh (sz:=3) ?_;refine W1_ ?_;(refine Zi (cs':=C) (ho':=some (i*3+1,.own 121 (xl.map Xl).length)) ?_ (hcs:= ?hcs61);(case hcs61=>exact(by rw[e1];exact hw1)));refine W1_ ?_
  show AWP Tryz.prog E _ _ _
  refine XcF 120 210 (i*3+1) 121 (Y0 ys) [] (by conv=>lhs;whnf) hj1 (Eq.trans (b:= .bag (Y0 ys)) (by conv=>lhs;whnf) (by rw[List.append_nil])) (by conv=>lhs;whnf) rfl (fun u=> ?_)
  have hl1:(C.set (i*3+1) (some (D.v u))).length=C.length:=List.length_set
  have hj2:i*3+2<(C.set (i*3+1) (some (D.v u))).length:=by omega
  have hw2:=XbA (z:= .own 122 (xp.map Xh).length) hj2
  have e2:0+i*3+2=i*3+2:=by omega
  have h3:=h3 u
  clear hw1 hrow hcl
  generalize hC1:C.set (i*3+1) (some (D.v u))=C1 at*
  have hb3:0+i*3+2+1≤C1.length:=by omega
  refine W6_ ?_;refine Z3 (hcon:=hcp) ?_;refine Zh (sz:=3) ?_;refine W1_ ?_;(refine Zi (cs':=C1) (ho':=some (i*3+2,.own 122 (xp.map Xh).length)) ?_ (hcs:= ?hcs62);(case hcs62=>exact(by rw[e2];exact hw2)));refine W1_ ?_
  show AWP Tryz.prog E _ _ _
  refine XcF 120 210 (i*3+2) 122 (Y0 ys++[(u,1,xl.map Xl)]) [] (by conv=>lhs;whnf) hj2 (Eq.trans (b:= .bag (Y0 ys++(u,1,xl.map Xl)::[])) (by conv=>lhs;whnf) (by rw[List.append_nil])) (by conv=>lhs;whnf) rfl (fun v=> ?_)
  have e120:=(h3 v).trans (by rw[show [D.v (Value.int IntKind.i64 xid),D.v u,D.v v]=cRN (rXN ((⟨xid,xl,xp⟩:Nod),u,v)) from rfl,hset u v])
  have e210:(Y0 ys++[(u,1,xl.map Xl)])++(v,6,xp.map Xh)::[]=Y0 (ys++[((⟨xid,xl,xp⟩:Nod),u,v)]):=by rw[X5H];simp[Y0,bXN]
  have e16:((i:Int)+1)=(((ys++[((⟨xid,xl,xp⟩:Nod),u,v)]).length:Nat):Int):=by rw[List.length_append,hi];rfl
  have hlen':(ys++[((⟨xid,xl,xp⟩:Nod),u,v)]).length=i+1:=by rw[List.length_append,hi];rfl
  have hsn:=hsn u v
  clear h3 hset hw2
  generalize ys++[((⟨xid,xl,xp⟩:Nod),u,v)]=ys' at*
  refine W4_ ?_
  refine⟨ys',⟨hsn,by omega⟩,by omega,?_⟩
  exact Xd rfl ⟨JL,JL,JL,JL,JL,AVal.le_of_eq (Eq.trans (b:=ai ((i:Int)+1)) rfl (by rw[e16])),trivial⟩ ⟨rfl,rfl,rfl,Eq.trans (b:= .raw (C1.set (i*3+2) (some (D.v v))) none) rfl (by rw[e120]),Eq.trans (b:= .bag ((Y0 ys++[(u,1,xl.map Xl)])++(v,6,xp.map Xh)::[])) rfl (by rw[e210]),trivial⟩
 ·clear hcn hnL hnL' hnl hnp
  show AWP Tryz.prog E _ _ _
  refine W4_ ?_;refine Z3 (hcon:=hce) ?_;refine W5_ ?_
  refine XiZ ⟨60,[(1,.ptr 100 0),(2,.ptr 101 0),(3,.ptr 102 0)],[(100,.box [.d (.sl 3 (ns.map Xp)),.d (.sl 5 (es.map Xs)),ai nn,ai ne]),(101,.box [ani,ani,ai 0,ai 0]),(102,.box [.own 110 ns.length,.own 111 es.length,ai nn,ai ne]),(110,.nest 3 (ns.map cNN)),(111,.nest 5 (es.map cNE))]⟩ ?_ ?_
  ·by_cases h0:es=[]
   ·subst h0
    refine W7_ ?_;refine XK (fun _:Unit=>True) (fun _=>⟨60,[(1,.ptr 100 0),(2,.ptr 101 0),(3,.ptr 102 0),(44,ai (([]:List D).length:Nat)),(45,ai 0)],[(100,.box [.d (.sl 3 (ns.map Xp)),.d (.sl 5 []),ai nn,ai ne]),(101,.box [ani,ani,ai 0,ai 0]),(102,.box [.own 110 ns.length,.own 111 0,ai nn,ai ne]),(110,.nest 3 (ns.map cNN)),(111,.row 5 [])]⟩) (fun _=>0) () trivial (Xd rfl JM ⟨rfl,rfl,rfl,rfl,rfl,trivial⟩) ?_
    intro _ _
    have hn:¬(0:Int)<(([]:List D).length:Nat):=by simp
    refine QFg ?_;refine St.le_trans (X7t 211 rfl) ?_;refine St.le_trans (X2S 111 211 [] rfl rfl) ?_;exact Xd rfl JM ⟨rfl,rfl,rfl,rfl,rfl,trivial⟩
   have hpos:0<(es.map Xs).length:=by rw[heL];exact List.length_pos_iff.2 h0
   refine X25 102 1 111 123 rfl hpos rfl rfl heL' rfl rfl (fun cp k hc1 hc2 hc3 _=> ?_)
   rw[heL] at hc1 hc3
   have hb0:(es.map Xs).flatten.map some++List.replicate k none=(X0L es []).flatten.map some++List.replicate k none:=by rw[Xn6]
   rw[hb0]
   refine Xq (X7t 211 rfl) ?_
   clear hpos hb0 h0 heL heL' hce
   refine W3_ ?_;refine Qrg ?_;refine W3_ ?_
   refine XK (ι:=List XE) (fun ys=>ys.map (·.1)=es.take ys.length∧ys.length≤es.length) (fun ys=>⟨60,[(1,.ptr 100 0),(2,.ptr 101 0),(3,.ptr 102 0),(43,.rs 123 0 es.length cp),(44,ai es.length),(45,ai ys.length)],[(100,.box [.d (.sl 3 (ns.map Xp)),.d (.sl 5 (es.map Xs)),ai nn,ai ne]),(101,.box [ani,ani,ai 0,ai 0]),(102,.box [.own 110 ns.length,.rs 123 0 es.length cp,ai nn,ai ne]),(110,.nest 3 (ns.map cNN)),(123,.raw ((X0L es ys).flatten.map some++List.replicate k none) none),(211,.bag (YC ys))]⟩) (fun ys=>es.length-ys.length) [] ⟨rfl,Nat.zero_le _⟩ (Xd rfl JM ⟨rfl,rfl,rfl,rfl,rfl,rfl,trivial⟩) ?_
   rintro ys ⟨hy,hyl⟩
   by_cases hil:ys.length<es.length
   case neg=>
    have hn:¬((ys.length:Nat):Int)<(es.length:Nat):=by omega
    have hye:ys.map (·.1)=es:=by rw[hy,List.take_of_length_le (by omega)]
    rw[Xki (by omega)]
    have hz3:=X4d (ys.map rXE)
    have hrl:((ys.map rXE).map cRE).length=es.length:=by rw[List.length_map,List.length_map];omega
    have hlen:=X0Z (k:=k) hz3
    rw[hrl] at hlen
    have htk:=X5N (k:=k) hz3
    rw[hrl] at htk
    refine QFg ?_;refine St.le_trans (X5h 102 1 123 111 (n:=es.length) (c:=cp) ((ys.map rXE).map cRE) (by conv=>lhs;whnf) (by conv=>lhs;whnf) rfl htk hrl hz3 hc1 hc2 (by rw[hlen];exact hc3) rfl rfl) ?_;refine St.le_trans (X2S 111 211 ys (by conv=>lhs;whnf) (by conv=>lhs;whnf)) ?_
    rw[hye]
    exact Xd rfl JM ⟨rfl,rfl,rfl,rfl,rfl,trivial⟩
   have hn:((ys.length:Nat):Int)<(es.length:Nat):=by omega
   obtain⟨x,hx⟩:=XI (l:=es) hil
   have hxr:=XrR hx
   have hz3:=Xm6 es ys
   have hrl:=XrL hyl
   have hlen:=X0Z (k:=k) hz3
   rw[hrl] at hlen
   have p2:=hep x (List.mem_of_getElem? hx)
   have hset:=fun u=>XmY (u:=u) hx
   have hsn:=fun u=>Xl0 (u:=u) hy hx
   obtain⟨xid,xs,xd,xt,xp⟩:=x
   simp only[Xs] at hxr p2
   have hrow:((Y6 ((X0L es ys).flatten.map some++List.replicate k none) none).drop (0+ys.length*5)).take 5=[ai xid,ai xs,ai xd,.d (.v (.string (Xb xt))),.d (.sl 6 (xp.map Xh))]:=X9u (List.replicate k none) hz3 hxr
   have h3:=fun u:Value=>XaI (o:=4) (d:= .v u) (List.replicate k none) hz3 hxr (by simp)
   simp only[List.set_cons_succ,List.set_cons_zero] at h3
   clear hx
   generalize hi:ys.length=i at*
   have hcp:=Xdz 122 (xp.map Xh) (by rw[List.length_map];omega)
   have hcp:Con Tryz.prog 118 [] [.d (.sl 6 (xp.map Xh))] [(122,.row 6 (xp.map Xh))] (.own 122 (xp.map Xh).length):=hcp
   clear hxr hz3
   generalize hC:(X0L es ys).flatten.map some++List.replicate k (none:Option D)=C at*
   have hj1:i*5+4<C.length:=by omega
   have hw1:=XbA (z:= .own 122 (xp.map Xh).length) hj1
   have e1:0+i*5+4=i*5+4:=by omega
   have hb1:0+i*5+4+1≤C.length:=by omega
   refine W5_ ?_;refine Qb ?_;refine Zh (sz:=5) ?_;(refine Zm (ys:=[ai xid,ai xs,ai xd,.d (.v (.string (Xb xt))),.d (.sl 6 (xp.map Xh))]) (sz:=5) ?_ (hy:= ?hy63);(case hy63=>exact hrow));refine W4_ ?_;refine W6_ ?_;refine Z3 (hcon:=hcp) ?_;refine Zh (sz:=5) ?_;refine W1_ ?_;(refine Zi (cs':=C) (ho':=some (i*5+4,.own 122 (xp.map Xh).length)) ?_ (hcs:= ?hcs64);(case hcs64=>exact(by rw[e1];exact hw1)));refine W1_ ?_
   show AWP Tryz.prog E _ _ _
   refine XcF 123 211 (i*5+4) 122 (YC ys) [] (by conv=>lhs;whnf) hj1 (Eq.trans (b:= .bag (YC ys)) (by conv=>lhs;whnf) (by rw[List.append_nil])) (by conv=>lhs;whnf) rfl (fun u=> ?_)
   have e120:=(h3 u).trans (by rw[show [D.v (Value.int IntKind.i64 xid),D.v (Value.int IntKind.i64 xs),D.v (Value.int IntKind.i64 xd),D.v (Value.string (Xb xt)),D.v u]=cRE (rXE ((⟨xid,xs,xd,xt,xp⟩:Edg),u)) from rfl,hset u])
   have e210:YC ys++(u,6,xp.map Xh)::[]=YC (ys++[((⟨xid,xs,xd,xt,xp⟩:Edg),u)]):=by rw[X6u];simp[YC,bXE]
   have e16:((i:Int)+1)=(((ys++[((⟨xid,xs,xd,xt,xp⟩:Edg),u)]).length:Nat):Int):=by rw[List.length_append,hi];rfl
   have hlen':(ys++[((⟨xid,xs,xd,xt,xp⟩:Edg),u)]).length=i+1:=by rw[List.length_append,hi];rfl
   have hsn:=hsn u
   clear h3 hset hw1
   generalize ys++[((⟨xid,xs,xd,xt,xp⟩:Edg),u)]=ys' at*
   refine W4_ ?_
   refine⟨ys',⟨hsn,by omega⟩,by omega,?_⟩
   exact Xd rfl ⟨JL,JL,JL,JL,JL,AVal.le_of_eq (Eq.trans (b:=ai ((i:Int)+1)) rfl (by rw[e16])),trivial⟩ ⟨rfl,rfl,rfl,rfl,Eq.trans (b:= .raw (C.set (i*5+4) (some (D.v u))) none) rfl (by rw[e120]),Eq.trans (b:= .bag (YC ys++(u,6,xp.map Xh)::[])) rfl (by rw[e210]),trivial⟩
  ·clear hce heL heL' hel hep
   show AWP Tryz.prog E _ _ _
   refine W5_ ?_
   (show AWP Tryz.prog E _ _ _;refine X1 ?_;exact(show Xy _ _ _ _ _ from⟨_,St.le_refl _,⟨⟨101,0,_,rfl,rfl,.inr ⟨4,_,rfl,rfl,rfl,rfl⟩⟩,trivial⟩,Xn ⟨rfl,rfl,trivial⟩⟩))
theorem X3M {α:Type}{a b c:List α} (h:a++b=c):a.length≤c.length:=by rw[←h,List.length_append];omega
theorem Xe3 {g:Gra}{l:List Chg}{i:Nat}{c:Chg} (h:l[i]? =some c):Ur g i (l.drop i)=if (YD g c).2≠0 then (YL,i,(YD g c).2) else Ur (YD g c).1 (i+1) (l.drop (i+1)):=by
 obtain⟨hl,h⟩:=List.getElem?_eq_some_iff.1 h
 rw[List.drop_eq_getElem_cons hl,h,Ur]
theorem Xj0 {g:Gra}{l:List Chg}{i:Nat} (h:l.length≤i):Ur g i (l.drop i)=(g,i,0):=by
 rw[List.drop_of_length_le h];rfl
theorem Xq6 (l:List Nod):((l.map cNN).map fun x=>x.map NC.toD)=l.map Xp:=by rw[List.map_map];exact List.map_congr_left fun n _=>rfl
theorem Xlz (l:List Edg):((l.map cNE).map fun x=>x.map NC.toD)=l.map Xs:=by rw[List.map_map];exact List.map_congr_left fun n _=>rfl
theorem Xkj (l:List Nod):∀x∈l.map cNN,x.length=3:=fun x hx=>by obtain⟨p,_,rfl⟩:=List.mem_map.1 hx;rfl
theorem Xla (l:List Edg):∀x∈l.map cNE,x.length=5:=fun x hx=>by obtain⟨p,_,rfl⟩:=List.mem_map.1 hx;rfl
abbrev X5z (g:Gra) (a b:Nat):AObj:= .box [.own a g.nodes.length,.own b g.edges.length,ai g.nn,ai g.ne]
abbrev X5t (g:Gra):AObj:= .nest 3 (g.nodes.map cNN)
abbrev X5n (g:Gra):AObj:= .nest 5 (g.edges.map cNE)
theorem Xlp (g:Gra) (c:Chg) (hg:GV g) (ho:c.op≤5) (h:(YD g c).2=0):Con Tryz.prog 73 [(102,X5z g 110 111),(110,X5t g),(111,X5n g)] [.ptr 102 0,Xx c] [(102,X5z (YD g c).1 120 111),(110,.dead),(111,X5n (YD g c).1),(120,X5t (YD g c).1)] (ai 0):=by
 have k:=U0 0 102 (U0 4 111 (U0 3 110 (U0 110 120 (Xkc g c hg ho h))))
 obtain⟨op,id,src,dst,name,⟨vk,vn,vd,vs,vl⟩⟩:=c
 exact k
theorem Xk4 (g:Gra) (c:Chg) (hg:GV g) (ho:¬c.op≤5) (h:(YD g c).2=0):Con Tryz.prog 73 [(102,X5z g 110 111),(110,X5t g),(111,X5n g)] [.ptr 102 0,Xx c] [(102,X5z (YD g c).1 110 120),(110,X5t (YD g c).1),(111,.dead),(120,X5n (YD g c).1)] (ai 0):=by
 have k:=U0 0 102 (U0 4 111 (U0 3 110 (U0 110 120 (Xka g c hg ho h))))
 obtain⟨op,id,src,dst,name,⟨vk,vn,vd,vs,vl⟩⟩:=c
 exact k
theorem Xoe (g:Gra) (c:Chg) (hg:GV g) (h:(YD g c).2≠0):Con Tryz.prog 73 [(102,X5z g 110 111),(110,X5t g),(111,X5n g)] [.ptr 102 0,Xx c] [(102,.dead),(110,.dead),(111,.dead)] (ai (YD g c).2):=by
 have k:=U0 0 102 (U0 4 111 (U0 3 110 (Xpq g c hg h)))
 obtain⟨op,id,src,dst,name,⟨vk,vn,vd,vs,vl⟩⟩:=c
 exact k
theorem Xa3 (g:Gra) (l:List Chg) (hg:GraHold g) (hl:l.length≤9223372036854775807):Con Tryz.prog 29 [] [XG g,.d (.sl 10 (l.map Y1))] [] (.tup [XG (Yd g l).1,ai (Yd g l).2.1,ai (Yd g l).2.2]):=by
 refine Xg (xs:=[XG (Yd g l).1,ai (Yd g l).2.1,ai (Yd g l).2.2]) Tryz.func29 rfl Tryz.ntmps29 rfl rfl rfl (fun E=> ?_)
 have hk:=X7q g hg
 have hlm:(l.map Y1).length=l.length:=by simp
 unfold Yd
 by_cases hc:YH g≠0
 ·rw[if_pos hc]
  clear hg
  generalize YH g=e at*
  obtain⟨ns,es,nn,ne⟩:=g
  simp only[XG,List.map_nil] at*
  refine Qch ?_;refine QCd ?_
  (show AWP Tryz.prog E _ _ _;refine X1 ?_;exact(show Xy _ _ _ _ _ from⟨_,XF 101 (cs':=[.d (.sl 3 []),.d (.sl 5 []),ai 0,ai 0]) rfl JM rfl,⟨⟨101,0,_,rfl,rfl,.inr ⟨4,_,rfl,rfl,rfl,rfl⟩⟩,rfl,rfl,trivial⟩,X2 _⟩))
 rw[if_neg hc]
 have hc:YH g=0:=by simpa using hc
 rw[hc] at hk
 have hv:=X6t.1 hc
 have hcp:=Xm5 g hv
 clear hc hg
 generalize hR:Ur g 0 l=R
 obtain⟨ns,es,nn,ne⟩:=g
 simp only[XG] at hk hcp ⊢
 refine Qch ?_;refine Qg ?_;refine Z3 (hcon:=hcp) ?_;refine Xt ?_
 clear hk hcp
 refine XK (ι:=Nat×Gra) (fun q=>q.1≤l.length∧GV q.2∧Ur q.2 q.1 (l.drop q.1)=R) (fun q=>⟨40,[(1,.d (.sl 10 (l.map Y1))),(4,.ptr 101 0),(8,.ptr 102 0),(21,.d (.sl 10 (l.map Y1))),(22,ai (l.map Y1).length),(23,ai q.1)],[(101,.box [ani,ani,ai 0,ai 0]),(102,X5z q.2 110 111),(110,X5t q.2),(111,X5n q.2)]⟩) (fun q=>l.length-q.1) (0,⟨ns,es,nn,ne⟩) ⟨Nat.zero_le _,hv,by simpa using hR⟩
  (Xd rfl JM ⟨rfl,rfl,rfl,rfl,trivial⟩) ?_
 rintro⟨i,g⟩ ⟨hi,hg,hr⟩
 simp only at hi hg hr
 clear hv hR
 by_cases hil:i<l.length
 case neg=>
  have hn:¬(i:Int)<(l.map Y1).length:=by omega
  rw[Xj0 (by omega)] at hr
  obtain rfl:i=l.length:=by omega
  subst hr
  obtain⟨ns,es,nn,ne⟩:=g
  simp only
  refine W5_ ?_;refine Qo ?_
  show AWP Tryz.prog E _ _ _
  refine Xq (Xf3 110 (by conv=>lhs;whnf) (Xkj _)) ?_;refine Xq (Xf3 111 (by conv=>lhs;whnf) (Xla _)) ?_
  rw[Xq6,Xlz]
  refine Xq (X0v 102 0 110 (by conv=>lhs;whnf) rfl (by conv=>lhs;whnf) (by rw[List.length_map])) ?_;refine Xq (X0v 102 1 111 (by conv=>lhs;whnf) rfl (by conv=>lhs;whnf) (by rw[List.length_map])) ?_
  rw[←hlm]
  refine W9_ ?_
  (show AWP Tryz.prog E _ _ _;refine X1 ?_;exact(show Xy _ _ _ _ _ from⟨_,St.le_refl _,⟨⟨101,0,_,rfl,rfl,.inr ⟨4,_,rfl,rfl,rfl,rfl⟩⟩,rfl,rfl,trivial⟩,X2 _⟩))
 have hn:(i:Int)<(l.map Y1).length:=by omega
 obtain⟨x,hx⟩:=XI (l:=l) hil
 have hxc:(l.map Y1)[i]? =some (Y1 x):=Y5 hx
 rw[Xe3 hx] at hr
 clear hx
 by_cases hq:(YD g x).2≠0
 ·rw[if_pos hq] at hr
  subst hr
  have hs:=Xoe g x hg hq
  clear hg
  generalize (YD g x).2=e at*
  obtain⟨op,id,src,dst,name,⟨vk,vn,vd,vs,vl⟩⟩:=x
  simp only[XG,Xx,YW,Y1,List.map_nil] at*
  refine Qdh ?_;refine W7_ ?_;refine JT ?_;refine W9_ ?_
  (show AWP Tryz.prog E _ _ _;refine X1 ?_;exact(show Xy _ _ _ _ _ from⟨_,XF 101 (cs':=[.d (.sl 3 []),.d (.sl 5 []),ai 0,ai 0]) rfl JM rfl,⟨⟨101,0,_,rfl,rfl,.inr ⟨4,_,rfl,rfl,rfl,rfl⟩⟩,rfl,rfl,trivial⟩,X2 _⟩))
 rw[if_neg hq] at hr
 have hq:(YD g x).2=0:=by simpa using hq
 have hg':=XbI hg hq
 by_cases ho:x.op≤5
 ·have hs:=Xlp g x hg ho hq
  clear hg hq
  generalize (YD g x).1=g' at*
  obtain⟨op,id,src,dst,name,⟨vk,vn,vd,vs,vl⟩⟩:=x
  simp only[Xx,YW,Y1] at*
  refine Qdh ?_;refine W7_ ?_;refine Qc ?_
  refine⟨(i+1,g'),⟨by simp only;omega,hg',hr⟩,by simp only;omega,?_⟩
  refine St.le_trans (XiD 110 120 (by decide) (by decide)) ?_;exact Qbh
 ·have hs:=Xk4 g x hg ho hq
  clear hg hq
  generalize (YD g x).1=g' at*
  obtain⟨op,id,src,dst,name,⟨vk,vn,vd,vs,vl⟩⟩:=x
  simp only[Xx,YW,Y1] at*
  refine Qdh ?_;refine W7_ ?_;refine Qc ?_
  refine⟨(i+1,g'),⟨by simp only;omega,hg',hr⟩,by simp only;omega,?_⟩
  refine St.le_trans (XiD 111 120 (by decide) (by decide)) ?_;exact Qbh
theorem X12:Tryz.prog.cellsOf 3=1:=by kernel_rfl
theorem X63:Tryz.prog.cellsOf 9=1:=by kernel_rfl
theorem Xkk:Tryz.prog.cellsOf 55=1:=by kernel_rfl
theorem X7B:Tryz.prog.cellsOf 57=5:=by kernel_rfl
section
variable {H:Type}{enc:TypeId×Value→H}{W:World}
theorem Xhd:∀n,OpensN enc Tryz.prog W n 57 Yp U3
 |0=>⟨fun cs x hx=>by simp[DataW.trod] at hx⟩
 |n+1=>
  (Xn4 Tryz.underlying57 X7B (fun m hm=>
   X6A rfl X12 ((X0O Tryz.underlying3).at m) (X6A rfl X12 ((X0O Tryz.underlying3).at m) (X6A rfl X12 ((X0O Tryz.underlying3).at m)
    (X6A rfl X63 ((X6d Tryz.underlying9).at m)
     (X6A rfl Xkk (X6P (p:=Yp) (f:=U3) Tryz.underlying55 X7B (by decide) (fun m' hm'=>Xhd m')) Xpb)))))).to
   (fun r=> .mk r.1 r.2.1 r.2.2.1 r.2.2.2.1 r.2.2.2.2.1) fun r h=>⟨by rw[Yp];exact⟨h.2.2.2.1,h.2.2.2.2.1.2,X9c h.2.2.2.2.1.1⟩,by rw[U3,X3T];rfl⟩
termination_by n=>n
decreasing_by omega
theorem XgD:Opens enc Tryz.prog W 57 Yp U3:=X6f Xhd
end
theorem Xqu:Tryz.prog.cellsOf 46=1:=by kernel_rfl
theorem XhP:Tryz.prog.cellsOf 47=1:=by kernel_rfl
theorem Xpc:Tryz.prog.cellsOf 22=1:=by kernel_rfl
theorem XoY:Tryz.prog.cellsOf 23=1:=by kernel_rfl
theorem Xdx:Tryz.prog.cellsOf 59=6:=by kernel_rfl
theorem Xif:Tryz.prog.cellsOf 49=3:=by kernel_rfl
theorem Xh9:Tryz.prog.cellsOf 52=5:=by kernel_rfl
theorem Xij:Tryz.prog.cellsOf 25=4:=by kernel_rfl
def Xat (g:Gra):List D:=[.sl 3 (g.nodes.map Xp),.sl 5 (g.edges.map Xs),.v (.int .i64 g.nn),.v (.int .i64 g.ne)]
section
variable {H:Type}{enc:TypeId×Value→H}{W:World}
theorem XlC:Opens enc Tryz.prog W 59 X34 Xh:=
 (X6g Tryz.underlying59 Xdx
  (VW rfl X63 (X6d Tryz.underlying9) (VW rfl X7B XgD X71))).to
  (fun r=>⟨r.1,r.2.1⟩) fun r h=>⟨⟨h.1,h.2.1⟩,by
   obtain⟨k,v,u⟩:=r
   cases v
   simp[Xh,U3]⟩
theorem XfO:Opens enc Tryz.prog W 47 (fun l:List Prp=>(∀c∈l,X34 c)∧l.length≤9223372036854775807) (fun l=>[.sl 6 (l.map Xh)]):=
 X6f fun n=>X6P Tryz.underlying47 Xdx (by decide) fun m _=>XlC.at m
theorem XjS:Opens enc Tryz.prog W 46 (fun l:List (List UInt8)=>(∀c∈l,c.length≤9223372036854775807)∧l.length≤9223372036854775807) (fun l=>[.sl 1 (l.map Xl)]):=
 X6f fun n=>X6P Tryz.underlying46 X63 (by decide) fun m _=>(X6d Tryz.underlying9).at m
theorem XpV:Opens enc Tryz.prog W 49 X6a Xp:=
 (X6g Tryz.underlying49 Xif
  (VW rfl X12 (X0O Tryz.underlying3) (VW rfl Xqu XjS (VW rfl XhP XfO X71)))).to
  (fun r=>⟨r.1,r.2.1,r.2.2.1⟩) fun r h=>⟨⟨h.2.1.2,h.2.1.1,h.2.2.1.2,h.2.2.1.1⟩,rfl⟩
theorem XmR:Opens enc Tryz.prog W 52 X7z Xs:=
 (X6g Tryz.underlying52 Xh9
  (VW rfl X12 (X0O Tryz.underlying3) (VW rfl X12 (X0O Tryz.underlying3) (VW rfl X12 (X0O Tryz.underlying3)
   (VW rfl X63 (X6d Tryz.underlying9) (VW rfl XhP XfO X71)))))).to
  (fun r=>⟨r.1,r.2.1,r.2.2.1,r.2.2.2.1,r.2.2.2.2.1⟩) fun r h=>⟨⟨h.2.2.2.1,h.2.2.2.2.1.2,h.2.2.2.2.1.1⟩,rfl⟩
theorem Xry:Opens enc Tryz.prog W 22 (fun l:List Nod=>(∀c∈l,X6a c)∧l.length≤9223372036854775807) (fun l=>[.sl 3 (l.map Xp)]):=
 X6f fun n=>X6P Tryz.underlying22 Xif (by decide) fun m _=>XpV.at m
theorem XqU:Opens enc Tryz.prog W 23 (fun l:List Edg=>(∀c∈l,X7z c)∧l.length≤9223372036854775807) (fun l=>[.sl 5 (l.map Xs)]):=
 X6f fun n=>X6P Tryz.underlying23 Xh9 (by decide) fun m _=>XmR.at m
theorem Xd3:Opens enc Tryz.prog W 25 GraHold Xat:=
 (X6g Tryz.underlying25 Xij
  (VW rfl Xpc Xry (VW rfl XoY XqU (VW rfl X12 (X0O Tryz.underlying3) (VW rfl X12 (X0O Tryz.underlying3) X71))))).to
  (fun r=>⟨r.1,r.2.1,r.2.2.1,r.2.2.2.1⟩) fun r h=>⟨⟨h.1.2,h.2.1.2,h.1.1,h.2.1.1⟩,rfl⟩
end
open Go
theorem Xir:GraHold YL:=⟨by simp,by simp,by simp,by simp⟩
theorem XfW {g:Gra}{rs:List Rul} (h:X19 g rs=0):X36 g rs=X51 g rs:=if_pos h
def exN:Nod:=⟨1,[[65]],[⟨[107],.mk 2 5 0 [] []⟩]⟩
def exG:Gra:=⟨[exN],[],2,1⟩
def exF:List UInt8:=YM [1,1,1,65,1,1,107,2,10]
def exH:List UInt8:=YM [1,1,0,0,0]
def exX:List UInt8:=U1++YM [2,1,0,1,0]
theorem XiV:X19 ⟨[],[],1,1⟩ []=0:=by decide+kernel
theorem XfI:X19 exG []=0:=by decide+kernel
theorem XmI:X51 ⟨[],[],1,1⟩ []=U1++exH:=by
 simp[X51,X5i,Yz,Ul,Xm,vS,exH]
theorem XrU:X51 exG []=exX++exF:=by
 simp[X51,X5i,Yz,Ul,Ve,Vw,Vb,XX,YN,Y3,Xe,YK,zig,Xm,vS,exX,exF,exG,exN]
theorem Xhu:exF.length=14:=by kernel_rfl
theorem XqL:exH.length=10:=by kernel_rfl
theorem Xfi:exX.length=14:=by kernel_rfl
theorem Xo1:X1J [71,68,66,50,97,98,99,100,101,102]=(YL,[],2):=by kernel_rfl
theorem Xlj:X1J U1=(YL,[],3):=by kernel_rfl
theorem Xq1:X1J (exX++exF)=(exG,[],0):=by kernel_rfl
theorem Xr8:(X2i (X0U (exX++exF)) (X11 (exX++exF))).1.1=exG:=by kernel_rfl
theorem Xjn:(X2i (X0U [71,68,66,50,97,98,99,100,101,102]) (X11 [71,68,66,50,97,98,99,100,101,102])).1.1=YL:=by kernel_rfl
theorem Xle:(X2i (X0U U1) (X11 U1)).1.1=YL:=by kernel_rfl
theorem Xcu:GraHold exG:=⟨by decide,by decide,by
 intro n hn
 obtain rfl:n=exN:=by simpa [exG] using hn
 refine⟨by decide,by simp[exN],by decide,?_⟩
 intro p hp
 obtain rfl:p=⟨[107],.mk 2 5 0 [] []⟩:=by simpa [exN] using hp
 exact⟨by decide,by simp[Yp,X0n]⟩,by simp[exG]⟩
theorem XoK:GraHold ⟨[],[],1,1⟩:=⟨by simp,by simp,by simp,by simp⟩
theorem Xkz:Con Tryz.prog 19 [] [] [] (XG ⟨[],[],1,1⟩):=by
 refine Xg (xs:=[XG ⟨[],[],1,1⟩]) Tryz.func19 rfl Tryz.ntmps19 rfl rfl rfl (fun E=> ?_)
 unfold XG
 simp only[List.map_nil]
 refine W9_ ?_;exact X1 ⟨_,XF 100 (cs':=[.d (.sl 3 []),.d (.sl 5 []),ai 1,ai 1]) rfl JM rfl,⟨⟨100,0,_,rfl,rfl,.inr ⟨4,_,rfl,rfl,rfl,rfl⟩⟩,trivial⟩,X2 _⟩
theorem Xbu  :Con Tryz.prog 7 [] [] [] (ab true):=by
 refine Xg (xs:=[ab true]) Tryz.func7 rfl Tryz.ntmps7 rfl rfl rfl (fun E=> ?_)
 have h0:=Xkz
 have h1:=Xf4 ⟨[],[],1,1⟩ [] XoK (by simp)
 have h2:=Xf4 exG [] Xcu (by simp)
 rw[XfW XiV,XiV,XmI] at h1
 rw[XfW XfI,XfI,XrU] at h2
 have h3:=X9W [1,1,1,65,1,1,107,2,10] (by decide)
 rw[show YM [1,1,1,65,1,1,107,2,10]=exF from rfl] at h3
 have hl4:(exX++exF).length≤1073741824:=by rw[List.length_append,Xfi,Xhu];omega
 have h4:=Xbk (exX++exF) hl4 (by rw[Xr8];exact Xcu)
 rw[Xq1] at h4
 have h5:=Xbk [71,68,66,50,97,98,99,100,101,102] (by decide) (by rw[Xjn];exact Xir)
 rw[Xo1] at h5
 have h6:=Xbk [71,68,66,49] (by decide) (by rw[show (X2i (X0U [71,68,66,49]) (X11 [71,68,66,49])).1.1=YL from Xle];exact Xir)
 rw[show X1J [71,68,66,49]=(YL,[],3) from Xlj] at h6
 have h7:=XbD exG Xcu
 have h8:=X9W [1,1,0,0,0] (by decide)
 rw[show YM [1,1,0,0,0]=exH from rfl] at h8
 have lF:=Xhu
 have lX:=Xfi
 have lH:=XqL
 have lFm:(exF.map Xc).length=14:=by rw[List.length_map,lF]
 have lXm:((exX++exF).map Xc).length=28:=by rw[List.length_map,List.length_append,lX,lF]
 have lHm:(exH.map Xc).length=10:=by rw[List.length_map,lH]
 have hsub:(((exX++exF).map Xc).length:Int)-(exF.map Xc).length=14:=by omega
 have hlt:¬(((exX++exF).map Xc).length:Int)<(exF.map Xc).length:=by omega
 have hsl:(((exX++exF).map Xc).take ((exX++exF).map Xc).length).drop 14=exF.map Xc:=by rw[List.take_length,←List.map_drop,←lX,List.drop_left]
 have g14:(14:Nat)≤((exX++exF).map Xc).length:=by omega
 have hq1:U1++exH=U1++exH:=rfl
 have hq2:exF=exF:=rfl
 have lgH:U1.length+exH.length≤9223372036854775807:=by rw[lH];decide
 simp only[XG,exG,exN,Xp,Xh,U3,Xl,XU,List.map_cons,List.map_nil] at h0 h1 h2 h4 h5 h6 h7
 clear hl4
 generalize exF=F at*
 generalize exX=X at*
 generalize exH=H at*
 refine W6_ ?_;refine Z3 (hcon:=h0) ?_;refine Z3 (hcon:=h1) ?_;refine XC ?_;refine Xq (Xw 3 (y:= .d (.sl 6 [[.v (.string (Xb [107])),.v (.int .i64 2),.v (.int .i64 5),.v (.int .i64 0),.v (.string (Xb [])),.sl 5 []]])) (AVal.le_d (XkH (Xjf (X5e (X6W _) (X5e (X6W _) (X5e (X6W _) (X5e (X6W _) (X5e (X6W _) (X5e (XkJ 5) Xs8)))))) rfl (XmS 6))))) ?_;refine Xj ?_;refine Xq (St.le_trans (XF 100 (cs':=[.d (.sl 3 [[.v (.int .i64 1),.sl 1 [[.v (.string (Xb [65]))]],.sl 6 [[.v (.string (Xb [107])),.v (.int .i64 2),.v (.int .i64 5),.v (.int .i64 0),.v (.string (Xb [])),.sl 5 []]]]]),.d (.sl 5 []),ai 2,ai 1]) rfl JM rfl) (Xd (n:=115) (τ:=[(0,ab false),(1,.d (Xk (U1++H))),(2,ai 0),(4,.ptr 100 0)]) (L:=[(100,.box [.d (.sl 3 [[.v (.int .i64 1),.sl 1 [[.v (.string (Xb [65]))]],.sl 6 [[.v (.string (Xb [107])),.v (.int .i64 2),.v (.int .i64 5),.v (.int .i64 0),.v (.string (Xb [])),.sl 5 []]]]]),.d (.sl 5 []),ai 2,ai 1])]) rfl JM ⟨rfl,trivial⟩)) ?_;refine W2_ ?_;refine Z3 (hcon:=h2) ?_;refine W7_ ?_;refine W1_ ?_
 (refine Zn (γ:=105) (sz:=1) (zs:=[.int .u8 0]) (ps:=bPs [1,1,1,65,1,1,107,2,10]) (out:=X7G [1,1,1,65,1,1,107,2,10]) (xs:=List.map Xc [1,1,1,65,1,1,107,2,10]) ?_ (hout:=by exact(by kernel_rfl)) (hxs:=by exact(by kernel_rfl));refine X82 (hg:=JSa) (hx:=JSb) (hL:=JSb) (hn:=JSb) (hne:=JSb) (ht:=JSb) (hd:=JSb) ?_)
 refine Z3 (hcon:=h3) ?_;refine W3_ ?_;refine W2_ ?_;refine Z3 (hcon:=h4) ?_;refine Xj ?_;refine W1_ ?_
 (refine Zn (γ:=106) (sz:=1) (zs:=[.int .u8 0]) (ps:=bPs [71,68,66,50,97,98,99,100,101,102]) (out:=X7G [71,68,66,50,97,98,99,100,101,102]) (xs:=List.map Xc [71,68,66,50,97,98,99,100,101,102]) ?_ (hout:=by exact(by kernel_rfl)) (hxs:=by exact(by kernel_rfl));refine X82 (hg:=JSa) (hx:=JSb) (hL:=JSb) (hn:=JSb) (hne:=JSb) (ht:=JSb) (hd:=JSb) ?_)
 refine Z3 (hcon:=h5) ?_;refine Xj ?_;refine W1_ ?_
 (refine Zn (γ:=107) (sz:=1) (zs:=[.int .u8 0]) (ps:=bPs [71,68,66,49]) (out:=X7G [71,68,66,49]) (xs:=List.map Xc [71,68,66,49]) ?_ (hout:=by exact(by kernel_rfl)) (hxs:=by exact(by kernel_rfl));refine X82 (hg:=JSa) (hx:=JSb) (hL:=JSb) (hn:=JSb) (hne:=JSb) (ht:=JSb) (hd:=JSb) ?_)
 refine Z3 (hcon:=h6) ?_;refine Xi ?_;refine W6_ ?_;refine QQ ?_;refine QQd ?_;refine QQ ?_;refine Z3 (hcon:=h7) ?_;refine W1_ ?_;refine QE ?_;refine W6_ ?_;refine QU ?_;refine W2_ ?_
 clear h0 h1 h2 h3 h4 h5 h6 h7
 refine W3_ ?_
 (refine Zn (γ:=108) (sz:=1) (zs:=[.int .u8 0]) (ps:=bPs [1,1,0,0,0]) (out:=X7G [1,1,0,0,0]) (xs:=List.map Xc [1,1,0,0,0]) ?_ (hout:=by exact(by kernel_rfl)) (hxs:=by exact(by kernel_rfl));refine X82 (hg:=JSa) (hx:=JSb) (hL:=JSb) (hn:=JSb) (hne:=JSb) (ht:=JSb) (hd:=JSb) ?_)
 refine Z3 (hcon:=h8) ?_;refine W1_ ?_;refine Z2 (op:= .add) (r':= .string (Xb (U1++H))) (u:= .string (Xb U1)) (v:= .string (Xb H)) ?_ (hr:=by exact Xr3 lgH);refine W7_ ?_
 (refine Z1 (op:= .sub) (r':= .int .i64 14) (u:= .int .i64 (((X++F).map Xc).length:Int)) (v:= .int .i64 ((F.map Xc).length:Int)) ?_ (hr':=by exact congrArg (Value.int .i64) hsub) (hr:=by exact Yl (by unfold XT;omega)))
 refine Z7 (lb:=14) (hb:=((X++F).map Xc).length) (ys:=F.map Xc) ?_ (hys:=by exact hsl);refine W4_ ?_;refine Qwa ?_;refine Qwa ?_;exact QBa
end Go.Fw

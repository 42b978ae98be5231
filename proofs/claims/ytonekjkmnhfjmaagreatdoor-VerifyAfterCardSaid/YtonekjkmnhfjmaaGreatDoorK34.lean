/- A graph copied. -/
import Derived.Test.YtonekjkmnhfjmaaGreatDoorK33
set_option maxHeartbeats 32000000
namespace Go.Fw
open Go Go.Proofs
set_option maxRecDepth 100000
set_option linter.unusedVariables false
set_option linter.unusedSimpArgs false
section
variable {P : Program} {E : Env} {S : St} {Q : Exit → St → Prop}
theorem X9f {x y z : Code} {Q' Q'' : Exit → St → Prop} (U : St) (h : AWP P E x S (X0j (fun T => AWP P E y T (X0j (fun T => T.le U) Q'')) Q')) (k : AWP P E z U Q) : AWP P E x S (X0j (fun T => AWP P E y T (X0j (fun T => AWP P E z T Q) Q'')) Q') :=
 X6L h fun e T hq => by
  cases e with
  | normal => exact Xaf U hq k
  | _ => exact hq
end
theorem X3E {sz k : Nat} {R : List (List D)} (hz : ∀ x ∈ R, x.length = sz) : (R.flatten.map some ++ List.replicate k (none : Option D)).take (R.length * sz) = R.flatten.map some := by
 rw [List.take_left' (by rw [List.length_map]; exact V6 R hz)]
theorem Xgq {R : List (List D)} {i k : Nat} {a b c u v : D} (T : List (Option D)) (hz : ∀ x ∈ R, x.length = 3) (hi : R[i]? = some [a, b, c]) :
  ((R.flatten.map some ++ T).set (i * 3 + 1) (some u)).set (i * 3 + 2) (some v) = (R.set i [a, u, v]).flatten.map some ++ T := by
 have hlt := (List.getElem?_eq_some_iff.1 hi).1
 rw [X6g T hz hi (by simp)]
 have hz' : ∀ x ∈ R.set i [a, u, c], x.length = 3 := fun x hx => by
  rcases List.mem_or_eq_of_mem_set hx with h | rfl
  ·exact hz x h
  ·rfl
 have hi' : (R.set i [a, u, c])[i]? = some [a, u, c] := by rw [List.getElem?_set_self hlt]
 have e := X6g (o := 2) (d := v) T hz' hi' (by simp)
 simp only [List.set_cons_succ, List.set_cons_zero] at e ⊢
 rw [e, List.set_set]
theorem XcP (g : Gra) (hg : GV g) : Con Tryz.prog 109 [] [Xj g] [(110, .nest 3 (g.nodes.map cNN)), (111, .nest 5 (g.edges.map cNE))] (.agg [.own 110 g.nodes.length, .own 111 g.edges.length, ai g.nn, ai g.ne]) := by
 obtain ⟨ns, es, nn, ne⟩ := g
 have hnl := hg.nl
 have hel := hg.el
 have hnp : ∀ n ∈ ns, n.labels.length ≤ 8 ∧ n.props.length ≤ 16 := fun n hn => ⟨((hg.nodes n hn).2.2).ll, ((hg.nodes n hn).2.2).pl⟩
 have hep : ∀ n ∈ es, n.props.length ≤ 16 := fun n hn => ((hg.edges n hn).2.2.2.2.2).pl
 simp only at hnl hel
 clear hg
 refine Xc (xs := [.agg [.own 110 ns.length, .own 111 es.length, ai nn, ai ne]]) Tryz.func109 rfl Tryz.ntmps109 rfl rfl rfl (fun E => ?_)
 have hcn := XeO 110 (ns.map X9) (by rw [List.length_map]; omega)
 have hce := Xd0 111 (es.map Xf) (by rw [List.length_map]; omega)
 have hnL : (ns.map X9).length = ns.length := by simp
 have heL : (es.map Xf).length = es.length := by simp
 rw [hnL] at hcn
 rw [heL] at hce
 have hcn : Con Tryz.prog 163 [] [.d (.sl 3 (ns.map X9))] [(110, .row 3 (ns.map X9))] (.own 110 ns.length) := hcn
 have hce : Con Tryz.prog 165 [] [.d (.sl 5 (es.map Xf))] [(111, .row 5 (es.map Xf))] (.own 111 es.length) := hce
 unfold Xj
 simp only
 have hnL' : ns.length = (ns.map X9).length := hnL.symm
 have heL' : es.length = (es.map Xf).length := heL.symm
 refine Qoe ?_; refine JD ?_; refine QTc ?_; refine ZI (γ := 102) ?_; refine Qec ?_; refine QJb ?_; refine Zr (hcon := hcn) ?_; refine Qqg ?_; refine X0 ?_; refine X0 ?_
 refine X9f ⟨60, [(1, .ptr 100 0), (2, .ptr 101 0), (3, .ptr 102 0)], [(100, .box [.d (.sl 3 (ns.map X9)), .d (.sl 5 (es.map Xf)), ai nn, ai ne]), (101, .box [ani, ani, ai 0, ai 0]), (102, .box [.own 110 ns.length, .d (.sl 5 (es.map Xf)), ai nn, ai ne]), (110, .nest 3 (ns.map cNN))]⟩ ?_ ?_
 ·by_cases h0 : ns = []
  ·subst h0
   refine QJe ?_; refine Z5 ?_; refine Qia ?_; refine Xz (fun _ : Unit => True) (fun _ => ⟨60, [(1, .ptr 100 0), (2, .ptr 101 0), (3, .ptr 102 0), (15, ai (([] : List D).length : Nat)), (16, ai 0)], [(100, .box [.d (.sl 3 []), .d (.sl 5 (es.map Xf)), ai nn, ai ne]), (101, .box [ani, ani, ai 0, ai 0]), (102, .box [.own 110 0, .d (.sl 5 (es.map Xf)), ai nn, ai ne]), (110, .row 3 [])]⟩) (fun _ => 0) () trivial (X6 rfl JM ⟨rfl, rfl, rfl, rfl, trivial⟩) ?_
   intro _ _
   have hn : ¬ (0 : Int) < (([] : List D).length : Nat) := by simp
   refine Qka ?_; refine St.le_trans (X3I 210 rfl) ?_; refine St.le_trans (X0D 110 210 [] rfl rfl) ?_; exact QIg
  have hpos : 0 < (ns.map X9).length := by rw [hnL]; exact List.length_pos_iff.2 h0
  refine X0c 102 0 110 120 rfl hpos rfl rfl hnL' rfl rfl (fun cp k hc1 hc2 hc3 _ => ?_)
  rw [hnL] at hc1 hc3
  have hb0 : (ns.map X9).flatten.map some ++ List.replicate k none = (Vg ns []).flatten.map some ++ List.replicate k none := by rw [Xex]
  rw [hb0]
  refine Xk (X3I 210 rfl) ?_
  clear hel hep heL heL' hpos hb0 h0 hnL hnL' hcn hce
  refine QJe ?_; refine Z8 ?_; refine Qia ?_
  refine Xz (ι := List XN) (fun ys => ys.map (·.1) = ns.take ys.length ∧ ys.length ≤ ns.length) (fun ys => ⟨60, [(1, .ptr 100 0), (2, .ptr 101 0), (3, .ptr 102 0), (14, .rs 120 0 ns.length cp), (15, ai ns.length), (16, ai ys.length)], [(100, .box [.d (.sl 3 (ns.map X9)), .d (.sl 5 (es.map Xf)), ai nn, ai ne]), (101, .box [ani, ani, ai 0, ai 0]), (102, .box [.rs 120 0 ns.length cp, .d (.sl 5 (es.map Xf)), ai nn, ai ne]), (120, .raw ((Vg ns ys).flatten.map some ++ List.replicate k none) none), (210, .bag (Xw ys))]⟩) (fun ys => ns.length - ys.length) [] ⟨rfl, Nat.zero_le _⟩ (X6 rfl JM ⟨rfl, rfl, rfl, rfl, rfl, trivial⟩) ?_
  rintro ys ⟨hy, hyl⟩
  by_cases hil : ys.length < ns.length
  case neg =>
   have hn : ¬ ((ys.length : Nat) : Int) < (ns.length : Nat) := by omega
   have hye : ys.map (·.1) = ns := by rw [hy, List.take_of_length_le (by omega)]
   rw [Xfp (by omega)]
   have hz3 := X0M (ys.map rXN)
   have hrl : ((ys.map rXN).map cRN).length = ns.length := by rw [List.length_map, List.length_map]; omega
   have hlen := Vu (k := k) hz3
   rw [hrl] at hlen
   have htk := X3E (k := k) hz3
   rw [hrl] at htk
   refine Qka ?_; refine St.le_trans (X2a 102 0 120 110 (n := ns.length) (c := cp) ((ys.map rXN).map cRN) (by conv => lhs; whnf) (by conv => lhs; whnf) rfl htk hrl hz3 hc1 hc2 (by rw [hlen]; exact hc3) rfl rfl) ?_; refine St.le_trans (X0D 110 210 ys (by conv => lhs; whnf) (by conv => lhs; whnf)) ?_
   rw [hye]
   exact QIg
  have hn : ((ys.length : Nat) : Int) < (ns.length : Nat) := by omega
  obtain ⟨x, hx⟩ := Xs (l := ns) hil
  have hxr := Xfn hx
  have hz3 := Xio ns ys
  have hrl := Xd8 hyl
  have hlen := Vu (k := k) hz3
  rw [hrl] at hlen
  obtain ⟨p1, p2⟩ := hnp x (List.mem_of_getElem? hx)
  have hset := fun u v => XdR (u := u) (v := v) hx
  have hsn := fun u v => XcQ (u := u) (v := v) hy hx
  obtain ⟨xid, xl, xp⟩ := x
  simp only [X9] at hxr p1 p2
  have hrow : ((Xy ((Vg ns ys).flatten.map some ++ List.replicate k none) none).drop (0 + ys.length * 3)).take 3 = [ai xid, .d (.sl 1 (xl.map Xa)), .d (.sl 6 (xp.map X7))] := X7p (List.replicate k none) hz3 hxr
  have h3 := fun u v : Value => Xgq (k := k) (u := .v u) (v := .v v) (List.replicate k none) hz3 hxr
  clear hx
  generalize hi : ys.length = i at *
  have hcl := XiJ 121 (xl.map Xa) (by rw [List.length_map]; omega)
  have hcp := XbV 122 (xp.map X7) (by rw [List.length_map]; omega)
  have hcl : Con Tryz.prog 118 [] [.d (.sl 1 (xl.map Xa))] [(121, .row 1 (xl.map Xa))] (.own 121 (xl.map Xa).length) := hcl
  have hcp : Con Tryz.prog 164 [] [.d (.sl 6 (xp.map X7))] [(122, .row 6 (xp.map X7))] (.own 122 (xp.map X7).length) := hcp
  clear hxr hz3
  generalize hC : (Vg ns ys).flatten.map some ++ List.replicate k (none : Option D) = C at *
  have hj1 : i * 3 + 1 < C.length := by omega
  have hw1 := X6R (z := .own 121 (xl.map Xa).length) hj1
  have e1 : 0 + i * 3 + 1 = i * 3 + 1 := by omega
  have hb1 : 0 + i * 3 + 1 + 1 ≤ C.length := by omega
  have hb2 : 0 + i * 3 + 2 + 1 ≤ C.length := by omega
  refine Qna ?_; refine Z0i (sz := 3) ?_; (refine Z0s (ys := [ai xid, .d (.sl 1 (xl.map Xa)), .d (.sl 6 (xp.map X7))]) (sz := 3) ?_ (hy := ?hy119); (case hy119 => exact hrow)); refine ZI (γ := 103) ?_; refine Z0 ?_; refine Qec ?_; refine QJb ?_; refine QPb ?_; refine Zr (hcon := hcl) ?_; refine QJg ?_; (refine Z0j (cs' := C) (ho' := some (i * 3 + 1, .own 121 (xl.map Xa).length)) ?_ (hcs := ?hcs121); (case hcs121 => exact (by rw [e1]; exact hw1))); refine JD ?_
  show AWP Tryz.prog E _ _ _
  refine X7o 120 210 (i * 3 + 1) 121 (Xw ys) [] (by conv => lhs; whnf) hj1 (Eq.trans (b := .bag (Xw ys)) (by conv => lhs; whnf) (by rw [List.append_nil])) (by conv => lhs; whnf) rfl (fun u => ?_)
  have hl1 : (C.set (i * 3 + 1) (some (D.v u))).length = C.length := List.length_set
  have hj2 : i * 3 + 2 < (C.set (i * 3 + 1) (some (D.v u))).length := by omega
  have hw2 := X6R (z := .own 122 (xp.map X7).length) hj2
  have e2 : 0 + i * 3 + 2 = i * 3 + 2 := by omega
  have h3 := h3 u
  clear hw1 hrow hcl
  generalize hC1 : C.set (i * 3 + 1) (some (D.v u)) = C1 at *
  have hb3 : 0 + i * 3 + 2 + 1 ≤ C1.length := by omega
  refine QJe ?_; refine QPb ?_; refine Zr (hcon := hcp) ?_; refine QJg ?_; (refine Z0j (cs' := C1) (ho' := some (i * 3 + 2, .own 122 (xp.map X7).length)) ?_ (hcs := ?hcs123); (case hcs123 => exact (by rw [e2]; exact hw2))); refine JD ?_
  show AWP Tryz.prog E _ _ _
  refine X7o 120 210 (i * 3 + 2) 122 (Xw ys ++ [(u, 1, xl.map Xa)]) [] (by conv => lhs; whnf) hj2 (Eq.trans (b := .bag (Xw ys ++ (u, 1, xl.map Xa) :: [])) (by conv => lhs; whnf) (by rw [List.append_nil])) (by conv => lhs; whnf) rfl (fun v => ?_)
  have e120 := (h3 v).trans (by rw [show [D.v (Value.int IntKind.i64 xid), D.v u, D.v v] = cRN (rXN ((⟨xid, xl, xp⟩ : Nod), u, v)) from rfl, hset u v])
  have e210 : (Xw ys ++ [(u, 1, xl.map Xa)]) ++ (v, 6, xp.map X7) :: [] = Xw (ys ++ [((⟨xid, xl, xp⟩ : Nod), u, v)]) := by rw [X2b]; simp [Xw, bXN]
  have e16 : ((i : Int) + 1) = (((ys ++ [((⟨xid, xl, xp⟩ : Nod), u, v)]).length : Nat) : Int) := by rw [List.length_append, hi]; rfl
  have hlen' : (ys ++ [((⟨xid, xl, xp⟩ : Nod), u, v)]).length = i + 1 := by rw [List.length_append, hi]; rfl
  have hsn := hsn u v
  clear h3 hset hw2
  generalize ys ++ [((⟨xid, xl, xp⟩ : Nod), u, v)] = ys' at *
  refine Qsa ?_
  refine ⟨ys', ⟨hsn, by omega⟩, by omega, ?_⟩
  exact X6 rfl ⟨JL, JL, JL, JL, JL, AVal.le_of_eq (Eq.trans (b := ai ((i : Int) + 1)) rfl (by rw [e16])), trivial⟩ ⟨rfl, rfl, rfl, Eq.trans (b := .raw (C1.set (i * 3 + 2) (some (D.v v))) none) rfl (by rw [e120]), Eq.trans (b := .bag ((Xw ys ++ [(u, 1, xl.map Xa)]) ++ (v, 6, xp.map X7) :: [])) rfl (by rw [e210]), trivial⟩
 ·clear hcn hnL hnL' hnl hnp
  show AWP Tryz.prog E _ _ _
  refine QJb ?_; refine Zr (hcon := hce) ?_; refine Qqg ?_; refine X0 ?_; refine X0 ?_
  refine X9f ⟨60, [(1, .ptr 100 0), (2, .ptr 101 0), (3, .ptr 102 0)], [(100, .box [.d (.sl 3 (ns.map X9)), .d (.sl 5 (es.map Xf)), ai nn, ai ne]), (101, .box [ani, ani, ai 0, ai 0]), (102, .box [.own 110 ns.length, .own 111 es.length, ai nn, ai ne]), (110, .nest 3 (ns.map cNN)), (111, .nest 5 (es.map cNE))]⟩ ?_ ?_
  ·by_cases h0 : es = []
   ·subst h0
    refine QJe ?_; refine Z5 ?_; refine Qia ?_; refine Xz (fun _ : Unit => True) (fun _ => ⟨60, [(1, .ptr 100 0), (2, .ptr 101 0), (3, .ptr 102 0), (44, ai (([] : List D).length : Nat)), (45, ai 0)], [(100, .box [.d (.sl 3 (ns.map X9)), .d (.sl 5 []), ai nn, ai ne]), (101, .box [ani, ani, ai 0, ai 0]), (102, .box [.own 110 ns.length, .own 111 0, ai nn, ai ne]), (110, .nest 3 (ns.map cNN)), (111, .row 5 [])]⟩) (fun _ => 0) () trivial (X6 rfl JM ⟨rfl, rfl, rfl, rfl, rfl, trivial⟩) ?_
    intro _ _
    have hn : ¬ (0 : Int) < (([] : List D).length : Nat) := by simp
    refine Qka ?_; refine St.le_trans (X3I 211 rfl) ?_; refine St.le_trans (X0A 111 211 [] rfl rfl) ?_; exact X6 rfl JM ⟨rfl, rfl, rfl, rfl, rfl, trivial⟩
   have hpos : 0 < (es.map Xf).length := by rw [heL]; exact List.length_pos_iff.2 h0
   refine X0c 102 1 111 123 rfl hpos rfl rfl heL' rfl rfl (fun cp k hc1 hc2 hc3 _ => ?_)
   rw [heL] at hc1 hc3
   have hb0 : (es.map Xf).flatten.map some ++ List.replicate k none = (Vh es []).flatten.map some ++ List.replicate k none := by rw [XfA]
   rw [hb0]
   refine Xk (X3I 211 rfl) ?_
   clear hpos hb0 h0 heL heL' hce
   refine QJe ?_; refine Z8 ?_; refine Qia ?_
   refine Xz (ι := List XE) (fun ys => ys.map (·.1) = es.take ys.length ∧ ys.length ≤ es.length) (fun ys => ⟨60, [(1, .ptr 100 0), (2, .ptr 101 0), (3, .ptr 102 0), (43, .rs 123 0 es.length cp), (44, ai es.length), (45, ai ys.length)], [(100, .box [.d (.sl 3 (ns.map X9)), .d (.sl 5 (es.map Xf)), ai nn, ai ne]), (101, .box [ani, ani, ai 0, ai 0]), (102, .box [.own 110 ns.length, .rs 123 0 es.length cp, ai nn, ai ne]), (110, .nest 3 (ns.map cNN)), (123, .raw ((Vh es ys).flatten.map some ++ List.replicate k none) none), (211, .bag (XM ys))]⟩) (fun ys => es.length - ys.length) [] ⟨rfl, Nat.zero_le _⟩ (X6 rfl JM ⟨rfl, rfl, rfl, rfl, rfl, rfl, trivial⟩) ?_
   rintro ys ⟨hy, hyl⟩
   by_cases hil : ys.length < es.length
   case neg =>
    have hn : ¬ ((ys.length : Nat) : Int) < (es.length : Nat) := by omega
    have hye : ys.map (·.1) = es := by rw [hy, List.take_of_length_le (by omega)]
    rw [XeE (by omega)]
    have hz3 := X1x (ys.map rXE)
    have hrl : ((ys.map rXE).map cRE).length = es.length := by rw [List.length_map, List.length_map]; omega
    have hlen := Vu (k := k) hz3
    rw [hrl] at hlen
    have htk := X3E (k := k) hz3
    rw [hrl] at htk
    refine Qka ?_; refine St.le_trans (X2a 102 1 123 111 (n := es.length) (c := cp) ((ys.map rXE).map cRE) (by conv => lhs; whnf) (by conv => lhs; whnf) rfl htk hrl hz3 hc1 hc2 (by rw [hlen]; exact hc3) rfl rfl) ?_; refine St.le_trans (X0A 111 211 ys (by conv => lhs; whnf) (by conv => lhs; whnf)) ?_
    rw [hye]
    exact X6 rfl JM ⟨rfl, rfl, rfl, rfl, rfl, trivial⟩
   have hn : ((ys.length : Nat) : Int) < (es.length : Nat) := by omega
   obtain ⟨x, hx⟩ := Xs (l := es) hil
   have hxr := XgI hx
   have hz3 := Xgi es ys
   have hrl := Xfx hyl
   have hlen := Vu (k := k) hz3
   rw [hrl] at hlen
   have p2 := hep x (List.mem_of_getElem? hx)
   have hset := fun u => Xg0 (u := u) hx
   have hsn := fun u => Xg8 (u := u) hy hx
   obtain ⟨xid, xs, xd, xt, xp⟩ := x
   simp only [Xf] at hxr p2
   have hrow : ((Xy ((Vh es ys).flatten.map some ++ List.replicate k none) none).drop (0 + ys.length * 5)).take 5 = [ai xid, ai xs, ai xd, .d (.v (.string (X5 xt))), .d (.sl 6 (xp.map X7))] := X7p (List.replicate k none) hz3 hxr
   have h3 := fun u : Value => X6g (o := 4) (d := .v u) (List.replicate k none) hz3 hxr (by simp)
   simp only [List.set_cons_succ, List.set_cons_zero] at h3
   clear hx
   generalize hi : ys.length = i at *
   have hcp := XbV 122 (xp.map X7) (by rw [List.length_map]; omega)
   have hcp : Con Tryz.prog 164 [] [.d (.sl 6 (xp.map X7))] [(122, .row 6 (xp.map X7))] (.own 122 (xp.map X7).length) := hcp
   clear hxr hz3
   generalize hC : (Vh es ys).flatten.map some ++ List.replicate k (none : Option D) = C at *
   have hj1 : i * 5 + 4 < C.length := by omega
   have hw1 := X6R (z := .own 122 (xp.map X7).length) hj1
   have e1 : 0 + i * 5 + 4 = i * 5 + 4 := by omega
   have hb1 : 0 + i * 5 + 4 + 1 ≤ C.length := by omega
   refine Qna ?_; refine Z0i (sz := 5) ?_; (refine Z0s (ys := [ai xid, ai xs, ai xd, .d (.v (.string (X5 xt))), .d (.sl 6 (xp.map X7))]) (sz := 5) ?_ (hy := ?hy125); (case hy125 => exact hrow)); refine ZI (γ := 103) ?_; refine Z0 ?_; refine Qec ?_; refine QJe ?_; refine QPb ?_; refine Zr (hcon := hcp) ?_; refine Z0i (sz := 5) ?_; refine ZN ?_; (refine Z0j (cs' := C) (ho' := some (i * 5 + 4, .own 122 (xp.map X7).length)) ?_ (hcs := ?hcs127); (case hcs127 => exact (by rw [e1]; exact hw1))); refine JD ?_
   show AWP Tryz.prog E _ _ _
   refine X7o 123 211 (i * 5 + 4) 122 (XM ys) [] (by conv => lhs; whnf) hj1 (Eq.trans (b := .bag (XM ys)) (by conv => lhs; whnf) (by rw [List.append_nil])) (by conv => lhs; whnf) rfl (fun u => ?_)
   have e120 := (h3 u).trans (by rw [show [D.v (Value.int IntKind.i64 xid), D.v (Value.int IntKind.i64 xs), D.v (Value.int IntKind.i64 xd), D.v (Value.string (X5 xt)), D.v u] = cRE (rXE ((⟨xid, xs, xd, xt, xp⟩ : Edg), u)) from rfl, hset u])
   have e210 : XM ys ++ (u, 6, xp.map X7) :: [] = XM (ys ++ [((⟨xid, xs, xd, xt, xp⟩ : Edg), u)]) := by rw [X3f]; simp [XM, bXE]
   have e16 : ((i : Int) + 1) = (((ys ++ [((⟨xid, xs, xd, xt, xp⟩ : Edg), u)]).length : Nat) : Int) := by rw [List.length_append, hi]; rfl
   have hlen' : (ys ++ [((⟨xid, xs, xd, xt, xp⟩ : Edg), u)]).length = i + 1 := by rw [List.length_append, hi]; rfl
   have hsn := hsn u
   clear h3 hset hw1
   generalize ys ++ [((⟨xid, xs, xd, xt, xp⟩ : Edg), u)] = ys' at *
   refine Qsa ?_
   refine ⟨ys', ⟨hsn, by omega⟩, by omega, ?_⟩
   exact X6 rfl ⟨JL, JL, JL, JL, JL, AVal.le_of_eq (Eq.trans (b := ai ((i : Int) + 1)) rfl (by rw [e16])), trivial⟩ ⟨rfl, rfl, rfl, rfl, Eq.trans (b := .raw (C.set (i * 5 + 4) (some (D.v u))) none) rfl (by rw [e120]), Eq.trans (b := .bag (XM ys ++ (u, 6, xp.map X7) :: [])) rfl (by rw [e210]), trivial⟩
  ·clear hce heL heL' hel hep
   show AWP Tryz.prog E _ _ _
   refine QTc ?_; refine Qec ?_
   (show AWP Tryz.prog E _ _ _; refine X1 ?_; exact (show Xd _ _ _ _ _ from ⟨_, St.le_refl _, ⟨⟨101, 0, _, rfl, rfl, .inr ⟨4, _, rfl, rfl, rfl, rfl⟩⟩, trivial⟩, XX ⟨rfl, rfl, trivial⟩⟩))
open Go
section
variable {α κ : Type} {lt : κ → κ → Bool} {key : α → κ} [DecidableEq κ]
def VE (lt : κ → κ → Bool) (key : α → κ) (l : List α) (k : κ) (ns : List α) : Bool → List α
 | true => l.filter fun x => !decide (key x = k)
 | false => Yp lt key l k ns
theorem X6n {l : List α} {k : κ} {ns : List α} {i : Nat} {x : α} {b : Bool} (h : l[i]? = some x) (hi : lt (key x) k = true → key x ≠ k) :
  VE lt key (l.drop i) k ns b = (if b = false ∧ lt (key x) k = false then ns else []) ++ (if key x = k then [] else [x]) ++ VE lt key (l.drop (i + 1)) k ns (b || !lt (key x) k) := by
 obtain ⟨hlt, h⟩ := List.getElem?_eq_some_iff.1 h
 rw [List.drop_eq_getElem_cons hlt, h]
 cases b with
 | true =>
  simp only [VE, Bool.true_or, List.filter_cons]
  by_cases q : key x = k <;> simp [q]
 | false =>
  by_cases p : lt (key x) k = true
  ·simp only [VE, Bool.false_or, p, Bool.not_true]
   rw [if_neg (by simp), if_neg (hi p)]
   simp [Yp, p]
  ·have p : lt (key x) k = false := by simpa using p
   simp only [VE, Bool.false_or, p, Bool.not_false]
   rw [if_pos (by simp)]
   unfold Yp
   rw [List.takeWhile_cons_of_neg (by simp [p]), List.dropWhile_cons_of_neg (by simp [p]), List.filter_cons]
   by_cases q : key x = k <;> simp [q]
theorem X6v {k : κ} {ns : List α} (b : Bool) : VE lt key [] k ns b = if b = true then [] else ns := by
 cases b <;> simp [VE, Yp]
theorem X71 {l : List α} {k : κ} {i : Nat} {x : α} (h : l[i]? = some x) : YH key (l.drop i) k = (if key x = k then [] else [x]) ++ YH key (l.drop (i + 1)) k := by
 obtain ⟨hlt, h⟩ := List.getElem?_eq_some_iff.1 h
 rw [List.drop_eq_getElem_cons hlt, h]
 unfold YH
 rw [List.filter_cons]
 by_cases q : key x = k <;> simp [q]
theorem X6c (l : List α) (k : κ) : (YH key l k).length ≤ l.length := List.length_filter_le _ _
omit [DecidableEq κ] in
end
theorem X81 : ∀ {l : List Val}, (∀ x ∈ l, Ym x) → VW l
 | [], _ => by rw [VW]; trivial
 | v :: r, h => by
  rw [VW]
  exact ⟨h v (List.mem_cons_self ..), X81 fun x hx => h x (List.mem_cons_of_mem _ hx)⟩
theorem X9A {n : Nat} (h : n ≤ 300) : (X03 n).length ≤ 10 := by
 rw [XbN (by omega)]
 exact X7x (by omega)
theorem X4y {n : Int} (h : -9223372036854775808 ≤ n ∧ n ≤ 9223372036854775807) : (X3t n).length ≤ 10 := X7x (Xgu h)
theorem XhD {m : Nat} {k n d : Int} {s : List UInt8} {l : List Val} (h : X8 m (.mk k n d s l) = true) (h7 : k ≠ 7) (h8 : k ≠ 8) : (X3U (.mk k n d s l)).length ≤ 111 := by
 rw [X8] at h
 rw [X3U]
 simp only [List.length_cons]
 by_cases h1 : k = 1 ∨ k = 2 ∨ k = 5 ∨ k = 6
 ·rw [if_pos h1]
  have hn : -9223372036854775808 ≤ n ∧ n ≤ 9223372036854775807 := by
   rcases h1 with rfl | rfl | rfl | rfl <;> simp at h <;> omega
  have := X4y hn
  omega
 rw [if_neg h1]
 by_cases h3 : k = 3
 ·subst h3
  rw [if_pos rfl]
  have hnd : (-9223372036854775808 ≤ n ∧ n ≤ 9223372036854775807) ∧ -9223372036854775808 ≤ d ∧ d ≤ 9223372036854775807 := by simp [UX] at h; omega
  have h5 := X4y hnd.1
  have h6 := X4y hnd.2
  rw [List.length_append]
  omega
 rw [if_neg h3]
 by_cases h4 : k = 4
 ·subst h4
  rw [if_pos rfl]
  have hs : s.length ≤ 100 := by simp at h; omega
  have := X9A (n := s.length) (by omega)
  unfold VI
  rw [List.length_append]
  omega
 rw [if_neg h4, if_neg (by omega)]
 simp
theorem X1T {s : List UInt8} (h : s.length ≤ 20) : (VI s).length ≤ 30 := by
 have := X9A (n := s.length) (by omega)
 unfold VI
 rw [List.length_append]
 omega
theorem X42 {s : List UInt8} (h : Xt s = true) : s.length ≤ 20 := by
 unfold Xt at h
 simp at h
 omega
theorem XeD {r : Rul} (h : Ut r = 0) : (-9223372036854775808 ≤ r.n ∧ r.n ≤ 9223372036854775807) ∧ (r.name.length ≤ 20 ∧ r.key.length ≤ 20 ∧ r.src.length ≤ 20 ∧ r.dst.length ≤ 20) ∧ (1 ≤ r.kind ∧ r.kind ≤ 7) := by
 rw [X5X] at h
 unfold X1c at h
 split at h
 ·omega
 rename_i h1
 split at h
 ·omega
 rename_i h2
 split at h
 ·omega
 rename_i h3
 have i1 : 1 ≤ r.kind ∧ r.kind ≤ 7 := by
  cases hd : decide (1 ≤ r.kind ∧ r.kind ≤ 7) with
  | true => exact of_decide_eq_true hd
  | false => exact absurd (.inl hd) h1
 have i2 : Vq r.kind r.n = true := by
  cases hd : Vq r.kind r.n with
  | true => rfl
  | false => exact absurd (.inr hd) h1
 have nm : Xt r.name = true := by
  cases hd : Xt r.name with
  | true => rfl
  | false => exact absurd (.inl hd) h3
 have ky : r.key.length ≤ 20 := by
  by_cases hk : Vb r.kind = true
  ·refine X42 (s := r.key) ?_
   cases hd : Xt r.key with
   | true => rfl
   | false => exact absurd (.inr (.inl ⟨hk, hd⟩)) h3
  ·by_cases he : r.key = []
   ·rw [he]; simp
   ·exact absurd (.inl ⟨by simpa using hk, he⟩) h2
 have sr : r.src.length ≤ 20 := by
  by_cases he : r.src = []
  ·rw [he]; simp
  ·refine X42 (s := r.src) ?_
   cases hd : Xt r.src with
   | true => rfl
   | false => exact absurd (.inr (.inr (.inl ⟨he, hd⟩))) h3
 have ds : r.dst.length ≤ 20 := by
  by_cases he : r.dst = []
  ·rw [he]; simp
  ·refine X42 (s := r.dst) ?_
   cases hd : Xt r.dst with
   | true => rfl
   | false => exact absurd (.inr (.inr (.inr ⟨he, hd⟩))) h3
 refine ⟨?_, ⟨X42 nm, ky, sr, ds⟩, i1⟩
 unfold Vq at i2
 split at i2
 ·have := of_decide_eq_true i2; omega
 ·split at i2
  ·have := of_decide_eq_true i2; omega
  ·have := of_decide_eq_true i2; omega
end Go.Fw

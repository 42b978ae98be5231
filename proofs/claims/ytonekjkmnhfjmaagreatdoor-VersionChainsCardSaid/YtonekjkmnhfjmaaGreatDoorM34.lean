/- A graph copied. -/
import Derived.Test.YtonekjkmnhfjmaaGreatDoorM33
set_option maxHeartbeats 32000000
namespace Go.Fw
open Go Go.Proofs
set_option maxRecDepth 100000
set_option linter.unusedVariables false
set_option linter.unusedSimpArgs false
section
variable {P : Program} {E : Env} {S : St} {Q : Exit → St → Prop}
theorem X3I {x y z : Code} {Q' Q'' : Exit → St → Prop} (U : St) (h : AWP P E x S (X01 (fun T => AWP P E y T (X01 (fun T => T.le U) Q'')) Q')) (k : AWP P E z U Q) : AWP P E x S (X01 (fun T => AWP P E y T (X01 (fun T => AWP P E z T Q) Q'')) Q') :=
 X4S h fun e T hq => by
  cases e with
  | normal => exact X8j U hq k
  | _ => exact hq
end
theorem X2r {sz k : Nat} {R : List (List D)} (hz : ∀ x ∈ R, x.length = sz) : (R.flatten.map some ++ List.replicate k (none : Option D)).take (R.length * sz) = R.flatten.map some := by
 rw [List.take_left' (by rw [List.length_map]; exact UN R hz)]
theorem XcQ {R : List (List D)} {i k : Nat} {a b c u v : D} (T : List (Option D)) (hz : ∀ x ∈ R, x.length = 3) (hi : R[i]? = some [a, b, c]) :
  ((R.flatten.map some ++ T).set (i * 3 + 1) (some u)).set (i * 3 + 2) (some v) = (R.set i [a, u, v]).flatten.map some ++ T := by
 have hlt := (List.getElem?_eq_some_iff.1 hi).1
 rw [X5l T hz hi (by simp)]
 have hz' : ∀ x ∈ R.set i [a, u, c], x.length = 3 := fun x hx => by
  rcases List.mem_or_eq_of_mem_set hx with h | rfl
  ·exact hz x h
  ·rfl
 have hi' : (R.set i [a, u, c])[i]? = some [a, u, c] := by rw [List.getElem?_set_self hlt]
 have e := X5l (o := 2) (d := v) T hz' hi' (by simp)
 simp only [List.set_cons_succ, List.set_cons_zero] at e ⊢
 rw [e, List.set_set]
theorem XfZ (g : Gra) (hg : GV g) : Con Tryz.prog 109 [] [Xl g] [(110, .nest 3 (g.nodes.map cNN)), (111, .nest 5 (g.edges.map cNE))] (.agg [.own 110 g.nodes.length, .own 111 g.edges.length, ai g.nn, ai g.ne]) := by
 obtain ⟨ns, es, nn, ne⟩ := g
 have hnl := hg.nl
 have hel := hg.el
 have hnp : ∀ n ∈ ns, n.labels.length ≤ 8 ∧ n.props.length ≤ 16 := fun n hn => ⟨((hg.nodes n hn).2.2).ll, ((hg.nodes n hn).2.2).pl⟩
 have hep : ∀ n ∈ es, n.props.length ≤ 16 := fun n hn => ((hg.edges n hn).2.2.2.2.2).pl
 simp only at hnl hel
 clear hg
 refine Xc (xs := [.agg [.own 110 ns.length, .own 111 es.length, ai nn, ai ne]]) Tryz.func109 rfl Tryz.ntmps109 rfl rfl rfl (fun E => ?_)
 have hcn := XfF 110 (ns.map X9) (by rw [List.length_map]; omega)
 have hce := XhN 111 (es.map Xe) (by rw [List.length_map]; omega)
 have hnL : (ns.map X9).length = ns.length := by simp
 have heL : (es.map Xe).length = es.length := by simp
 rw [hnL] at hcn
 rw [heL] at hce
 have hcn : Con Tryz.prog 163 [] [.d (.sl 3 (ns.map X9))] [(110, .row 3 (ns.map X9))] (.own 110 ns.length) := hcn
 have hce : Con Tryz.prog 165 [] [.d (.sl 5 (es.map Xe))] [(111, .row 5 (es.map Xe))] (.own 111 es.length) := hce
 unfold Xl
 simp only
 have hnL' : ns.length = (ns.map X9).length := hnL.symm
 have heL' : es.length = (es.map Xe).length := heL.symm
 refine Qod ?_; refine JD ?_; refine QWb ?_; refine QWf ?_; refine QUa ?_; refine Z9 (hcon := hcn) ?_; refine QCf ?_; refine X0 ?_; refine X0 ?_
 refine X3I ⟨60, [(1, .ptr 100 0), (2, .ptr 101 0), (3, .ptr 102 0)], [(100, .box [.d (.sl 3 (ns.map X9)), .d (.sl 5 (es.map Xe)), ai nn, ai ne]), (101, .box [ani, ani, ai 0, ai 0]), (102, .box [.own 110 ns.length, .d (.sl 5 (es.map Xe)), ai nn, ai ne]), (110, .nest 3 (ns.map cNN))]⟩ ?_ ?_
 ·by_cases h0 : ns = []
  ·subst h0
   refine QCe ?_; refine Z0c ?_; refine Z1 ?_; refine QK ?_; refine Xz (fun _ : Unit => True) (fun _ => ⟨60, [(1, .ptr 100 0), (2, .ptr 101 0), (3, .ptr 102 0), (15, ai (([] : List D).length : Nat)), (16, ai 0)], [(100, .box [.d (.sl 3 []), .d (.sl 5 (es.map Xe)), ai nn, ai ne]), (101, .box [ani, ani, ai 0, ai 0]), (102, .box [.own 110 0, .d (.sl 5 (es.map Xe)), ai nn, ai ne]), (110, .row 3 [])]⟩) (fun _ => 0) () trivial (X7 rfl JM ⟨rfl, rfl, rfl, rfl, trivial⟩) ?_
   intro _ _
   have hn : ¬ (0 : Int) < (([] : List D).length : Nat) := by simp
   refine QM ?_; refine St.le_trans (X4T 210 rfl) ?_; refine St.le_trans (X07 110 210 [] rfl rfl) ?_; exact QXf
  have hpos : 0 < (ns.map X9).length := by rw [hnL]; exact List.length_pos_iff.2 h0
  refine VY 102 0 110 120 rfl hpos rfl rfl hnL' rfl rfl (fun cp k hc1 hc2 hc3 _ => ?_)
  rw [hnL] at hc1 hc3
  have hb0 : (ns.map X9).flatten.map some ++ List.replicate k none = (UT ns []).flatten.map some ++ List.replicate k none := by rw [Xcp]
  rw [hb0]
  refine Xm (X4T 210 rfl) ?_
  clear hel hep heL heL' hpos hb0 h0 hnL hnL' hcn hce
  refine QCe ?_; refine Z0i ?_; refine Z1 ?_; refine QK ?_
  refine Xz (ι := List XN) (fun ys => ys.map (·.1) = ns.take ys.length ∧ ys.length ≤ ns.length) (fun ys => ⟨60, [(1, .ptr 100 0), (2, .ptr 101 0), (3, .ptr 102 0), (14, .rs 120 0 ns.length cp), (15, ai ns.length), (16, ai ys.length)], [(100, .box [.d (.sl 3 (ns.map X9)), .d (.sl 5 (es.map Xe)), ai nn, ai ne]), (101, .box [ani, ani, ai 0, ai 0]), (102, .box [.rs 120 0 ns.length cp, .d (.sl 5 (es.map Xe)), ai nn, ai ne]), (120, .raw ((UT ns ys).flatten.map some ++ List.replicate k none) none), (210, .bag (Xv ys))]⟩) (fun ys => ns.length - ys.length) [] ⟨rfl, Nat.zero_le _⟩ (X7 rfl JM ⟨rfl, rfl, rfl, rfl, rfl, trivial⟩) ?_
  rintro ys ⟨hy, hyl⟩
  by_cases hil : ys.length < ns.length
  case neg =>
   have hn : ¬ ((ys.length : Nat) : Int) < (ns.length : Nat) := by omega
   have hye : ys.map (·.1) = ns := by rw [hy, List.take_of_length_le (by omega)]
   rw [Xct (by omega)]
   have hz3 := X0v (ys.map rXN)
   have hrl : ((ys.map rXN).map cRN).length = ns.length := by rw [List.length_map, List.length_map]; omega
   have hlen := V0 (k := k) hz3
   rw [hrl] at hlen
   have htk := X2r (k := k) hz3
   rw [hrl] at htk
   refine QM ?_; refine St.le_trans (X1V 102 0 120 110 (n := ns.length) (c := cp) ((ys.map rXN).map cRN) (by conv => lhs; whnf) (by conv => lhs; whnf) rfl htk hrl hz3 hc1 hc2 (by rw [hlen]; exact hc3) rfl rfl) ?_; refine St.le_trans (X07 110 210 ys (by conv => lhs; whnf) (by conv => lhs; whnf)) ?_
   rw [hye]
   exact QXf
  have hn : ((ys.length : Nat) : Int) < (ns.length : Nat) := by omega
  obtain ⟨x, hx⟩ := Xu (l := ns) hil
  have hxr := Xfo hx
  have hz3 := XeR ns ys
  have hrl := Xh0 hyl
  have hlen := V0 (k := k) hz3
  rw [hrl] at hlen
  obtain ⟨p1, p2⟩ := hnp x (List.mem_of_getElem? hx)
  have hset := fun u v => Xh1 (u := u) (v := v) hx
  have hsn := fun u v => XeV (u := u) (v := v) hy hx
  obtain ⟨xid, xl, xp⟩ := x
  simp only [X9] at hxr p1 p2
  have hrow : ((XA ((UT ns ys).flatten.map some ++ List.replicate k none) none).drop (0 + ys.length * 3)).take 3 = [ai xid, .d (.sl 1 (xl.map Xb)), .d (.sl 6 (xp.map X6))] := X7q (List.replicate k none) hz3 hxr
  have h3 := fun u v : Value => XcQ (k := k) (u := .v u) (v := .v v) (List.replicate k none) hz3 hxr
  clear hx
  generalize hi : ys.length = i at *
  have hcl := XeD 121 (xl.map Xb) (by rw [List.length_map]; omega)
  have hcp := X8C 122 (xp.map X6) (by rw [List.length_map]; omega)
  have hcl : Con Tryz.prog 118 [] [.d (.sl 1 (xl.map Xb))] [(121, .row 1 (xl.map Xb))] (.own 121 (xl.map Xb).length) := hcl
  have hcp : Con Tryz.prog 164 [] [.d (.sl 6 (xp.map X6))] [(122, .row 6 (xp.map X6))] (.own 122 (xp.map X6).length) := hcp
  clear hxr hz3
  generalize hC : (UT ns ys).flatten.map some ++ List.replicate k (none : Option D) = C at *
  have hj1 : i * 3 + 1 < C.length := by omega
  have hw1 := X7i (z := .own 121 (xl.map Xb).length) hj1
  have e1 : 0 + i * 3 + 1 = i * 3 + 1 := by omega
  have hb1 : 0 + i * 3 + 1 + 1 ≤ C.length := by omega
  have hb2 : 0 + i * 3 + 2 + 1 ≤ C.length := by omega
  refine QP ?_; refine Z0t (sz := 3) ?_; (refine Z0A (ys := [ai xid, .d (.sl 1 (xl.map Xb)), .d (.sl 6 (xp.map X6))]) (sz := 3) ?_ (hy := ?hy119); (case hy119 => exact hrow)); refine Qyd ?_; refine Z0 ?_; refine Qlb ?_; refine QUa ?_; refine QZa ?_; refine Z9 (hcon := hcl) ?_; refine QYf ?_; (refine Z0u (cs' := C) (ho' := some (i * 3 + 1, .own 121 (xl.map Xb).length)) ?_ (hcs := ?hcs121); (case hcs121 => exact (by rw [e1]; exact hw1))); refine JD ?_
  show AWP Tryz.prog E _ _ _
  refine X59 120 210 (i * 3 + 1) 121 (Xv ys) [] (by conv => lhs; whnf) hj1 (Eq.trans (b := .bag (Xv ys)) (by conv => lhs; whnf) (by rw [List.append_nil])) (by conv => lhs; whnf) rfl (fun u => ?_)
  have hl1 : (C.set (i * 3 + 1) (some (D.v u))).length = C.length := List.length_set
  have hj2 : i * 3 + 2 < (C.set (i * 3 + 1) (some (D.v u))).length := by omega
  have hw2 := X7i (z := .own 122 (xp.map X6).length) hj2
  have e2 : 0 + i * 3 + 2 = i * 3 + 2 := by omega
  have h3 := h3 u
  clear hw1 hrow hcl
  generalize hC1 : C.set (i * 3 + 1) (some (D.v u)) = C1 at *
  have hb3 : 0 + i * 3 + 2 + 1 ≤ C1.length := by omega
  refine QCe ?_; refine QZa ?_; refine Z9 (hcon := hcp) ?_; refine QYf ?_; (refine Z0u (cs' := C1) (ho' := some (i * 3 + 2, .own 122 (xp.map X6).length)) ?_ (hcs := ?hcs123); (case hcs123 => exact (by rw [e2]; exact hw2))); refine JD ?_
  show AWP Tryz.prog E _ _ _
  refine X59 120 210 (i * 3 + 2) 122 (Xv ys ++ [(u, 1, xl.map Xb)]) [] (by conv => lhs; whnf) hj2 (Eq.trans (b := .bag (Xv ys ++ (u, 1, xl.map Xb) :: [])) (by conv => lhs; whnf) (by rw [List.append_nil])) (by conv => lhs; whnf) rfl (fun v => ?_)
  have e120 := (h3 v).trans (by rw [show [D.v (Value.int IntKind.i64 xid), D.v u, D.v v] = cRN (rXN ((⟨xid, xl, xp⟩ : Nod), u, v)) from rfl, hset u v])
  have e210 : (Xv ys ++ [(u, 1, xl.map Xb)]) ++ (v, 6, xp.map X6) :: [] = Xv (ys ++ [((⟨xid, xl, xp⟩ : Nod), u, v)]) := by rw [X1O]; simp [Xv, bXN]
  have e16 : ((i : Int) + 1) = (((ys ++ [((⟨xid, xl, xp⟩ : Nod), u, v)]).length : Nat) : Int) := by rw [List.length_append, hi]; rfl
  have hlen' : (ys ++ [((⟨xid, xl, xp⟩ : Nod), u, v)]).length = i + 1 := by rw [List.length_append, hi]; rfl
  have hsn := hsn u v
  clear h3 hset hw2
  generalize ys ++ [((⟨xid, xl, xp⟩ : Nod), u, v)] = ys' at *
  refine QV ?_
  refine ⟨ys', ⟨hsn, by omega⟩, by omega, ?_⟩
  exact X7 rfl ⟨JL, JL, JL, JL, JL, AVal.le_of_eq (Eq.trans (b := ai ((i : Int) + 1)) rfl (by rw [e16])), trivial⟩ ⟨rfl, rfl, rfl, Eq.trans (b := .raw (C1.set (i * 3 + 2) (some (D.v v))) none) rfl (by rw [e120]), Eq.trans (b := .bag ((Xv ys ++ [(u, 1, xl.map Xb)]) ++ (v, 6, xp.map X6) :: [])) rfl (by rw [e210]), trivial⟩
 ·clear hcn hnL hnL' hnl hnp
  show AWP Tryz.prog E _ _ _
  refine QUa ?_; refine Z9 (hcon := hce) ?_; refine QCf ?_; refine X0 ?_; refine X0 ?_
  refine X3I ⟨60, [(1, .ptr 100 0), (2, .ptr 101 0), (3, .ptr 102 0)], [(100, .box [.d (.sl 3 (ns.map X9)), .d (.sl 5 (es.map Xe)), ai nn, ai ne]), (101, .box [ani, ani, ai 0, ai 0]), (102, .box [.own 110 ns.length, .own 111 es.length, ai nn, ai ne]), (110, .nest 3 (ns.map cNN)), (111, .nest 5 (es.map cNE))]⟩ ?_ ?_
  ·by_cases h0 : es = []
   ·subst h0
    refine QCe ?_; refine Z0c ?_; refine Z1 ?_; refine QK ?_; refine Xz (fun _ : Unit => True) (fun _ => ⟨60, [(1, .ptr 100 0), (2, .ptr 101 0), (3, .ptr 102 0), (44, ai (([] : List D).length : Nat)), (45, ai 0)], [(100, .box [.d (.sl 3 (ns.map X9)), .d (.sl 5 []), ai nn, ai ne]), (101, .box [ani, ani, ai 0, ai 0]), (102, .box [.own 110 ns.length, .own 111 0, ai nn, ai ne]), (110, .nest 3 (ns.map cNN)), (111, .row 5 [])]⟩) (fun _ => 0) () trivial (X7 rfl JM ⟨rfl, rfl, rfl, rfl, rfl, trivial⟩) ?_
    intro _ _
    have hn : ¬ (0 : Int) < (([] : List D).length : Nat) := by simp
    refine QM ?_; refine St.le_trans (X4T 211 rfl) ?_; refine St.le_trans (X0u 111 211 [] rfl rfl) ?_; exact X7 rfl JM ⟨rfl, rfl, rfl, rfl, rfl, trivial⟩
   have hpos : 0 < (es.map Xe).length := by rw [heL]; exact List.length_pos_iff.2 h0
   refine VY 102 1 111 123 rfl hpos rfl rfl heL' rfl rfl (fun cp k hc1 hc2 hc3 _ => ?_)
   rw [heL] at hc1 hc3
   have hb0 : (es.map Xe).flatten.map some ++ List.replicate k none = (UU es []).flatten.map some ++ List.replicate k none := by rw [Xft]
   rw [hb0]
   refine Xm (X4T 211 rfl) ?_
   clear hpos hb0 h0 heL heL' hce
   refine QCe ?_; refine Z0i ?_; refine Z1 ?_; refine QK ?_
   refine Xz (ι := List XE) (fun ys => ys.map (·.1) = es.take ys.length ∧ ys.length ≤ es.length) (fun ys => ⟨60, [(1, .ptr 100 0), (2, .ptr 101 0), (3, .ptr 102 0), (43, .rs 123 0 es.length cp), (44, ai es.length), (45, ai ys.length)], [(100, .box [.d (.sl 3 (ns.map X9)), .d (.sl 5 (es.map Xe)), ai nn, ai ne]), (101, .box [ani, ani, ai 0, ai 0]), (102, .box [.own 110 ns.length, .rs 123 0 es.length cp, ai nn, ai ne]), (110, .nest 3 (ns.map cNN)), (123, .raw ((UU es ys).flatten.map some ++ List.replicate k none) none), (211, .bag (XR ys))]⟩) (fun ys => es.length - ys.length) [] ⟨rfl, Nat.zero_le _⟩ (X7 rfl JM ⟨rfl, rfl, rfl, rfl, rfl, rfl, trivial⟩) ?_
   rintro ys ⟨hy, hyl⟩
   by_cases hil : ys.length < es.length
   case neg =>
    have hn : ¬ ((ys.length : Nat) : Int) < (es.length : Nat) := by omega
    have hye : ys.map (·.1) = es := by rw [hy, List.take_of_length_le (by omega)]
    rw [Xh9 (by omega)]
    have hz3 := X1q (ys.map rXE)
    have hrl : ((ys.map rXE).map cRE).length = es.length := by rw [List.length_map, List.length_map]; omega
    have hlen := V0 (k := k) hz3
    rw [hrl] at hlen
    have htk := X2r (k := k) hz3
    rw [hrl] at htk
    refine QM ?_; refine St.le_trans (X1V 102 1 123 111 (n := es.length) (c := cp) ((ys.map rXE).map cRE) (by conv => lhs; whnf) (by conv => lhs; whnf) rfl htk hrl hz3 hc1 hc2 (by rw [hlen]; exact hc3) rfl rfl) ?_; refine St.le_trans (X0u 111 211 ys (by conv => lhs; whnf) (by conv => lhs; whnf)) ?_
    rw [hye]
    exact X7 rfl JM ⟨rfl, rfl, rfl, rfl, rfl, trivial⟩
   have hn : ((ys.length : Nat) : Int) < (es.length : Nat) := by omega
   obtain ⟨x, hx⟩ := Xu (l := es) hil
   have hxr := Xht hx
   have hz3 := Xc6 es ys
   have hrl := XfD hyl
   have hlen := V0 (k := k) hz3
   rw [hrl] at hlen
   have p2 := hep x (List.mem_of_getElem? hx)
   have hset := fun u => XdN (u := u) hx
   have hsn := fun u => XbX (u := u) hy hx
   obtain ⟨xid, xs, xd, xt, xp⟩ := x
   simp only [Xe] at hxr p2
   have hrow : ((XA ((UU es ys).flatten.map some ++ List.replicate k none) none).drop (0 + ys.length * 5)).take 5 = [ai xid, ai xs, ai xd, .d (.v (.string (X5 xt))), .d (.sl 6 (xp.map X6))] := X7q (List.replicate k none) hz3 hxr
   have h3 := fun u : Value => X5l (o := 4) (d := .v u) (List.replicate k none) hz3 hxr (by simp)
   simp only [List.set_cons_succ, List.set_cons_zero] at h3
   clear hx
   generalize hi : ys.length = i at *
   have hcp := X8C 122 (xp.map X6) (by rw [List.length_map]; omega)
   have hcp : Con Tryz.prog 164 [] [.d (.sl 6 (xp.map X6))] [(122, .row 6 (xp.map X6))] (.own 122 (xp.map X6).length) := hcp
   clear hxr hz3
   generalize hC : (UU es ys).flatten.map some ++ List.replicate k (none : Option D) = C at *
   have hj1 : i * 5 + 4 < C.length := by omega
   have hw1 := X7i (z := .own 122 (xp.map X6).length) hj1
   have e1 : 0 + i * 5 + 4 = i * 5 + 4 := by omega
   have hb1 : 0 + i * 5 + 4 + 1 ≤ C.length := by omega
   refine QP ?_; refine Z0t (sz := 5) ?_; (refine Z0A (ys := [ai xid, ai xs, ai xd, .d (.v (.string (X5 xt))), .d (.sl 6 (xp.map X6))]) (sz := 5) ?_ (hy := ?hy125); (case hy125 => exact hrow)); refine Qyd ?_; refine Z0 ?_; refine Qlb ?_; refine QCe ?_; refine QZa ?_; refine Z9 (hcon := hcp) ?_; refine Z0t (sz := 5) ?_; refine ZB ?_; (refine Z0u (cs' := C) (ho' := some (i * 5 + 4, .own 122 (xp.map X6).length)) ?_ (hcs := ?hcs127); (case hcs127 => exact (by rw [e1]; exact hw1))); refine JD ?_
   show AWP Tryz.prog E _ _ _
   refine X59 123 211 (i * 5 + 4) 122 (XR ys) [] (by conv => lhs; whnf) hj1 (Eq.trans (b := .bag (XR ys)) (by conv => lhs; whnf) (by rw [List.append_nil])) (by conv => lhs; whnf) rfl (fun u => ?_)
   have e120 := (h3 u).trans (by rw [show [D.v (Value.int IntKind.i64 xid), D.v (Value.int IntKind.i64 xs), D.v (Value.int IntKind.i64 xd), D.v (Value.string (X5 xt)), D.v u] = cRE (rXE ((⟨xid, xs, xd, xt, xp⟩ : Edg), u)) from rfl, hset u])
   have e210 : XR ys ++ (u, 6, xp.map X6) :: [] = XR (ys ++ [((⟨xid, xs, xd, xt, xp⟩ : Edg), u)]) := by rw [X2v]; simp [XR, bXE]
   have e16 : ((i : Int) + 1) = (((ys ++ [((⟨xid, xs, xd, xt, xp⟩ : Edg), u)]).length : Nat) : Int) := by rw [List.length_append, hi]; rfl
   have hlen' : (ys ++ [((⟨xid, xs, xd, xt, xp⟩ : Edg), u)]).length = i + 1 := by rw [List.length_append, hi]; rfl
   have hsn := hsn u
   clear h3 hset hw1
   generalize ys ++ [((⟨xid, xs, xd, xt, xp⟩ : Edg), u)] = ys' at *
   refine QV ?_
   refine ⟨ys', ⟨hsn, by omega⟩, by omega, ?_⟩
   exact X7 rfl ⟨JL, JL, JL, JL, JL, AVal.le_of_eq (Eq.trans (b := ai ((i : Int) + 1)) rfl (by rw [e16])), trivial⟩ ⟨rfl, rfl, rfl, rfl, Eq.trans (b := .raw (C.set (i * 5 + 4) (some (D.v u))) none) rfl (by rw [e120]), Eq.trans (b := .bag (XR ys ++ (u, 6, xp.map X6) :: [])) rfl (by rw [e210]), trivial⟩
  ·clear hce heL heL' hel hep
   show AWP Tryz.prog E _ _ _
   refine QWb ?_; refine Qlb ?_
   (show AWP Tryz.prog E _ _ _; refine X1 ?_; exact (show Xd _ _ _ _ _ from ⟨_, St.le_refl _, ⟨⟨101, 0, _, rfl, rfl, .inr ⟨4, _, rfl, rfl, rfl, rfl⟩⟩, trivial⟩, XZ ⟨rfl, rfl, trivial⟩⟩))
theorem Xdt (l : List (List UInt8)) (s : List UInt8) : VB l s = Xn XC l s := by
 unfold VB Xn
 congr 1
 funext x
 exact decide_eq_decide.2 ⟨fun h => h.symm, fun h => h.symm⟩
theorem X0q {α : Type} {a b c : List α} (h : a ++ b = c) : a.length ≤ c.length := by rw [← h, List.length_append]; omega
theorem XeT (l : List (List UInt8)) (s : List UInt8) (hl : l.length ≤ 100000) : Con Tryz.prog 178 [] [.d (.sl 1 (l.map Xb)), Uo s] [] (.d (.sl 1 ((Yx XC l s).map Xb))) := by
 refine Xc (xs := [.d (.sl 1 ((Yx XC l s).map Xb))]) Tryz.func178 rfl Tryz.ntmps178 rfl rfl rfl (fun E => ?_)
 have hlm : (l.map Xb).length = l.length := by simp
 have hRl := X67 (key := XC) l s
 generalize hR : Yx XC l s = R at *
 refine Qc ?_; refine Qac ?_; refine Xm (YX 5 130 1 rfl rfl rfl) ?_
 refine Xz (ι := Nat × List (List UInt8)) (fun q => q.1 ≤ l.length ∧ q.2 ++ Yx XC (l.drop q.1) s = R) (fun q => ⟨27, [(0, .d (.sl 1 (l.map Xb))), (1, Uo s), (5, .own 130 (q.2.map Xb).length), (6, ai q.1)], [(130, .row 1 (q.2.map Xb))]⟩) (fun q => l.length - q.1) (0, []) ⟨Nat.zero_le _, by simpa using hR⟩
  (X7 rfl JM ⟨rfl, trivial⟩) ?_
 rintro ⟨i, out⟩ ⟨hi, hg⟩
 simp only at hi hg
 by_cases hil : i < l.length
 case neg =>
  have hn : ¬ (i : Int) < (l.map Xb).length := by omega
  rw [List.drop_of_length_le (by omega), show Yx XC ([] : List (List UInt8)) s = [] from rfl, List.append_nil] at hg
  subst hg
  refine Qlc ?_; refine QJa ?_; refine QId ?_; refine Xm (Yq 4 130 rfl rfl (by simp)) ?_
  (show AWP Tryz.prog E _ _ _; refine X1 ?_; exact (show Xd _ _ _ _ _ from ⟨_, St.le_refl _, ⟨rfl, trivial⟩, X3 _⟩))
 have hn : (i : Int) < (l.map Xb).length := by omega
 obtain ⟨x, hx⟩ := Xu (l := l) hil
 have hxc : (l.map Xb)[i]? = some (Xb x) := XD hx
 rw [X6q hx] at hg
 have hrm := X0q hg
 have hroom : (out.map Xb).length ≤ 100000 := by rw [List.length_map]; omega
 simp only [Xb] at hxc
 by_cases hq : x = s
 ·subst hq
  rw [if_pos rfl, List.nil_append] at hg
  refine Qnc ?_; refine QXc ?_; refine Z1 ?_; refine ZM ?_; refine QEa ?_; exact ⟨(i + 1, out), ⟨by simp only; omega, hg⟩, by simp only; omega, X7 rfl JM ⟨rfl, trivial⟩⟩
 ·rw [if_neg (show ¬ XC x = s from hq), ← List.append_assoc] at hg
  refine Qnc ?_; refine QXc ?_; refine Z1 ?_; refine ZM ?_; refine Qx ?_; refine QKd ?_; refine QXc ?_; refine QMd ?_
  refine ⟨(i + 1, out ++ [x]), ⟨by simp only; omega, hg⟩, by simp only; omega, ?_⟩
  dsimp only
  rw [List.map_append]
  exact X7 rfl ⟨JL, JL, AVal.le_of_eq (by refine Eq.trans (b := AVal.own 130 (_ + _)) rfl ?_; simp only [List.length_append, List.length_map, List.length_cons, List.length_nil]), JL, trivial⟩ ⟨rfl, trivial⟩
theorem XgW (l : List (List UInt8)) (s : List UInt8) (hl : l.length ≤ 100000) (hs : Y0 ltS XC l) (hh : Xn XC l s = false) : Con Tryz.prog 177 [] [.d (.sl 1 (l.map Xb)), Uo s] [] (.d (.sl 1 ((Yh ltS XC l s [s]).map Xb))) := by
 refine Xc (xs := [.d (.sl 1 ((Yh ltS XC l s [s]).map Xb))]) Tryz.func177 rfl Tryz.ntmps177 rfl rfl rfl (fun E => ?_)
 have hlm : (l.map Xb).length = l.length := by simp
 rw [X28 hh]
 have hle := X3r (lt := ltS) (key := XC) l s
 have h1 := X5o (lt := ltS) (key := XC) (l := l) (k := s)
 have h2 : ∀ x, l[Xf ltS XC l s]? = some x → ltS x s = false ∧ x ≠ s := fun x hx => ⟨X50 hx, fun e => by
  subst e
  have : Xn XC l x = true := by unfold Xn; rw [List.any_eq_true]; exact ⟨x, List.mem_of_getElem? hx, by simp⟩
  rw [hh] at this; cases this⟩
 generalize Xf ltS XC l s = k at *
 clear hs hh
 refine Qc ?_; refine Qc ?_; refine Qc ?_; refine QO ?_
 refine Xz (fun i : Nat => i ≤ k) (fun i => ⟨47, [(0, .d (.sl 1 (l.map Xb))), (1, Uo s), (5, ani), (6, ai i)], []⟩) (fun i => l.length - i) 0 (Nat.zero_le _)
  (X7 rfl JM trivial) ?_
 intro i hi
 by_cases hik : i < k
 case pos =>
  have hil : i < l.length := by omega
  have hn : (i : Int) < (l.map Xb).length := by omega
  obtain ⟨x, hx⟩ := Xu (l := l) hil
  have hxc : (l.map Xb)[i]? = some (Xb x) := XD hx
  have hlt := h1 x (by rw [List.mem_take_iff_getElem]; obtain ⟨hl, rfl⟩ := List.getElem?_eq_some_iff.1 hx; exact ⟨i, by omega, rfl⟩)
  have hlt : Op.bytesLess x s = true := hlt
  simp only [Xb] at hxc
  clear h1 h2
  refine Qva ?_; refine Qbc ?_; refine Qf ?_; refine QXc ?_; refine Z1 ?_; refine Z01 ?_; refine Zn ?_; refine QOa ?_; refine QBa ?_; exact ⟨i + 1, by omega, by omega, X7 rfl JM trivial⟩
 obtain rfl : i = k := by omega
 have hspl : (l.take i ++ [s] ++ l.drop i).map Xb = [] ++ ((l.map Xb).take i).drop 0 ++ [Xb s] ++ ((l.map Xb).take (l.map Xb).length).drop i := by rw [List.take_length]; simp
 rw [hspl]
 have hr1 : ((l.map Xb).take i).length = i := by rw [List.length_take]; omega
 have hr2 : ((l.map Xb).drop i).length = l.length - i := by rw [List.length_drop]; omega
 by_cases hil : i < l.length
 case pos =>
  have hn : (i : Int) < (l.map Xb).length := by omega
  have hn2 : ¬ (i : Int) = (l.map Xb).length := by omega
  obtain ⟨x, hx⟩ := Xu (l := l) hil
  have hxc : (l.map Xb)[i]? = some (Xb x) := XD hx
  obtain ⟨hlt, hne⟩ := h2 x hx
  have hlt : Op.bytesLess x s = false := hlt
  simp only [Xb] at hxc
  clear h1 h2 hx hik hi
  refine Qva ?_; refine Qbc ?_; refine Qf ?_; refine QXc ?_; refine Z1 ?_; refine Z01 ?_; refine Zn ?_; refine Qwa ?_; refine X0 ?_; refine Xm (YX 5 130 1 rfl rfl rfl) ?_; refine JR ?_; refine QX ?_; refine Z0o ?_; refine QLd ?_; refine Qva ?_; refine Zd ?_; refine Zl ?_; refine Qf ?_; refine QXc ?_; refine Z1 ?_; refine ZM ?_; refine Zq ?_; refine Qx ?_; refine QKd ?_; refine Z5 ?_; refine Z6 ?_; refine QQ ?_; refine Qf ?_; refine Z0o ?_; refine QLd ?_; refine QId ?_; refine Xm (Yq 4 130 rfl rfl (by simp only [List.length_append])) ?_
  (show AWP Tryz.prog E _ _ _; refine X1 ?_; exact (show Xd _ _ _ _ _ from ⟨_, St.le_refl _, ⟨rfl, trivial⟩, X3 _⟩))
 case neg =>
  have hn : ¬ (i : Int) < (l.map Xb).length := by omega
  have hn2 : (i : Int) = (l.map Xb).length := by omega
  clear h1 h2 hik hi
  refine Qva ?_; refine Qbc ?_; refine QXa ?_; refine Zq ?_; refine Qwa ?_; refine X0 ?_; refine Xm (YX 5 130 1 rfl rfl rfl) ?_; refine JR ?_; refine QX ?_; refine Z0o ?_; refine QLd ?_; refine Qva ?_; refine Zd ?_; refine Zl ?_; refine QXa ?_; refine Zn ?_; refine Qx ?_; refine QKd ?_; refine Z5 ?_; refine Z6 ?_; refine QQ ?_; refine Qf ?_; refine Z0o ?_; refine QLd ?_; refine QId ?_; refine Xm (Yq 4 130 rfl rfl (by simp only [List.length_append])) ?_
  (show AWP Tryz.prog E _ _ _; refine X1 ?_; exact (show Xd _ _ _ _ _ from ⟨_, St.le_refl _, ⟨rfl, trivial⟩, X3 _⟩))
theorem X8p (l : List Prp) (key : List UInt8) (v : Val) (hl : l.length ≤ 100000) (hv : Y3 v) : Con Tryz.prog 174 [] [.d (.sl 6 (l.map X6)), Uo key, XG v] [] (.tup [.d (.sl 6 ((XV l key v).map X6)), ab (decide ((XV l key v).length ≤ 16))]) := by
 refine Xc (xs := [.d (.sl 6 ((XV l key v).map X6)), ab (decide ((XV l key v).length ≤ 16))]) Tryz.func174 rfl Tryz.ntmps174 rfl rfl rfl (fun E => ?_)
 have hlm : (l.map X6).length = l.length := by simp
 have hnu := Xaw v hv
 have hRl : (XV l key v).length ≤ l.length + 1 := by
  refine Nat.le_trans X0W ?_
  split <;> simp
 generalize hR : XV l key v = R at *
 unfold XV at hR
 clear hv
 obtain ⟨vk, vn, vd, vs, vl⟩ := v
 simp only [XG] at *
 refine QRa ?_; refine QKa ?_; refine Qc ?_; refine Qac ?_; refine Xm (YX 8 130 6 rfl rfl rfl) ?_
 refine Xz (ι := Nat × Bool × List Prp) (fun q => q.1 ≤ l.length ∧ q.2.2 ++ Vv ltS Prp.key (l.drop q.1) key (if Yo (.mk vk vn vd vs vl) = true then [] else [⟨key, .mk vk vn vd vs vl⟩]) q.2.1 = R) (fun q => ⟨68, [(0, .d (.sl 6 (l.map X6))), (1, Uo key), (5, .ptr 100 0), (8, .own 130 (q.2.2.map X6).length), (9, ab q.2.1), (10, ai q.1)], [(100, .box [ai vk, ai vn, ai vd, .d (.v (.string (X5 vs))), .d (.sl 5 (Xx vl))]), (130, .row 6 (q.2.2.map X6))]⟩) (fun q => l.length - q.1) (0, false, []) ⟨Nat.zero_le _, by simpa [Vv] using hR⟩
  (X7 rfl JM ⟨rfl, rfl, trivial⟩) ?_
 rintro ⟨i, b, out⟩ ⟨hi, hg⟩
 simp only at hi hg
 have hrm := X0q hg
 have hroom : (out.map X6).length ≤ 100001 := by rw [List.length_map]; omega
 by_cases hil : i < l.length
 case neg =>
  have hn : ¬ (i : Int) < (l.map X6).length := by omega
  rw [List.drop_of_length_le (by omega), X6N] at hg
  cases b with
  | true =>
   rw [if_pos rfl, List.append_nil] at hg
   subst hg
   have hm : (out.map X6).length = out.length := by simp
   refine Qlc ?_; refine Qvd ?_; refine Qi ?_; refine Zo ?_; refine QI ?_; refine Qd ?_; refine Z1 ?_; refine QZf ?_; refine Xm (Yq 6 130 rfl rfl rfl) ?_
   (show AWP Tryz.prog E _ _ _; refine X1 ?_; refine (show Xd _ _ _ _ _ from ⟨_, St.le_refl _, ⟨rfl, ?_, trivial⟩, X3 _⟩); refine Eq.trans (b := ab (decide ((_ : Int) ≤ 16))) rfl ?_; exact congrArg ab (decide_eq_decide.2 (by (try simp only [List.length_append, List.length_map, List.length_singleton]); omega)))
  | false =>
   rw [if_neg (by simp)] at hg
   cases hz : Yo (.mk vk vn vd vs vl) with
   | true =>
    rw [hz] at hg hnu
    rw [if_pos rfl, List.append_nil] at hg
    subst hg
    have hm : (out.map X6).length = out.length := by simp
    refine Qlc ?_; refine Qvd ?_; refine Qpb ?_; refine Z9 (hcon := hnu) ?_; refine Zu ?_; refine Zn ?_; refine QH ?_; refine Qd ?_; refine Z1 ?_; refine QZf ?_; refine Xm (Yq 6 130 rfl rfl rfl) ?_
    (show AWP Tryz.prog E _ _ _; refine X1 ?_; refine (show Xd _ _ _ _ _ from ⟨_, St.le_refl _, ⟨rfl, ?_, trivial⟩, X3 _⟩); refine Eq.trans (b := ab (decide ((_ : Int) ≤ 16))) rfl ?_; exact congrArg ab (decide_eq_decide.2 (by (try simp only [List.length_append, List.length_map, List.length_singleton]); omega)))
   | false =>
    rw [hz] at hg hnu
    rw [if_neg (by simp)] at hg
    subst hg
    have hm : (out.map X6).length = out.length := by simp
    have hap : (out ++ [(⟨key, .mk vk vn vd vs vl⟩ : Prp)]).map X6 = out.map X6 ++ [[.v (.string (X5 key)), .v (.int .i64 vk), .v (.int .i64 vn), .v (.int .i64 vd), .v (.string (X5 vs)), .sl 5 (Xx vl)]] := by simp [X6, Y1]
    rw [hap, List.length_append, List.length_singleton]
    refine Qlc ?_; refine Qvd ?_; refine Qpb ?_; refine Z9 (hcon := hnu) ?_; refine Zu ?_; refine Zn ?_; refine Qx ?_; refine QKd ?_; refine ZL ?_; refine Zx ?_; refine Z5 ?_; refine Z6 ?_; refine QR ?_; refine QZf ?_; refine Xm (Yq 6 130 rfl rfl (by simp only [List.length_append])) ?_
    (show AWP Tryz.prog E _ _ _; refine X1 ?_; refine (show Xd _ _ _ _ _ from ⟨_, St.le_refl _, ⟨rfl, ?_, trivial⟩, X3 _⟩); refine Eq.trans (b := ab (decide ((_ : Int) ≤ 16))) rfl ?_; exact congrArg ab (decide_eq_decide.2 (by (try simp only [List.length_append, List.length_map, List.length_singleton]); omega)))
 have hn : (i : Int) < (l.map X6).length := by omega
 obtain ⟨x, hx⟩ := Xu (l := l) hil
 have hxc : (l.map X6)[i]? = some (X6 x) := XD hx
 have hirr : ltS x.key key = true → x.key ≠ key := fun h e => by rw [e, V6.irr] at h; cases h
 rw [X5i hx hirr] at hg
 obtain ⟨xk, ⟨wk, wn, wd, ws, wl⟩⟩ := x
 simp only [X6, Y1] at hxc hg hirr
 clear hx
 cases b with
 | true =>
  rw [if_neg (by simp), List.nil_append, Bool.true_or] at hg
  by_cases hq : xk = key
  ·subst hq
   rw [if_pos rfl, List.nil_append] at hg
   refine Qcc ?_; refine Qvd ?_; refine QXa ?_; refine Zo ?_; refine QI ?_; refine Qd ?_; refine Qhc ?_; refine ZM ?_; refine QEa ?_
   refine ⟨(i + 1, true, out), ⟨by simp only; omega, hg⟩, by simp only; omega, ?_⟩
   dsimp only
   skip
   exact X7 rfl ⟨JL, JL, JL, JL, JL, JL, trivial⟩ ⟨rfl, rfl, trivial⟩
  ·rw [if_neg hq, ← List.append_assoc] at hg
   have hap : (out ++ [(⟨xk, .mk wk wn wd ws wl⟩ : Prp)]).map X6 = out.map X6 ++ [[.v (.string (X5 xk)), .v (.int .i64 wk), .v (.int .i64 wn), .v (.int .i64 wd), .v (.string (X5 ws)), .sl 5 (Xx wl)]] := by simp [X6, Y1]
   refine Qcc ?_; refine Qvd ?_; refine QXa ?_; refine Zo ?_; refine QI ?_; refine Qd ?_; refine Qag ?_
   refine ⟨(i + 1, true, out ++ [(⟨xk, .mk wk wn wd ws wl⟩ : Prp)]), ⟨by simp only; omega, hg⟩, by simp only; omega, ?_⟩
   dsimp only
   rw [hap]
   exact Qbg
 | false =>
  by_cases hp : ltS xk key = true
  ·have hq := hirr hp
   rw [hp, if_neg (by simp), if_neg hq, List.nil_append, ← List.append_assoc] at hg
   have hp' : Op.bytesLess xk key = true := hp
   have hap : (out ++ [(⟨xk, .mk wk wn wd ws wl⟩ : Prp)]).map X6 = out.map X6 ++ [[.v (.string (X5 xk)), .v (.int .i64 wk), .v (.int .i64 wn), .v (.int .i64 wd), .v (.string (X5 ws)), .sl 5 (Xx wl)]] := by simp [X6, Y1]
   refine Qcc ?_; refine Qcg ?_; refine Qhc ?_; refine Z0B ?_; refine Zn ?_; refine QH ?_; refine Qd ?_; refine Qag ?_
   refine ⟨(i + 1, false, out ++ [(⟨xk, .mk wk wn wd ws wl⟩ : Prp)]), ⟨by simp only; omega, hg⟩, by simp only; omega, ?_⟩
   dsimp only
   rw [hap]
   exact Qbg
  ·have hp : ltS xk key = false := by simpa using hp
   have hp' : Op.bytesLess xk key = false := hp
   rw [hp, if_pos ⟨rfl, rfl⟩] at hg
   cases hz : Yo (.mk vk vn vd vs vl) with
   | true =>
    rw [hz] at hg hnu
    rw [if_pos rfl, List.nil_append] at hg
    by_cases hq : xk = key
    ·subst hq
     rw [if_pos rfl, List.nil_append] at hg
     refine Qdg ?_; refine QYb ?_; refine Qd ?_; refine Qhc ?_; refine ZM ?_; refine QEa ?_
     refine ⟨(i + 1, true, out), ⟨by simp only; omega, hg⟩, by simp only; omega, ?_⟩
     dsimp only
     skip
     exact X7 rfl ⟨JL, JL, JL, JL, JL, JL, trivial⟩ ⟨rfl, rfl, trivial⟩
    ·rw [if_neg hq, ← List.append_assoc] at hg
     have hap : (out ++ [(⟨xk, .mk wk wn wd ws wl⟩ : Prp)]).map X6 = out.map X6 ++ [[.v (.string (X5 xk)), .v (.int .i64 wk), .v (.int .i64 wn), .v (.int .i64 wd), .v (.string (X5 ws)), .sl 5 (Xx wl)]] := by simp [X6, Y1]
     refine Qdg ?_; refine QYb ?_; refine Qd ?_; refine Qag ?_
     refine ⟨(i + 1, true, out ++ [(⟨xk, .mk wk wn wd ws wl⟩ : Prp)]), ⟨by simp only; omega, hg⟩, by simp only; omega, ?_⟩
     dsimp only
     rw [hap]
     exact Qbg
   | false =>
    rw [hz] at hg hnu
    rw [if_neg (by simp)] at hg
    by_cases hq : xk = key
    ·subst hq
     rw [if_pos rfl, List.append_nil, ← List.append_assoc] at hg
     have hap : (out ++ [(⟨xk, .mk vk vn vd vs vl⟩ : Prp)]).map X6 = out.map X6 ++ [[.v (.string (X5 xk)), .v (.int .i64 vk), .v (.int .i64 vn), .v (.int .i64 vd), .v (.string (X5 vs)), .sl 5 (Xx vl)]] := by simp [X6, Y1]
     refine Qdg ?_; refine Zu ?_; refine Qx ?_; refine QKd ?_; refine ZL ?_; refine Zx ?_; refine Z5 ?_; refine Z6 ?_; refine QQ ?_; refine Qhc ?_; refine ZM ?_; refine QEa ?_
     refine ⟨(i + 1, true, out ++ [(⟨xk, .mk vk vn vd vs vl⟩ : Prp)]), ⟨by simp only; omega, hg⟩, by simp only; omega, ?_⟩
     dsimp only
     rw [hap]
     exact Qbg
    ·rw [if_neg hq, List.append_assoc, ← List.append_assoc, ← List.append_assoc] at hg
     have hap : (out ++ [(⟨key, .mk vk vn vd vs vl⟩ : Prp)] ++ [(⟨xk, .mk wk wn wd ws wl⟩ : Prp)]).map X6 = (out.map X6 ++ [[.v (.string (X5 key)), .v (.int .i64 vk), .v (.int .i64 vn), .v (.int .i64 vd), .v (.string (X5 vs)), .sl 5 (Xx vl)]]) ++ [[.v (.string (X5 xk)), .v (.int .i64 wk), .v (.int .i64 wn), .v (.int .i64 wd), .v (.string (X5 ws)), .sl 5 (Xx wl)]] := by simp [X6, Y1]
     refine Qdg ?_; refine Zu ?_; refine Qx ?_; refine QKd ?_; refine ZL ?_; refine Zx ?_; refine Z5 ?_; refine Z6 ?_; refine QQ ?_; refine Qag ?_
     refine ⟨(i + 1, true, out ++ [(⟨key, .mk vk vn vd vs vl⟩ : Prp)] ++ [(⟨xk, .mk wk wn wd ws wl⟩ : Prp)]), ⟨by simp only; omega, hg⟩, by simp only; omega, ?_⟩
     dsimp only
     rw [hap]
     exact Qbg
end Go.Fw

/- The reference's histories: the check, states. -/
import Derived.Test.YtonekjkmnhfjmaaGreatDoorM51
set_option maxHeartbeats 16000000
namespace Go.Fw
open Go Go.Proofs
set_option maxRecDepth 100000
set_option linter.unusedVariables false
set_option linter.unusedSimpArgs false
theorem XhL (h : Hist) (hf : HistHold h) : Con Tryz.prog 21 [] [Xq h] [] (ai (UQ h)) := by
 refine Xc (xs := [ai (UQ h)]) Tryz.func21 rfl Tryz.ntmps21 rfl rfl rfl (fun E => ?_)
 have hk := X11 h hf
 have hv := U6 (h := h)
 unfold UQ
 by_cases c : XM h ≠ 0
 ·rw [if_pos c]
  clear hv hf
  generalize XM h = e at *
  obtain ⟨base, ⟨ns, es, nn, ne⟩, cs⟩ := h
  simp only [Xq] at *
  refine QSa ?_; refine QEg ?_; refine Zv ?_; refine Qle ?_
  (show AWP Tryz.prog E _ _ _; refine X1 ?_; exact (show Xd _ _ _ _ _ from ⟨_, St.le_refl _, ⟨rfl, trivial⟩, X3 _⟩))
 rw [if_neg c]
 have c : XM h = 0 := by simpa using c
 have hv := hv.1 c
 rw [c] at hk
 have hl := X7k h hv.b hv.cl
 clear hv hf c
 generalize XB h = z at *
 obtain ⟨base, ⟨ns, es, nn, ne⟩, cs⟩ := h
 simp only [Xq] at *
 refine QSa ?_; refine QEg ?_; refine QSc ?_; refine QWb ?_; refine Z9 (hcon := hl) ?_; refine Qb ?_
 (show AWP Tryz.prog E _ _ _; refine X1 ?_; exact (show Xd _ _ _ _ _ from ⟨_, St.le_refl _, ⟨rfl, trivial⟩, X3 _⟩))
theorem XbH (g : Gra) (ts : Int) (hg : GraHold g) (hb : GraB g) : Con Tryz.prog 15 [] [Xl g, ai ts] [] (.tup [Xq (VF g ts), ai (XM ⟨ts, g, []⟩)]) := by
 refine Xc (xs := [Xq (VF g ts), ai (XM ⟨ts, g, []⟩)]) Tryz.func15 rfl Tryz.ntmps15 rfl rfl rfl (fun E => ?_)
 have hf := X3A hg ts
 have hk := X11 ⟨ts, g, []⟩ hf.hold
 have hcp := X7B g hb
 unfold VF
 clear hf hg hb
 by_cases c : XM ⟨ts, g, []⟩ ≠ 0
 ·rw [if_pos c]
  generalize XM ⟨ts, g, []⟩ = e at *
  obtain ⟨ns, es, nn, ne⟩ := g
  simp only [Xq, Xl, List.map_nil] at *
  refine Qod ?_; refine QQ ?_; refine ZL ?_; refine Z9 (hcon := hcp) ?_; refine Zx ?_; refine QWf ?_; refine QEg ?_; refine QFg ?_
  (show AWP Tryz.prog E _ _ _; refine X1 ?_; exact (show Xd _ _ _ _ _ from ⟨_, Y5 101 (cs' := [ai 0, .d (.sl 3 []), .d (.sl 5 []), ai 0, ai 0, .d (.sl 2 [])]) rfl JM rfl, ⟨⟨101, 0, _, rfl, rfl, .inr ⟨6, _, rfl, rfl, rfl, rfl⟩⟩, rfl, trivial⟩, X3 _⟩))
 rw [if_neg c]
 have c : XM ⟨ts, g, []⟩ = 0 := by simpa using c
 rw [c] at hk ⊢
 clear c
 obtain ⟨ns, es, nn, ne⟩ := g
 simp only [Xq, Xl, List.map_nil] at *
 refine Qod ?_; refine QQ ?_; refine ZL ?_; refine Z9 (hcon := hcp) ?_; refine Zx ?_; refine QWf ?_; refine QGg ?_; refine QWb ?_; refine Qfa ?_
 (show AWP Tryz.prog E _ _ _; refine X1 ?_; exact (show Xd _ _ _ _ _ from ⟨_, Y5 101 (cs' := [ai ts, .d (.sl 3 (ns.map X9)), .d (.sl 5 (es.map Xe)), ai nn, ai ne, .d (.sl 2 [])]) rfl JM rfl, ⟨⟨101, 0, _, rfl, rfl, .inr ⟨6, _, rfl, rfl, rfl, rfl⟩⟩, rfl, trivial⟩, X3 _⟩))
theorem XfE (h : Hist) (ts : Int) (hf : HistHold h) : Con Tryz.prog 17 [] [Xq h, ai ts] [] (.tup [Xl (atS h ts), ai (XI h ts)]) := by
 refine Xc (xs := [Xl (atS h ts), ai (XI h ts)]) Tryz.func17 rfl Tryz.ntmps17 rfl rfl rfl (fun E => ?_)
 have hk := X6M h ts hf
 unfold atS
 by_cases c : XI h ts ≠ 0
 ·rw [if_pos c]
  clear hf
  generalize XI h ts = e at *
  obtain ⟨base, ⟨ns, es, nn, ne⟩, cs⟩ := h
  simp only [Xq, Xl, List.map_nil] at *
  refine QXg ?_; refine QFg ?_
  (show AWP Tryz.prog E _ _ _; refine X1 ?_; exact (show Xd _ _ _ _ _ from ⟨_, Y5 101 (cs' := [.d (.sl 3 []), .d (.sl 5 []), ai 0, ai 0]) rfl JM rfl, ⟨⟨101, 0, _, rfl, rfl, .inr ⟨4, _, rfl, rfl, rfl, rfl⟩⟩, rfl, trivial⟩, X3 _⟩))
 rw [if_neg c]
 have c : XI h ts = 0 := by simpa using c
 rw [c] at hk ⊢
 obtain ⟨k, k1, k2, k3⟩ := X2g c
 have hb := X2q c
 have hr := X6L c
 rw [k2] at hr
 have hat := X5U h k hf (X5O (Ux c).1.g) k3 (by rw [hr])
 rw [hr] at hat
 generalize atG h ts = g' at *
 clear hf hr c k2
 obtain ⟨base, ⟨ns, es, nn, ne⟩, cs⟩ := h
 obtain ⟨ns', es', nn', ne'⟩ := g'
 simp only [Xq, Xl] at *
 refine QXg ?_; refine Qid ?_; refine QWb ?_; refine QZa ?_; (refine Z4 (op := .sub) (r' := .int .i64 (k : Nat)) (u := .int .i64 ts) (v := .int .i64 base) ?_ (hr' := by exact congrArg (Value.int .i64) k1) (hr := by exact XU (by unfold Xw; omega))); refine Z9 (hcon := hat) ?_; refine Qfa ?_
 (show AWP Tryz.prog E _ _ _; refine X1 ?_; exact (show Xd _ _ _ _ _ from ⟨_, St.le_refl _, ⟨⟨101, 0, _, rfl, rfl, .inr ⟨4, _, rfl, rfl, rfl, rfl⟩⟩, rfl, trivial⟩, X3 _⟩))
theorem XgP (h : Hist) (ts : Int) (hf : HistHold h) : Con Tryz.prog 3 [] [Xq h, ai ts] [] (ab true) := by
 refine Xc (xs := [ab true]) Tryz.func3 rfl Tryz.ntmps3 rfl rfl rfl (fun E => ?_)
 have ha := X32
 have hsm := X2s h hf
 have hsf := X3e (h := h) hf
 generalize X0a h = sm at *
 cases sm with
 | false =>
  clear hf hsf
  obtain ⟨base, ⟨ns, es, nn, ne⟩, cs⟩ := h
  simp only [Xq] at *
  refine Qhh ?_; refine Qih ?_
  (show AWP Tryz.prog E _ _ _; refine X1 ?_; exact (show Xd _ _ _ _ _ from ⟨_, St.le_refl _, ⟨rfl, trivial⟩, X3 _⟩))
 | true =>
  obtain ⟨hfit, hb, hcl12, hl20⟩ := hsf rfl
  clear hsf
  have h1 := X8r h.g ts hf.g
  have h2 := XbH h.g ts hf.g hb
  have h3 := X02 h ts hfit
  have h4 := XfE h ts hf
  have h5 := X1g h hf
  have h6 := X11 h hf
  have h7 := X0S h hf
  have h8 := XhL h hf
  have hN : HistHold (VF h.g ts) := by
   unfold VF
   split
   ·exact ⟨X1v, by simp, by simp⟩
   ·exact (X3A hf.g ts).hold
  have h9 := X5c (VF h.g ts) hN
  have hA : GraHold (atS h ts) := by
   unfold atS
   split
   ·exact X1v
   ·rename_i q
    have q : XI h ts = 0 := by simpa using q
    have := X10 _ _ (Ux q).1.g (X1u (Ux q).1.ok (ts - h.base).toNat)
    exact VV this
  have h10 := X1U (atS h ts) hA
  clear hf hfit hb hcl12 hl20 hN hA
  generalize VF h.g ts = H at *
  generalize atS h ts = G at *
  generalize XM ⟨ts, h.g, []⟩ = e1 at *
  generalize XM h = e2 at *
  generalize XI h ts = e3 at *
  generalize UQ h = e4 at *
  obtain ⟨base, ⟨ns, es, nn, ne⟩, cs⟩ := h
  obtain ⟨base', ⟨ns', es', nn', ne'⟩, cs'⟩ := H
  obtain ⟨ns2, es2, nn2, ne2⟩ := G
  simp only [Xq, Xl] at *
  refine Qhh ?_; refine QH ?_; refine QSd ?_; refine Z1 ?_; refine Z9 (hcon := h1) ?_; refine QWd ?_; refine QSd ?_; refine Z1 ?_; refine Qjh ?_; refine QXb ?_; refine Z9 (hcon := h4) ?_; refine Qdd ?_; refine Zw (γ := 104) ?_; refine Qfa ?_; refine QWb ?_; refine Z9 (hcon := h5) ?_; refine ZL ?_; refine Z9 (hcon := h6) ?_; refine Zl ?_; refine Qpb ?_; refine Z9 (hcon := h7) ?_; refine ZL ?_; refine Z9 (hcon := h8) ?_; refine QIe ?_; refine Qpb ?_; refine ZL ?_; refine Z9 (hcon := h9) ?_; refine Zn ?_; refine QX ?_; refine QIe ?_; refine Qpb ?_; refine ZL ?_; refine Z9 (hcon := h10) ?_; refine Zn ?_; refine QX ?_; refine QIe ?_; refine Z1 ?_; refine Z9 (hcon := ha) ?_; refine Zn ?_; refine Z0 ?_
  refine .done (fun _ => by kernel_rfl) ?_
  (show AWP Tryz.prog E _ _ _; refine X1 ?_; exact (show Xd _ _ _ _ _ from ⟨_, St.le_refl _, ⟨rfl, trivial⟩, X3 _⟩))
end Go.Fw

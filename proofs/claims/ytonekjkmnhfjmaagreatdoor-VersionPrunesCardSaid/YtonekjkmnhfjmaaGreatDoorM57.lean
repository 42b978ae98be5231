/- Histories, in plain Lean. -/
import Derived.Test.YtonekjkmnhfjmaaGreatDoorM52
import Derived.Test.YtonekjkmnhfjmaaGreatDoorM53
set_option maxHeartbeats 16000000
namespace Go.Fw
open Go
set_option linter.unusedVariables false
set_option linter.unusedSimpArgs false
theorem X6r {h : Hist} {ts : Int} (hts : ts ≤ 1000000000000000) (e : XI h ts = 0) : HV (YD h ts) ∧ YD h ts = ⟨ts, atG h ts, h.cs.drop (ts - h.base).toNat⟩ ∧ XB (YD h ts) = XB h := by
 obtain ⟨v, h1, h2⟩ := Ux e
 have e2 : YD h ts = ⟨ts, atG h ts, h.cs.drop (ts - h.base).toNat⟩ := by unfold YD; rw [if_neg (by simp [e])]
 have hb := v.b
 have hc := v.cl
 unfold XB at h2
 refine ⟨?_, e2, ?_⟩
 ·rw [e2]
  refine ⟨⟨by simp only; omega, hts⟩, X10 _ _ v.g (X1u v.ok _), ?_, ?_, ?_⟩
  ·simp only [List.length_drop]; omega
  ·simp only
   rw [X3k]
   intro i c hi
   rw [List.getElem?_drop] at hi
   rw [(X3k _ _).1 v.ts _ c hi]
   push_cast; omega
  ·simp only [atG]
   rw [X9Q v.ok]; exact v.ok
 ·rw [e2]; unfold XB; simp only [List.length_drop]; omega
theorem X5T {h : Hist} {ts : Int} (e : XI h ts ≠ 0) : atS h ts = Ya := by unfold atS; rw [if_pos e]
theorem XdA {h : Hist} {ts at' : Int} (hts : ts ≤ 1000000000000000) (e : XI h ts = 0) (hle : ts ≤ at') : XI (YD h ts) at' = XI h at' ∧ atS (YD h ts) at' = atS h at' := by
 obtain ⟨v, h1, h2⟩ := Ux e
 obtain ⟨p1, p2, p3⟩ := X6r hts e
 have e1 := X0F (ts := at') p1
 have e2 := X0F (ts := at') v
 rw [p3] at e1
 have hb : (YD h ts).base = ts := by rw [p2]
 rw [hb] at e1
 by_cases q : XB h < at'
 ·rw [if_pos (.inr q)] at e1 e2
  refine ⟨by rw [e1, e2], ?_⟩
  rw [X5T (by rw [e1]; simp), X5T (by rw [e2]; simp)]
 ·rw [if_neg (by omega)] at e1 e2
  refine ⟨by rw [e1, e2], ?_⟩
  rw [VU e1, VU e2, p2]
  unfold atG
  simp only
  have hn : (at' - h.base).toNat = (ts - h.base).toNat + (at' - ts).toNat := by omega
  rw [hn, List.take_add, X2E, if_neg (by simp [X1u v.ok])]
theorem XgJ {h : Hist} {ts at' : Int} (hts : ts ≤ 1000000000000000) (e : XI h ts = 0) (hlt : at' < ts) : XI (YD h ts) at' = 23 := by
 obtain ⟨p1, p2, p3⟩ := X6r hts e
 have e1 := X0F (ts := at') p1
 have hb : (YD h ts).base = ts := by rw [p2]
 rw [hb, if_pos (.inl hlt)] at e1
 exact e1
open Go Go.Proofs
set_option maxRecDepth 100000
theorem XcK (h : Hist) (ts at' : Int) (hf : HistHold h) : Con Tryz.prog 4 [] [Xq h, ai ts, ai at'] [] (ab true) := by
 refine Xc (xs := [ab true]) Tryz.func4 rfl Tryz.ntmps4 rfl rfl rfl (fun E => ?_)
 have ha := X32
 have hsm := X2s h hf
 have hsf := X3e (h := h) hf
 generalize X0a h = sm at *
 cases sm with
 | false =>
  clear hsf
  clear hf
  obtain ⟨base, ⟨ns, es, nn, ne⟩, cs⟩ := h
  simp only [Xq] at *
  refine Qhh ?_; refine Qv ?_; refine Qi ?_; refine Zn ?_; refine Qih ?_
  (show AWP Tryz.prog E _ _ _; refine X1 ?_; exact (show Xd _ _ _ _ _ from ⟨_, St.le_refl _, ⟨rfl, trivial⟩, X3 _⟩))
 | true =>
  obtain ⟨hfit, hb, hcl12, hl20⟩ := hsf rfl
  clear hsf
  have hk := X11 h hf
  by_cases c : XM h ≠ 0
  ·clear hfit hb hl20 hf
   generalize XM h = e at *
   obtain ⟨base, ⟨ns, es, nn, ne⟩, cs⟩ := h
   simp only [Xq] at *
   refine Qhh ?_; refine Qpb ?_; refine Z9 (hcon := hk) ?_; refine Qke ?_; refine Qi ?_; refine Zn ?_; refine Qih ?_
   (show AWP Tryz.prog E _ _ _; refine X1 ?_; exact (show Xd _ _ _ _ _ from ⟨_, St.le_refl _, ⟨rfl, trivial⟩, X3 _⟩))
  have c : XM h = 0 := by simpa using c
  have hv := U6.1 c
  rw [c] at hk
  by_cases c2 : 1000000000000000 < ts
  ·clear hfit hb hl20 hf c hv
   obtain ⟨base, ⟨ns, es, nn, ne⟩, cs⟩ := h
   simp only [Xq] at *
   refine Qhh ?_; refine Qpb ?_; refine Z9 (hcon := hk) ?_; refine Qke ?_; refine Qf ?_; refine QD ?_; refine Qih ?_
   (show AWP Tryz.prog E _ _ _; refine X1 ?_; exact (show Xd _ _ _ _ _ from ⟨_, St.le_refl _, ⟨rfl, trivial⟩, X3 _⟩))
  have hts : ts ≤ 1000000000000000 := by omega
  have h1 := Xbx h ts hfit
  by_cases c3 : XI h ts ≠ 0
  ·have e := X0F (ts := ts) hv
   have e23 : XI h ts = 23 := by
    by_cases q : ts < h.base ∨ XB h < ts
    ·rw [if_pos q] at e; exact e
    ·rw [if_neg q] at e; exact absurd e c3
   rw [e23] at h1
   clear hfit hb hl20 hf c hv e c3 e23 hts
   generalize YD h ts = H at *
   obtain ⟨base, ⟨ns, es, nn, ne⟩, cs⟩ := h
   obtain ⟨base2, ⟨ns2, es2, nn2, ne2⟩, cs2⟩ := H
   simp only [Xq] at *
   refine Qmh ?_; refine Qnh ?_; refine QLa ?_; refine QIa ?_; refine Zl ?_; refine Z1 ?_; refine Qoh ?_
   (show AWP Tryz.prog E _ _ _; refine X1 ?_; exact (show Xd _ _ _ _ _ from ⟨_, St.le_refl _, ⟨rfl, trivial⟩, X3 _⟩))
  have c3 : XI h ts = 0 := by simpa using c3
  rw [c3] at h1
  obtain ⟨p1, p2, p3⟩ := X6r hts c3
  have hpb : (YD h ts).base = ts := by rw [p2]
  have hpf : HistFit (YD h ts) := by
   rw [p2]
   exact ⟨⟨VV (X3b c3), by simp only [List.length_drop]; omega, fun x hx => hf.cs x (List.mem_of_mem_drop hx)⟩, fun x hx => hfit.len x (List.mem_of_mem_drop hx)⟩
  have h2 := X02 h at' hfit
  have h3 := X02 (YD h ts) at' hpf
  have h4 := X1g (YD h ts) hpf.hold
  have h5 := X0S (YD h ts) hpf.hold
  have h6 := X0S h hf
  rw [U6.2 p1] at h4
  rw [X2H p1, p3] at h5
  rw [X2H hv] at h6
  by_cases c4 : at' < ts
  ·rw [XgJ hts c3 c4] at h3
   clear hfit hb hl20 hf c hv c3 p1 p2 p3 hpf
   generalize hP : YD h ts = H at *
   clear hP
   generalize XI h at' = e1 at *
   generalize atS h at' = g1 at *
   generalize atS H at' = g2 at *
   generalize XB h = z at *
   obtain ⟨base, ⟨ns, es, nn, ne⟩, cs⟩ := h
   obtain ⟨base2, ⟨ns2, es2, nn2, ne2⟩, cs2⟩ := H
   obtain ⟨ns3, es3, nn3, ne3⟩ := g1
   obtain ⟨ns4, es4, nn4, ne4⟩ := g2
   simp only at hpb
   subst hpb
   simp only [Xq, Xl] at *
   refine Qmh ?_; refine Qnh ?_; refine QKg ?_; refine QXb ?_; refine Qjh ?_; refine Qbd ?_; refine Z9 (hcon := h4) ?_; refine Zv ?_; refine Qpb ?_; refine Z9 (hcon := h5) ?_; refine ZL ?_; refine Z9 (hcon := h6) ?_; refine Qke ?_; refine QZa ?_; refine Z1 ?_; refine Zv ?_; refine QI ?_; refine QOc ?_; refine QIa ?_; refine Zl ?_; refine Z1 ?_; refine Qoh ?_
   (show AWP Tryz.prog E _ _ _; refine X1 ?_; exact (show Xd _ _ _ _ _ from ⟨_, St.le_refl _, ⟨rfl, trivial⟩, X3 _⟩))
  obtain ⟨q1, q2⟩ := XdA hts c3 (show ts ≤ at' by omega)
  rw [q1, q2] at h3
  have hA : GraHold (atS h at') := by
   by_cases q : XI h at' ≠ 0
   ·rw [X5T q]; exact X1v
   ·have q : XI h at' = 0 := by simpa using q
    rw [VU q]; exact VV (X3b q)
  have h7 := X1U (atS h at') hA
  clear hfit hb hl20 hf c hv c3 p1 p2 p3 hpf q1 q2 hA
  generalize hP : YD h ts = H at *
  clear hP
  generalize XI h at' = e1 at *
  generalize atS h at' = g1 at *
  generalize XB h = z at *
  obtain ⟨base, ⟨ns, es, nn, ne⟩, cs⟩ := h
  obtain ⟨base2, ⟨ns2, es2, nn2, ne2⟩, cs2⟩ := H
  obtain ⟨ns3, es3, nn3, ne3⟩ := g1
  simp only at hpb
  subst hpb
  simp only [Xq, Xl] at *
  refine Qmh ?_; refine Qnh ?_; refine QKg ?_; refine QXb ?_; refine Qjh ?_; refine Qbd ?_; refine Z9 (hcon := h4) ?_; refine Zv ?_; refine Qpb ?_; refine Z9 (hcon := h5) ?_; refine ZL ?_; refine Z9 (hcon := h6) ?_; refine Qke ?_; refine QZa ?_; refine Z1 ?_; refine Zv ?_; refine QI ?_; refine QOc ?_; refine QH ?_; refine Qd ?_; refine Z1 ?_; refine Zl ?_; refine Qpb ?_; refine ZL ?_; refine Z9 (hcon := h7) ?_; refine Zn ?_; refine Z1 ?_; refine Qoh ?_
  (show AWP Tryz.prog E _ _ _; refine X1 ?_; exact (show Xd _ _ _ _ _ from ⟨_, St.le_refl _, ⟨rfl, trivial⟩, X3 _⟩))
end Go.Fw

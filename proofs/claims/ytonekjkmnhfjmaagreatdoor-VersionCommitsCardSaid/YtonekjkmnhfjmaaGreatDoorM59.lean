/- Histories, in plain Lean. -/
import Derived.Test.YtonekjkmnhfjmaaGreatDoorM52
import Derived.Test.YtonekjkmnhfjmaaGreatDoorM54
set_option maxHeartbeats 16000000
namespace Go.Fw
open Go
set_option linter.unusedVariables false
set_option linter.unusedSimpArgs false
theorem XaU : ∀ (a b : List Chg) (g : Gra) (k : Nat), Yf g k (a ++ b) = if (Yf g k a).2.2 ≠ 0 then Yf g k a else Yf (Yf g k a).1 (k + a.length) b
 | [], b, g, k => by simp [Yf]
 | c :: r, b, g, k => by
  rw [List.cons_append, Yf, Yf]
  by_cases q : (XS g c).2 ≠ 0
  ·rw [if_pos q, if_pos q, if_pos q]
  ·rw [if_neg q, if_neg q, XaU r b]
   have e : k + 1 + r.length = k + (c :: r).length := by rw [List.length_cons]; omega
   rw [e]
theorem X5A : ∀ (l : List Chg) (g : Gra) (k : Nat), (Yf g k l).1 = (Yf g 0 l).1 ∧ (Yf g k l).2.2 = (Yf g 0 l).2.2
 | [], g, k => ⟨rfl, rfl⟩
 | c :: r, g, k => by
  rw [Yf, Yf]
  by_cases q : (XS g c).2 ≠ 0
  ·rw [if_pos q, if_pos q]; exact ⟨rfl, rfl⟩
  ·rw [if_neg q, if_neg q]
   have h1 := X5A r (XS g c).1 (k + 1)
   have h2 := X5A r (XS g c).1 (0 + 1)
   exact ⟨h1.1.trans h2.1.symm, h1.2.trans h2.2.symm⟩
theorem Xcq {g : Gra} {a b : List Chg} (hg : GV g) (h : (Xo g a).2.2 = 0) : (Xo g (a ++ b)).1 = (Xo (Xo g a).1 b).1 ∧ (Xo g (a ++ b)).2.2 = (Xo (Xo g a).1 b).2.2 := by
 have h' := X2m h
 have e0 := X23 hg
 have e1 := X23 h'
 have eA : ∀ l, Xo g l = Yf g 0 l := fun l => by unfold Xo; rw [if_neg (by simp [e0])]
 have eB : ∀ l, Xo (Xo g a).1 l = Yf (Xo g a).1 0 l := fun l => by unfold Xo; rw [if_neg (by rw [← Xo, e1]; simp), ← Xo]
 rw [eB, eA, eA, XaU]
 rw [eA] at h
 rw [if_neg (by simp [h])]
 exact X5A b _ _
theorem XaC : ∀ (l : List Cmt) (g : Gra), GV g → (XJ g l).2 = 0 → (Xo g (l.map Cmt.l).flatten).1 = (XJ g l).1 ∧ (Xo g (l.map Cmt.l).flatten).2.2 = 0
 | [], g, hg, _ => by
  have := X5b (X23 hg)
  exact ⟨by simp [this, XJ], by simp [this]⟩
 | c :: r, g, hg, h => by
  rw [XJ] at h ⊢
  by_cases q : (Xo g c.l).2.2 ≠ 0
  ·rw [if_pos q] at h; exact absurd h q
  ·rw [if_neg q] at h ⊢
   have q' : (Xo g c.l).2.2 = 0 := by simpa using q
   have ih := XaC r _ (X2m q') h
   have ha := Xcq (b := (r.map Cmt.l).flatten) hg q'
   rw [List.map_cons, List.flatten_cons]
   exact ⟨ha.1.trans ih.1, ha.2.trans ih.2⟩
theorem Xev {h : Hist} {l : List Chg} {ts : Int} (v : HV h) (e : YC h l = 0) (et : XI h ts = 0) :
  XI (XX h l) ts = 0 ∧ atS (XX h l) ts = atS h ts ∧ XB (XX h l) = XB h + 1 ∧ XI (XX h l) (XB h + 1) = 0 ∧
   (Xo (atS h ts) (UK (XX h l) ts)).1 = atS (XX h l) (XB h + 1) ∧ (Xo (atS h ts) (UK (XX h l) ts)).2.2 = 0 := by
 obtain ⟨c1, c2, c3, c4⟩ := X6j v e
 obtain ⟨_, h1, h2⟩ := Ux et
 have hl : XB (XX h l) = XB h + 1 := by rw [c2]; unfold XB; simp only [List.length_append, List.length_singleton]; omega
 have hb : (XX h l).base = h.base := by rw [c2]
 have e1 := X0F (ts := ts) c1
 rw [hl, hb, if_neg (by omega)] at e1
 have e2 := X0F (ts := XB h + 1) c1
 rw [hl, hb, if_neg (by omega)] at e2
 have hk : (ts - h.base).toNat ≤ h.cs.length := by unfold XB at h2; omega
 have ht : atS (XX h l) ts = atS h ts := by
  rw [VU e1, VU et, c2]
  unfold atG
  simp only
  rw [List.take_append_of_le_length hk]
 have hg := X3b et
 have hs : UK (XX h l) ts = (((h.cs ++ [(⟨XB h + 1, l⟩ : Cmt)]).drop (ts - h.base).toNat).map Cmt.l).flatten := by
  unfold UK
  rw [if_neg (by simp [e1]), c2]
 have hr : XJ (atG h ts) ((h.cs ++ [(⟨XB h + 1, l⟩ : Cmt)]).drop (ts - h.base).toNat) = XJ h.g (h.cs ++ [(⟨XB h + 1, l⟩ : Cmt)]) := by
  have := X9Q (l := h.cs ++ [(⟨XB h + 1, l⟩ : Cmt)]) (g := h.g) (by rw [c4]) (ts - h.base).toNat
  rw [List.take_append_of_le_length hk] at this
  exact this
 have ha := XaC ((h.cs ++ [(⟨XB h + 1, l⟩ : Cmt)]).drop (ts - h.base).toNat) (atG h ts) hg (by rw [hr, c4])
 refine ⟨e1, ht, hl, e2, ?_, ?_⟩
 ·rw [VU et, hs, ha.1, hr, VU e2, c2]
  unfold atG
  simp only
  have hn : h.cs.length + 1 ≤ (XB h + 1 - h.base).toNat := by unfold XB; omega
  rw [List.take_of_length_le (by simp only [List.length_append, List.length_singleton]; omega)]
 ·rw [VU et, hs, ha.2]
theorem XdO : UQ X1Z = 0 := by
 unfold UQ
 rw [if_pos (by unfold XM; rw [if_neg (by simp only; omega), if_pos (by decide)]; decide)]
open Go Go.Proofs
set_option maxRecDepth 100000
theorem Xc0 (g : Gra) (hg : GraHold g) : Con Tryz.prog 29 [] [Xl g, Xl g] [] (ab true) := by
 refine Xc (xs := [ab true]) Tryz.func29 rfl Tryz.ntmps29 rfl rfl rfl (fun E => ?_)
 have hs := X1U g hg
 obtain ⟨ns, es, nn, ne⟩ := g
 simp only [Xl] at *
 refine QZc ?_; refine Qob ?_; refine QCf ?_; refine QUa ?_; refine QCf ?_; refine Qnd ?_; refine Z9 (hcon := hs) ?_; refine Qb ?_
 (show AWP Tryz.prog E _ _ _; refine X1 ?_; exact (show Xd _ _ _ _ _ from ⟨_, St.le_refl _, ⟨rfl, trivial⟩, X3 _⟩))
theorem XeM (h : Hist) (l : List Chg) (ts : Int) (hf : HistHold h) (hl : X0m l) : Con Tryz.prog 5 [] [Xq h, .d (.sl 10 (l.map XL)), ai ts] [] (ab true) := by
 refine Xc (xs := [ab true]) Tryz.func5 rfl Tryz.ntmps5 rfl rfl rfl (fun E => ?_)
 have ha := X32
 have hsm := X2s h hf
 have hsf := X3e (h := h) hf
 generalize X0a h = sm at *
 cases sm with
 | false =>
  clear hsf
  clear hf
  obtain ⟨base, ⟨ns, es, nn, ne⟩, cs⟩ := h
  simp only [Xq] at *
  refine Qhh ?_; refine Qv ?_; refine Qv ?_; refine Qih ?_
  (show AWP Tryz.prog E _ _ _; refine X1 ?_; exact (show Xd _ _ _ _ _ from ⟨_, St.le_refl _, ⟨rfl, trivial⟩, X3 _⟩))
 | true =>
  obtain ⟨hfit, hb, hcl12, hl20⟩ := hsf rfl
  clear hsf
  have hfw : Con Tryz.prog 25 [] [.d (.sl 10 (l.map XL)), ai 20] [] (ab (UD l 20)) := X5W l 20 (by omega) hl.2 hl.1
  have hfl : UD l 20 = true → l.length ≤ 20 := X7l (l := l) (n := 20)
  generalize UD l 20 = fw at *
  cases fw with
  | false =>
   clear hf hl hfl hfit hb hl20
   obtain ⟨base, ⟨ns, es, nn, ne⟩, cs⟩ := h
   simp only [Xq] at *
   refine Qph ?_; refine Qv ?_; refine Qih ?_
   (show AWP Tryz.prog E _ _ _; refine X1 ?_; exact (show Xd _ _ _ _ _ from ⟨_, St.le_refl _, ⟨rfl, trivial⟩, X3 _⟩))
  | true =>
   replace hfl := hfl rfl
   have hk := X11 h hf
   by_cases c : XM h ≠ 0
   ·clear hf hl hfl hfit hb hl20
    generalize XM h = e at *
    obtain ⟨base, ⟨ns, es, nn, ne⟩, cs⟩ := h
    simp only [Xq] at *
    refine Qph ?_; refine Qpb ?_; refine Z9 (hcon := hk) ?_; refine Qke ?_; refine Qih ?_
    (show AWP Tryz.prog E _ _ _; refine X1 ?_; exact (show Xd _ _ _ _ _ from ⟨_, St.le_refl _, ⟨rfl, trivial⟩, X3 _⟩))
   have c : XM h = 0 := by simpa using c
   have hv := U6.1 c
   rw [c] at hk
   have h1 := X5y h l hfit hl (by omega)
   by_cases c2 : YC h l ≠ 0
   ·rw [show XX h l = X1Z by unfold XX; rw [if_pos c2]] at h1
    have h2 := X0S X1Z ⟨X1v, by simp, by simp⟩
    rw [XdO] at h2
    clear hf hl hfl hfit hb hl20 c hv
    generalize YC h l = e at *
    obtain ⟨base, ⟨ns, es, nn, ne⟩, cs⟩ := h
    simp only [Xq, List.map_nil] at *
    refine Qqh ?_; refine Qnh ?_; refine QLa ?_; refine Qx ?_; refine QWb ?_; refine Z9 (hcon := h2) ?_; refine Zl ?_; refine Z1 ?_; refine Qoh ?_
    (show AWP Tryz.prog E _ _ _; refine X1 ?_; exact (show Xd _ _ _ _ _ from ⟨_, St.le_refl _, ⟨rfl, trivial⟩, X3 _⟩))
   have c2 : YC h l = 0 := by simpa using c2
   rw [c2] at h1
   obtain ⟨d1, d2, d3, d4⟩ := X6j hv c2
   have hlen : ∀ x ∈ (XX h l).cs, x.l.length ≤ 20 := by
    rw [d2]
    intro x hx
    rcases List.mem_append.1 hx with hx | hx
    ·exact hl20 x hx
    ·rw [List.mem_singleton.1 hx]; exact hfl
   have hbb := hv.b
   have hbc := hv.cl
   have hcf : HistFit (XX h l) := by
    refine ⟨?_, fun x hx => by have := hlen x hx; omega⟩
    rw [d2]
    refine ⟨hf.g, by simp only [List.length_append, List.length_singleton]; omega, fun x hx => ?_⟩
    rcases List.mem_append.1 hx with hx | hx
    ·exact hf.cs x hx
    ·rw [List.mem_singleton.1 hx]; exact ⟨hl, by simp only [XB]; omega⟩
   have h2 := X0S (XX h l) hcf.hold
   have h3 := X0S h hf
   have hlC : XB (XX h l) = XB h + 1 := by rw [d2]; unfold XB; simp only [List.length_append, List.length_singleton]; omega
   rw [X2H d1, hlC] at h2
   rw [X2H hv] at h3
   have h4 := X02 h ts hfit
   have hzb : 0 ≤ XB h ∧ XB h ≤ 2000000000000000 := by unfold XB; omega
   by_cases c3 : XI h ts ≠ 0
   ·clear hf hl hfl hfit hb hl20 c hv d1 d2 d3 d4 hlen hcf hlC hbb hbc
    generalize XX h l = H at *
    generalize XI h ts = e at *
    generalize atS h ts = g1 at *
    generalize XB h = z at *
    obtain ⟨base, ⟨ns, es, nn, ne⟩, cs⟩ := h
    obtain ⟨base2, ⟨ns2, es2, nn2, ne2⟩, cs2⟩ := H
    obtain ⟨ns3, es3, nn3, ne3⟩ := g1
    simp only [Xq, Xl] at *
    refine Qqh ?_; refine Qnh ?_; refine QKg ?_; refine Qbd ?_; refine Z9 (hcon := h2) ?_; refine ZL ?_; refine Z9 (hcon := h3) ?_; refine Zb ?_; refine QSc ?_; refine QXb ?_; refine Z9 (hcon := h4) ?_; refine Qxd ?_; refine QLa ?_; refine Qih ?_
    (show AWP Tryz.prog E _ _ _; refine X1 ?_; exact (show Xd _ _ _ _ _ from ⟨_, St.le_refl _, ⟨rfl, trivial⟩, X3 _⟩))
   have c3 : XI h ts = 0 := by simpa using c3
   obtain ⟨f1, f2, f3, f4, f5, f6⟩ := Xev hv c2 c3
   have h5 := X02 (XX h l) ts hcf
   have h6 := XaT (XX h l) ts hcf
   have hS : X0m (UK (XX h l) ts) := by
    unfold UK
    split
    ·exact ⟨by simp, by simp⟩
    ·have hD := X2O (n := 20) ((XX h l).cs.drop (ts - (XX h l).base).toNat) (fun x hx => hlen x (List.mem_of_mem_drop hx))
     have hDl : ((XX h l).cs.drop (ts - (XX h l).base).toNat).length ≤ 1001 := by have := d1.cl; rw [List.length_drop]; omega
     refine ⟨fun c hc => ?_, by omega⟩
     obtain ⟨l', hl', hc'⟩ := List.mem_flatten.1 hc
     obtain ⟨x, hx, rfl⟩ := List.mem_map.1 hl'
     exact (hcf.hold.cs x (List.mem_of_mem_drop hx)).1.1 c hc'
   have hA : GraHold (atS h ts) := by rw [VU c3]; exact VV (X3b c3)
   have h7 := X3p (atS h ts) (UK (XX h l) ts) hA hS.2 hS.1
   have h8 := X02 (XX h l) (XB h + 1) hcf
   have hB : GraHold (atS (XX h l) (XB h + 1)) := by rw [VU f4]; exact VV (X3b f4)
   have h9 := X1U (atS h ts) hA
   have h10 := X1U (atS (XX h l) (XB h + 1)) hB
   have h11 := Xc0 (atS (XX h l) (XB h + 1)) hB
   rw [f2, f1] at h5
   rw [f1] at h6
   rw [f5, f6] at h7
   rw [f4] at h8
   rw [c3] at h4
   clear hf hl hfl hfit hb hl20 c hv d1 d2 d3 d4 hlen hcf hlC hbb hbc f1 f2 f3 f4 f5 f6 hS hA hB c3
   generalize UK (XX h l) ts = S at *
   generalize (Xo (atS h ts) S).2.1 = m at *
   generalize atS (XX h l) (XB h + 1) = g2 at *
   generalize XX h l = H at *
   generalize atS h ts = g1 at *
   generalize XB h = z at *
   obtain ⟨base, ⟨ns, es, nn, ne⟩, cs⟩ := h
   obtain ⟨base2, ⟨ns2, es2, nn2, ne2⟩, cs2⟩ := H
   obtain ⟨ns3, es3, nn3, ne3⟩ := g1
   obtain ⟨ns4, es4, nn4, ne4⟩ := g2
   simp only [Xq, Xl] at *
   refine Qqh ?_; refine Qnh ?_; refine QKg ?_; refine Qbd ?_; refine Z9 (hcon := h2) ?_; refine ZL ?_; refine Z9 (hcon := h3) ?_; refine Zb ?_; refine QSc ?_; refine QXb ?_; refine Z9 (hcon := h4) ?_; refine Qxd ?_; refine QKg ?_; refine QXb ?_; refine Z9 (hcon := h5) ?_; refine Qzd ?_; refine QXb ?_; refine Z9 (hcon := h6) ?_; refine Qyf ?_; refine QXb ?_; refine Z9 (hcon := h7) ?_; refine QQg ?_; refine Zw (γ := 104) ?_; refine QJg ?_; refine Qnd ?_; refine Z9 (hcon := h2) ?_; refine Z9 (hcon := h8) ?_; refine Qdd ?_; refine Zw (γ := 105) ?_; refine Zy ?_; refine QQ ?_; refine Zl ?_; refine Qf ?_; refine QIe ?_; refine Qf ?_; refine QIe ?_; refine Qf ?_; refine QIe ?_; refine Qpb ?_; refine ZL ?_; refine Z9 (hcon := h9) ?_; refine Zn ?_; refine Qpb ?_; refine ZL ?_; refine Z9 (hcon := h10) ?_; refine Zn ?_; refine Qpb ?_; refine ZL ?_; refine Z9 (hcon := h11) ?_; refine Zn ?_; refine Z1 ?_; refine Qoh ?_
   (show AWP Tryz.prog E _ _ _; refine X1 ?_; exact (show Xd _ _ _ _ _ from ⟨_, St.le_refl _, ⟨rfl, trivial⟩, X3 _⟩))
end Go.Fw

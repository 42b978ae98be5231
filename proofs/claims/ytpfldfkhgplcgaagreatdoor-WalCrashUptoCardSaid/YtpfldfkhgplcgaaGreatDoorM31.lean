/- A log that is ready, and what is appended to it; plain Lean. -/
import Derived.Test.YtpfldfkhgplcgaaGreatDoorM30
set_option maxHeartbeats 16000000
namespace Go.Fw
open Go
set_option linter.unusedVariables false
set_option linter.unusedSimpArgs false
def d24 : Disk := ⟨List.replicate 24 Uc, [], true⟩
theorem Xcq : X0c 24 = (d24, 0) := rfl
theorem X5z : YW d24 := ⟨by decide, by decide⟩
def XW (q : Ask) : Disk × Int × Bool :=
 if (Yu d24 q.f q.t).2 ≠ 0 then (Y8, 0, false) else
 ((XB (Yu d24 q.f q.t).1 q.f q.t q.ep 0 q.a).1, (XB (Yu d24 q.f q.t).1 q.f q.t q.ep 0 q.a).2.1, decide ((XB (Yu d24 q.f q.t).1 q.f q.t q.ep 0 q.a).2.2 = 0))
theorem X5E {q : Ask} (h : (XW q).2.2 = true) : Log (XW q).1 q.f q.t q.ep q.a (XW q).2.1 := by
 unfold XW at h ⊢
 by_cases hf : (Yu d24 q.f q.t).2 = 0
 case neg => rw [if_pos hf] at h; simp at h
 rw [if_neg (by rw [hf]; simp)] at h ⊢
 simp only [decide_eq_true_eq] at h
 have hsp : XI d24 q.f q.t 0 0 = 0 := by
  by_cases c : XI d24 q.f q.t 0 0 = 0
  ·exact c
  ·unfold Yu at hf
   rw [if_pos c] at hf
   exact absurd hf c
 obtain ⟨f1, f2, f3, f4, f5⟩ := X7t X5z hsp
 obtain ⟨s1, _⟩ := X0A (X0m ▸ h)
 obtain ⟨hd, h1, h2, h3, h4, h5, _⟩ := X1u s1
 have hl : (Yu d24 q.f q.t).1.sectors.length = 24 := f3
 have L0 : Log (Yu d24 q.f q.t).1 q.f q.t q.ep [] 0 := ⟨f1, ⟨by omega, by rw [f2]; simp⟩, f2, hl, h1, h2, by omega, h4, h5, rfl, by omega, by rw [f5]; simp only [Xg, List.nil_append, List.length_nil, Nat.sub_zero]; congr 1; omega, rfl⟩
 exact L0.app h
theorem XgQ {d : Disk} {f t : Int} (hf : YW d) : ((Yu d f t).2 ≠ 0 → (Yu d f t).1 = Y8) ∧ ((Yu d f t).2 = 0 → YW (Yu d f t).1) := by
 by_cases h : XI d f t 0 0 = 0
 ·obtain ⟨_, g2, g3, g4, _⟩ := X7t hf h
  refine ⟨fun q => absurd g4 q, fun _ => ⟨by rw [g3]; exact hf.1, by rw [g2]; simp⟩⟩
 ·have e : Yu d f t = (Y8, XI d f t 0 0) := by unfold Yu; rw [if_pos h]
  rw [e]
  exact ⟨fun _ => rfl, fun q => absurd q h⟩
open Go Go.Proofs
set_option maxRecDepth 100000
theorem X6W {d : Disk} {q : Ask} (hq : X1o q) (hb : Ut q.a ∧ Ut q.b) (h : Vg d q = true) : ((∀ r ∈ q.a, Ux r) ∧ q.a.length ≤ 60) ∧ ((∀ r ∈ q.b, Ux r) ∧ q.b.length ≤ 60) ∧ q.keep.length ≤ 100 := by
 unfold Vg at h
 simp only [Bool.and_eq_true, decide_eq_true_eq] at h
 exact ⟨X51 hb.1 hq.1 h.2.1.1, X51 hb.2 hq.2.2.1 h.2.1.2, h.2.2⟩
theorem X5G (q : Ask) (kw : ∀ r ∈ q.a, Ux r) (kl : q.a.length ≤ 60) : Con Tryz.prog 26 [] [U9 q] [] (.tup [XK (XW q).1, ai (XW q).2.1, ab (XW q).2.2]) := by
 refine Xa (xs := [XK (XW q).1, ai (XW q).2.1, ab (XW q).2.2]) Tryz.func26 rfl Tryz.ntmps26 rfl rfl rfl (fun E => ?_)
 have h0 := Xab 24
 rw [Xcq] at h0
 have h1 := X9y d24 q.f q.t X5z
 have e0 := XgQ X5z (f := q.f) (t := q.t)
 by_cases he : (Yu d24 q.f q.t).2 = 0
 case neg =>
  have e : XW q = (Y8, 0, false) := by unfold XW; rw [if_pos he]
  rw [e]
  have e2 := e0.1 he
  generalize (Yu d24 q.f q.t).2 = r at *
  rw [e2] at h1
  clear e0 e e2 kw kl
  obtain ⟨f, t, ep, tail, other, pick, a, b, keep⟩ := q
  unfold U9 at *
  simp only [Y8, d24] at *
  generalize List.replicate 24 Uc = s24 at *
  refine QFa ?_; refine Qrc ?_; refine QAa ?_; refine Qb ?_; refine Z9 (hcon := h0) ?_; refine Qbc ?_; refine Zw (γ := 102) ?_; refine Zy ?_; refine Qw ?_; refine QEb ?_; refine Qgb ?_; refine Qed ?_; refine Z9 (hcon := h1) ?_; refine Qbc ?_; refine Zy ?_; refine Qw ?_; refine Zv ?_; refine Qh ?_; refine Qgb ?_; refine Qzd ?_
  (show AWP Tryz.prog E _ _ _; refine X1 ?_; exact (show Xn _ _ _ _ _ from ⟨_, St.le_refl _, ⟨⟨101, 0, _, rfl, rfl, .inr ⟨3, _, rfl, rfl, rfl, rfl⟩⟩, rfl, rfl, trivial⟩, X3 _⟩))
 have e : XW q = ((XB (Yu d24 q.f q.t).1 q.f q.t q.ep 0 q.a).1, (XB (Yu d24 q.f q.t).1 q.f q.t q.ep 0 q.a).2.1, decide ((XB (Yu d24 q.f q.t).1 q.f q.t q.ep 0 q.a).2.2 = 0)) := by unfold XW; rw [if_neg (by rw [he]; simp)]
 rw [e]
 rw [he] at h1
 have hf1 := e0.2 he
 have h2 := X2i (Yu d24 q.f q.t).1 q.f q.t q.ep 0 q.a hf1 kw (by omega)
 generalize (Yu d24 q.f q.t).1 = X at *
 clear e0 e kw kl hf1 he
 generalize (XB X q.f q.t q.ep 0 q.a).1 = Y at *
 generalize (XB X q.f q.t q.ep 0 q.a).2.1 = z at *
 generalize (XB X q.f q.t q.ep 0 q.a).2.2 = r at *
 obtain ⟨f, t, ep, tail, other, pick, a, b, keep⟩ := q
 obtain ⟨xs, xp, xo⟩ := X
 obtain ⟨ys, yp, yo⟩ := Y
 unfold U9 at *
 simp only [d24] at *
 generalize List.replicate 24 Uc = s24 at *
 refine QFa ?_; refine Qrc ?_; refine QAa ?_; refine Qb ?_; refine Z9 (hcon := h0) ?_; refine Qbc ?_; refine Zw (γ := 102) ?_; refine Zy ?_; refine Qw ?_; refine QEb ?_; refine Qgb ?_; refine Qed ?_; refine Z9 (hcon := h1) ?_; refine Qbc ?_; refine Zy ?_; refine Qw ?_; refine QEb ?_; refine Qgb ?_; refine Qed ?_; refine Qed ?_; refine Z9 (hcon := h2) ?_; refine Qcc ?_; refine Qzd ?_; refine Qgb ?_; refine Qy ?_; refine Zl ?_; refine Qzd ?_
 (show AWP Tryz.prog E _ _ _; refine X1 ?_; exact (show Xn _ _ _ _ _ from ⟨_, St.le_refl _, ⟨⟨101, 0, _, rfl, rfl, .inr ⟨3, _, rfl, rfl, rfl, rfl⟩⟩, rfl, rfl, trivial⟩, X3 _⟩))
end Go.Fw

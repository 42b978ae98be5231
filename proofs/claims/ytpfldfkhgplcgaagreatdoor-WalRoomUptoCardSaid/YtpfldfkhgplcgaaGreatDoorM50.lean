/- More that the laws about a ready log need; plain Lean. -/
import Derived.Test.YtpfldfkhgplcgaaGreatDoorM33
import Derived.Test.YtpfldfkhgplcgaaGreatDoorM37
set_option maxHeartbeats 32000000
namespace Go.Fw
open Go
set_option linter.unusedVariables false
set_option linter.unusedSimpArgs false
theorem Log.room' {d : Disk} {f t ep tail : Int} {l : List Rcd} (h : Log d f t ep l tail) : X1x f t tail = (t - f) * 64 - tail := by
 have h1 := h.f0; have h2 := h.ft; have h3 := h.t24; have h7 := h.tl; have h8 := h.room
 unfold X1x
 rw [if_neg (by omega)]
open Go Go.Proofs
set_option maxRecDepth 100000
theorem Xgg (q : Ask) (hq : X1o q) (hB : Ut q.a ∧ Ut q.b) : Con Tryz.prog 7 [] [U9 q] [] (ab true) := by
 refine Xa (xs := [ab true]) Tryz.func7 rfl Tryz.ntmps7 rfl rfl rfl (fun E => ?_)
 have hs := X48 Y8 q hq
 have hl := X45
 by_cases hb : Vg Y8 q = true
 case neg =>
  have hb : Vg Y8 q = false := by simpa using hb
  rw [hb] at hs
  clear hq hB
  obtain ⟨f, t, ep, tail, other, pick, a, b, keep⟩ := q
  unfold U9 at *
  simp only [Y8] at *
  refine QFf ?_
  (show AWP Tryz.prog E _ _ _; refine X1 ?_; exact (show Xn _ _ _ _ _ from ⟨_, St.le_refl _, ⟨rfl, trivial⟩, X3 _⟩))
 rw [hb] at hs
 obtain ⟨⟨ka, la⟩, ⟨kb, lb⟩, lk⟩ := X6W hq hB hb
 have hR := X5G q ka la
 by_cases hr : (XW q).2.2 = true
 case neg =>
  have hr : (XW q).2.2 = false := by simpa using hr
  rw [hr] at hR
  generalize (XW q).1 = X at *
  generalize (XW q).2.1 = z at *
  clear hq hB hb ka la kb lb lk hr
  obtain ⟨xs, xp, xo⟩ := X
  obtain ⟨f, t, ep, tail, other, pick, a, b, keep⟩ := q
  unfold U9 at *
  simp only [Y8] at *
  refine QHf ?_; refine Zu ?_; refine QBf ?_
  (show AWP Tryz.prog E _ _ _; refine X1 ?_; exact (show Xn _ _ _ _ _ from ⟨_, St.le_refl _, ⟨rfl, trivial⟩, X3 _⟩))
 have L := X5E hr
 rw [hr] at hR
 have h3 := X2i (XW q).1 q.f q.t q.ep (XW q).2.1 q.b L.few kb (by omega)
 have h4 := X3U q.ep q.b kb (by omega)
 have h5 := X8P q.f q.t (XW q).2.1
 rw [L.room'] at h5
 have he := L.err (m := q.b)
 have ha : (XB (XW q).1 q.f q.t q.ep (XW q).2.1 q.b).2.2 = 0 → (XB (XW q).1 q.f q.t q.ep (XW q).2.1 q.b).2.1 = (XW q).2.1 + (Xg q.ep q.b).length := fun e0 => (X2H L.few (by rw [X0m] at e0; exact e0)).2.1
 have hz0 : 0 ≤ (XW q).2.1 := by rw [L.tl]; omega
 have hz1 := L.room
 have hf0 := L.f0
 have ht24 := L.t24
 have hsz := fun c1 => X9e (l := q.b) L.ep0 L.ep1 c1
 clear L
 generalize (XW q).1 = X at *
 generalize (XW q).2.1 = z at *
 by_cases c1 : Y2 q.b = 0
 case neg =>
  rw [if_pos c1] at he
  rw [he] at h3
  have c2 := (X77 q.b).2
  clear ha hsz he
  generalize Y2 q.b = e at *
  generalize (XB X q.f q.t q.ep z q.b).2.1 = z2 at *
  generalize (XB X q.f q.t q.ep z q.b).1 = Y at *
  clear hq hB hb ka la kb lb lk hr h4 h5
  obtain ⟨xs, xp, xo⟩ := X
  obtain ⟨ys, yp, yo⟩ := Y
  obtain ⟨f, t, ep, tail, other, pick, a, b, keep⟩ := q
  unfold U9 at *
  simp only [Y8] at *
  refine QIf ?_; refine Zw (γ := 102) ?_; refine QGf ?_; refine Zv ?_; refine Qy ?_; refine Zv ?_; refine Zn ?_; refine QBf ?_
  (show AWP Tryz.prog E _ _ _; refine X1 ?_; exact (show Xn _ _ _ _ _ from ⟨_, St.le_refl _, ⟨rfl, trivial⟩, X3 _⟩))
 rw [if_neg (by rw [c1]; simp)] at he
 rw [hsz c1] at h4
 clear hsz
 generalize (Xg q.ep q.b).length = n at *
 by_cases c2 : (q.t - q.f) * 64 < z + n
 case pos =>
  rw [if_pos c2] at he
  rw [he] at h3
  have hroom : (q.t - q.f) * 64 - z < n := by omega
  clear ha he
  generalize (XB X q.f q.t q.ep z q.b).2.1 = z2 at *
  generalize (XB X q.f q.t q.ep z q.b).1 = Y at *
  generalize (q.t - q.f) * 64 - z = R at *
  clear hq hB hb ka la kb lb lk hr c1 c2 hz0 hz1 hf0 ht24
  obtain ⟨xs, xp, xo⟩ := X
  obtain ⟨ys, yp, yo⟩ := Y
  obtain ⟨f, t, ep, tail, other, pick, a, b, keep⟩ := q
  unfold U9 at *
  simp only [Y8] at *
  refine QIf ?_; refine Zw (γ := 102) ?_; refine QGf ?_; refine Zv ?_; refine Qy ?_; refine Zv ?_; refine Zn ?_; refine Qs ?_; refine QIa ?_; refine QHa ?_; refine Z9 (hcon := h4) ?_; refine Qx ?_; refine Zl ?_; refine Qed ?_; refine Z1 ?_; refine Z9 (hcon := h5) ?_; refine Z1 ?_; refine Z8 ?_; refine ZH ?_; refine Qy ?_; refine Zv ?_; refine Qca ?_; refine QS ?_; refine QCf ?_; refine Qsa ?_
  (show AWP Tryz.prog E _ _ _; refine X1 ?_; exact (show Xn _ _ _ _ _ from ⟨_, St.le_refl _, ⟨rfl, trivial⟩, X3 _⟩))
 rw [if_neg c2] at he
 rw [he, ha he] at h3
 have hroom : ¬ (q.t - q.f) * 64 - z < n := by omega
 have hk : z + n ≤ 10000 := by omega
 clear ha he
 generalize (XB X q.f q.t q.ep z q.b).1 = Y at *
 generalize (q.t - q.f) * 64 - z = R at *
 clear hq hB hb ka la kb lb lk hr c1 c2 hz1 hf0 ht24
 obtain ⟨xs, xp, xo⟩ := X
 obtain ⟨ys, yp, yo⟩ := Y
 obtain ⟨f, t, ep, tail, other, pick, a, b, keep⟩ := q
 unfold U9 at *
 simp only [Y8] at *
 refine QIf ?_; refine Zw (γ := 102) ?_; refine QGf ?_; refine Zv ?_; refine QR ?_; refine Qha ?_; refine QIa ?_; refine QHa ?_; refine Z9 (hcon := h4) ?_; refine Qx ?_; refine Zl ?_; refine Qed ?_; refine Z1 ?_; refine Z9 (hcon := h5) ?_; refine Z1 ?_; refine Z8 ?_; refine ZH ?_; refine Qy ?_; refine Zv ?_; refine Qy ?_; refine Qy ?_; refine Zb ?_; refine Zl ?_; refine Zq ?_; refine QCf ?_; refine Qsa ?_
 (show AWP Tryz.prog E _ _ _; refine X1 ?_; exact (show Xn _ _ _ _ _ from ⟨_, St.le_refl _, ⟨rfl, trivial⟩, X3 _⟩))
end Go.Fw

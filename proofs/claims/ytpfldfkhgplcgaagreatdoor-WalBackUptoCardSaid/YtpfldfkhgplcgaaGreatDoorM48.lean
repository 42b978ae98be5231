/- More that the laws about a ready log need; plain Lean. -/
import Derived.Test.YtpfldfkhgplcgaaGreatDoorM33
import Derived.Test.YtpfldfkhgplcgaaGreatDoorM36
set_option maxHeartbeats 32000000
namespace Go.Fw
open Go
set_option linter.unusedVariables false
set_option linter.unusedSimpArgs false
theorem Log.ne22 {d : Disk} {f t ep tail : Int} {l m : List Rcd} (h : Log d f t ep l tail) : (XB d f t ep tail m).2.2 ≠ 22 := by
 rw [h.err]
 split
 ·exact (X77 m).1
 ·split <;> omega
open Go Go.Proofs
set_option maxRecDepth 100000
theorem Xe0 (q : Ask) (hq : X1o q) (hB : Ut q.a ∧ Ut q.b) : Con Tryz.prog 6 [] [U9 q] [] (ab true) := by
 refine Xa (xs := [ab true]) Tryz.func6 rfl Tryz.ntmps6 rfl rfl rfl (fun E => ?_)
 have hs := X48 Y8 q hq
 have hl := X45
 by_cases hb : Vg Y8 q = true
 case neg =>
  have hb : Vg Y8 q = false := by simpa using hb
  rw [hb] at hs
  clear hq hB
  obtain ⟨f, t, ep, tail, other, pick, a, b, keep⟩ := q
  unfold U9 at *
  simp only [Y8] at *
  refine QFf ?_
  (show AWP Tryz.prog E _ _ _; refine X1 ?_; exact (show Xn _ _ _ _ _ from ⟨_, St.le_refl _, ⟨rfl, trivial⟩, X3 _⟩))
 rw [hb] at hs
 obtain ⟨⟨ka, la⟩, ⟨kb, lb⟩, lk⟩ := X6W hq hB hb
 have hR := X5G q ka la
 by_cases hr : (XW q).2.2 = true
 case neg =>
  have hr : (XW q).2.2 = false := by simpa using hr
  rw [hr] at hR
  generalize (XW q).1 = X at *
  generalize (XW q).2.1 = z at *
  clear hq hB hb ka la kb lb lk hr
  obtain ⟨xs, xp, xo⟩ := X
  obtain ⟨f, t, ep, tail, other, pick, a, b, keep⟩ := q
  unfold U9 at *
  simp only [Y8] at *
  refine QHf ?_; refine Zu ?_; refine QBf ?_
  (show AWP Tryz.prog E _ _ _; refine X1 ?_; exact (show Xn _ _ _ _ _ from ⟨_, St.le_refl _, ⟨rfl, trivial⟩, X3 _⟩))
 have L := X5E hr
 rw [hr] at hR
 have h3 := X2i (XW q).1 q.f q.t q.ep (XW q).2.1 q.b L.few kb (by omega)
 have h22 := L.ne22 (m := q.b)
 have L2 := fun he => L.app (m := q.b) he
 have hee := L.ep0
 have hee1 := L.ep1
 clear L
 generalize (XW q).1 = X at *
 generalize (XW q).2.1 = z at *
 by_cases he : (XB X q.f q.t q.ep z q.b).2.2 = 0
 case neg =>
  clear L2
  generalize (XB X q.f q.t q.ep z q.b).2.2 = e at *
  generalize (XB X q.f q.t q.ep z q.b).2.1 = z2 at *
  generalize (XB X q.f q.t q.ep z q.b).1 = Y at *
  clear hq hB hb ka la kb lb lk hr hee hee1
  obtain ⟨xs, xp, xo⟩ := X
  obtain ⟨ys, yp, yo⟩ := Y
  obtain ⟨f, t, ep, tail, other, pick, a, b, keep⟩ := q
  unfold U9 at *
  simp only [Y8] at *
  refine QIf ?_; refine QGf ?_; refine Qte ?_; refine Zv ?_; refine Z1 ?_; refine Z9 (hcon := hl) ?_; refine Qsa ?_
  (show AWP Tryz.prog E _ _ _; refine X1 ?_; exact (show Xn _ _ _ _ _ from ⟨_, St.le_refl _, ⟨rfl, trivial⟩, X3 _⟩))
 have L2 := L2 he
 rw [he] at h3
 have hv : ∀ r ∈ q.a ++ q.b, (U7 r).length ≤ 60000 := Xbo fun r hr => (List.mem_append.1 hr).elim (ka r) (kb r)
 have hok : ∀ r ∈ q.a ++ q.b, Vx r := fun r hr => (List.mem_append.1 hr).elim (fun h => (ka r h).1) (fun h => (kb r h).1)
 have hlen : (q.a ++ q.b).length ≤ 120 := by rw [List.length_append]; omega
 have h4 := X32 (XB X q.f q.t q.ep z q.b).1 q.f q.t q.ep L2.few
 rw [L2.scan hv] at h4
 have h5 := X5K (q.a ++ q.b) (by omega) hok
 have h6 := X9E q.a q.b (by omega) (by omega)
 have h7 := X32 (XB X q.f q.t q.ep z q.b).1 q.f q.t q.other L2.few
 have h8 : q.a ++ q.b ≠ [] → 0 ≤ q.other → q.other ≤ 1000000000000000 → q.other ≠ q.ep → Uk (XB X q.f q.t q.ep z q.b).1 q.f q.t q.other = ([], 0, 0) := L2.other hv
 have hnil : q.a ++ q.b ≠ [] ↔ 0 < ((q.a ++ q.b).map Xq).length := by rw [List.length_map]; exact List.length_pos_iff.symm
 have hcl : ((q.a ++ q.b).map Xq).length ≤ 120 := by rw [List.length_map]; exact hlen
 rw [hnil] at h8
 clear L2 hlen hok hv hnil
 generalize Uk (XB X q.f q.t q.ep z q.b).1 q.f q.t q.other = W at *
 generalize (XB X q.f q.t q.ep z q.b).2.1 = z2 at *
 generalize (XB X q.f q.t q.ep z q.b).1 = Y at *
 simp only at h4
 generalize (q.a ++ q.b).map Xq = C at *
 clear hq hB hb ka la kb lb lk hr h22 he hee hee1
 obtain ⟨xs, xp, xo⟩ := X
 obtain ⟨ys, yp, yo⟩ := Y
 obtain ⟨f, t, ep, tail, other, pick, a, b, keep⟩ := q
 unfold U9 at *
 simp only [Y8] at *
 refine QIf ?_; refine QGf ?_; refine QEb ?_; refine QIa ?_; refine QHa ?_; refine Z9 (hcon := h6) ?_; refine Qc ?_; refine Qgb ?_; refine Qfd ?_; refine Z9 (hcon := h4) ?_; refine QEe ?_; refine Z9 (hcon := h5) ?_; refine Zu ?_; refine Zq ?_; refine QCa ?_; refine Zv ?_; refine Qha ?_; refine X0 ?_; refine X0 ?_
 by_cases o1 : other = ep
 case pos =>
  refine JR ?_; refine Qed ?_; refine Zl ?_; refine QQa ?_; refine QQa ?_; refine QQa ?_; refine QBf ?_
  (show AWP Tryz.prog E _ _ _; refine X1 ?_; exact (show Xn _ _ _ _ _ from ⟨_, St.le_refl _, ⟨rfl, trivial⟩, X3 _⟩))
 by_cases o2 : other < 0
 case pos =>
  refine JR ?_; refine Qed ?_; refine Zl ?_; refine QKa ?_; refine Z8 ?_; refine Zq ?_; refine QQa ?_; refine QQa ?_; refine QBf ?_
  (show AWP Tryz.prog E _ _ _; refine X1 ?_; exact (show Xn _ _ _ _ _ from ⟨_, St.le_refl _, ⟨rfl, trivial⟩, X3 _⟩))
 by_cases o3 : 1000000000000000 < other
 case pos =>
  refine QJf ?_; refine Qba ?_; refine QQa ?_; refine QBf ?_
  (show AWP Tryz.prog E _ _ _; refine X1 ?_; exact (show Xn _ _ _ _ _ from ⟨_, St.le_refl _, ⟨rfl, trivial⟩, X3 _⟩))
 by_cases o4 : C.length = 0
 case pos =>
  refine QJf ?_; refine Qfa ?_; refine QRb ?_; refine Zq ?_; refine QBf ?_
  (show AWP Tryz.prog E _ _ _; refine X1 ?_; exact (show Xn _ _ _ _ _ from ⟨_, St.le_refl _, ⟨rfl, trivial⟩, X3 _⟩))
 rw [h8 (by omega) (by omega) (by omega) o1] at h7
 simp only [List.map_nil] at h7
 clear h8 hs hR h3 h4 h5 h6
 have hz0 : (((([] : List (List D)).length : Nat)) : Int) = 0 := rfl
 refine QJf ?_; refine Qfa ?_; refine QRb ?_; refine Qha ?_; refine Qgb ?_; refine Qfd ?_; refine Z9 (hcon := h7) ?_; refine Qcc ?_; refine QNb ?_; refine Qf ?_; refine QSa ?_; refine QRb ?_; refine Zn ?_; refine Qy ?_; refine Zl ?_; refine QCf ?_; refine Qsa ?_
 (show AWP Tryz.prog E _ _ _; refine X1 ?_; exact (show Xn _ _ _ _ _ from ⟨_, St.le_refl _, ⟨rfl, trivial⟩, X3 _⟩))
end Go.Fw

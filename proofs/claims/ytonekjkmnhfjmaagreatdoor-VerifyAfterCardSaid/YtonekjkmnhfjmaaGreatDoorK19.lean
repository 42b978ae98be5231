/- The reference's Valid, second part. -/
import Derived.Test.YtonekjkmnhfjmaaGreatDoorK18
set_option maxHeartbeats 8000000
namespace Go.Fw
open Go Go.Proofs
set_option maxRecDepth 100000
set_option linter.unusedVariables false
set_option linter.unusedSimpArgs false
theorem XhK (v : Val) (hok : Ym v) (ih : ∀ x ∈ v.l, X3D x) : X3D v := by
 obtain ⟨k, n, d, s, l⟩ := v
 intro m hm
 rw [Ym] at hok
 simp only [Val.l] at ih
 refine Xc (xs := [ab (X8 m (.mk k n d s l))]) Tryz.func240 rfl Tryz.ntmps240 rfl rfl rfl (fun E => ?_)
 have hlen := X02 l
 by_cases hk0 : k = 0
 ·subst hk0
  have hb := Xiz 0 n d s l
  by_cases hn0 : n = 0
  case neg =>
   rw [show (decide (n = 0) && decide (d = 0) && decide (s = []) && decide (l.length = 0)) = false by simp [*]] at hb
   rw [show X8 m (.mk 0 n d s l) = false by rw [X8]; simp [*]]
   exact QAd
  by_cases hd0 : d = 0
  case neg =>
   rw [show (decide (n = 0) && decide (d = 0) && decide (s = []) && decide (l.length = 0)) = false by simp [*]] at hb
   rw [show X8 m (.mk 0 n d s l) = false by rw [X8]; simp [*]]
   exact QAd
  by_cases hs0 : s = []
  case neg =>
   rw [show (decide (n = 0) && decide (d = 0) && decide (s = []) && decide (l.length = 0)) = false by simp [*]] at hb
   rw [show X8 m (.mk 0 n d s l) = false by rw [X8]; simp [*]]
   exact QAd
  by_cases hl0 : l.length = 0
  case neg =>
   rw [show (decide (n = 0) && decide (d = 0) && decide (s = []) && decide (l.length = 0)) = false by simp [*]] at hb
   have hl1 : 0 < l.length := by omega
   rw [show X8 m (.mk 0 n d s l) = false by rw [X8]; simp [*]]
   exact QAd
  rw [show (decide (n = 0) && decide (d = 0) && decide (s = []) && decide (l.length = 0)) = true by simp [*]] at hb
  rw [show X8 m (.mk 0 n d s l) = true by rw [X8]; simp [*]]
  exact QAd
 by_cases hk1 : k = 1
 ·subst hk1
  have hb := X3R 1 n d s l
  by_cases hd0 : d = 0
  case neg =>
   rw [show (decide (d = 0) && decide (s = []) && decide (l.length = 0)) = false by simp [*]] at hb
   rw [show X8 m (.mk 1 n d s l) = false by rw [X8]; simp [*]]
   exact QBd
  by_cases hs0 : s = []
  case neg =>
   rw [show (decide (d = 0) && decide (s = []) && decide (l.length = 0)) = false by simp [*]] at hb
   rw [show X8 m (.mk 1 n d s l) = false by rw [X8]; simp [*]]
   exact QBd
  by_cases hl0 : l.length = 0
  case neg =>
   rw [show (decide (d = 0) && decide (s = []) && decide (l.length = 0)) = false by simp [*]] at hb
   have hl1 : 0 < l.length := by omega
   rw [show X8 m (.mk 1 n d s l) = false by rw [X8]; simp [*]]
   exact QBd
  rw [show (decide (d = 0) && decide (s = []) && decide (l.length = 0)) = true by simp [*]] at hb
  by_cases hn : n = 0
  ·rw [show X8 m (.mk 1 n d s l) = true by rw [X8]; simp [*]]
   refine Qnc ?_; refine QAc ?_; refine Qzd ?_; refine QDc ?_; refine QV ?_; exact QWb
  by_cases hn1 : n = 1
  ·rw [show X8 m (.mk 1 n d s l) = true by rw [X8]; simp [*]]
   refine Qnc ?_; refine QAc ?_; refine Qzd ?_; refine QDc ?_; refine Qkd ?_; refine QPa ?_; exact QEc
  ·rw [show X8 m (.mk 1 n d s l) = false by rw [X8]; simp [*]]
   refine Qnc ?_; refine QAc ?_; refine Qzd ?_; refine QDc ?_; refine Qkd ?_; refine QPa ?_; exact QFc
 by_cases hk2 : k = 2
 ·subst hk2
  have hb := X3R 2 n d s l
  by_cases hd0 : d = 0
  case neg =>
   rw [show (decide (d = 0) && decide (s = []) && decide (l.length = 0)) = false by simp [*]] at hb
   rw [show X8 m (.mk 2 n d s l) = false by rw [X8]; simp [*]]
   exact QCd
  by_cases hs0 : s = []
  case neg =>
   rw [show (decide (d = 0) && decide (s = []) && decide (l.length = 0)) = false by simp [*]] at hb
   rw [show X8 m (.mk 2 n d s l) = false by rw [X8]; simp [*]]
   exact QCd
  by_cases hl0 : l.length = 0
  case neg =>
   rw [show (decide (d = 0) && decide (s = []) && decide (l.length = 0)) = false by simp [*]] at hb
   have hl1 : 0 < l.length := by omega
   rw [show X8 m (.mk 2 n d s l) = false by rw [X8]; simp [*]]
   exact QCd
  rw [show (decide (d = 0) && decide (s = []) && decide (l.length = 0)) = true by simp [*]] at hb
  rw [show X8 m (.mk 2 n d s l) = inV n by rw [X8]; simp [inV, *]]
  refine Qnc ?_; refine QGc ?_; refine Qzd ?_; refine QPb ?_; refine Zr (hcon := Xhh n) ?_; exact QWb
 by_cases hk3 : k = 3
 ·subst hk3
  have hb := XhS 3 n d s l
  by_cases hs0 : s = []
  case neg =>
   rw [show (decide (s = []) && decide (l.length = 0)) = false by simp [*]] at hb
   rw [show X8 m (.mk 3 n d s l) = false by rw [X8]; simp [*]]
   refine Qnc ?_; refine QIc ?_; refine Qzd ?_; exact QOb
  by_cases hl0 : l.length = 0
  case neg =>
   rw [show (decide (s = []) && decide (l.length = 0)) = false by simp [*]] at hb
   have hl1 : 0 < l.length := by omega
   rw [show X8 m (.mk 3 n d s l) = false by rw [X8]; simp [*]]
   refine Qnc ?_; refine QIc ?_; refine Qzd ?_; exact QOb
  rw [show (decide (s = []) && decide (l.length = 0)) = true by simp [*]] at hb
  by_cases hd : 2 ≤ d
  ·rw [show X8 m (.mk 3 n d s l) = UX n d by rw [X8]; simp [*]]
   refine Qnc ?_; refine QIc ?_; refine Qzd ?_; refine QVb ?_; refine QRb ?_; refine ZJ ?_; refine Zr (hcon := X3O n d) ?_; exact QWb
  ·rw [show X8 m (.mk 3 n d s l) = false by rw [X8]; simp [*]]
   refine Qnc ?_; refine QIc ?_; refine Qzd ?_; refine QVb ?_; refine QMb ?_; exact QNb
 by_cases hk4 : k = 4
 ·subst hk4
  have hb := Xh2 4 n d s l
  by_cases hn0 : n = 0
  case neg =>
   rw [show (decide (n = 0) && decide (d = 0) && decide (l.length = 0)) = false by simp [*]] at hb
   rw [show X8 m (.mk 4 n d s l) = false by rw [X8]; simp [*]]
   exact QDd
  by_cases hd0 : d = 0
  case neg =>
   rw [show (decide (n = 0) && decide (d = 0) && decide (l.length = 0)) = false by simp [*]] at hb
   rw [show X8 m (.mk 4 n d s l) = false by rw [X8]; simp [*]]
   exact QDd
  by_cases hl0 : l.length = 0
  case neg =>
   rw [show (decide (n = 0) && decide (d = 0) && decide (l.length = 0)) = false by simp [*]] at hb
   have hl1 : 0 < l.length := by omega
   rw [show X8 m (.mk 4 n d s l) = false by rw [X8]; simp [*]]
   exact QDd
  rw [show (decide (n = 0) && decide (d = 0) && decide (l.length = 0)) = true by simp [*]] at hb
  rw [show X8 m (.mk 4 n d s l) = (UO s && decide (s.length ≤ 100)) by rw [X8]; simp [*, Bool.and_comm]]
  refine Qnc ?_; refine QJc ?_; refine Qzd ?_; refine QPb ?_; refine Zr (hcon := XfZ s hok.1) ?_; exact QWb
 by_cases hk5 : k = 5
 ·subst hk5
  have hb := X3R 5 n d s l
  by_cases hd0 : d = 0
  case neg =>
   rw [show (decide (d = 0) && decide (s = []) && decide (l.length = 0)) = false by simp [*]] at hb
   rw [show X8 m (.mk 5 n d s l) = false by rw [X8]; simp [*]]
   exact QFd
  by_cases hs0 : s = []
  case neg =>
   rw [show (decide (d = 0) && decide (s = []) && decide (l.length = 0)) = false by simp [*]] at hb
   rw [show X8 m (.mk 5 n d s l) = false by rw [X8]; simp [*]]
   exact QFd
  by_cases hl0 : l.length = 0
  case neg =>
   rw [show (decide (d = 0) && decide (s = []) && decide (l.length = 0)) = false by simp [*]] at hb
   have hl1 : 0 < l.length := by omega
   rw [show X8 m (.mk 5 n d s l) = false by rw [X8]; simp [*]]
   exact QFd
  rw [show (decide (d = 0) && decide (s = []) && decide (l.length = 0)) = true by simp [*]] at hb
  by_cases hn : 1 ≤ n
  case neg =>
   rw [show X8 m (.mk 5 n d s l) = false by rw [X8]; simp [*]]
   refine QEd ?_; refine QAa ?_; refine Qyd ?_; refine QVb ?_; exact QMc
  rw [show X8 m (.mk 5 n d s l) = decide (n ≤ 1000000) by rw [X8]; simp [*]]
  refine QEd ?_; refine QAa ?_; refine Qyd ?_; refine QVb ?_; refine QPb ?_; refine ZA ?_; refine QPa ?_; exact QX
 by_cases hk6 : k = 6
 ·subst hk6
  have hb := X3R 6 n d s l
  by_cases hd0 : d = 0
  case neg =>
   rw [show (decide (d = 0) && decide (s = []) && decide (l.length = 0)) = false by simp [*]] at hb
   rw [show X8 m (.mk 6 n d s l) = false by rw [X8]; simp [*]]
   exact QGd
  by_cases hs0 : s = []
  case neg =>
   rw [show (decide (d = 0) && decide (s = []) && decide (l.length = 0)) = false by simp [*]] at hb
   rw [show X8 m (.mk 6 n d s l) = false by rw [X8]; simp [*]]
   exact QGd
  by_cases hl0 : l.length = 0
  case neg =>
   rw [show (decide (d = 0) && decide (s = []) && decide (l.length = 0)) = false by simp [*]] at hb
   have hl1 : 0 < l.length := by omega
   rw [show X8 m (.mk 6 n d s l) = false by rw [X8]; simp [*]]
   exact QGd
  rw [show (decide (d = 0) && decide (s = []) && decide (l.length = 0)) = true by simp [*]] at hb
  by_cases hn : 1 ≤ n
  case neg =>
   rw [show X8 m (.mk 6 n d s l) = false by rw [X8]; simp [*]]
   refine QEd ?_; refine QLa ?_; refine Qyd ?_; refine QVb ?_; exact QMc
  rw [show X8 m (.mk 6 n d s l) = decide (n ≤ 1000000) by rw [X8]; simp [*]]
  refine QEd ?_; refine QLa ?_; refine Qyd ?_; refine QVb ?_; refine QPb ?_; refine ZA ?_; refine QPa ?_; exact QX
 by_cases hk7 : k = 7
 ·subst hk7
  have hb := X8T 7 n d s l
  by_cases hn0 : n = 0
  case neg =>
   rw [show (decide (n = 0) && decide (d = 0) && decide (s = [])) = false by simp [*]] at hb
   rw [show X8 m (.mk 7 n d s l) = false by rw [X8]; simp [*]]
   exact QHd
  by_cases hd0 : d = 0
  case neg =>
   rw [show (decide (n = 0) && decide (d = 0) && decide (s = [])) = false by simp [*]] at hb
   rw [show X8 m (.mk 7 n d s l) = false by rw [X8]; simp [*]]
   exact QHd
  by_cases hs0 : s = []
  case neg =>
   rw [show (decide (n = 0) && decide (d = 0) && decide (s = [])) = false by simp [*]] at hb
   rw [show X8 m (.mk 7 n d s l) = false by rw [X8]; simp [*]]
   exact QHd
  rw [show (decide (n = 0) && decide (d = 0) && decide (s = [])) = true by simp [*]] at hb
  rw [show X8 m (.mk 7 n d s l) = UB l by rw [X8]; simp [UB, *]]
  refine QEd ?_; refine QMa ?_; refine Qzd ?_; refine QPb ?_; refine Zr (hcon := XfM l hok.2.1 ih) ?_; exact QWb
 by_cases hk8 : k = 8
 ·subst hk8
  have hb := X8T 8 n d s l
  by_cases hn0 : n = 0
  case neg =>
   rw [show (decide (n = 0) && decide (d = 0) && decide (s = [])) = false by simp [*]] at hb
   rw [show X8 m (.mk 8 n d s l) = false by rw [X8]; simp [*]]
   exact QId
  by_cases hd0 : d = 0
  case neg =>
   rw [show (decide (n = 0) && decide (d = 0) && decide (s = [])) = false by simp [*]] at hb
   rw [show X8 m (.mk 8 n d s l) = false by rw [X8]; simp [*]]
   exact QId
  by_cases hs0 : s = []
  case neg =>
   rw [show (decide (n = 0) && decide (d = 0) && decide (s = [])) = false by simp [*]] at hb
   rw [show X8 m (.mk 8 n d s l) = false by rw [X8]; simp [*]]
   exact QId
  rw [show (decide (n = 0) && decide (d = 0) && decide (s = [])) = true by simp [*]] at hb
  rw [show X8 m (.mk 8 n d s l) = (decide (1 ≤ m ∧ l.length ≤ 64) && V9 (m - 1) l) by rw [X8]; simp [*, and_comm]]
  refine QEd ?_; refine QMa ?_; refine QGa ?_; refine Qzd ?_; refine QJd ?_; refine Zr (hcon := Xcr l m hm hok.2.1 ih) ?_; exact QWb
 rw [show X8 m (.mk k n d s l) = false by rw [X8]; simp [*]]
 refine QEd ?_; refine QOa ?_; refine X2 ?_; exact QY
theorem XaK : ∀ v : Val, Xgc v
 | .mk k n d s l => fun hok => XhK (.mk k n d s l) hok fun x hx => XaK x (X6u (by rw [Ym] at hok; exact hok.2.2) hx)
termination_by v => SizeOf.sizeOf v
decreasing_by
 have h1 := List.sizeOf_lt_of_mem (show x ∈ l from hx)
 simp only [Val.mk.sizeOf_spec]
 omega
theorem X1u (v : Val) (hok : Ym v) : Con Tryz.prog 179 [] [Xm v] [] (ab (X8 8 v)) := by
 refine Xc (xs := [ab (X8 8 v)]) Tryz.func179 rfl Tryz.ntmps179 rfl rfl rfl (fun E => ?_)
 have h := XaK v hok 8 (by omega)
 obtain ⟨k, n, d, s, l⟩ := v
 simp only [Xm] at h
 refine QWc ?_; refine Zr (hcon := h) ?_; exact QCb
end Go.Fw

/- The reference's Valid, second part. -/
import Derived.Test.YtonekjkmnhfjmaaGreatDoorM16
set_option maxHeartbeats 8000000
namespace Go.Fw
open Go Go.Proofs
set_option maxRecDepth 100000
set_option linter.unusedVariables false
set_option linter.unusedSimpArgs false
theorem Xc3 (v : Val) (hok : Y3 v) (ih : ∀ x ∈ v.l, X2Y x) : X2Y v := by
 obtain ⟨k, n, d, s, l⟩ := v
 intro m hm
 rw [Y3] at hok
 simp only [Val.l] at ih
 refine Xc (xs := [ab (X8 m (.mk k n d s l))]) Tryz.func240 rfl Tryz.ntmps240 rfl rfl rfl (fun E => ?_)
 have hlen := Vb l
 by_cases hk0 : k = 0
 ·subst hk0
  have hb := XhK 0 n d s l
  by_cases hn0 : n = 0
  case neg =>
   rw [show (decide (n = 0) && decide (d = 0) && decide (s = []) && decide (l.length = 0)) = false by simp [*]] at hb
   rw [show X8 m (.mk 0 n d s l) = false by rw [X8]; simp [*]]
   exact QCc
  by_cases hd0 : d = 0
  case neg =>
   rw [show (decide (n = 0) && decide (d = 0) && decide (s = []) && decide (l.length = 0)) = false by simp [*]] at hb
   rw [show X8 m (.mk 0 n d s l) = false by rw [X8]; simp [*]]
   exact QCc
  by_cases hs0 : s = []
  case neg =>
   rw [show (decide (n = 0) && decide (d = 0) && decide (s = []) && decide (l.length = 0)) = false by simp [*]] at hb
   rw [show X8 m (.mk 0 n d s l) = false by rw [X8]; simp [*]]
   exact QCc
  by_cases hl0 : l.length = 0
  case neg =>
   rw [show (decide (n = 0) && decide (d = 0) && decide (s = []) && decide (l.length = 0)) = false by simp [*]] at hb
   have hl1 : 0 < l.length := by omega
   rw [show X8 m (.mk 0 n d s l) = false by rw [X8]; simp [*]]
   exact QCc
  rw [show (decide (n = 0) && decide (d = 0) && decide (s = []) && decide (l.length = 0)) = true by simp [*]] at hb
  rw [show X8 m (.mk 0 n d s l) = true by rw [X8]; simp [*]]
  exact QCc
 by_cases hk1 : k = 1
 ·subst hk1
  have hb := X4C 1 n d s l
  by_cases hd0 : d = 0
  case neg =>
   rw [show (decide (d = 0) && decide (s = []) && decide (l.length = 0)) = false by simp [*]] at hb
   rw [show X8 m (.mk 1 n d s l) = false by rw [X8]; simp [*]]
   exact QDc
  by_cases hs0 : s = []
  case neg =>
   rw [show (decide (d = 0) && decide (s = []) && decide (l.length = 0)) = false by simp [*]] at hb
   rw [show X8 m (.mk 1 n d s l) = false by rw [X8]; simp [*]]
   exact QDc
  by_cases hl0 : l.length = 0
  case neg =>
   rw [show (decide (d = 0) && decide (s = []) && decide (l.length = 0)) = false by simp [*]] at hb
   have hl1 : 0 < l.length := by omega
   rw [show X8 m (.mk 1 n d s l) = false by rw [X8]; simp [*]]
   exact QDc
  rw [show (decide (d = 0) && decide (s = []) && decide (l.length = 0)) = true by simp [*]] at hb
  by_cases hn : n = 0
  ·rw [show X8 m (.mk 1 n d s l) = true by rw [X8]; simp [*]]
   refine Qtb ?_; refine QHb ?_; refine QEc ?_; refine Zl ?_; refine Qv ?_; exact Qeb
  by_cases hn1 : n = 1
  ·rw [show X8 m (.mk 1 n d s l) = true by rw [X8]; simp [*]]
   refine Qtb ?_; refine QHb ?_; refine QEc ?_; refine QJb ?_; refine Qna ?_; exact QKb
  ·rw [show X8 m (.mk 1 n d s l) = false by rw [X8]; simp [*]]
   refine Qtb ?_; refine QHb ?_; refine QEc ?_; refine QJb ?_; refine Qna ?_; exact QLb
 by_cases hk2 : k = 2
 ·subst hk2
  have hb := X4C 2 n d s l
  by_cases hd0 : d = 0
  case neg =>
   rw [show (decide (d = 0) && decide (s = []) && decide (l.length = 0)) = false by simp [*]] at hb
   rw [show X8 m (.mk 2 n d s l) = false by rw [X8]; simp [*]]
   exact QFc
  by_cases hs0 : s = []
  case neg =>
   rw [show (decide (d = 0) && decide (s = []) && decide (l.length = 0)) = false by simp [*]] at hb
   rw [show X8 m (.mk 2 n d s l) = false by rw [X8]; simp [*]]
   exact QFc
  by_cases hl0 : l.length = 0
  case neg =>
   rw [show (decide (d = 0) && decide (s = []) && decide (l.length = 0)) = false by simp [*]] at hb
   have hl1 : 0 < l.length := by omega
   rw [show X8 m (.mk 2 n d s l) = false by rw [X8]; simp [*]]
   exact QFc
  rw [show (decide (d = 0) && decide (s = []) && decide (l.length = 0)) = true by simp [*]] at hb
  rw [show X8 m (.mk 2 n d s l) = inV n by rw [X8]; simp [inV, *]]
  refine Qtb ?_; refine QNb ?_; refine Qia ?_; refine QEc ?_; refine Z9 (hcon := XhP n) ?_; exact Qeb
 by_cases hk3 : k = 3
 ·subst hk3
  have hb := Xes 3 n d s l
  by_cases hs0 : s = []
  case neg =>
   rw [show (decide (s = []) && decide (l.length = 0)) = false by simp [*]] at hb
   rw [show X8 m (.mk 3 n d s l) = false by rw [X8]; simp [*]]
   refine Qtb ?_; refine QNb ?_; refine QGb ?_; refine QBc ?_; refine QWa ?_; exact QYa
  by_cases hl0 : l.length = 0
  case neg =>
   rw [show (decide (s = []) && decide (l.length = 0)) = false by simp [*]] at hb
   have hl1 : 0 < l.length := by omega
   rw [show X8 m (.mk 3 n d s l) = false by rw [X8]; simp [*]]
   refine Qtb ?_; refine QNb ?_; refine QGb ?_; refine QBc ?_; refine QWa ?_; exact QYa
  rw [show (decide (s = []) && decide (l.length = 0)) = true by simp [*]] at hb
  by_cases hd : 2 ≤ d
  ·rw [show X8 m (.mk 3 n d s l) = Vu n d by rw [X8]; simp [*]]
   refine Qtb ?_; refine QNb ?_; refine QGb ?_; refine QGc ?_; refine Qbb ?_; refine Zx ?_; refine Z9 (hcon := X8y n d) ?_; exact Qeb
  ·rw [show X8 m (.mk 3 n d s l) = false by rw [X8]; simp [*]]
   refine Qtb ?_; refine QNb ?_; refine QGb ?_; refine QGc ?_; exact QYa
 by_cases hk4 : k = 4
 ·subst hk4
  have hb := Xez 4 n d s l
  by_cases hn0 : n = 0
  case neg =>
   rw [show (decide (n = 0) && decide (d = 0) && decide (l.length = 0)) = false by simp [*]] at hb
   rw [show X8 m (.mk 4 n d s l) = false by rw [X8]; simp [*]]
   exact QHc
  by_cases hd0 : d = 0
  case neg =>
   rw [show (decide (n = 0) && decide (d = 0) && decide (l.length = 0)) = false by simp [*]] at hb
   rw [show X8 m (.mk 4 n d s l) = false by rw [X8]; simp [*]]
   exact QHc
  by_cases hl0 : l.length = 0
  case neg =>
   rw [show (decide (n = 0) && decide (d = 0) && decide (l.length = 0)) = false by simp [*]] at hb
   have hl1 : 0 < l.length := by omega
   rw [show X8 m (.mk 4 n d s l) = false by rw [X8]; simp [*]]
   exact QHc
  rw [show (decide (n = 0) && decide (d = 0) && decide (l.length = 0)) = true by simp [*]] at hb
  rw [show X8 m (.mk 4 n d s l) = (UI s && decide (s.length ≤ 100)) by rw [X8]; simp [*, Bool.and_comm]]
  refine Qtb ?_; refine QNb ?_; refine QMb ?_; refine Qia ?_; refine QEc ?_; refine Z9 (hcon := XeC s hok.1) ?_; exact Qeb
 by_cases hk5 : k = 5
 ·subst hk5
  have hb := X4C 5 n d s l
  by_cases hd0 : d = 0
  case neg =>
   rw [show (decide (d = 0) && decide (s = []) && decide (l.length = 0)) = false by simp [*]] at hb
   rw [show X8 m (.mk 5 n d s l) = false by rw [X8]; simp [*]]
   exact QJc
  by_cases hs0 : s = []
  case neg =>
   rw [show (decide (d = 0) && decide (s = []) && decide (l.length = 0)) = false by simp [*]] at hb
   rw [show X8 m (.mk 5 n d s l) = false by rw [X8]; simp [*]]
   exact QJc
  by_cases hl0 : l.length = 0
  case neg =>
   rw [show (decide (d = 0) && decide (s = []) && decide (l.length = 0)) = false by simp [*]] at hb
   have hl1 : 0 < l.length := by omega
   rw [show X8 m (.mk 5 n d s l) = false by rw [X8]; simp [*]]
   exact QJc
  rw [show (decide (d = 0) && decide (s = []) && decide (l.length = 0)) = true by simp [*]] at hb
  by_cases hn : 1 ≤ n
  case neg =>
   rw [show X8 m (.mk 5 n d s l) = false by rw [X8]; simp [*]]
   refine QIc ?_; refine Qea ?_; refine QGc ?_; exact QRb
  rw [show X8 m (.mk 5 n d s l) = decide (n ≤ 1000000) by rw [X8]; simp [*]]
  refine QIc ?_; refine Qea ?_; refine QGc ?_; refine Qab ?_; exact QNa
 by_cases hk6 : k = 6
 ·subst hk6
  have hb := X4C 6 n d s l
  by_cases hd0 : d = 0
  case neg =>
   rw [show (decide (d = 0) && decide (s = []) && decide (l.length = 0)) = false by simp [*]] at hb
   rw [show X8 m (.mk 6 n d s l) = false by rw [X8]; simp [*]]
   exact QKc
  by_cases hs0 : s = []
  case neg =>
   rw [show (decide (d = 0) && decide (s = []) && decide (l.length = 0)) = false by simp [*]] at hb
   rw [show X8 m (.mk 6 n d s l) = false by rw [X8]; simp [*]]
   exact QKc
  by_cases hl0 : l.length = 0
  case neg =>
   rw [show (decide (d = 0) && decide (s = []) && decide (l.length = 0)) = false by simp [*]] at hb
   have hl1 : 0 < l.length := by omega
   rw [show X8 m (.mk 6 n d s l) = false by rw [X8]; simp [*]]
   exact QKc
  rw [show (decide (d = 0) && decide (s = []) && decide (l.length = 0)) = true by simp [*]] at hb
  by_cases hn : 1 ≤ n
  case neg =>
   rw [show X8 m (.mk 6 n d s l) = false by rw [X8]; simp [*]]
   refine QIc ?_; refine Qla ?_; refine QGc ?_; exact QRb
  rw [show X8 m (.mk 6 n d s l) = decide (n ≤ 1000000) by rw [X8]; simp [*]]
  refine QIc ?_; refine Qla ?_; refine QGc ?_; refine Qab ?_; exact QNa
 by_cases hk7 : k = 7
 ·subst hk7
  have hb := X8c 7 n d s l
  by_cases hn0 : n = 0
  case neg =>
   rw [show (decide (n = 0) && decide (d = 0) && decide (s = [])) = false by simp [*]] at hb
   rw [show X8 m (.mk 7 n d s l) = false by rw [X8]; simp [*]]
   exact QLc
  by_cases hd0 : d = 0
  case neg =>
   rw [show (decide (n = 0) && decide (d = 0) && decide (s = [])) = false by simp [*]] at hb
   rw [show X8 m (.mk 7 n d s l) = false by rw [X8]; simp [*]]
   exact QLc
  by_cases hs0 : s = []
  case neg =>
   rw [show (decide (n = 0) && decide (d = 0) && decide (s = [])) = false by simp [*]] at hb
   rw [show X8 m (.mk 7 n d s l) = false by rw [X8]; simp [*]]
   exact QLc
  rw [show (decide (n = 0) && decide (d = 0) && decide (s = [])) = true by simp [*]] at hb
  rw [show X8 m (.mk 7 n d s l) = Un l by rw [X8]; simp [Un, *]]
  refine QIc ?_; refine Qma ?_; refine Qia ?_; refine QEc ?_; refine Z9 (hcon := Xgz l hok.2.1 ih) ?_; exact Qeb
 by_cases hk8 : k = 8
 ·subst hk8
  have hb := X8c 8 n d s l
  by_cases hn0 : n = 0
  case neg =>
   rw [show (decide (n = 0) && decide (d = 0) && decide (s = [])) = false by simp [*]] at hb
   rw [show X8 m (.mk 8 n d s l) = false by rw [X8]; simp [*]]
   exact QMc
  by_cases hd0 : d = 0
  case neg =>
   rw [show (decide (n = 0) && decide (d = 0) && decide (s = [])) = false by simp [*]] at hb
   rw [show X8 m (.mk 8 n d s l) = false by rw [X8]; simp [*]]
   exact QMc
  by_cases hs0 : s = []
  case neg =>
   rw [show (decide (n = 0) && decide (d = 0) && decide (s = [])) = false by simp [*]] at hb
   rw [show X8 m (.mk 8 n d s l) = false by rw [X8]; simp [*]]
   exact QMc
  rw [show (decide (n = 0) && decide (d = 0) && decide (s = [])) = true by simp [*]] at hb
  rw [show X8 m (.mk 8 n d s l) = (decide (1 ≤ m ∧ l.length ≤ 64) && UP (m - 1) l) by rw [X8]; simp [*, and_comm]]
  refine QIc ?_; refine Qma ?_; refine QGb ?_; refine QEc ?_; refine Z1 ?_; refine Z9 (hcon := XcE l m hm hok.2.1 ih) ?_; exact Qeb
 rw [show X8 m (.mk k n d s l) = false by rw [X8]; simp [*]]
 refine QIc ?_; refine Qma ?_; refine QMb ?_; refine X2 ?_; exact Qz
theorem XaZ : ∀ v : Val, Xhg v
 | .mk k n d s l => fun hok => Xc3 (.mk k n d s l) hok fun x hx => XaZ x (X1F (by rw [Y3] at hok; exact hok.2.2) hx)
termination_by v => SizeOf.sizeOf v
decreasing_by
 have h1 := List.sizeOf_lt_of_mem (show x ∈ l from hx)
 simp only [Val.mk.sizeOf_spec]
 omega
theorem X3u (v : Val) (hok : Y3 v) : Con Tryz.prog 179 [] [XG v] [] (ab (X8 8 v)) := by
 refine Xc (xs := [ab (X8 8 v)]) Tryz.func179 rfl Tryz.ntmps179 rfl rfl rfl (fun E => ?_)
 have h := XaZ v hok 8 (by omega)
 obtain ⟨k, n, d, s, l⟩ := v
 simp only [XG] at h
 refine QSa ?_; refine QWb ?_; refine Z9 (hcon := h) ?_; exact QNa
end Go.Fw

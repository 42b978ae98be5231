/- Values that are valid, second part. -/
import Derived.Test.YtonekjkmnhfjmaaGreatDoorM14
set_option maxHeartbeats 8000000
namespace Go.Fw
open Go Go.Proofs
set_option maxRecDepth 100000
set_option linter.unusedVariables false
set_option linter.unusedSimpArgs false
theorem XfV (v : Val) (ih : ∀ x ∈ v.l, X4P x) : X4P v := by
 obtain ⟨k, n, d, s, l⟩ := v
 intro m hm
 refine Xc (xs := [ab (X8 m (.mk k n d s l))]) Tryz.func278 rfl Tryz.ntmps278 rfl rfl rfl (fun E => ?_)
 have hlen := Vb l
 simp only [Val.l] at ih
 by_cases hk0 : k = 0
 ·subst hk0
  by_cases hd0 : d = 0
  case neg =>
   rw [show X8 m (.mk 0 n d s l) = false by rw [X8]; simp [*]]
   exact Qxb
  by_cases hs0 : s = []
  case neg =>
   rw [show X8 m (.mk 0 n d s l) = false by rw [X8]; simp [*]]
   exact Qzb
  by_cases hl0 : l.length = 0
  case neg =>
   have hl1 : 0 < l.length := by omega
   rw [show X8 m (.mk 0 n d s l) = false by rw [X8]; simp [*]]
   exact QCb
  by_cases hn : n = 0
  ·rw [show X8 m (.mk 0 n d s l) = true by rw [X8]; simp [*]]
   refine QEb ?_; refine QFb ?_; refine QUa ?_; refine Qda ?_; exact X1 ⟨_, XF 4 (y := ab true) (AVal.le_of_eq (by refine Eq.trans (b := ab (decide (n = 0))) rfl ?_; exact congrArg ab (decide_eq_true hn))), ⟨rfl, trivial⟩, X3 _⟩
  ·rw [show X8 m (.mk 0 n d s l) = false by rw [X8]; simp [*]]
   refine QEb ?_; refine QFb ?_; refine QUa ?_; refine Qda ?_; exact X1 ⟨_, XF 4 (y := ab false) (AVal.le_of_eq (by refine Eq.trans (b := ab (decide (n = 0))) rfl ?_; exact congrArg ab (decide_eq_false hn))), ⟨rfl, trivial⟩, X3 _⟩
 by_cases hk1 : k = 1
 ·subst hk1
  by_cases hd0 : d = 0
  case neg =>
   rw [show X8 m (.mk 1 n d s l) = false by rw [X8]; simp [*]]
   exact Qxb
  by_cases hs0 : s = []
  case neg =>
   rw [show X8 m (.mk 1 n d s l) = false by rw [X8]; simp [*]]
   exact Qzb
  by_cases hl0 : l.length = 0
  case neg =>
   have hl1 : 0 < l.length := by omega
   rw [show X8 m (.mk 1 n d s l) = false by rw [X8]; simp [*]]
   exact QCb
  by_cases hn : n = 0
  ·rw [show X8 m (.mk 1 n d s l) = true by rw [X8]; simp [*]]
   refine QEb ?_; refine QHb ?_; refine QUa ?_; refine Zl ?_; refine Qv ?_; exact QNa
  by_cases hn1 : n = 1
  ·rw [show X8 m (.mk 1 n d s l) = true by rw [X8]; simp [*]]
   refine QEb ?_; refine QHb ?_; refine QUa ?_; refine QJb ?_; refine Qb ?_; exact QKb
  ·rw [show X8 m (.mk 1 n d s l) = false by rw [X8]; simp [*]]
   refine QEb ?_; refine QHb ?_; refine QUa ?_; refine QJb ?_; refine Qb ?_; exact QLb
 by_cases hk2 : k = 2
 ·subst hk2
  by_cases hd0 : d = 0
  case neg =>
   rw [show X8 m (.mk 2 n d s l) = false by rw [X8]; simp [*]]
   exact Qxb
  by_cases hs0 : s = []
  case neg =>
   rw [show X8 m (.mk 2 n d s l) = false by rw [X8]; simp [*]]
   exact Qzb
  by_cases hl0 : l.length = 0
  case neg =>
   have hl1 : 0 < l.length := by omega
   rw [show X8 m (.mk 2 n d s l) = false by rw [X8]; simp [*]]
   exact QCb
  rw [show X8 m (.mk 2 n d s l) = inV n by rw [X8]; simp [inV, *]]
  refine QEb ?_; refine QNb ?_; refine Qia ?_; refine QUa ?_; refine Z9 (hcon := X3s n) ?_; exact QNa
 by_cases hk3 : k = 3
 ·subst hk3
  by_cases hs0 : s = []
  case neg =>
   rw [show X8 m (.mk 3 n d s l) = false by rw [X8]; simp [*]]
   refine QOb ?_; exact Qwb
  by_cases hl0 : l.length = 0
  case neg =>
   have hl1 : 0 < l.length := by omega
   rw [show X8 m (.mk 3 n d s l) = false by rw [X8]; simp [*]]
   refine QOb ?_; refine QBb ?_; refine Qn ?_; exact QA
  by_cases hd : 2 ≤ d
  ·rw [show X8 m (.mk 3 n d s l) = Vu n d by rw [X8]; simp [*]]
   refine QOb ?_; refine QBb ?_; refine Zn ?_; refine QDb ?_; refine QNb ?_; refine QGb ?_; refine QUa ?_; refine Z2 ?_; refine Qbb ?_; refine Zx ?_; refine Z9 (hcon := XcR n d) ?_; exact Qeb
  ·rw [show X8 m (.mk 3 n d s l) = false by rw [X8]; simp [*]]
   refine QOb ?_; refine QBb ?_; refine Zn ?_; refine QDb ?_; refine QNb ?_; refine QGb ?_; refine QUa ?_; refine Z2 ?_; exact QYa
 by_cases hk4 : k = 4
 ·subst hk4
  by_cases hd0 : d = 0
  case neg =>
   rw [show X8 m (.mk 4 n d s l) = false by rw [X8]; simp [*]]
   exact Qxb
  by_cases hl0 : l.length = 0
  case neg =>
   have hl1 : 0 < l.length := by omega
   rw [show X8 m (.mk 4 n d s l) = false by rw [X8]; simp [*]]
   refine Qtb ?_; refine Zv ?_; refine Qub ?_; refine Zn ?_; refine Qub ?_; refine QWa ?_; refine Zq ?_; refine QBb ?_; refine Qn ?_; exact QA
  by_cases hn : n = 0
  case neg =>
   rw [show X8 m (.mk 4 n d s l) = false by rw [X8]; simp [*]]
   refine QPb ?_; refine Qza ?_; refine Qza ?_; exact QNa
  have hsz : (X5 s).size = s.length := rfl
  by_cases hs : s.length ≤ 100
  case neg =>
   rw [show X8 m (.mk 4 n d s l) = false by rw [X8]; simp [*]]
   refine QPb ?_; refine QZa ?_; refine Zc ?_; refine Zm ?_; refine Zn ?_; refine Qza ?_; exact QNa
  rw [show X8 m (.mk 4 n d s l) = UI s by rw [X8]; simp [*]]
  refine QPb ?_; refine QZa ?_; refine Zc ?_; refine Zm ?_; refine Zn ?_; refine QZa ?_; refine Z9 (hcon := Xgi s (by omega)) ?_; refine Z8 ?_; refine Qna ?_; exact X1 ⟨_, XF 4 (y := ab (UI s)) (AVal.le_of_eq (by refine Eq.trans (b := ab (decide (VS s < 0))) rfl ?_; exact congrArg ab (by cases hv : UI s with | true => exact decide_eq_true (Xbo.2 hv) | false => exact decide_eq_false (fun h => by rw [Xbo.1 h] at hv; simp at hv)))), ⟨rfl, trivial⟩, X3 _⟩
 by_cases hk5 : k = 5
 ·subst hk5
  by_cases hd0 : d = 0
  case neg =>
   rw [show X8 m (.mk 5 n d s l) = false by rw [X8]; simp [*]]
   exact Qxb
  by_cases hs0 : s = []
  case neg =>
   rw [show X8 m (.mk 5 n d s l) = false by rw [X8]; simp [*]]
   exact Qzb
  by_cases hl0 : l.length = 0
  case neg =>
   have hl1 : 0 < l.length := by omega
   rw [show X8 m (.mk 5 n d s l) = false by rw [X8]; simp [*]]
   exact QCb
  by_cases hn : 1 ≤ n
  case neg =>
   rw [show X8 m (.mk 5 n d s l) = false by rw [X8]; simp [*]]
   refine QQb ?_; refine Qea ?_; refine QUa ?_; refine Z2 ?_; exact QRb
  rw [show X8 m (.mk 5 n d s l) = decide (n ≤ 1000000) by rw [X8]; simp [*]]
  refine QQb ?_; refine Qea ?_; refine QUa ?_; refine Z2 ?_; refine Qab ?_; exact QNa
 by_cases hk6 : k = 6
 ·subst hk6
  by_cases hd0 : d = 0
  case neg =>
   rw [show X8 m (.mk 6 n d s l) = false by rw [X8]; simp [*]]
   exact Qxb
  by_cases hs0 : s = []
  case neg =>
   rw [show X8 m (.mk 6 n d s l) = false by rw [X8]; simp [*]]
   exact Qzb
  by_cases hl0 : l.length = 0
  case neg =>
   have hl1 : 0 < l.length := by omega
   rw [show X8 m (.mk 6 n d s l) = false by rw [X8]; simp [*]]
   exact QCb
  by_cases hn : 1 ≤ n
  case neg =>
   rw [show X8 m (.mk 6 n d s l) = false by rw [X8]; simp [*]]
   refine QQb ?_; refine Qla ?_; refine QUa ?_; refine Z2 ?_; exact QRb
  rw [show X8 m (.mk 6 n d s l) = decide (n ≤ 1000000) by rw [X8]; simp [*]]
  refine QQb ?_; refine Qla ?_; refine QUa ?_; refine Z2 ?_; refine Qab ?_; exact QNa
 by_cases hk7 : k = 7
 ·subst hk7
  by_cases hd0 : d = 0
  case neg =>
   rw [show X8 m (.mk 7 n d s l) = false by rw [X8]; simp [*]]
   exact Qxb
  by_cases hs0 : s = []
  case neg =>
   rw [show X8 m (.mk 7 n d s l) = false by rw [X8]; simp [*]]
   exact Qzb
  by_cases hn : n = 0
  case neg =>
   rw [show X8 m (.mk 7 n d s l) = false by rw [X8]; simp [*]]
   refine Qyb ?_; refine Qub ?_; refine Qub ?_; refine Zn ?_; refine QSb ?_; refine Qma ?_; refine QGb ?_; refine QUa ?_; refine Zl ?_; exact QRb
  rw [show X8 m (.mk 7 n d s l) = Un l by rw [X8]; simp [Un, *]]
  have hp : X7j l := XfH l ih
  unfold X7j at hp
  refine Qyb ?_; refine Qub ?_; refine Qub ?_; refine Zn ?_; refine QSb ?_; refine Qma ?_; refine QGb ?_; refine QUa ?_; refine Zl ?_; refine QZa ?_; refine Z9 (hcon := hp) ?_; exact Qeb
 by_cases hk8 : k = 8
 ·subst hk8
  by_cases hd0 : d = 0
  case neg =>
   rw [show X8 m (.mk 8 n d s l) = false by rw [X8]; simp [*]]
   exact Qxb
  by_cases hs0 : s = []
  case neg =>
   rw [show X8 m (.mk 8 n d s l) = false by rw [X8]; simp [*]]
   exact Qzb
  by_cases hn : n = 0
  case neg =>
   rw [show X8 m (.mk 8 n d s l) = false by rw [X8]; simp [*]]
   refine Qyb ?_; refine Qub ?_; refine QWa ?_; refine QSb ?_; refine Qma ?_; refine Qia ?_; refine Qsb ?_; refine Zv ?_; refine Qw ?_; refine Qqa ?_; exact QB
  by_cases h64 : l.length ≤ 64
  case neg =>
   rw [show X8 m (.mk 8 n d s l) = false by rw [X8]; simp [*]]
   refine QTb ?_; exact QUb
  by_cases hm1 : 1 ≤ m
  case neg =>
   rw [show X8 m (.mk 8 n d s l) = false by rw [X8]; simp [*]]
   refine QTb ?_; refine Qf ?_; refine Z2 ?_; exact QF
  rw [show X8 m (.mk 8 n d s l) = UP (m - 1) (l.drop 0) by rw [X8]; simp [*]]
  refine QTb ?_; refine Qf ?_; refine Z2 ?_; refine QDb ?_; refine Qjb ?_
  refine Xz (fun i : Nat => i ≤ l.length ∧ UP (m - 1) (l.drop 0) = UP (m - 1) (l.drop i)) (fun i => ⟨142, [(1, ai (8 - m : Nat)), (120, .d (.sl 5 (Xx l))), (121, ai l.length), (122, ai i)], []⟩) (fun i => l.length - i) 0 ⟨by omega, rfl⟩
   (X7 rfl ⟨JL, JL, (by refine AVal.le_of_eq ?_; refine Eq.trans (b := ai ((Xx l).length : Nat)) rfl ?_; rw [hlen]), JL, trivial⟩ trivial) ?_
  rintro i ⟨hi, hpv⟩
  by_cases hlt : i < l.length
  ·obtain ⟨x, hx⟩ := Xu (l := l) hlt
   have hgx := X3c hx
   have hvx := ih x (List.mem_of_getElem? hx) (m - 1) (by omega)
   have hst := X9c (m := m - 1) hx
   have e8 : nj (8 - m + 1) = nj (8 - (m - 1)) := congrArg nj (by omega)
   obtain ⟨k', n', d', s', q'⟩ := x
   simp only [XG] at hvx
   rw [Y1] at hgx
   cases hvv : X8 (m - 1) (.mk k' n' d' s' q') with
   | true =>
    rw [hvv] at hvx
    rw [hvv, Bool.true_and] at hst
    refine QVb ?_; refine Qkb ?_; refine Zw (γ := 100) ?_; refine Qlb ?_; refine QXb ?_; (refine Z4 (op := .add) (r' := nj (8 - (m - 1))) (u := nj (8 - m)) (v := nj 1) ?_ (hr' := by exact e8) (hr := by exact UF (by rw [Y4]; omega))); refine Z9 (hcon := hvx) ?_; refine QYb ?_; refine QV ?_; exact ⟨i + 1, ⟨by omega, hpv.trans hst⟩, by omega, X7 rfl ⟨JL, JL, JL, JL, trivial⟩ trivial⟩
   | false =>
    rw [hvv] at hvx
    rw [hvv, Bool.false_and] at hst
    rw [hpv, hst]
    refine QVb ?_; refine Qkb ?_; refine Zw (γ := 100) ?_; refine Qlb ?_; refine QXb ?_; (refine Z4 (op := .add) (r' := nj (8 - (m - 1))) (u := nj (8 - m)) (v := nj 1) ?_ (hr' := by exact e8) (hr := by exact UF (by rw [Y4]; omega))); refine Z9 (hcon := hvx) ?_; exact QZb
  obtain rfl : i = l.length := by omega
  rw [hpv, List.drop_length, UP]
  exact QN
 by_cases hd0 : d = 0
 case neg =>
  rw [show X8 m (.mk k n d s l) = false by rw [X8]; simp [*]]
  exact Qxb
 by_cases hs0 : s = []
 case neg =>
  rw [show X8 m (.mk k n d s l) = false by rw [X8]; simp [*]]
  exact Qzb
 by_cases hl0 : l.length = 0
 case neg =>
  have hl1 : 0 < l.length := by omega
  rw [show X8 m (.mk k n d s l) = false by rw [X8]; simp [*]]
  exact QCb
 rw [show X8 m (.mk k n d s l) = false by rw [X8]; simp [*]]
 refine QQb ?_; refine Qma ?_; refine QMb ?_; refine X2 ?_; exact Qz
end Go.Fw

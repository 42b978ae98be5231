/- Values that are valid, second part. -/
import Derived.Test.YtonekjkmnhfjmaaGreatDoorK16
set_option maxHeartbeats 8000000
namespace Go.Fw
open Go Go.Proofs
set_option maxRecDepth 100000
set_option linter.unusedVariables false
set_option linter.unusedSimpArgs false
theorem Xcd (v : Val) (ih : ∀ x ∈ v.l, X5b x) : X5b v := by
 obtain ⟨k, n, d, s, l⟩ := v
 intro m hm
 refine Xc (xs := [ab (X8 m (.mk k n d s l))]) Tryz.func278 rfl Tryz.ntmps278 rfl rfl rfl (fun E => ?_)
 have hlen := X02 l
 simp only [Val.l] at ih
 by_cases hk0 : k = 0
 ·subst hk0
  by_cases hd0 : d = 0
  case neg =>
   rw [show X8 m (.mk 0 n d s l) = false by rw [X8]; simp [*]]
   exact Qrc
  by_cases hs0 : s = []
  case neg =>
   rw [show X8 m (.mk 0 n d s l) = false by rw [X8]; simp [*]]
   exact Qtc
  by_cases hl0 : l.length = 0
  case neg =>
   have hl1 : 0 < l.length := by omega
   rw [show X8 m (.mk 0 n d s l) = false by rw [X8]; simp [*]]
   exact Qwc
  by_cases hn : n = 0
  ·rw [show X8 m (.mk 0 n d s l) = true by rw [X8]; simp [*]]
   refine Qyc ?_; refine Qzc ?_; refine QJb ?_; refine Qya ?_; exact X1 ⟨_, Xr 4 (y := ab true) (AVal.le_of_eq (by refine Eq.trans (b := ab (decide (n = 0))) rfl ?_; exact congrArg ab (decide_eq_true hn))), ⟨rfl, trivial⟩, X3 _⟩
  ·rw [show X8 m (.mk 0 n d s l) = false by rw [X8]; simp [*]]
   refine Qyc ?_; refine Qzc ?_; refine QJb ?_; refine Qya ?_; exact X1 ⟨_, Xr 4 (y := ab false) (AVal.le_of_eq (by refine Eq.trans (b := ab (decide (n = 0))) rfl ?_; exact congrArg ab (decide_eq_false hn))), ⟨rfl, trivial⟩, X3 _⟩
 by_cases hk1 : k = 1
 ·subst hk1
  by_cases hd0 : d = 0
  case neg =>
   rw [show X8 m (.mk 1 n d s l) = false by rw [X8]; simp [*]]
   exact Qrc
  by_cases hs0 : s = []
  case neg =>
   rw [show X8 m (.mk 1 n d s l) = false by rw [X8]; simp [*]]
   exact Qtc
  by_cases hl0 : l.length = 0
  case neg =>
   have hl1 : 0 < l.length := by omega
   rw [show X8 m (.mk 1 n d s l) = false by rw [X8]; simp [*]]
   exact Qwc
  by_cases hn : n = 0
  ·rw [show X8 m (.mk 1 n d s l) = true by rw [X8]; simp [*]]
   refine Qyc ?_; refine QBc ?_; refine QCc ?_; refine QV ?_; exact QCb
  by_cases hn1 : n = 1
  ·rw [show X8 m (.mk 1 n d s l) = true by rw [X8]; simp [*]]
   refine Qyc ?_; refine QBc ?_; refine QCc ?_; refine QDc ?_; refine QN ?_; exact QEc
  ·rw [show X8 m (.mk 1 n d s l) = false by rw [X8]; simp [*]]
   refine Qyc ?_; refine QBc ?_; refine QCc ?_; refine QDc ?_; refine QN ?_; exact QFc
 by_cases hk2 : k = 2
 ·subst hk2
  by_cases hd0 : d = 0
  case neg =>
   rw [show X8 m (.mk 2 n d s l) = false by rw [X8]; simp [*]]
   exact Qrc
  by_cases hs0 : s = []
  case neg =>
   rw [show X8 m (.mk 2 n d s l) = false by rw [X8]; simp [*]]
   exact Qtc
  by_cases hl0 : l.length = 0
  case neg =>
   have hl1 : 0 < l.length := by omega
   rw [show X8 m (.mk 2 n d s l) = false by rw [X8]; simp [*]]
   exact Qwc
  rw [show X8 m (.mk 2 n d s l) = inV n by rw [X8]; simp [inV, *]]
  refine Qyc ?_; refine QGc ?_; refine Qza ?_; refine QJb ?_; refine Zr (hcon := X2J n) ?_; exact QCb
 by_cases hk3 : k = 3
 ·subst hk3
  by_cases hs0 : s = []
  case neg =>
   rw [show X8 m (.mk 3 n d s l) = false by rw [X8]; simp [*]]
   refine QHc ?_; exact Qqc
  by_cases hl0 : l.length = 0
  case neg =>
   have hl1 : 0 < l.length := by omega
   rw [show X8 m (.mk 3 n d s l) = false by rw [X8]; simp [*]]
   refine QHc ?_; refine Quc ?_; exact Qvc
  by_cases hd : 2 ≤ d
  ·rw [show X8 m (.mk 3 n d s l) = UX n d by rw [X8]; simp [*]]
   refine QHc ?_; refine Quc ?_; refine ZB ?_; refine Qxc ?_; refine QIc ?_; refine Qza ?_; refine QKb ?_; refine QRb ?_; refine ZJ ?_; refine Zr (hcon := XgZ n d) ?_; exact QWb
  ·rw [show X8 m (.mk 3 n d s l) = false by rw [X8]; simp [*]]
   refine QHc ?_; refine Quc ?_; refine ZB ?_; refine Qxc ?_; refine QIc ?_; refine Qza ?_; refine QKb ?_; refine QMb ?_; exact QNb
 by_cases hk4 : k = 4
 ·subst hk4
  by_cases hd0 : d = 0
  case neg =>
   rw [show X8 m (.mk 4 n d s l) = false by rw [X8]; simp [*]]
   exact Qrc
  by_cases hl0 : l.length = 0
  case neg =>
   have hl1 : 0 < l.length := by omega
   rw [show X8 m (.mk 4 n d s l) = false by rw [X8]; simp [*]]
   refine Qnc ?_; refine ZH ?_; refine Qoc ?_; refine ZB ?_; refine Qoc ?_; refine QLb ?_; refine ZE ?_; refine Quc ?_; exact Qvc
  by_cases hn : n = 0
  case neg =>
   rw [show X8 m (.mk 4 n d s l) = false by rw [X8]; simp [*]]
   refine QKc ?_; refine Qeb ?_; exact QNb
  have hsz : (X5 s).size = s.length := rfl
  by_cases hs : s.length ≤ 100
  case neg =>
   rw [show X8 m (.mk 4 n d s l) = false by rw [X8]; simp [*]]
   refine QKc ?_; refine QPb ?_; refine Zu ?_; refine QG ?_; refine QW ?_; exact QNb
  rw [show X8 m (.mk 4 n d s l) = UO s by rw [X8]; simp [*]]
  refine QKc ?_; refine QPb ?_; refine Zu ?_; refine QG ?_; refine QPb ?_; refine Zr (hcon := Xiv s (by omega)) ?_; refine Zq ?_; refine QPa ?_; exact X1 ⟨_, Xr 4 (y := ab (UO s)) (AVal.le_of_eq (by refine Eq.trans (b := ab (decide (X0e s < 0))) rfl ?_; exact congrArg ab (by cases hv : UO s with | true => exact decide_eq_true (XaH.2 hv) | false => exact decide_eq_false (fun h => by rw [XaH.1 h] at hv; simp at hv)))), ⟨rfl, trivial⟩, X3 _⟩
 by_cases hk5 : k = 5
 ·subst hk5
  by_cases hd0 : d = 0
  case neg =>
   rw [show X8 m (.mk 5 n d s l) = false by rw [X8]; simp [*]]
   exact Qrc
  by_cases hs0 : s = []
  case neg =>
   rw [show X8 m (.mk 5 n d s l) = false by rw [X8]; simp [*]]
   exact Qtc
  by_cases hl0 : l.length = 0
  case neg =>
   have hl1 : 0 < l.length := by omega
   rw [show X8 m (.mk 5 n d s l) = false by rw [X8]; simp [*]]
   exact Qwc
  by_cases hn : 1 ≤ n
  case neg =>
   rw [show X8 m (.mk 5 n d s l) = false by rw [X8]; simp [*]]
   refine QLc ?_; refine QAa ?_; refine QKb ?_; exact QMc
  rw [show X8 m (.mk 5 n d s l) = decide (n ≤ 1000000) by rw [X8]; simp [*]]
  refine QLc ?_; refine QAa ?_; refine QNc ?_; exact QX
 by_cases hk6 : k = 6
 ·subst hk6
  by_cases hd0 : d = 0
  case neg =>
   rw [show X8 m (.mk 6 n d s l) = false by rw [X8]; simp [*]]
   exact Qrc
  by_cases hs0 : s = []
  case neg =>
   rw [show X8 m (.mk 6 n d s l) = false by rw [X8]; simp [*]]
   exact Qtc
  by_cases hl0 : l.length = 0
  case neg =>
   have hl1 : 0 < l.length := by omega
   rw [show X8 m (.mk 6 n d s l) = false by rw [X8]; simp [*]]
   exact Qwc
  by_cases hn : 1 ≤ n
  case neg =>
   rw [show X8 m (.mk 6 n d s l) = false by rw [X8]; simp [*]]
   refine QLc ?_; refine QLa ?_; refine QKb ?_; exact QMc
  rw [show X8 m (.mk 6 n d s l) = decide (n ≤ 1000000) by rw [X8]; simp [*]]
  refine QLc ?_; refine QLa ?_; refine QNc ?_; exact QX
 by_cases hk7 : k = 7
 ·subst hk7
  by_cases hd0 : d = 0
  case neg =>
   rw [show X8 m (.mk 7 n d s l) = false by rw [X8]; simp [*]]
   exact Qrc
  by_cases hs0 : s = []
  case neg =>
   rw [show X8 m (.mk 7 n d s l) = false by rw [X8]; simp [*]]
   exact Qtc
  by_cases hn : n = 0
  case neg =>
   rw [show X8 m (.mk 7 n d s l) = false by rw [X8]; simp [*]]
   refine Qsc ?_; refine Qoc ?_; refine Qoc ?_; refine ZB ?_; refine QOc ?_; refine QNa ?_; refine QCc ?_; exact QMc
  rw [show X8 m (.mk 7 n d s l) = UB l by rw [X8]; simp [UB, *]]
  have hp : X5s l := Xiq l ih
  unfold X5s at hp
  refine Qsc ?_; refine Qoc ?_; refine Qoc ?_; refine ZB ?_; refine QOc ?_; refine QNa ?_; refine QCc ?_; refine QPb ?_; refine Zr (hcon := hp) ?_; exact QWb
 by_cases hk8 : k = 8
 ·subst hk8
  by_cases hd0 : d = 0
  case neg =>
   rw [show X8 m (.mk 8 n d s l) = false by rw [X8]; simp [*]]
   exact Qrc
  by_cases hs0 : s = []
  case neg =>
   rw [show X8 m (.mk 8 n d s l) = false by rw [X8]; simp [*]]
   exact Qtc
  by_cases hn : n = 0
  case neg =>
   rw [show X8 m (.mk 8 n d s l) = false by rw [X8]; simp [*]]
   refine Qsc ?_; refine Qoc ?_; refine QLb ?_; refine QOc ?_; refine QMa ?_; refine Qza ?_; refine Qmc ?_; refine ZH ?_; refine QW ?_; refine QTa ?_; exact Qaa
  by_cases h64 : l.length ≤ 64
  case neg =>
   rw [show X8 m (.mk 8 n d s l) = false by rw [X8]; simp [*]]
   refine QPc ?_; refine ZE ?_; exact QQc
  by_cases hm1 : 1 ≤ m
  case neg =>
   rw [show X8 m (.mk 8 n d s l) = false by rw [X8]; simp [*]]
   refine QPc ?_; refine ZE ?_; refine Qq ?_; refine Zm ?_; exact Qea
  rw [show X8 m (.mk 8 n d s l) = V9 (m - 1) (l.drop 0) by rw [X8]; simp [*]]
  refine QPc ?_; refine ZE ?_; refine Qq ?_; refine Zm ?_; refine Qxc ?_; refine Qcc ?_
  refine Xz (fun i : Nat => i ≤ l.length ∧ V9 (m - 1) (l.drop 0) = V9 (m - 1) (l.drop i)) (fun i => ⟨142, [(1, ai (8 - m : Nat)), (120, .d (.sl 5 (XG l))), (121, ai l.length), (122, ai i)], []⟩) (fun i => l.length - i) 0 ⟨by omega, rfl⟩
   (X6 rfl ⟨JL, JL, (by refine AVal.le_of_eq ?_; refine Eq.trans (b := ai ((XG l).length : Nat)) rfl ?_; rw [hlen]), JL, trivial⟩ trivial) ?_
  rintro i ⟨hi, hpv⟩
  by_cases hlt : i < l.length
  ·obtain ⟨x, hx⟩ := Xs (l := l) hlt
   have hgx := X5i hx
   have hvx := ih x (List.mem_of_getElem? hx) (m - 1) (by omega)
   have hst := X87 (m := m - 1) hx
   have e8 : nj (8 - m + 1) = nj (8 - (m - 1)) := congrArg nj (by omega)
   obtain ⟨k', n', d', s', q'⟩ := x
   simp only [Xm] at hvx
   rw [Y5] at hgx
   cases hvv : X8 (m - 1) (.mk k' n' d' s' q') with
   | true =>
    rw [hvv] at hvx
    rw [hvv, Bool.true_and] at hst
    refine QSc ?_; refine QTc ?_; refine Z1 ?_; (refine Z9 (op := .add) (r' := nj (8 - (m - 1))) (u := nj (8 - m)) (v := nj 1) ?_ (hr' := by exact e8) (hr := by exact V1 (by rw [Yg]; omega))); refine Zr (hcon := hvx) ?_; refine QUc ?_; refine Qsa ?_; exact ⟨i + 1, ⟨by omega, hpv.trans hst⟩, by omega, X6 rfl ⟨JL, JL, JL, JL, trivial⟩ trivial⟩
   | false =>
    rw [hvv] at hvx
    rw [hvv, Bool.false_and] at hst
    rw [hpv, hst]
    refine QSc ?_; refine QTc ?_; refine Z1 ?_; (refine Z9 (op := .add) (r' := nj (8 - (m - 1))) (u := nj (8 - m)) (v := nj 1) ?_ (hr' := by exact e8) (hr := by exact V1 (by rw [Yg]; omega))); refine Zr (hcon := hvx) ?_; exact QVc
  obtain rfl : i = l.length := by omega
  rw [hpv, List.drop_length, V9]
  exact Qla
 by_cases hd0 : d = 0
 case neg =>
  rw [show X8 m (.mk k n d s l) = false by rw [X8]; simp [*]]
  exact Qrc
 by_cases hs0 : s = []
 case neg =>
  rw [show X8 m (.mk k n d s l) = false by rw [X8]; simp [*]]
  exact Qtc
 by_cases hl0 : l.length = 0
 case neg =>
  have hl1 : 0 < l.length := by omega
  rw [show X8 m (.mk k n d s l) = false by rw [X8]; simp [*]]
  exact Qwc
 rw [show X8 m (.mk k n d s l) = false by rw [X8]; simp [*]]
 refine QLc ?_; refine QOa ?_; refine X2 ?_; exact QY
end Go.Fw

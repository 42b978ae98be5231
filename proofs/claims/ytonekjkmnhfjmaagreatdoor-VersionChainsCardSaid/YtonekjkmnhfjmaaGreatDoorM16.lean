/- Valid. -/
import Derived.Test.YtonekjkmnhfjmaaGreatDoorM15
set_option maxHeartbeats 8000000
namespace Go.Fw
open Go Go.Proofs
set_option maxRecDepth 100000
set_option linter.unusedVariables false
set_option linter.unusedSimpArgs false
theorem X81 : ∀ v : Val, X4P v
 | .mk k n d s l => XfV (.mk k n d s l) fun x hx => X81 x
termination_by v => SizeOf.sizeOf v
decreasing_by
 have h1 := List.sizeOf_lt_of_mem (show x ∈ l from hx)
 simp only [Val.mk.sizeOf_spec]
 omega
theorem X5h (v : Val) : Con Tryz.prog 221 [] [XG v] [] (ab (X8 8 v)) := by
 refine Xc (xs := [ab (X8 8 v)]) Tryz.func221 rfl Tryz.ntmps221 rfl rfl rfl (fun E => ?_)
 have h := X81 v 8 (by omega)
 obtain ⟨k, n, d, s, l⟩ := v
 simp only [XG, Nat.sub_self] at h
 refine QSa ?_; refine QWb ?_; refine Z9 (hcon := h) ?_; exact QNa
def X2Y (v : Val) : Prop := ∀ m : Nat, m ≤ 8 → Con Tryz.prog 240 [] [XG v, ai m] [] (ab (X8 m v))
theorem X7S {s : List UInt8} {p : Nat} {c : UInt8} (hc : s[p]? = some c) (hb : okB c = false) : UI s = false := by
 cases hs : UI s with
 | false => rfl
 | true =>
  unfold UI at hs
  rw [List.all_eq_true] at hs
  have := hs c (List.mem_of_getElem? hc)
  unfold okB at hb
  rw [hb] at this; simp at this
theorem XeC (s : List UInt8) (hs : s.length ≤ 9223372036854775807) : Con Tryz.prog 298 [] [UJ s] [] (ab (UI s && decide (s.length ≤ 100))) := by
 refine Xc (xs := [ab (UI s && decide (s.length ≤ 100))]) Tryz.func298 rfl Tryz.ntmps298 rfl rfl rfl (fun E => ?_)
 have hsz : (X5 s).size = s.length := rfl
 refine Qac ?_
 refine Xz (fun p : Nat => p ≤ s.length ∧ ∀ j, j < p → ∃ b, s[j]? = some b ∧ okB b = true) (fun p => ⟨23, [(0, UJ s), (3, ai p)], []⟩) (fun p => s.length - p) 0 ⟨by omega, fun j hj => by omega⟩
  (X7 rfl ⟨JL, JL, trivial⟩ trivial) ?_
 rintro p ⟨hp, hall⟩
 by_cases hlt : p < s.length
 ·obtain ⟨c, hc⟩ := Xu (l := s) hlt
  have hlt' : p < (X5 s).size := hlt
  have hget := X83 s hc hlt'
  by_cases h1 : c.toNat < 32
  ·rw [X7S hc (show okB c = false by unfold okB; exact decide_eq_false (by omega)), Bool.false_and]
   refine Qya ?_; refine Zt ?_; refine Z8 ?_; refine Qw ?_; exact QB
  by_cases h2 : 126 < c.toNat
  ·rw [X7S hc (show okB c = false by unfold okB; exact decide_eq_false (by omega)), Bool.false_and]
   refine Qya ?_; refine Zt ?_; refine Z8 ?_; refine QY ?_; refine Zs ?_; exact QF
  have hok : okB c = true := by unfold okB; exact decide_eq_true (by omega)
  refine Qya ?_; refine Zt ?_; refine Z8 ?_; refine QY ?_; refine Zs ?_; refine QI ?_; refine QBa ?_
  refine ⟨p + 1, ⟨by omega, fun j hj => ?_⟩, by omega, X7 rfl ⟨JL, JL, trivial⟩ trivial⟩
  by_cases e : j = p
  ·subst e; exact ⟨c, hc, hok⟩
  ·exact hall j (by omega)
 obtain rfl : p = s.length := by omega
 rw [XaB hall rfl, Bool.true_and]
 refine Qva ?_; refine Zc ?_; refine Z8 ?_; refine QMa ?_; refine Zc ?_; refine Zm ?_; refine Qb ?_; exact X1 ⟨_, XF 2 (y := ab (decide (s.length ≤ 100))) (AVal.le_of_eq (by refine Eq.trans (b := ab (decide (((X5 s).size : Int) ≤ 100))) rfl ?_; exact congrArg ab (decide_eq_decide.2 (by omega)))), ⟨rfl, trivial⟩, X3 _⟩
theorem Xgz (l : List Val) (hl : l.length ≤ 9223372036854775807) (ih : ∀ x ∈ l, X2Y x) : Con Tryz.prog 299 [] [.d (.sl 5 (Xx l))] [] (ab (Un l)) := by
 refine Xc (xs := [ab (Un l)]) Tryz.func299 rfl Tryz.ntmps299 rfl rfl rfl (fun E => ?_)
 have hlen := Vb l
 by_cases h1 : l.length % 2 = 0
 ·rw [show Un l = false by unfold Un; rw [decide_eq_false (by omega), Bool.false_and]]
  refine Qu ?_; refine Zd ?_; refine ZJ ?_; refine Zl ?_; exact Qfb
 by_cases h2 : 25 < l.length
 ·rw [show Un l = false by unfold Un; rw [decide_eq_false (by omega), Bool.false_and]]
  refine Qhb ?_; exact QF
 rw [show Un l = Uy 0 (l.drop 0) by unfold Un; rw [decide_eq_true (by omega), Bool.true_and]; rfl]
 refine Qhb ?_; refine QI ?_; refine Qua ?_
 refine Xz (fun i : Nat => i ≤ l.length ∧ Uy 0 (l.drop 0) = Uy i (l.drop i)) (fun i => ⟨38, [(0, .d (.sl 5 (Xx l))), (3, ai i)], []⟩) (fun i => l.length - i) 0 ⟨by omega, rfl⟩
  (X7 rfl ⟨JL, JL, trivial⟩ trivial) ?_
 rintro i ⟨hi, hpv⟩
 by_cases hlt : i < l.length
 ·obtain ⟨x, hx⟩ := Xu (l := l) hlt
  have hgx := X3c hx
  have hvx := ih x (List.mem_of_getElem? hx) 0 (by omega)
  obtain ⟨k, n, d, s, q⟩ := x
  simp only [XG] at hvx
  rw [Y1] at hgx
  rw [hpv]
  by_cases hpar : i % 2 = 0
  case pos =>
   by_cases hk : k = 5
   case neg =>
    rw [X4N hx (by rw [hpar]; show ¬ k = _; omega)]
    refine Qfc ?_; refine Qhc ?_; refine Zv ?_; refine QXa ?_; exact QB
   subst hk
   cases hvv : X8 0 (.mk 5 n d s q) with
   | true =>
    rw [hvv] at hvx
    have hgo := X4f hx (by rw [hpar]; rfl) hvv
    rw [← hpv]
    refine Qfc ?_; refine Qjc ?_; refine QJ ?_; refine QBa ?_; exact ⟨i + 1, ⟨by omega, hpv.trans hgo⟩, by omega, X7 rfl ⟨JL, JL, trivial⟩ trivial⟩
   | false =>
    rw [hvv] at hvx
    rw [X4K hx hvv]
    refine Qfc ?_; refine Qjc ?_; exact QG
  case neg =>
   have hpar : i % 2 = 1 := by omega
   by_cases hk : k = 6
   case neg =>
    rw [X4N hx (by rw [hpar]; show ¬ k = _; omega)]
    refine Qkc ?_; refine Qhc ?_; refine Zv ?_; refine QXa ?_; exact QB
   subst hk
   cases hvv : X8 0 (.mk 6 n d s q) with
   | true =>
    rw [hvv] at hvx
    have hgo := X4f hx (by rw [hpar]; rfl) hvv
    rw [← hpv]
    refine Qkc ?_; refine Qjc ?_; refine QJ ?_; refine QBa ?_; exact ⟨i + 1, ⟨by omega, hpv.trans hgo⟩, by omega, X7 rfl ⟨JL, JL, trivial⟩ trivial⟩
   | false =>
    rw [hvv] at hvx
    rw [X4K hx hvv]
    refine Qkc ?_; refine Qjc ?_; exact QG
 obtain rfl : i = l.length := by omega
 rw [hpv, List.drop_length, Uy]
 exact Qmc
theorem XcE (l : List Val) (m : Nat) (hm : m ≤ 8) (hl : l.length ≤ 9223372036854775807) (ih : ∀ x ∈ l, X2Y x) : Con Tryz.prog 300 [] [.d (.sl 5 (Xx l)), ai m] [] (ab (decide (1 ≤ m ∧ l.length ≤ 64) && UP (m - 1) l)) := by
 refine Xc (xs := [ab (decide (1 ≤ m ∧ l.length ≤ 64) && UP (m - 1) l)]) Tryz.func300 rfl Tryz.ntmps300 rfl rfl rfl (fun E => ?_)
 have hlen := Vb l
 by_cases h1 : m < 1
 ·rw [decide_eq_false (by omega), Bool.false_and]
  refine Qu ?_; refine Z8 ?_; exact Qfb
 by_cases h2 : 64 < l.length
 ·rw [decide_eq_false (by omega), Bool.false_and]
  refine Qu ?_; refine Qta ?_; refine Qgb ?_; exact QF
 rw [show (decide (1 ≤ m ∧ l.length ≤ 64) && UP (m - 1) l) = UP (m - 1) (l.drop 0) by rw [decide_eq_true (by omega), Bool.true_and]; rfl]
 refine Qu ?_; refine Qta ?_; refine Qgb ?_; refine QI ?_; refine Qua ?_
 refine Xz (fun i : Nat => i ≤ l.length ∧ UP (m - 1) (l.drop 0) = UP (m - 1) (l.drop i)) (fun i => ⟨27, [(0, .d (.sl 5 (Xx l))), (1, ai m), (5, ai i)], []⟩) (fun i => l.length - i) 0 ⟨by omega, rfl⟩
  (X7 rfl ⟨JL, JL, JL, trivial⟩ trivial) ?_
 rintro i ⟨hi, hpv⟩
 by_cases hlt : i < l.length
 ·obtain ⟨x, hx⟩ := Xu (l := l) hlt
  have hgx := X3c hx
  have hvx := ih x (List.mem_of_getElem? hx) (m - 1) (by omega)
  have hst := X9c (m := m - 1) hx
  have e8 : Value.int .i64 ((m : Int) - 1) = nj (m - 1) := by show Value.int .i64 _ = Value.int .i64 _; congr 1; omega
  obtain ⟨k', n', d', s', q'⟩ := x
  simp only [XG] at hvx
  rw [Y1] at hgx
  cases hvv : X8 (m - 1) (.mk k' n' d' s' q') with
  | true =>
   rw [hvv] at hvx
   rw [hvv, Bool.true_and] at hst
   refine Qnc ?_; refine Qic ?_; refine Z1 ?_; (refine Z4 (op := .sub) (r' := nj (m - 1)) (u := nj m) (v := nj 1) ?_ (hr' := by exact e8) (hr := by exact XU (by unfold Xw; omega))); refine Z9 (hcon := hvx) ?_; refine QYb ?_; refine QBa ?_; exact ⟨i + 1, ⟨by omega, hpv.trans hst⟩, by omega, X7 rfl ⟨JL, JL, JL, trivial⟩ trivial⟩
  | false =>
   rw [hvv] at hvx
   rw [hvv, Bool.false_and] at hst
   rw [hpv, hst]
   refine Qnc ?_; refine Qic ?_; refine Z1 ?_; (refine Z4 (op := .sub) (r' := nj (m - 1)) (u := nj m) (v := nj 1) ?_ (hr' := by exact e8) (hr := by exact XU (by unfold Xw; omega))); refine Z9 (hcon := hvx) ?_; exact QZb
 obtain rfl : i = l.length := by omega
 rw [hpv, List.drop_length, UP]
 exact Qmc
mutual
def Y3 : Val → Prop
 | .mk k n d s l => s.length ≤ 9223372036854775807 ∧ l.length ≤ 9223372036854775807 ∧ VN l
def VN : List Val → Prop
 | [] => True
 | v :: r => Y3 v ∧ VN r
end
theorem X1F : ∀ {l : List Val} {x : Val}, VN l → x ∈ l → Y3 x
 | [], _, _, h => by simp at h
 | v :: r, x, h, hx => by
  rw [VN] at h
  rcases List.mem_cons.1 hx with rfl | hx
  ·exact h.1
  ·exact X1F h.2 hx
def Xhg (v : Val) : Prop := Y3 v → X2Y v
theorem XhK (k n d : Int) (s : List UInt8) (l : List Val) : Con Tryz.prog 296 [] [XG (.mk k n d s l), ab false, ab false, ab false, ab false] [] (ab (decide (n = 0) && decide (d = 0) && decide (s = []) && decide (l.length = 0))) := by
 refine Xc (xs := [ab (decide (n = 0) && decide (d = 0) && decide (s = []) && decide (l.length = 0))]) Tryz.func296 rfl Tryz.ntmps296 rfl rfl rfl (fun E => ?_)
 have hlen := Vb l
 by_cases hn : n = 0
 case neg =>
  rw [show (decide (n = 0) && decide (d = 0) && decide (s = []) && decide (l.length = 0)) = false by simp [*]]
  exact Qqc
 by_cases hd : d = 0
 case neg =>
  rw [show (decide (n = 0) && decide (d = 0) && decide (s = []) && decide (l.length = 0)) = false by simp [*]]
  exact Qsc
 by_cases hs : s = []
 case neg =>
  rw [show (decide (n = 0) && decide (d = 0) && decide (s = []) && decide (l.length = 0)) = false by simp [*]]
  refine Qrc ?_; exact Quc
 by_cases hl : l.length = 0
 case neg =>
  have hl' : ¬ ((l.length : Int) = 0) := by omega
  rw [show (decide (n = 0) && decide (d = 0) && decide (s = []) && decide (l.length = 0)) = false by simp [*]]
  refine Qrc ?_; exact Qxc
 rw [show (decide (n = 0) && decide (d = 0) && decide (s = []) && decide (l.length = 0)) = true by simp [*]]
 refine Qrc ?_; exact Qzc
theorem X4C (k n d : Int) (s : List UInt8) (l : List Val) : Con Tryz.prog 296 [] [XG (.mk k n d s l), ab true, ab false, ab false, ab false] [] (ab (decide (d = 0) && decide (s = []) && decide (l.length = 0))) := by
 refine Xc (xs := [ab (decide (d = 0) && decide (s = []) && decide (l.length = 0))]) Tryz.func296 rfl Tryz.ntmps296 rfl rfl rfl (fun E => ?_)
 have hlen := Vb l
 by_cases hd : d = 0
 case neg =>
  rw [show (decide (d = 0) && decide (s = []) && decide (l.length = 0)) = false by simp [*]]
  refine QAc ?_; refine Qqa ?_; exact Qpc
 by_cases hs : s = []
 case neg =>
  rw [show (decide (d = 0) && decide (s = []) && decide (l.length = 0)) = false by simp [*]]
  refine QAc ?_; exact Quc
 by_cases hl : l.length = 0
 case neg =>
  have hl' : ¬ ((l.length : Int) = 0) := by omega
  rw [show (decide (d = 0) && decide (s = []) && decide (l.length = 0)) = false by simp [*]]
  refine QAc ?_; exact Qxc
 rw [show (decide (d = 0) && decide (s = []) && decide (l.length = 0)) = true by simp [*]]
 refine QAc ?_; exact Qzc
theorem Xes (k n d : Int) (s : List UInt8) (l : List Val) : Con Tryz.prog 296 [] [XG (.mk k n d s l), ab true, ab true, ab false, ab false] [] (ab (decide (s = []) && decide (l.length = 0))) := by
 refine Xc (xs := [ab (decide (s = []) && decide (l.length = 0))]) Tryz.func296 rfl Tryz.ntmps296 rfl rfl rfl (fun E => ?_)
 have hlen := Vb l
 by_cases hs : s = []
 case neg =>
  rw [show (decide (s = []) && decide (l.length = 0)) = false by simp [*]]
  refine Qoc ?_; refine Qv ?_; refine Qf ?_; refine Qv ?_; exact Quc
 by_cases hl : l.length = 0
 case neg =>
  have hl' : ¬ ((l.length : Int) = 0) := by omega
  rw [show (decide (s = []) && decide (l.length = 0)) = false by simp [*]]
  refine Qoc ?_; refine Qv ?_; refine Qf ?_; refine Qv ?_; exact Qxc
 rw [show (decide (s = []) && decide (l.length = 0)) = true by simp [*]]
 refine Qoc ?_; refine Qv ?_; refine Qf ?_; refine Qv ?_; exact Qzc
theorem Xez (k n d : Int) (s : List UInt8) (l : List Val) : Con Tryz.prog 296 [] [XG (.mk k n d s l), ab false, ab false, ab true, ab false] [] (ab (decide (n = 0) && decide (d = 0) && decide (l.length = 0))) := by
 refine Xc (xs := [ab (decide (n = 0) && decide (d = 0) && decide (l.length = 0))]) Tryz.func296 rfl Tryz.ntmps296 rfl rfl rfl (fun E => ?_)
 have hlen := Vb l
 by_cases hn : n = 0
 case neg =>
  rw [show (decide (n = 0) && decide (d = 0) && decide (l.length = 0)) = false by simp [*]]
  exact Qqc
 by_cases hd : d = 0
 case neg =>
  rw [show (decide (n = 0) && decide (d = 0) && decide (l.length = 0)) = false by simp [*]]
  exact Qsc
 by_cases hl : l.length = 0
 case neg =>
  have hl' : ¬ ((l.length : Int) = 0) := by omega
  rw [show (decide (n = 0) && decide (d = 0) && decide (l.length = 0)) = false by simp [*]]
  refine Qrc ?_; refine Zn ?_; refine Qf ?_; refine Qv ?_; refine Qvc ?_; exact Qwc
 rw [show (decide (n = 0) && decide (d = 0) && decide (l.length = 0)) = true by simp [*]]
 refine Qrc ?_; refine Zn ?_; refine Qf ?_; refine Qv ?_; refine Qvc ?_; exact Qyc
theorem X8c (k n d : Int) (s : List UInt8) (l : List Val) : Con Tryz.prog 296 [] [XG (.mk k n d s l), ab false, ab false, ab false, ab true] [] (ab (decide (n = 0) && decide (d = 0) && decide (s = []))) := by
 refine Xc (xs := [ab (decide (n = 0) && decide (d = 0) && decide (s = []))]) Tryz.func296 rfl Tryz.ntmps296 rfl rfl rfl (fun E => ?_)
 have hlen := Vb l
 by_cases hn : n = 0
 case neg =>
  rw [show (decide (n = 0) && decide (d = 0) && decide (s = [])) = false by simp [*]]
  exact Qqc
 by_cases hd : d = 0
 case neg =>
  rw [show (decide (n = 0) && decide (d = 0) && decide (s = [])) = false by simp [*]]
  exact Qsc
 by_cases hs : s = []
 case neg =>
  rw [show (decide (n = 0) && decide (d = 0) && decide (s = [])) = false by simp [*]]
  refine Qrc ?_; exact Quc
 rw [show (decide (n = 0) && decide (d = 0) && decide (s = [])) = true by simp [*]]
 refine Qrc ?_; refine Qtc ?_; refine Zn ?_; refine Qf ?_; refine Qw ?_; refine Zn ?_; exact Qeb
end Go.Fw

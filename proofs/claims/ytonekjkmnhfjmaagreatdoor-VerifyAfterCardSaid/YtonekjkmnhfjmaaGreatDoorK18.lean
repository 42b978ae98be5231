/- Valid. -/
import Derived.Test.YtonekjkmnhfjmaaGreatDoorK17
set_option maxHeartbeats 8000000
namespace Go.Fw
open Go Go.Proofs
set_option maxRecDepth 100000
set_option linter.unusedVariables false
set_option linter.unusedSimpArgs false
theorem X8v : ∀ v : Val, X5b v
 | .mk k n d s l => Xcd (.mk k n d s l) fun x hx => X8v x
termination_by v => SizeOf.sizeOf v
decreasing_by
 have h1 := List.sizeOf_lt_of_mem (show x ∈ l from hx)
 simp only [Val.mk.sizeOf_spec]
 omega
theorem X2i (v : Val) : Con Tryz.prog 221 [] [Xm v] [] (ab (X8 8 v)) := by
 refine Xc (xs := [ab (X8 8 v)]) Tryz.func221 rfl Tryz.ntmps221 rfl rfl rfl (fun E => ?_)
 have h := X8v v 8 (by omega)
 obtain ⟨k, n, d, s, l⟩ := v
 simp only [Xm, Nat.sub_self] at h
 refine QWc ?_; refine Zr (hcon := h) ?_; exact QCb
def X3D (v : Val) : Prop := ∀ m : Nat, m ≤ 8 → Con Tryz.prog 240 [] [Xm v, ai m] [] (ab (X8 m v))
theorem X97 {s : List UInt8} {p : Nat} {c : UInt8} (hc : s[p]? = some c) (hb : okB c = false) : UO s = false := by
 cases hs : UO s with
 | false => rfl
 | true =>
  unfold UO at hs
  rw [List.all_eq_true] at hs
  have := hs c (List.mem_of_getElem? hc)
  unfold okB at hb
  rw [hb] at this; simp at this
theorem XfZ (s : List UInt8) (hs : s.length ≤ 9223372036854775807) : Con Tryz.prog 298 [] [US s] [] (ab (UO s && decide (s.length ≤ 100))) := by
 refine Xc (xs := [ab (UO s && decide (s.length ≤ 100))]) Tryz.func298 rfl Tryz.ntmps298 rfl rfl rfl (fun E => ?_)
 have hsz : (X5 s).size = s.length := rfl
 refine QXc ?_
 refine Xz (fun p : Nat => p ≤ s.length ∧ ∀ j, j < p → ∃ b, s[j]? = some b ∧ okB b = true) (fun p => ⟨23, [(0, US s), (3, ai p)], []⟩) (fun p => s.length - p) 0 ⟨by omega, fun j hj => by omega⟩
  (X6 rfl ⟨JL, JL, trivial⟩ trivial) ?_
 rintro p ⟨hp, hall⟩
 by_cases hlt : p < s.length
 ·obtain ⟨c, hc⟩ := Xs (l := s) hlt
  have hlt' : p < (X5 s).size := hlt
  have hget := X8k s hc hlt'
  by_cases h1 : c.toNat < 32
  ·rw [X97 hc (show okB c = false by unfold okB; exact decide_eq_false (by omega)), Bool.false_and]
   refine Qcb ?_; refine Zq ?_; refine QW ?_; exact Qaa
  by_cases h2 : 126 < c.toNat
  ·rw [X97 hc (show okB c = false by unfold okB; exact decide_eq_false (by omega)), Bool.false_and]
   refine Qcb ?_; refine Zq ?_; refine Qua ?_; refine Zb ?_; exact Qea
  have hok : okB c = true := by unfold okB; exact decide_eq_true (by omega)
  refine Qcb ?_; refine Zq ?_; refine Qua ?_; refine Zb ?_; refine Qhb ?_
  refine ⟨p + 1, ⟨by omega, fun j hj => ?_⟩, by omega, X6 rfl ⟨JL, JL, trivial⟩ trivial⟩
  by_cases e : j = p
  ·subst e; exact ⟨c, hc, hok⟩
  ·exact hall j (by omega)
 obtain rfl : p = s.length := by omega
 rw [XaN hall rfl, Bool.true_and]
 refine Ql ?_; refine Zu ?_; refine Zq ?_; refine Qab ?_; refine Qd ?_; refine Zu ?_; refine ZA ?_; refine Qb ?_; exact X1 ⟨_, Xr 2 (y := ab (decide (s.length ≤ 100))) (AVal.le_of_eq (by refine Eq.trans (b := ab (decide (((X5 s).size : Int) ≤ 100))) rfl ?_; exact congrArg ab (decide_eq_decide.2 (by omega)))), ⟨rfl, trivial⟩, X3 _⟩
theorem XfM (l : List Val) (hl : l.length ≤ 9223372036854775807) (ih : ∀ x ∈ l, X3D x) : Con Tryz.prog 299 [] [.d (.sl 5 (XG l))] [] (ab (UB l)) := by
 refine Xc (xs := [ab (UB l)]) Tryz.func299 rfl Tryz.ntmps299 rfl rfl rfl (fun E => ?_)
 have hlen := X02 l
 by_cases h1 : l.length % 2 = 0
 ·rw [show UB l = false by unfold UB; rw [decide_eq_false (by omega), Bool.false_and]]
  refine QYb ?_; exact Qlb
 by_cases h2 : 25 < l.length
 ·rw [show UB l = false by unfold UB; rw [decide_eq_false (by omega), Bool.false_and]]
  refine QYb ?_; exact Qac
 rw [show UB l = UW 0 (l.drop 0) by unfold UB; rw [decide_eq_true (by omega), Bool.true_and]; rfl]
 refine QYb ?_; refine Qbc ?_; refine QZa ?_
 refine Xz (fun i : Nat => i ≤ l.length ∧ UW 0 (l.drop 0) = UW i (l.drop i)) (fun i => ⟨38, [(0, .d (.sl 5 (XG l))), (3, ai i)], []⟩) (fun i => l.length - i) 0 ⟨by omega, rfl⟩
  (X6 rfl ⟨JL, JL, trivial⟩ trivial) ?_
 rintro i ⟨hi, hpv⟩
 by_cases hlt : i < l.length
 ·obtain ⟨x, hx⟩ := Xs (l := l) hlt
  have hgx := X5i hx
  have hvx := ih x (List.mem_of_getElem? hx) 0 (by omega)
  obtain ⟨k, n, d, s, q⟩ := x
  simp only [Xm] at hvx
  rw [Y5] at hgx
  rw [hpv]
  by_cases hpar : i % 2 = 0
  case pos =>
   by_cases hk : k = 5
   case neg =>
    rw [X4m hx (by rw [hpar]; show ¬ k = _; omega)]
    refine Qad ?_; refine Qcd ?_; refine ZH ?_; refine QMb ?_; exact Qaa
   subst hk
   cases hvv : X8 0 (.mk 5 n d s q) with
   | true =>
    rw [hvv] at hvx
    have hgo := X4h hx (by rw [hpar]; rfl) hvv
    rw [← hpv]
    refine Qad ?_; refine Qdd ?_; refine Zd ?_; refine Qhb ?_; exact ⟨i + 1, ⟨by omega, hpv.trans hgo⟩, by omega, X6 rfl ⟨JL, JL, trivial⟩ trivial⟩
   | false =>
    rw [hvv] at hvx
    rw [X4F hx hvv]
    refine Qad ?_; refine Qdd ?_; exact Qfa
  case neg =>
   have hpar : i % 2 = 1 := by omega
   by_cases hk : k = 6
   case neg =>
    rw [X4m hx (by rw [hpar]; show ¬ k = _; omega)]
    refine Qfd ?_; refine Qcd ?_; refine ZH ?_; refine QMb ?_; exact Qaa
   subst hk
   cases hvv : X8 0 (.mk 6 n d s q) with
   | true =>
    rw [hvv] at hvx
    have hgo := X4h hx (by rw [hpar]; rfl) hvv
    rw [← hpv]
    refine Qfd ?_; refine Qdd ?_; refine Zd ?_; refine Qhb ?_; exact ⟨i + 1, ⟨by omega, hpv.trans hgo⟩, by omega, X6 rfl ⟨JL, JL, trivial⟩ trivial⟩
   | false =>
    rw [hvv] at hvx
    rw [X4F hx hvv]
    refine Qfd ?_; refine Qdd ?_; exact Qfa
 obtain rfl : i = l.length := by omega
 rw [hpv, List.drop_length, UW]
 exact Qhd
theorem Xcr (l : List Val) (m : Nat) (hm : m ≤ 8) (hl : l.length ≤ 9223372036854775807) (ih : ∀ x ∈ l, X3D x) : Con Tryz.prog 300 [] [.d (.sl 5 (XG l)), ai m] [] (ab (decide (1 ≤ m ∧ l.length ≤ 64) && V9 (m - 1) l)) := by
 refine Xc (xs := [ab (decide (1 ≤ m ∧ l.length ≤ 64) && V9 (m - 1) l)]) Tryz.func300 rfl Tryz.ntmps300 rfl rfl rfl (fun E => ?_)
 have hlen := X02 l
 by_cases h1 : m < 1
 ·rw [decide_eq_false (by omega), Bool.false_and]
  refine QU ?_; refine Zq ?_; exact Qlb
 by_cases h2 : 64 < l.length
 ·rw [decide_eq_false (by omega), Bool.false_and]
  refine QU ?_; refine Zq ?_; exact Qac
 rw [show (decide (1 ≤ m ∧ l.length ≤ 64) && V9 (m - 1) l) = V9 (m - 1) (l.drop 0) by rw [decide_eq_true (by omega), Bool.true_and]; rfl]
 refine QU ?_; refine Zq ?_; refine Qbc ?_; refine QZa ?_
 refine Xz (fun i : Nat => i ≤ l.length ∧ V9 (m - 1) (l.drop 0) = V9 (m - 1) (l.drop i)) (fun i => ⟨27, [(0, .d (.sl 5 (XG l))), (1, ai m), (5, ai i)], []⟩) (fun i => l.length - i) 0 ⟨by omega, rfl⟩
  (X6 rfl ⟨JL, JL, JL, trivial⟩ trivial) ?_
 rintro i ⟨hi, hpv⟩
 by_cases hlt : i < l.length
 ·obtain ⟨x, hx⟩ := Xs (l := l) hlt
  have hgx := X5i hx
  have hvx := ih x (List.mem_of_getElem? hx) (m - 1) (by omega)
  have hst := X87 (m := m - 1) hx
  have e8 : Value.int .i64 ((m : Int) - 1) = nj (m - 1) := by show Value.int .i64 _ = Value.int .i64 _; congr 1; omega
  obtain ⟨k', n', d', s', q'⟩ := x
  simp only [Xm] at hvx
  rw [Y5] at hgx
  cases hvv : X8 (m - 1) (.mk k' n' d' s' q') with
  | true =>
   rw [hvv] at hvx
   rw [hvv, Bool.true_and] at hst
   refine Qid ?_; refine Qdc ?_; refine Z1 ?_; (refine Z9 (op := .sub) (r' := nj (m - 1)) (u := nj m) (v := nj 1) ?_ (hr' := by exact e8) (hr := by exact XQ (by unfold Xv; omega))); refine Zr (hcon := hvx) ?_; refine Zd ?_; refine Qkb ?_; exact ⟨i + 1, ⟨by omega, hpv.trans hst⟩, by omega, X6 rfl ⟨JL, JL, JL, trivial⟩ trivial⟩
  | false =>
   rw [hvv] at hvx
   rw [hvv, Bool.false_and] at hst
   rw [hpv, hst]
   refine Qid ?_; refine Qdc ?_; refine Z1 ?_; (refine Z9 (op := .sub) (r' := nj (m - 1)) (u := nj m) (v := nj 1) ?_ (hr' := by exact e8) (hr := by exact XQ (by unfold Xv; omega))); refine Zr (hcon := hvx) ?_; exact QVc
 obtain rfl : i = l.length := by omega
 rw [hpv, List.drop_length, V9]
 exact Qhd
mutual
def Ym : Val → Prop
 | .mk k n d s l => s.length ≤ 9223372036854775807 ∧ l.length ≤ 9223372036854775807 ∧ VW l
def VW : List Val → Prop
 | [] => True
 | v :: r => Ym v ∧ VW r
end
theorem X6u : ∀ {l : List Val} {x : Val}, VW l → x ∈ l → Ym x
 | [], _, _, h => by simp at h
 | v :: r, x, h, hx => by
  rw [VW] at h
  rcases List.mem_cons.1 hx with rfl | hx
  ·exact h.1
  ·exact X6u h.2 hx
def Xgc (v : Val) : Prop := Ym v → X3D v
theorem Xiz (k n d : Int) (s : List UInt8) (l : List Val) : Con Tryz.prog 296 [] [Xm (.mk k n d s l), ab false, ab false, ab false, ab false] [] (ab (decide (n = 0) && decide (d = 0) && decide (s = []) && decide (l.length = 0))) := by
 refine Xc (xs := [ab (decide (n = 0) && decide (d = 0) && decide (s = []) && decide (l.length = 0))]) Tryz.func296 rfl Tryz.ntmps296 rfl rfl rfl (fun E => ?_)
 have hlen := X02 l
 by_cases hn : n = 0
 case neg =>
  rw [show (decide (n = 0) && decide (d = 0) && decide (s = []) && decide (l.length = 0)) = false by simp [*]]
  exact Qld
 by_cases hd : d = 0
 case neg =>
  rw [show (decide (n = 0) && decide (d = 0) && decide (s = []) && decide (l.length = 0)) = false by simp [*]]
  refine Qmd ?_; exact Qnd
 by_cases hs : s = []
 case neg =>
  rw [show (decide (n = 0) && decide (d = 0) && decide (s = []) && decide (l.length = 0)) = false by simp [*]]
  refine Qmd ?_; exact Qqd
 by_cases hl : l.length = 0
 case neg =>
  have hl' : ¬ ((l.length : Int) = 0) := by omega
  rw [show (decide (n = 0) && decide (d = 0) && decide (s = []) && decide (l.length = 0)) = false by simp [*]]
  refine Qmd ?_; exact Qud
 rw [show (decide (n = 0) && decide (d = 0) && decide (s = []) && decide (l.length = 0)) = true by simp [*]]
 refine Qmd ?_; exact Qwd
theorem X3R (k n d : Int) (s : List UInt8) (l : List Val) : Con Tryz.prog 296 [] [Xm (.mk k n d s l), ab true, ab false, ab false, ab false] [] (ab (decide (d = 0) && decide (s = []) && decide (l.length = 0))) := by
 refine Xc (xs := [ab (decide (d = 0) && decide (s = []) && decide (l.length = 0))]) Tryz.func296 rfl Tryz.ntmps296 rfl rfl rfl (fun E => ?_)
 have hlen := X02 l
 by_cases hd : d = 0
 case neg =>
  rw [show (decide (d = 0) && decide (s = []) && decide (l.length = 0)) = false by simp [*]]
  refine Qxd ?_; exact Qnd
 by_cases hs : s = []
 case neg =>
  rw [show (decide (d = 0) && decide (s = []) && decide (l.length = 0)) = false by simp [*]]
  refine Qxd ?_; exact Qqd
 by_cases hl : l.length = 0
 case neg =>
  have hl' : ¬ ((l.length : Int) = 0) := by omega
  rw [show (decide (d = 0) && decide (s = []) && decide (l.length = 0)) = false by simp [*]]
  refine Qxd ?_; exact Qud
 rw [show (decide (d = 0) && decide (s = []) && decide (l.length = 0)) = true by simp [*]]
 refine Qxd ?_; exact Qwd
theorem XhS (k n d : Int) (s : List UInt8) (l : List Val) : Con Tryz.prog 296 [] [Xm (.mk k n d s l), ab true, ab true, ab false, ab false] [] (ab (decide (s = []) && decide (l.length = 0))) := by
 refine Xc (xs := [ab (decide (s = []) && decide (l.length = 0))]) Tryz.func296 rfl Tryz.ntmps296 rfl rfl rfl (fun E => ?_)
 have hlen := X02 l
 by_cases hs : s = []
 case neg =>
  rw [show (decide (s = []) && decide (l.length = 0)) = false by simp [*]]
  refine Qjd ?_; refine QV ?_; refine Qq ?_; refine QV ?_; exact Qqd
 by_cases hl : l.length = 0
 case neg =>
  have hl' : ¬ ((l.length : Int) = 0) := by omega
  rw [show (decide (s = []) && decide (l.length = 0)) = false by simp [*]]
  refine Qjd ?_; refine QV ?_; refine Qq ?_; refine QV ?_; exact Qud
 rw [show (decide (s = []) && decide (l.length = 0)) = true by simp [*]]
 refine Qjd ?_; refine QV ?_; refine Qq ?_; refine QV ?_; exact Qwd
theorem Xh2 (k n d : Int) (s : List UInt8) (l : List Val) : Con Tryz.prog 296 [] [Xm (.mk k n d s l), ab false, ab false, ab true, ab false] [] (ab (decide (n = 0) && decide (d = 0) && decide (l.length = 0))) := by
 refine Xc (xs := [ab (decide (n = 0) && decide (d = 0) && decide (l.length = 0))]) Tryz.func296 rfl Tryz.ntmps296 rfl rfl rfl (fun E => ?_)
 have hlen := X02 l
 by_cases hn : n = 0
 case neg =>
  rw [show (decide (n = 0) && decide (d = 0) && decide (l.length = 0)) = false by simp [*]]
  exact Qld
 by_cases hd : d = 0
 case neg =>
  rw [show (decide (n = 0) && decide (d = 0) && decide (l.length = 0)) = false by simp [*]]
  refine Qmd ?_; exact Qnd
 by_cases hl : l.length = 0
 case neg =>
  have hl' : ¬ ((l.length : Int) = 0) := by omega
  rw [show (decide (n = 0) && decide (d = 0) && decide (l.length = 0)) = false by simp [*]]
  refine Qmd ?_; refine Qod ?_; refine QV ?_; refine Qsd ?_; exact Qtd
 rw [show (decide (n = 0) && decide (d = 0) && decide (l.length = 0)) = true by simp [*]]
 refine Qmd ?_; refine Qod ?_; refine QV ?_; refine Qsd ?_; exact Qvd
theorem X8T (k n d : Int) (s : List UInt8) (l : List Val) : Con Tryz.prog 296 [] [Xm (.mk k n d s l), ab false, ab false, ab false, ab true] [] (ab (decide (n = 0) && decide (d = 0) && decide (s = []))) := by
 refine Xc (xs := [ab (decide (n = 0) && decide (d = 0) && decide (s = []))]) Tryz.func296 rfl Tryz.ntmps296 rfl rfl rfl (fun E => ?_)
 have hlen := X02 l
 by_cases hn : n = 0
 case neg =>
  rw [show (decide (n = 0) && decide (d = 0) && decide (s = [])) = false by simp [*]]
  exact Qld
 by_cases hd : d = 0
 case neg =>
  rw [show (decide (n = 0) && decide (d = 0) && decide (s = [])) = false by simp [*]]
  refine Qmd ?_; exact Qnd
 by_cases hs : s = []
 case neg =>
  rw [show (decide (n = 0) && decide (d = 0) && decide (s = [])) = false by simp [*]]
  refine Qmd ?_; exact Qqd
 rw [show (decide (n = 0) && decide (d = 0) && decide (s = [])) = true by simp [*]]
 refine Qmd ?_; refine Qpd ?_; refine Qod ?_; refine QW ?_; refine ZB ?_; exact QWb
end Go.Fw

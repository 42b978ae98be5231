/- The reference's valid. -/
import Derived.Test.YtbhleedlnaakkaaGreatG11
set_option maxHeartbeats 8000000
namespace Go.Fw
open Go Go.Proofs
set_option maxRecDepth 100000
set_option linter.unusedVariables false
set_option linter.unusedSimpArgs false
def X2Q (v : Val) : Prop := ∀ m : Nat, m ≤ 8 → Con Tryz.prog 140 [] [Xv v, ai m] [] (ab (X7 m v))
theorem Xa0 {s : List UInt8} {p : Nat} {c : UInt8} (hc : s[p]? = some c) (hb : okB c = false) : US s = false := by
 cases hs : US s with
 | false => rfl
 | true =>
  unfold US at hs
  rw [List.all_eq_true] at hs
  have := hs c (List.mem_of_getElem? hc)
  unfold okB at hb
  rw [hb] at this; simp at this
theorem XdX (s : List UInt8) (hs : s.length ≤ 9223372036854775807) : Con Tryz.prog 201 [] [X20 s] [] (ab (US s && decide (s.length ≤ 100))) := by
 refine X9 (xs := [ab (US s && decide (s.length ≤ 100))]) Tryz.func201 rfl Tryz.ntmps201 rfl rfl rfl (fun E => ?_)
 have hsz : (X5 s).size = s.length := rfl
 refine X0 ?_; refine JR ?_; refine Z0 ?_; refine JD ?_; refine X0 ?_; refine X0 ?_; refine JR ?_; refine Z0 ?_; refine JD ?_; refine X4 ?_
 refine Xy (fun p : Nat => p ≤ s.length ∧ ∀ j, j < p → ∃ b, s[j]? = some b ∧ okB b = true) (fun p => ⟨23, [(0, X20 s), (3, ai p)], []⟩) (fun p => s.length - p) 0 ⟨by omega, fun j hj => by omega⟩
  (X8 rfl ⟨JL, JL, trivial⟩ trivial) ?_
 rintro p ⟨hp, hall⟩
 by_cases hlt : p < s.length
 ·obtain ⟨c, hc⟩ := Xu (l := s) hlt
  have hlt' : p < (X5 s).size := hlt
  have hget := X7N s hc hlt'
  by_cases h1 : c.toNat < 32
  ·rw [Xa0 hc (show okB c = false by unfold okB; exact decide_eq_false (by omega)), Bool.false_and]
   refine X0 ?_; refine X0 ?_; refine JR ?_; refine Z1 ?_; refine Z1 ?_; refine Zc ?_; refine Z8 ?_; refine JD ?_; refine JT ?_; refine X2 ?_; refine X0 ?_; refine X4 ?_; refine X0 ?_
   refine JR ?_; refine Z1 ?_; refine Z1 ?_; refine Zt ?_; refine Z8 ?_; refine Z1 ?_; refine Zo ?_; refine Zo ?_; refine Zo ?_; refine Zo ?_; refine Zn ?_; refine JD ?_; refine JT ?_; refine X0 ?_; refine JR ?_
   refine Z0 ?_; refine JD ?_
   exact X1 ⟨_, St.le_refl _, ⟨rfl, trivial⟩, X3 _⟩
  by_cases h2 : 126 < c.toNat
  ·rw [Xa0 hc (show okB c = false by unfold okB; exact decide_eq_false (by omega)), Bool.false_and]
   refine X0 ?_; refine X0 ?_; refine JR ?_; refine Z1 ?_; refine Z1 ?_; refine Zc ?_; refine Z8 ?_; refine JD ?_; refine JT ?_; refine X2 ?_; refine X0 ?_; refine X4 ?_; refine X0 ?_
   refine JR ?_; refine Z1 ?_; refine Z1 ?_; refine Zt ?_; refine Z8 ?_; refine Z1 ?_; refine Z1 ?_; refine Z1 ?_; refine Zt ?_; refine Zs ?_; refine Zq ?_; refine JD ?_; refine JT ?_; refine X0 ?_; refine JR ?_
   refine Z0 ?_; refine JD ?_
   exact X1 ⟨_, St.le_refl _, ⟨rfl, trivial⟩, X3 _⟩
  have hok : okB c = true := by unfold okB; exact decide_eq_true (by omega)
  refine X0 ?_; refine X0 ?_; refine JR ?_; refine Z1 ?_; refine Z1 ?_; refine Zc ?_; refine Z8 ?_; refine JD ?_; refine JT ?_; refine X2 ?_; refine X0 ?_; refine X4 ?_; refine X0 ?_
  refine JR ?_; refine Z1 ?_; refine Z1 ?_; refine Zt ?_; refine Z8 ?_; refine Z1 ?_; refine Z1 ?_; refine Z1 ?_; refine Zt ?_; refine Zs ?_; refine Zq ?_; refine JD ?_; refine JF ?_; refine X2 ?_; refine JR ?_
  refine Z1 ?_; refine Zb ?_; refine Z0 ?_; refine JD ?_
  refine ⟨p + 1, ⟨by omega, fun j hj => ?_⟩, by omega, X8 rfl ⟨JL, JL, trivial⟩ trivial⟩
  by_cases e : j = p
  ·subst e; exact ⟨c, hc, hok⟩
  ·exact hall j (by omega)
 obtain rfl : p = s.length := by omega
 rw [X90 hall rfl, Bool.true_and]
 refine X0 ?_; refine X0 ?_; refine JR ?_; refine Z1 ?_; refine Z1 ?_; refine Zc ?_; refine Z8 ?_; refine JD ?_; refine JF ?_; refine Xj ?_; refine X0 ?_; refine JR ?_; refine Z1 ?_; refine Zc ?_
 refine Zm ?_; refine Z0 ?_; refine JD ?_
 exact X1 ⟨_, Xh 2 (y := ab (decide (s.length ≤ 100))) (AVal.le_of_eq (by refine Eq.trans (b := ab (decide (((X5 s).size : Int) ≤ 100))) rfl ?_; exact congrArg ab (decide_eq_decide.2 (by omega)))), ⟨rfl, trivial⟩, X3 _⟩
theorem XgZ (l : List Val) (hl : l.length ≤ 9223372036854775807) (ih : ∀ x ∈ l, X2Q x) : Con Tryz.prog 202 [] [.d (.sl 5 (XJ l))] [] (ab (UD l)) := by
 refine X9 (xs := [ab (UD l)]) Tryz.func202 rfl Tryz.ntmps202 rfl rfl rfl (fun E => ?_)
 have hlen := UR l
 by_cases h1 : l.length % 2 = 0
 ·rw [show UD l = false by unfold UD; rw [decide_eq_false (by omega), Bool.false_and]]
  refine X0 ?_; refine JR ?_; refine Z0 ?_; refine JD ?_; refine X0 ?_; refine X0 ?_; refine JR ?_; refine Z1 ?_; refine Zd ?_; refine ZJ ?_; refine Zl ?_; refine Z1 ?_; refine Zo ?_; refine Zo ?_
  refine Zo ?_; refine Zn ?_; refine JD ?_; refine JT ?_; refine X0 ?_; refine JR ?_; refine Z0 ?_; refine JD ?_
  exact X1 ⟨_, St.le_refl _, ⟨rfl, trivial⟩, X3 _⟩
 by_cases h2 : 25 < l.length
 ·rw [show UD l = false by unfold UD; rw [decide_eq_false (by omega), Bool.false_and]]
  refine X0 ?_; refine JR ?_; refine Z0 ?_; refine JD ?_; refine X0 ?_; refine X0 ?_; refine JR ?_; refine Z1 ?_; refine Zd ?_; refine ZJ ?_; refine Zl ?_; refine Z1 ?_; refine Z1 ?_; refine Zd ?_
  refine Zs ?_; refine Zq ?_; refine JD ?_; refine JT ?_; refine X0 ?_; refine JR ?_; refine Z0 ?_; refine JD ?_
  exact X1 ⟨_, St.le_refl _, ⟨rfl, trivial⟩, X3 _⟩
 rw [show UD l = Uc 0 (l.drop 0) by unfold UD; rw [decide_eq_true (by omega), Bool.true_and]; rfl]
 refine X0 ?_; refine JR ?_; refine Z0 ?_; refine JD ?_; refine X0 ?_; refine X0 ?_; refine JR ?_; refine Z1 ?_; refine Zd ?_; refine ZJ ?_; refine Zl ?_; refine Z1 ?_; refine Z1 ?_; refine Zd ?_
 refine Zs ?_; refine Zq ?_; refine JD ?_; refine JF ?_; refine X2 ?_; refine X0 ?_; refine X0 ?_; refine JR ?_; refine Z0 ?_; refine JD ?_; refine X4 ?_
 refine Xy (fun i : Nat => i ≤ l.length ∧ Uc 0 (l.drop 0) = Uc i (l.drop i)) (fun i => ⟨38, [(0, .d (.sl 5 (XJ l))), (3, ai i)], []⟩) (fun i => l.length - i) 0 ⟨by omega, rfl⟩
  (X8 rfl ⟨JL, JL, trivial⟩ trivial) ?_
 rintro i ⟨hi, hpv⟩
 by_cases hlt : i < l.length
 ·obtain ⟨x, hx⟩ := Xu (l := l) hlt
  have hgx := X0W hx
  have hvx := ih x (List.mem_of_getElem? hx) 0 (by omega)
  obtain ⟨k, n, d, s, q⟩ := x
  simp only [Xv] at hvx
  rw [YO] at hgx
  rw [hpv]
  by_cases hpar : i % 2 = 0
  case pos =>
   by_cases hk : k = 5
   case neg =>
    rw [X4W hx (by rw [hpar]; show ¬ k = _; omega)]
    refine X0 ?_; refine X0 ?_; refine JR ?_; refine Z1 ?_; refine Z1 ?_; refine Zd ?_; refine Z8 ?_; refine JD ?_; refine JT ?_; refine X2 ?_; refine X0 ?_; refine X4 ?_; refine X0 ?_
    refine JR ?_; refine Z0 ?_; refine JD ?_; refine X0 ?_; refine X0 ?_; refine JR ?_; refine Z1 ?_
    refine Z4 (op := .rem) (r' := nj 0) (u := nj i) (v := nj 2) ?_ (hr' := by exact congrArg nj hpar) (hr := by exact YG (by omega)); refine Zl ?_; refine JD ?_; refine JF ?_; refine X2 ?_; refine X0 ?_
    refine JR ?_; refine Z1 ?_; refine Z1 ?_; refine Zj ?_; refine ZN ?_; refine Zk ?_; refine Z1 ?_; refine Zv ?_; refine Z1 ?_; refine Zo ?_; refine Zo ?_; refine Zo ?_; refine Zo ?_; refine Zo ?_; refine Zo ?_
    refine Zn ?_; refine JD ?_; refine JT ?_; refine X0 ?_; refine JR ?_; refine Z0 ?_; refine JD ?_
    exact X1 ⟨_, St.le_refl _, ⟨rfl, trivial⟩, X3 _⟩
   subst hk
   cases hvv : X7 0 (.mk 5 n d s q) with
   | true =>
    rw [hvv] at hvx
    have hgo := X4k hx (by rw [hpar]; rfl) hvv
    rw [← hpv]
    refine X0 ?_; refine X0 ?_; refine JR ?_; refine Z1 ?_; refine Z1 ?_; refine Zd ?_; refine Z8 ?_; refine JD ?_; refine JT ?_; refine X2 ?_; refine X0 ?_; refine X4 ?_; refine X0 ?_
    refine JR ?_; refine Z0 ?_; refine JD ?_; refine X0 ?_; refine X0 ?_; refine JR ?_; refine Z1 ?_
    refine Z4 (op := .rem) (r' := nj 0) (u := nj i) (v := nj 2) ?_ (hr' := by exact congrArg nj hpar) (hr := by exact YG (by omega)); refine Zl ?_; refine JD ?_; refine JF ?_; refine X2 ?_; refine X0 ?_
    refine JR ?_; refine Z1 ?_; refine Z1 ?_; refine Zj ?_; refine ZN ?_; refine Zk ?_; refine Z1 ?_; refine Zv ?_; refine Z1 ?_; refine Z1 ?_; refine Z1 ?_; refine Zj ?_; refine ZK ?_; refine Z9 (hcon := hvx) ?_
    refine Zu ?_; refine Zq ?_; refine JD ?_; refine JF ?_; refine X2 ?_; refine JR ?_; refine Z1 ?_; refine Zb ?_; refine Z0 ?_; refine JD ?_
    exact ⟨i + 1, ⟨by omega, hpv.trans hgo⟩, by omega, X8 rfl ⟨JL, JL, trivial⟩ trivial⟩
   | false =>
    rw [hvv] at hvx
    rw [X4p hx hvv]
    refine X0 ?_; refine X0 ?_; refine JR ?_; refine Z1 ?_; refine Z1 ?_; refine Zd ?_; refine Z8 ?_; refine JD ?_; refine JT ?_; refine X2 ?_; refine X0 ?_; refine X4 ?_; refine X0 ?_
    refine JR ?_; refine Z0 ?_; refine JD ?_; refine X0 ?_; refine X0 ?_; refine JR ?_; refine Z1 ?_
    refine Z4 (op := .rem) (r' := nj 0) (u := nj i) (v := nj 2) ?_ (hr' := by exact congrArg nj hpar) (hr := by exact YG (by omega)); refine Zl ?_; refine JD ?_; refine JF ?_; refine X2 ?_; refine X0 ?_
    refine JR ?_; refine Z1 ?_; refine Z1 ?_; refine Zj ?_; refine ZN ?_; refine Zk ?_; refine Z1 ?_; refine Zv ?_; refine Z1 ?_; refine Z1 ?_; refine Z1 ?_; refine Zj ?_; refine ZK ?_; refine Z9 (hcon := hvx) ?_
    refine Zu ?_; refine Zq ?_; refine JD ?_; refine JT ?_; refine X0 ?_; refine JR ?_; refine Z0 ?_; refine JD ?_
    exact X1 ⟨_, St.le_refl _, ⟨rfl, trivial⟩, X3 _⟩
  case neg =>
   have hpar : i % 2 = 1 := by omega
   by_cases hk : k = 6
   case neg =>
    rw [X4W hx (by rw [hpar]; show ¬ k = _; omega)]
    refine X0 ?_; refine X0 ?_; refine JR ?_; refine Z1 ?_; refine Z1 ?_; refine Zd ?_; refine Z8 ?_; refine JD ?_; refine JT ?_; refine X2 ?_; refine X0 ?_; refine X4 ?_; refine X0 ?_
    refine JR ?_; refine Z0 ?_; refine JD ?_; refine X0 ?_; refine X0 ?_; refine JR ?_; refine Z1 ?_
    refine Z4 (op := .rem) (r' := nj 1) (u := nj i) (v := nj 2) ?_ (hr' := by exact congrArg nj hpar) (hr := by exact YG (by omega)); refine Zl ?_; refine JD ?_; refine JT ?_; refine JR ?_; refine Z0 ?_; refine JD ?_
    refine X0 ?_; refine JR ?_; refine Z1 ?_; refine Z1 ?_; refine Zj ?_; refine ZN ?_; refine Zk ?_; refine Z1 ?_; refine Zv ?_; refine Z1 ?_; refine Zo ?_; refine Zo ?_; refine Zo ?_; refine Zo ?_; refine Zo ?_
    refine Zo ?_; refine Zn ?_; refine JD ?_; refine JT ?_; refine X0 ?_; refine JR ?_; refine Z0 ?_; refine JD ?_
    exact X1 ⟨_, St.le_refl _, ⟨rfl, trivial⟩, X3 _⟩
   subst hk
   cases hvv : X7 0 (.mk 6 n d s q) with
   | true =>
    rw [hvv] at hvx
    have hgo := X4k hx (by rw [hpar]; rfl) hvv
    rw [← hpv]
    refine X0 ?_; refine X0 ?_; refine JR ?_; refine Z1 ?_; refine Z1 ?_; refine Zd ?_; refine Z8 ?_; refine JD ?_; refine JT ?_; refine X2 ?_; refine X0 ?_; refine X4 ?_; refine X0 ?_
    refine JR ?_; refine Z0 ?_; refine JD ?_; refine X0 ?_; refine X0 ?_; refine JR ?_; refine Z1 ?_
    refine Z4 (op := .rem) (r' := nj 1) (u := nj i) (v := nj 2) ?_ (hr' := by exact congrArg nj hpar) (hr := by exact YG (by omega)); refine Zl ?_; refine JD ?_; refine JT ?_; refine JR ?_; refine Z0 ?_; refine JD ?_
    refine X0 ?_; refine JR ?_; refine Z1 ?_; refine Z1 ?_; refine Zj ?_; refine ZN ?_; refine Zk ?_; refine Z1 ?_; refine Zv ?_; refine Z1 ?_; refine Z1 ?_; refine Z1 ?_; refine Zj ?_; refine ZK ?_
    refine Z9 (hcon := hvx) ?_; refine Zu ?_; refine Zq ?_; refine JD ?_; refine JF ?_; refine X2 ?_; refine JR ?_; refine Z1 ?_; refine Zb ?_; refine Z0 ?_; refine JD ?_
    exact ⟨i + 1, ⟨by omega, hpv.trans hgo⟩, by omega, X8 rfl ⟨JL, JL, trivial⟩ trivial⟩
   | false =>
    rw [hvv] at hvx
    rw [X4p hx hvv]
    refine X0 ?_; refine X0 ?_; refine JR ?_; refine Z1 ?_; refine Z1 ?_; refine Zd ?_; refine Z8 ?_; refine JD ?_; refine JT ?_; refine X2 ?_; refine X0 ?_; refine X4 ?_; refine X0 ?_
    refine JR ?_; refine Z0 ?_; refine JD ?_; refine X0 ?_; refine X0 ?_; refine JR ?_; refine Z1 ?_
    refine Z4 (op := .rem) (r' := nj 1) (u := nj i) (v := nj 2) ?_ (hr' := by exact congrArg nj hpar) (hr := by exact YG (by omega)); refine Zl ?_; refine JD ?_; refine JT ?_; refine JR ?_; refine Z0 ?_; refine JD ?_
    refine X0 ?_; refine JR ?_; refine Z1 ?_; refine Z1 ?_; refine Zj ?_; refine ZN ?_; refine Zk ?_; refine Z1 ?_; refine Zv ?_; refine Z1 ?_; refine Z1 ?_; refine Z1 ?_; refine Zj ?_; refine ZK ?_
    refine Z9 (hcon := hvx) ?_; refine Zu ?_; refine Zq ?_; refine JD ?_; refine JT ?_; refine X0 ?_; refine JR ?_; refine Z0 ?_; refine JD ?_
    exact X1 ⟨_, St.le_refl _, ⟨rfl, trivial⟩, X3 _⟩
 obtain rfl : i = l.length := by omega
 rw [hpv, List.drop_length, Uc]
 refine X0 ?_; refine X0 ?_; refine JR ?_; refine Z1 ?_; refine Z1 ?_; refine Zd ?_; refine Z8 ?_; refine JD ?_; refine JF ?_; refine Xj ?_; refine X0 ?_; refine JR ?_; refine Z0 ?_; refine JD ?_
 exact X1 ⟨_, St.le_refl _, ⟨rfl, trivial⟩, X3 _⟩
theorem Xfk (l : List Val) (m : Nat) (hm : m ≤ 8) (hl : l.length ≤ 9223372036854775807) (ih : ∀ x ∈ l, X2Q x) : Con Tryz.prog 203 [] [.d (.sl 5 (XJ l)), ai m] [] (ab (decide (1 ≤ m ∧ l.length ≤ 64) && Ui (m - 1) l)) := by
 refine X9 (xs := [ab (decide (1 ≤ m ∧ l.length ≤ 64) && Ui (m - 1) l)]) Tryz.func203 rfl Tryz.ntmps203 rfl rfl rfl (fun E => ?_)
 have hlen := UR l
 by_cases h1 : m < 1
 ·rw [decide_eq_false (by omega), Bool.false_and]
  refine X0 ?_; refine JR ?_; refine Z0 ?_; refine JD ?_; refine X0 ?_; refine X0 ?_; refine JR ?_; refine Z1 ?_; refine Z8 ?_; refine Z1 ?_; refine Zo ?_; refine Zo ?_; refine Zo ?_; refine Zn ?_
  refine JD ?_; refine JT ?_; refine X0 ?_; refine JR ?_; refine Z0 ?_; refine JD ?_
  exact X1 ⟨_, St.le_refl _, ⟨rfl, trivial⟩, X3 _⟩
 by_cases h2 : 64 < l.length
 ·rw [decide_eq_false (by omega), Bool.false_and]
  refine X0 ?_; refine JR ?_; refine Z0 ?_; refine JD ?_; refine X0 ?_; refine X0 ?_; refine JR ?_; refine Z1 ?_; refine Z8 ?_; refine Z1 ?_; refine Z1 ?_; refine Zd ?_; refine Zs ?_; refine Zq ?_
  refine JD ?_; refine JT ?_; refine X0 ?_; refine JR ?_; refine Z0 ?_; refine JD ?_
  exact X1 ⟨_, St.le_refl _, ⟨rfl, trivial⟩, X3 _⟩
 rw [show (decide (1 ≤ m ∧ l.length ≤ 64) && Ui (m - 1) l) = Ui (m - 1) (l.drop 0) by rw [decide_eq_true (by omega), Bool.true_and]; rfl]
 refine X0 ?_; refine JR ?_; refine Z0 ?_; refine JD ?_; refine X0 ?_; refine X0 ?_; refine JR ?_; refine Z1 ?_; refine Z8 ?_; refine Z1 ?_; refine Z1 ?_; refine Zd ?_; refine Zs ?_; refine Zq ?_
 refine JD ?_; refine JF ?_; refine X2 ?_; refine X0 ?_; refine X0 ?_; refine JR ?_; refine Z0 ?_; refine JD ?_; refine X4 ?_
 refine Xy (fun i : Nat => i ≤ l.length ∧ Ui (m - 1) (l.drop 0) = Ui (m - 1) (l.drop i)) (fun i => ⟨27, [(0, .d (.sl 5 (XJ l))), (1, ai m), (5, ai i)], []⟩) (fun i => l.length - i) 0 ⟨by omega, rfl⟩
  (X8 rfl ⟨JL, JL, JL, trivial⟩ trivial) ?_
 rintro i ⟨hi, hpv⟩
 by_cases hlt : i < l.length
 ·obtain ⟨x, hx⟩ := Xu (l := l) hlt
  have hgx := X0W hx
  have hvx := ih x (List.mem_of_getElem? hx) (m - 1) (by omega)
  have hst := X8B (m := m - 1) hx
  have e8 : Value.int .i64 ((m : Int) - 1) = nj (m - 1) := by show Value.int .i64 _ = Value.int .i64 _; congr 1; omega
  obtain ⟨k', n', d', s', q'⟩ := x
  simp only [Xv] at hvx
  rw [YO] at hgx
  cases hvv : X7 (m - 1) (.mk k' n' d' s' q') with
  | true =>
   rw [hvv] at hvx
   rw [hvv, Bool.true_and] at hst
   refine X0 ?_; refine X0 ?_; refine JR ?_; refine Z1 ?_; refine Z1 ?_; refine Zd ?_; refine Z8 ?_; refine JD ?_; refine JT ?_; refine X2 ?_; refine X0 ?_; refine X4 ?_; refine X0 ?_
   refine JR ?_; refine Z1 ?_; refine Z1 ?_; refine Zj ?_; refine ZK ?_; refine Z1 ?_
   refine Z4 (op := .sub) (r' := nj (m - 1)) (u := nj m) (v := nj 1) ?_ (hr' := by exact e8) (hr := by exact Ya (by unfold Y7; omega)); refine Z9 (hcon := hvx) ?_; refine Zu ?_; refine JD ?_; refine JF ?_
   refine X2 ?_; refine JR ?_; refine Z1 ?_; refine Zb ?_; refine Z0 ?_; refine JD ?_
   exact ⟨i + 1, ⟨by omega, hpv.trans hst⟩, by omega, X8 rfl ⟨JL, JL, JL, trivial⟩ trivial⟩
  | false =>
   rw [hvv] at hvx
   rw [hvv, Bool.false_and] at hst
   rw [hpv, hst]
   refine X0 ?_; refine X0 ?_; refine JR ?_; refine Z1 ?_; refine Z1 ?_; refine Zd ?_; refine Z8 ?_; refine JD ?_; refine JT ?_; refine X2 ?_; refine X0 ?_; refine X4 ?_; refine X0 ?_
   refine JR ?_; refine Z1 ?_; refine Z1 ?_; refine Zj ?_; refine ZK ?_; refine Z1 ?_
   refine Z4 (op := .sub) (r' := nj (m - 1)) (u := nj m) (v := nj 1) ?_ (hr' := by exact e8) (hr := by exact Ya (by unfold Y7; omega)); refine Z9 (hcon := hvx) ?_; refine Zu ?_; refine JD ?_; refine JT ?_
   refine X0 ?_; refine JR ?_; refine Z0 ?_; refine JD ?_
   exact X1 ⟨_, St.le_refl _, ⟨rfl, trivial⟩, X3 _⟩
 obtain rfl : i = l.length := by omega
 rw [hpv, List.drop_length, Ui]
 refine X0 ?_; refine X0 ?_; refine JR ?_; refine Z1 ?_; refine Z1 ?_; refine Zd ?_; refine Z8 ?_; refine JD ?_; refine JF ?_; refine Xj ?_; refine X0 ?_; refine JR ?_; refine Z0 ?_; refine JD ?_
 exact X1 ⟨_, St.le_refl _, ⟨rfl, trivial⟩, X3 _⟩
end Go.Fw
namespace Go.Fw
open Go Go.Proofs
set_option maxRecDepth 100000
set_option linter.unusedVariables false
set_option linter.unusedSimpArgs false
mutual
def XY : Val → Prop
 | .mk k n d s l => s.length ≤ 9223372036854775807 ∧ l.length ≤ 9223372036854775807 ∧ Vi l
def Vi : List Val → Prop
 | [] => True
 | v :: r => XY v ∧ Vi r
end
theorem X1p : ∀ {l : List Val} {x : Val}, Vi l → x ∈ l → XY x
 | [], _, _, h => by simp at h
 | v :: r, x, h, hx => by
  rw [Vi] at h
  rcases List.mem_cons.1 hx with rfl | hx
  ·exact h.1
  ·exact X1p h.2 hx
def Xca (v : Val) : Prop := XY v → X2Q v
theorem Xd3 (k n d : Int) (s : List UInt8) (l : List Val) : Con Tryz.prog 199 [] [Xv (.mk k n d s l), ab false, ab false, ab false, ab false] [] (ab (decide (n = 0) && decide (d = 0) && decide (s = []) && decide (l.length = 0))) := by
 refine X9 (xs := [ab (decide (n = 0) && decide (d = 0) && decide (s = []) && decide (l.length = 0))]) Tryz.func199 rfl Tryz.ntmps199 rfl rfl rfl (fun E => ?_)
 have hlen := UR l
 by_cases hn : n = 0
 case neg =>
  rw [show (decide (n = 0) && decide (d = 0) && decide (s = []) && decide (l.length = 0)) = false by simp [*]]
  repeat first | refine X0 ?_ | (refine JR ?_; (repeat first | refine Z1 ?_ | refine Z0 ?_ | refine ZB ?_ | refine ZC ?_ | refine Zl ?_ | refine ZA (γ := 100) ?_ | refine Zq ?_ | refine Zo ?_ | refine Zp ?_); refine JD ?_)
  exact X1 ⟨_, St.le_refl _, ⟨rfl, trivial⟩, X3 _⟩
 by_cases hd : d = 0
 case neg =>
  rw [show (decide (n = 0) && decide (d = 0) && decide (s = []) && decide (l.length = 0)) = false by simp [*]]
  repeat first | refine X0 ?_ | (refine JR ?_; (repeat first | refine Z1 ?_ | refine Z0 ?_ | refine ZB ?_ | refine ZC ?_ | refine Zl ?_ | refine ZA (γ := 100) ?_ | refine Zn ?_ | refine Zq ?_ | refine Zo ?_ | refine Zp ?_); refine JD ?_)
  exact X1 ⟨_, St.le_refl _, ⟨rfl, trivial⟩, X3 _⟩
 by_cases hs : s = []
 case neg =>
  rw [show (decide (n = 0) && decide (d = 0) && decide (s = []) && decide (l.length = 0)) = false by simp [*]]
  repeat first | refine X0 ?_ | (refine JR ?_; (repeat first | refine Z1 ?_ | refine Z0 ?_ | refine ZB ?_ | refine ZC ?_ | refine Zl ?_ | refine Zr ?_ | refine ZA (γ := 100) ?_ | refine Zn ?_ | refine Zq ?_ | refine Zo ?_ | refine Zp ?_); refine JD ?_)
  exact X1 ⟨_, St.le_refl _, ⟨rfl, trivial⟩, X3 _⟩
 by_cases hl : l.length = 0
 case neg =>
  have hl' : ¬ ((l.length : Int) = 0) := by omega
  rw [show (decide (n = 0) && decide (d = 0) && decide (s = []) && decide (l.length = 0)) = false by simp [*]]
  repeat first | refine X0 ?_ | (refine JR ?_; (repeat first | refine Z1 ?_ | refine Z0 ?_ | refine ZB ?_ | refine ZC ?_ | refine Zd ?_ | refine Zl ?_ | refine Zr ?_ | refine ZA (γ := 100) ?_ | refine Zn ?_ | refine Zq ?_); refine JD ?_)
  exact X1 ⟨_, Xh 10 (y := ab false) (AVal.le_of_eq (by refine Eq.trans (b := ab (decide (((XJ l).length : Int) = 0))) rfl ?_; exact congrArg ab (decide_eq_false (by rw [hlen]; exact hl')))), ⟨rfl, trivial⟩, X3 _⟩
 rw [show (decide (n = 0) && decide (d = 0) && decide (s = []) && decide (l.length = 0)) = true by simp [*]]
 repeat first | refine X0 ?_ | (refine JR ?_; (repeat first | refine Z1 ?_ | refine Z0 ?_ | refine ZB ?_ | refine ZC ?_ | refine Zd ?_ | refine Zl ?_ | refine Zr ?_ | refine ZA (γ := 100) ?_ | refine Zn ?_ | refine Zq ?_); refine JD ?_)
 exact X1 ⟨_, Xh 10 (y := ab true) (AVal.le_of_eq (by refine Eq.trans (b := ab (decide (((XJ l).length : Int) = 0))) rfl ?_; exact congrArg ab (decide_eq_true (by omega)))), ⟨rfl, trivial⟩, X3 _⟩
theorem X4b (k n d : Int) (s : List UInt8) (l : List Val) : Con Tryz.prog 199 [] [Xv (.mk k n d s l), ab true, ab false, ab false, ab false] [] (ab (decide (d = 0) && decide (s = []) && decide (l.length = 0))) := by
 refine X9 (xs := [ab (decide (d = 0) && decide (s = []) && decide (l.length = 0))]) Tryz.func199 rfl Tryz.ntmps199 rfl rfl rfl (fun E => ?_)
 have hlen := UR l
 by_cases hd : d = 0
 case neg =>
  rw [show (decide (d = 0) && decide (s = []) && decide (l.length = 0)) = false by simp [*]]
  repeat first | refine X0 ?_ | (refine JR ?_; (repeat first | refine Z1 ?_ | refine Z0 ?_ | refine ZB ?_ | refine ZC ?_ | refine Zl ?_ | refine ZA (γ := 100) ?_ | refine Zn ?_ | refine Zq ?_ | refine Zo ?_ | refine Zp ?_); refine JD ?_)
  exact X1 ⟨_, St.le_refl _, ⟨rfl, trivial⟩, X3 _⟩
 by_cases hs : s = []
 case neg =>
  rw [show (decide (d = 0) && decide (s = []) && decide (l.length = 0)) = false by simp [*]]
  repeat first | refine X0 ?_ | (refine JR ?_; (repeat first | refine Z1 ?_ | refine Z0 ?_ | refine ZB ?_ | refine ZC ?_ | refine Zl ?_ | refine Zr ?_ | refine ZA (γ := 100) ?_ | refine Zn ?_ | refine Zq ?_ | refine Zo ?_ | refine Zp ?_); refine JD ?_)
  exact X1 ⟨_, St.le_refl _, ⟨rfl, trivial⟩, X3 _⟩
 by_cases hl : l.length = 0
 case neg =>
  have hl' : ¬ ((l.length : Int) = 0) := by omega
  rw [show (decide (d = 0) && decide (s = []) && decide (l.length = 0)) = false by simp [*]]
  repeat first | refine X0 ?_ | (refine JR ?_; (repeat first | refine Z1 ?_ | refine Z0 ?_ | refine ZB ?_ | refine ZC ?_ | refine Zd ?_ | refine Zl ?_ | refine Zr ?_ | refine ZA (γ := 100) ?_ | refine Zn ?_ | refine Zq ?_ | refine Zo ?_); refine JD ?_)
  exact X1 ⟨_, Xh 10 (y := ab false) (AVal.le_of_eq (by refine Eq.trans (b := ab (decide (((XJ l).length : Int) = 0))) rfl ?_; exact congrArg ab (decide_eq_false (by rw [hlen]; exact hl')))), ⟨rfl, trivial⟩, X3 _⟩
 rw [show (decide (d = 0) && decide (s = []) && decide (l.length = 0)) = true by simp [*]]
 repeat first | refine X0 ?_ | (refine JR ?_; (repeat first | refine Z1 ?_ | refine Z0 ?_ | refine ZB ?_ | refine ZC ?_ | refine Zd ?_ | refine Zl ?_ | refine Zr ?_ | refine ZA (γ := 100) ?_ | refine Zn ?_ | refine Zq ?_ | refine Zo ?_); refine JD ?_)
 exact X1 ⟨_, Xh 10 (y := ab true) (AVal.le_of_eq (by refine Eq.trans (b := ab (decide (((XJ l).length : Int) = 0))) rfl ?_; exact congrArg ab (decide_eq_true (by omega)))), ⟨rfl, trivial⟩, X3 _⟩
theorem Xf7 (k n d : Int) (s : List UInt8) (l : List Val) : Con Tryz.prog 199 [] [Xv (.mk k n d s l), ab true, ab true, ab false, ab false] [] (ab (decide (s = []) && decide (l.length = 0))) := by
 refine X9 (xs := [ab (decide (s = []) && decide (l.length = 0))]) Tryz.func199 rfl Tryz.ntmps199 rfl rfl rfl (fun E => ?_)
 have hlen := UR l
 by_cases hs : s = []
 case neg =>
  rw [show (decide (s = []) && decide (l.length = 0)) = false by simp [*]]
  repeat first | refine X0 ?_ | (refine JR ?_; (repeat first | refine Z1 ?_ | refine Z0 ?_ | refine ZB ?_ | refine ZC ?_ | refine Zr ?_ | refine ZA (γ := 100) ?_ | refine Zn ?_ | refine Zq ?_ | refine Zo ?_ | refine Zp ?_); refine JD ?_)
  exact X1 ⟨_, St.le_refl _, ⟨rfl, trivial⟩, X3 _⟩
 by_cases hl : l.length = 0
 case neg =>
  have hl' : ¬ ((l.length : Int) = 0) := by omega
  rw [show (decide (s = []) && decide (l.length = 0)) = false by simp [*]]
  repeat first | refine X0 ?_ | (refine JR ?_; (repeat first | refine Z1 ?_ | refine Z0 ?_ | refine ZB ?_ | refine ZC ?_ | refine Zd ?_ | refine Zl ?_ | refine Zr ?_ | refine ZA (γ := 100) ?_ | refine Zn ?_ | refine Zq ?_ | refine Zo ?_); refine JD ?_)
  exact X1 ⟨_, Xh 10 (y := ab false) (AVal.le_of_eq (by refine Eq.trans (b := ab (decide (((XJ l).length : Int) = 0))) rfl ?_; exact congrArg ab (decide_eq_false (by rw [hlen]; exact hl')))), ⟨rfl, trivial⟩, X3 _⟩
 rw [show (decide (s = []) && decide (l.length = 0)) = true by simp [*]]
 repeat first | refine X0 ?_ | (refine JR ?_; (repeat first | refine Z1 ?_ | refine Z0 ?_ | refine ZB ?_ | refine ZC ?_ | refine Zd ?_ | refine Zl ?_ | refine Zr ?_ | refine ZA (γ := 100) ?_ | refine Zn ?_ | refine Zq ?_ | refine Zo ?_); refine JD ?_)
 exact X1 ⟨_, Xh 10 (y := ab true) (AVal.le_of_eq (by refine Eq.trans (b := ab (decide (((XJ l).length : Int) = 0))) rfl ?_; exact congrArg ab (decide_eq_true (by omega)))), ⟨rfl, trivial⟩, X3 _⟩
theorem Xhp (k n d : Int) (s : List UInt8) (l : List Val) : Con Tryz.prog 199 [] [Xv (.mk k n d s l), ab false, ab false, ab true, ab false] [] (ab (decide (n = 0) && decide (d = 0) && decide (l.length = 0))) := by
 refine X9 (xs := [ab (decide (n = 0) && decide (d = 0) && decide (l.length = 0))]) Tryz.func199 rfl Tryz.ntmps199 rfl rfl rfl (fun E => ?_)
 have hlen := UR l
 by_cases hn : n = 0
 case neg =>
  rw [show (decide (n = 0) && decide (d = 0) && decide (l.length = 0)) = false by simp [*]]
  repeat first | refine X0 ?_ | (refine JR ?_; (repeat first | refine Z1 ?_ | refine Z0 ?_ | refine ZB ?_ | refine ZC ?_ | refine Zl ?_ | refine ZA (γ := 100) ?_ | refine Zq ?_ | refine Zo ?_ | refine Zp ?_); refine JD ?_)
  exact X1 ⟨_, St.le_refl _, ⟨rfl, trivial⟩, X3 _⟩
 by_cases hd : d = 0
 case neg =>
  rw [show (decide (n = 0) && decide (d = 0) && decide (l.length = 0)) = false by simp [*]]
  repeat first | refine X0 ?_ | (refine JR ?_; (repeat first | refine Z1 ?_ | refine Z0 ?_ | refine ZB ?_ | refine ZC ?_ | refine Zl ?_ | refine ZA (γ := 100) ?_ | refine Zn ?_ | refine Zq ?_ | refine Zo ?_ | refine Zp ?_); refine JD ?_)
  exact X1 ⟨_, St.le_refl _, ⟨rfl, trivial⟩, X3 _⟩
 by_cases hl : l.length = 0
 case neg =>
  have hl' : ¬ ((l.length : Int) = 0) := by omega
  rw [show (decide (n = 0) && decide (d = 0) && decide (l.length = 0)) = false by simp [*]]
  repeat first | refine X0 ?_ | (refine JR ?_; (repeat first | refine Z1 ?_ | refine Z0 ?_ | refine ZB ?_ | refine ZC ?_ | refine Zd ?_ | refine Zl ?_ | refine ZA (γ := 100) ?_ | refine Zn ?_ | refine Zq ?_ | refine Zo ?_); refine JD ?_)
  exact X1 ⟨_, Xh 10 (y := ab false) (AVal.le_of_eq (by refine Eq.trans (b := ab (decide (((XJ l).length : Int) = 0))) rfl ?_; exact congrArg ab (decide_eq_false (by rw [hlen]; exact hl')))), ⟨rfl, trivial⟩, X3 _⟩
 rw [show (decide (n = 0) && decide (d = 0) && decide (l.length = 0)) = true by simp [*]]
 repeat first | refine X0 ?_ | (refine JR ?_; (repeat first | refine Z1 ?_ | refine Z0 ?_ | refine ZB ?_ | refine ZC ?_ | refine Zd ?_ | refine Zl ?_ | refine ZA (γ := 100) ?_ | refine Zn ?_ | refine Zq ?_ | refine Zo ?_); refine JD ?_)
 exact X1 ⟨_, Xh 10 (y := ab true) (AVal.le_of_eq (by refine Eq.trans (b := ab (decide (((XJ l).length : Int) = 0))) rfl ?_; exact congrArg ab (decide_eq_true (by omega)))), ⟨rfl, trivial⟩, X3 _⟩
theorem Xak (k n d : Int) (s : List UInt8) (l : List Val) : Con Tryz.prog 199 [] [Xv (.mk k n d s l), ab false, ab false, ab false, ab true] [] (ab (decide (n = 0) && decide (d = 0) && decide (s = []))) := by
 refine X9 (xs := [ab (decide (n = 0) && decide (d = 0) && decide (s = []))]) Tryz.func199 rfl Tryz.ntmps199 rfl rfl rfl (fun E => ?_)
 have hlen := UR l
 by_cases hn : n = 0
 case neg =>
  rw [show (decide (n = 0) && decide (d = 0) && decide (s = [])) = false by simp [*]]
  repeat first | refine X0 ?_ | (refine JR ?_; (repeat first | refine Z1 ?_ | refine Z0 ?_ | refine ZB ?_ | refine ZC ?_ | refine Zl ?_ | refine ZA (γ := 100) ?_ | refine Zq ?_ | refine Zo ?_ | refine Zp ?_); refine JD ?_)
  exact X1 ⟨_, St.le_refl _, ⟨rfl, trivial⟩, X3 _⟩
 by_cases hd : d = 0
 case neg =>
  rw [show (decide (n = 0) && decide (d = 0) && decide (s = [])) = false by simp [*]]
  repeat first | refine X0 ?_ | (refine JR ?_; (repeat first | refine Z1 ?_ | refine Z0 ?_ | refine ZB ?_ | refine ZC ?_ | refine Zl ?_ | refine ZA (γ := 100) ?_ | refine Zn ?_ | refine Zq ?_ | refine Zo ?_ | refine Zp ?_); refine JD ?_)
  exact X1 ⟨_, St.le_refl _, ⟨rfl, trivial⟩, X3 _⟩
 by_cases hs : s = []
 case neg =>
  rw [show (decide (n = 0) && decide (d = 0) && decide (s = [])) = false by simp [*]]
  repeat first | refine X0 ?_ | (refine JR ?_; (repeat first | refine Z1 ?_ | refine Z0 ?_ | refine ZB ?_ | refine ZC ?_ | refine Zl ?_ | refine Zr ?_ | refine ZA (γ := 100) ?_ | refine Zn ?_ | refine Zq ?_ | refine Zo ?_ | refine Zp ?_); refine JD ?_)
  exact X1 ⟨_, St.le_refl _, ⟨rfl, trivial⟩, X3 _⟩
 rw [show (decide (n = 0) && decide (d = 0) && decide (s = [])) = true by simp [*]]
 repeat first | refine X0 ?_ | (refine JR ?_; (repeat first | refine Z1 ?_ | refine Z0 ?_ | refine ZB ?_ | refine ZC ?_ | refine Zl ?_ | refine Zr ?_ | refine ZA (γ := 100) ?_ | refine Zn ?_ | refine Zq ?_ | refine Zo ?_); refine JD ?_)
 exact X1 ⟨_, St.le_refl _, ⟨rfl, trivial⟩, X3 _⟩
end Go.Fw

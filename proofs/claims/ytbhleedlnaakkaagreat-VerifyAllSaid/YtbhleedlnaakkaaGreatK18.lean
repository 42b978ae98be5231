/- Plain values compared. -/
import Derived.Test.YtbhleedlnaakkaaGreatK17
set_option maxHeartbeats 32000000
namespace Go.Fw
open Go Go.Proofs
set_option maxRecDepth 100000
set_option linter.unusedVariables false
set_option linter.unusedSimpArgs false
theorem X6y : UC Tryz.prog 119 = some [.i .i64, .i .i64] := by kernel_rfl
theorem X2r (b : Bool) : Con Tryz.prog 238 [] [ab b] [] (ai (if b then 2 else 0)) := by
 refine Xa (xs := [ai (if b then 2 else 0)]) Tryz.func238 rfl Tryz.ntmps238 rfl rfl rfl (fun E => ?_)
 cases b with
 | true =>
  refine X0 ?_; refine JR ?_; refine Z0 ?_; refine JD ?_; refine X0 ?_; refine X0 ?_; refine JR ?_; refine Z1 ?_; refine JD ?_; refine JT ?_; refine X0 ?_; refine JR ?_; refine Z0 ?_; refine JD ?_
  exact X1 ⟨_, St.le_refl _, ⟨rfl, trivial⟩, X2 _⟩
 | false =>
  refine X0 ?_; refine JR ?_; refine Z0 ?_; refine JD ?_; refine X0 ?_; refine X0 ?_; refine JR ?_; refine Z1 ?_; refine JD ?_; refine JF ?_; refine X3 ?_; refine X0 ?_; refine JR ?_; refine Z0 ?_
  refine JD ?_
  exact X1 ⟨_, St.le_refl _, ⟨rfl, trivial⟩, X2 _⟩
theorem X4S (v : Val) (h : XC v = true) : Con Tryz.prog 237 [] [Xu v] [] (.tup [YL (if v.kind = 2 then v.n else 0) (if v.kind = 2 then 1 else 0), ab (decide (v.kind = 2))]) := by
 refine Xa (xs := [YL (if v.kind = 2 then v.n else 0) (if v.kind = 2 then 1 else 0), ab (decide (v.kind = 2))]) Tryz.func237 rfl Tryz.ntmps237 rfl rfl rfl (fun E => ?_)
 have hv := X18 v
 obtain ⟨k, n, d, s, l⟩ := v
 obtain ⟨p1, p2, p3, p4, p5, p6, p7, p8⟩ := V4 h
 rw [p1] at hv
 simp only [Xu, Val.kind, Val.n] at hv ⊢
 clear h p1
 by_cases hk : k = 2
 ·subst hk
  simp only [if_true, eq_self_iff_true, decide_true]
  refine X0 ?_; refine JR ?_; refine ZA (γ := 100) ?_; refine Zw (γ := 101) ?_; refine Z0 ?_; refine JD ?_; refine X0 ?_; refine X4 ?_; refine X0 ?_; refine JR ?_; refine ZB ?_; refine ZC ?_
  refine Zl ?_; refine Z1 ?_; refine ZL ?_; refine Z9 (hcon := hv) ?_; refine Zn ?_; refine Z0 ?_; refine JD ?_; refine JT ?_; refine X0 ?_; refine JR ?_; refine ZB ?_; refine ZC ?_; refine Zx ?_; refine Zy ?_
  refine Z0 ?_; refine JD ?_
  (show AWP Tryz.prog E _ _ _; refine X1 ?_; exact (show Xd _ _ _ _ _ from ⟨_, St.le_refl _, ⟨⟨101, 0, _, rfl, rfl, .inr ⟨2, _, rfl, rfl, rfl, rfl⟩⟩, rfl, trivial⟩, X2 _⟩))
 simp only [hk, if_false, decide_false]
 have h3 : k ≠ 3 := by omega
 refine X0 ?_; refine JR ?_; refine ZA (γ := 100) ?_; refine Zw (γ := 101) ?_; refine Z0 ?_; refine JD ?_; refine X0 ?_; refine X4 ?_; refine X0 ?_; refine JR ?_; refine ZB ?_; refine ZC ?_
 refine Zl ?_; refine Z1 ?_; refine Zo ?_; refine Zo ?_; refine Zq ?_; refine Z0 ?_; refine JD ?_; refine JF ?_; refine X0 ?_; refine JR ?_; refine ZB ?_; refine ZC ?_; refine Zl ?_; refine Z1 ?_; refine Zo ?_
 refine Zo ?_; refine Zq ?_; refine Z0 ?_; refine JD ?_; refine JF ?_; refine X3 ?_; refine X0 ?_; refine JR ?_; refine Zx ?_; refine Zy ?_; refine Z0 ?_; refine JD ?_
 (show AWP Tryz.prog E _ _ _; refine X1 ?_; exact (show Xd _ _ _ _ _ from ⟨_, St.le_refl _, ⟨⟨101, 0, _, rfl, rfl, .inr ⟨2, _, rfl, rfl, rfl, rfl⟩⟩, rfl, trivial⟩, X2 _⟩))
theorem X6B (a b : Val) (ha : XC a = true) (hb : XC b = true) : Con Tryz.prog 222 [] [Xu a, Xu b] [] (ai (if eqV a b then 2 else 0)) := by
 refine Xa (xs := [ai (if eqV a b then 2 else 0)]) Tryz.func222 rfl Tryz.ntmps222 rfl rfl rfl (fun E => ?_)
 have na := X4S a ha
 have nb := X4S b hb
 obtain ⟨e, he⟩ : ∃ e, e = eqV a b := ⟨_, rfl⟩
 rw [← he]
 obtain ⟨k, n, d, s, l⟩ := a
 obtain ⟨k', n', d', s', l'⟩ := b
 obtain ⟨p1, p2, p3, p4, p5, p6, p7, p8⟩ := V4 ha
 obtain ⟨q1, q2, q3, q4, q5, q6, q7, q8⟩ := V4 hb
 skip
 skip
 skip
 unfold eqV at he
 simp only [Xu, Val.kind, Val.n, Val.d, Val.s] at *
 clear ha hb p1 q1
 have hk0 : k ≠ 0 := by omega
 have hk0' : k' ≠ 0 := by omega
 have hk8 : k ≠ 8 := by omega
 have hk7 : k ≠ 7 := by omega
 by_cases ck : k = k'
 case neg =>
  obtain rfl : e = false := he.trans (decide_eq_false (fun h => ck h.1))
  clear he
  by_cases c2 : k = 2
  ·have c2' : ¬ k' = 2 := fun e => ck (by omega)
   subst c2
   simp only [if_true, eq_self_iff_true, decide_true] at na
   simp only [c2', if_false, decide_false] at nb
   simp only [YL] at na nb
   refine X0 ?_; refine JR ?_; refine ZA (γ := 100) ?_; refine ZA (γ := 101) ?_; refine Z0 ?_; refine JD ?_; refine X0 ?_; refine X0 ?_; refine JR ?_; refine ZB ?_; refine ZC ?_; refine Zl ?_; refine Z1 ?_
   refine ZB ?_; refine ZC ?_; refine Zl ?_; refine Zq ?_; refine JD ?_; refine JF ?_; refine X3 ?_; refine X0 ?_; refine JR ?_; refine ZL ?_; refine Z9 (hcon := na) ?_; refine Z1 ?_; refine ZF ?_; refine ZF ?_
   refine Zw (γ := 102) ?_; refine Zy ?_; refine Z0 ?_; refine JD ?_; refine X0 ?_; refine JR ?_; refine ZL ?_; refine Z9 (hcon := nb) ?_; refine Z1 ?_; refine ZF ?_; refine ZF ?_; refine Zw (γ := 103) ?_; refine Zy ?_
   refine Z0 ?_; refine JD ?_; refine X0 ?_; refine X4 ?_; refine X0 ?_; refine JR ?_; refine Z1 ?_; refine Z1 ?_; refine Z1 ?_; refine Zn ?_; refine Z0 ?_; refine JD ?_; refine JF ?_; refine X0 ?_
   refine JR ?_; refine ZB ?_; refine ZC ?_; refine ZB ?_; refine ZC ?_; refine Zv ?_; refine Z0 ?_; refine JD ?_; refine JT ?_; refine X0 ?_; refine JR ?_; refine Z0 ?_; refine JD ?_
   (show AWP Tryz.prog E _ _ _; refine X1 ?_; exact (show Xd _ _ _ _ _ from ⟨_, St.le_refl _, ⟨rfl, trivial⟩, X2 _⟩))
  simp only [c2, if_false, decide_false] at na
  generalize (if k' = 2 then n' else 0) = z1 at *
  generalize (if k' = 2 then (1 : Int) else 0) = z2 at *
  generalize decide (k' = 2) = z3 at *
  simp only [YL] at na nb
  refine X0 ?_; refine JR ?_; refine ZA (γ := 100) ?_; refine ZA (γ := 101) ?_; refine Z0 ?_; refine JD ?_; refine X0 ?_; refine X0 ?_; refine JR ?_; refine ZB ?_; refine ZC ?_; refine Zl ?_; refine Z1 ?_
  refine ZB ?_; refine ZC ?_; refine Zl ?_; refine Zq ?_; refine JD ?_; refine JF ?_; refine X3 ?_; refine X0 ?_; refine JR ?_; refine ZL ?_; refine Z9 (hcon := na) ?_; refine Z1 ?_; refine ZF ?_; refine ZF ?_
  refine Zw (γ := 102) ?_; refine Zy ?_; refine Z0 ?_; refine JD ?_; refine X0 ?_; refine JR ?_; refine ZL ?_; refine Z9 (hcon := nb) ?_; refine Z1 ?_; refine ZF ?_; refine ZF ?_; refine Zw (γ := 103) ?_; refine Zy ?_
  refine Z0 ?_; refine JD ?_; refine X0 ?_; refine X4 ?_; refine X0 ?_; refine JR ?_; refine Z1 ?_; refine Z1 ?_; refine Zo ?_; refine Zq ?_; refine Z0 ?_; refine JD ?_; refine JF ?_; refine X0 ?_
  refine JR ?_; refine ZB ?_; refine ZC ?_; refine ZB ?_; refine ZC ?_; refine Zv ?_; refine Z0 ?_; refine JD ?_; refine JT ?_; refine X0 ?_; refine JR ?_; refine Z0 ?_; refine JD ?_
  (show AWP Tryz.prog E _ _ _; refine X1 ?_; exact (show Xd _ _ _ _ _ from ⟨_, St.le_refl _, ⟨rfl, trivial⟩, X2 _⟩))
 subst ck
 by_cases c2 : k = 2
 ·subst c2
  simp only [if_true, eq_self_iff_true, decide_true] at na nb
  obtain rfl : s = [] := p5 (by omega)
  obtain rfl : s' = [] := q5 (by omega)
  have hy := X2r (decide (n = n'))
  obtain rfl : e = decide (n = n') := he.trans (by simp)
  clear he
  simp only [YL] at na nb
  have hz : YO [.int .i64 n, .int .i64 1] [.int .i64 n', .int .i64 1] = decide (n = n') := by rw [Bool.eq_iff_iff]; simp [YO, UX]
  refine X0 ?_; refine JR ?_; refine ZA (γ := 100) ?_; refine ZA (γ := 101) ?_; refine Z0 ?_; refine JD ?_; refine X0 ?_; refine X0 ?_; refine JR ?_; refine ZB ?_; refine ZC ?_; refine Zl ?_; refine Z1 ?_
  refine ZB ?_; refine ZC ?_; refine Zl ?_; refine Zq ?_; refine JD ?_; refine JF ?_; refine X3 ?_; refine X0 ?_; refine JR ?_; refine ZL ?_; refine Z9 (hcon := na) ?_; refine Z1 ?_; refine ZF ?_; refine ZF ?_
  refine Zw (γ := 102) ?_; refine Zy ?_; refine Z0 ?_; refine JD ?_; refine X0 ?_; refine JR ?_; refine ZL ?_; refine Z9 (hcon := nb) ?_; refine Z1 ?_; refine ZF ?_; refine ZF ?_; refine Zw (γ := 103) ?_; refine Zy ?_
  refine Z0 ?_; refine JD ?_; refine X0 ?_; refine X4 ?_; refine X0 ?_; refine JR ?_; refine Z1 ?_; refine Z1 ?_; refine Z1 ?_; refine Zn ?_; refine Z0 ?_; refine JD ?_; refine JT ?_; refine X0 ?_
  refine JR ?_; refine ZL ?_; refine ZL ?_; refine Z07 (us := [.int .i64 n, .int .i64 1]) (vs := [.int .i64 n', .int .i64 1]) (r := decide (n = n')) ?_ (hk := by exact X6y) (hr := by exact hz)
  refine Z9 (hcon := hy) ?_; refine Z0 ?_; refine JD ?_
  (show AWP Tryz.prog E _ _ _; refine X1 ?_; exact (show Xd _ _ _ _ _ from ⟨_, St.le_refl _, ⟨rfl, trivial⟩, X2 _⟩))
 simp only [c2, if_false, decide_false] at na nb
 simp only [YL] at na nb
 by_cases hn : n = n'
 ·have hy := X2r (decide (s = s'))
  obtain rfl : e = decide (s = s') := he.trans (by simp [hn])
  clear he
  refine X0 ?_; refine JR ?_; refine ZA (γ := 100) ?_; refine ZA (γ := 101) ?_; refine Z0 ?_; refine JD ?_; refine X0 ?_; refine X0 ?_; refine JR ?_; refine ZB ?_; refine ZC ?_; refine Zl ?_; refine Z1 ?_
  refine ZB ?_; refine ZC ?_; refine Zl ?_; refine Zq ?_; refine JD ?_; refine JF ?_; refine X3 ?_; refine X0 ?_; refine JR ?_; refine ZL ?_; refine Z9 (hcon := na) ?_; refine Z1 ?_; refine ZF ?_; refine ZF ?_
  refine Zw (γ := 102) ?_; refine Zy ?_; refine Z0 ?_; refine JD ?_; refine X0 ?_; refine JR ?_; refine ZL ?_; refine Z9 (hcon := nb) ?_; refine Z1 ?_; refine ZF ?_; refine ZF ?_; refine Zw (γ := 103) ?_; refine Zy ?_
  refine Z0 ?_; refine JD ?_; refine X0 ?_; refine X4 ?_; refine X0 ?_; refine JR ?_; refine Z1 ?_; refine Z1 ?_; refine Zo ?_; refine Zq ?_; refine Z0 ?_; refine JD ?_; refine JF ?_; refine X0 ?_
  refine JR ?_; refine ZB ?_; refine ZC ?_; refine ZB ?_; refine ZC ?_; refine Zv ?_; refine Z0 ?_; refine JD ?_; refine JF ?_; refine X0 ?_; refine JR ?_; refine ZB ?_; refine ZC ?_; refine Zv ?_; refine Z1 ?_
  refine ZB ?_; refine ZC ?_; refine Zv ?_; refine Zn ?_; refine Z0 ?_; refine JD ?_; refine JT ?_; refine X0 ?_; refine JR ?_; refine ZB ?_; refine ZC ?_; refine ZB ?_; refine ZC ?_; refine Zl ?_; refine Z1 ?_
  refine ZB ?_; refine ZC ?_; refine ZB ?_; refine ZC ?_; refine Zr ?_; refine Zn ?_; refine Z9 (hcon := hy) ?_; refine Z0 ?_; refine JD ?_
  (show AWP Tryz.prog E _ _ _; refine X1 ?_; exact (show Xd _ _ _ _ _ from ⟨_, St.le_refl _, ⟨rfl, trivial⟩, X2 _⟩))
 ·have hy := X2r false
  obtain rfl : e = false := he.trans (by simp [hn])
  clear he
  rw [show (if false = true then (2 : Int) else 0) = 0 from rfl] at hy
  refine X0 ?_; refine JR ?_; refine ZA (γ := 100) ?_; refine ZA (γ := 101) ?_; refine Z0 ?_; refine JD ?_; refine X0 ?_; refine X0 ?_; refine JR ?_; refine ZB ?_; refine ZC ?_; refine Zl ?_; refine Z1 ?_
  refine ZB ?_; refine ZC ?_; refine Zl ?_; refine Zq ?_; refine JD ?_; refine JF ?_; refine X3 ?_; refine X0 ?_; refine JR ?_; refine ZL ?_; refine Z9 (hcon := na) ?_; refine Z1 ?_; refine ZF ?_; refine ZF ?_
  refine Zw (γ := 102) ?_; refine Zy ?_; refine Z0 ?_; refine JD ?_; refine X0 ?_; refine JR ?_; refine ZL ?_; refine Z9 (hcon := nb) ?_; refine Z1 ?_; refine ZF ?_; refine ZF ?_; refine Zw (γ := 103) ?_; refine Zy ?_
  refine Z0 ?_; refine JD ?_; refine X0 ?_; refine X4 ?_; refine X0 ?_; refine JR ?_; refine Z1 ?_; refine Z1 ?_; refine Zo ?_; refine Zq ?_; refine Z0 ?_; refine JD ?_; refine JF ?_; refine X0 ?_
  refine JR ?_; refine ZB ?_; refine ZC ?_; refine ZB ?_; refine ZC ?_; refine Zv ?_; refine Z0 ?_; refine JD ?_; refine JF ?_; refine X0 ?_; refine JR ?_; refine ZB ?_; refine ZC ?_; refine Zv ?_; refine Z1 ?_
  refine ZB ?_; refine ZC ?_; refine Zv ?_; refine Zn ?_; refine Z0 ?_; refine JD ?_; refine JT ?_; refine X0 ?_; refine JR ?_; refine ZB ?_; refine ZC ?_; refine ZB ?_; refine ZC ?_; refine Zl ?_; refine Z1 ?_
  refine Zo ?_; refine Zo ?_; refine Zo ?_; refine Zo ?_; refine Zo ?_; refine Zq ?_; refine Z9 (hcon := hy) ?_; refine Z0 ?_; refine JD ?_
  (show AWP Tryz.prog E _ _ _; refine X1 ?_; exact (show Xd _ _ _ _ _ from ⟨_, St.le_refl _, ⟨rfl, trivial⟩, X2 _⟩))
theorem X8s (a b : Val) (ha : XC a = true) (hb : XC b = true) (oa : Yq a) (ob : Yq b) : Con Tryz.prog 35 [] [Xu a, Xu b] [] (ai (if eqV a b then 2 else 0)) := by
 refine Xa (xs := [ai (if eqV a b then 2 else 0)]) Tryz.func35 rfl Tryz.ntmps35 rfl rfl rfl (fun E => ?_)
 have va := X1J a oa
 have vb := X1J b ob
 have na := X4k a oa
 have nb := X4k b ob
 unfold Vg X2m at na nb
 obtain ⟨e, he⟩ : ∃ e, e = eqV a b := ⟨_, rfl⟩
 rw [← he]
 obtain ⟨k, n, d, s, l⟩ := a
 obtain ⟨k', n', d', s', l'⟩ := b
 obtain ⟨p1, p2, p3, p4, p5, p6, p7, p8⟩ := V4 ha
 obtain ⟨q1, q2, q3, q4, q5, q6, q7, q8⟩ := V4 hb
 rw [p1] at va na
 rw [q1] at vb nb
 rw [if_neg (by simp)] at na nb
 unfold eqV at he
 simp only [Xu, Val.kind, Val.n, Val.d, Val.s] at *
 clear ha hb p1 q1 oa ob
 have hk0 : k ≠ 0 := by omega
 have hk0' : k' ≠ 0 := by omega
 have hk8 : k ≠ 8 := by omega
 have hk7 : k ≠ 7 := by omega
 by_cases ck : k = k'
 case neg =>
  obtain rfl : e = false := he.trans (decide_eq_false (fun h => ck h.1))
  clear he
  by_cases c2 : k = 2
  ·have c2' : ¬ k' = 2 := fun e => ck (by omega)
   have c3' : ¬ k' = 3 := by omega
   subst c2
   simp only [if_true, eq_self_iff_true, YL] at na
   simp only [c2', c3', if_false, YL] at nb
   refine X0 ?_; refine JR ?_; refine ZA (γ := 100) ?_; refine ZA (γ := 101) ?_; refine Z0 ?_; refine JD ?_; refine X0 ?_; refine X0 ?_; refine JR ?_; refine ZB ?_; refine ZC ?_; refine Zl ?_; refine Z1 ?_
   refine ZB ?_; refine ZC ?_; refine Zl ?_; refine Zq ?_; refine Z1 ?_; refine ZL ?_; refine Z9 (hcon := va) ?_; refine Zu ?_; refine Zq ?_; refine Z1 ?_; refine ZL ?_; refine Z9 (hcon := vb) ?_; refine Zu ?_; refine Zq ?_
   refine JD ?_; refine JF ?_; refine X3 ?_; refine X0 ?_; refine JR ?_; refine ZL ?_; refine Z9 (hcon := na) ?_; refine Z1 ?_; refine ZF ?_; refine ZF ?_; refine Zw (γ := 102) ?_; refine Zy ?_; refine Z0 ?_
   refine JD ?_; refine X0 ?_; refine JR ?_; refine ZL ?_; refine Z9 (hcon := nb) ?_; refine Z1 ?_; refine ZF ?_; refine ZF ?_; refine Zw (γ := 103) ?_; refine Zy ?_; refine Z0 ?_; refine JD ?_; refine X0 ?_
   refine X0 ?_; refine JR ?_; refine Z1 ?_; refine Z1 ?_; refine Z1 ?_; refine Zn ?_; refine JD ?_; refine JF ?_; refine X3 ?_; refine X0 ?_; refine X0 ?_; refine JR ?_; refine ZB ?_; refine ZC ?_
   refine ZB ?_; refine ZC ?_; refine Zv ?_; refine JD ?_; refine JT ?_; refine X0 ?_; refine JR ?_; refine Z0 ?_; refine JD ?_
   (show AWP Tryz.prog E _ _ _; refine X1 ?_; exact (show Xd _ _ _ _ _ from ⟨_, St.le_refl _, ⟨rfl, trivial⟩, X2 _⟩))
  have c3 : ¬ k = 3 := by omega
  simp only [c2, c3, if_false, YL] at na
  generalize (if k' = 2 then (n', (1 : Int), true) else if k' = 3 then (n', d', true) else (0, 0, false)) = z at *
  obtain ⟨z1, z2, z3⟩ := z
  simp only [YL] at na nb
  refine X0 ?_; refine JR ?_; refine ZA (γ := 100) ?_; refine ZA (γ := 101) ?_; refine Z0 ?_; refine JD ?_; refine X0 ?_; refine X0 ?_; refine JR ?_; refine ZB ?_; refine ZC ?_; refine Zl ?_; refine Z1 ?_
  refine ZB ?_; refine ZC ?_; refine Zl ?_; refine Zq ?_; refine Z1 ?_; refine ZL ?_; refine Z9 (hcon := va) ?_; refine Zu ?_; refine Zq ?_; refine Z1 ?_; refine ZL ?_; refine Z9 (hcon := vb) ?_; refine Zu ?_; refine Zq ?_
  refine JD ?_; refine JF ?_; refine X3 ?_; refine X0 ?_; refine JR ?_; refine ZL ?_; refine Z9 (hcon := na) ?_; refine Z1 ?_; refine ZF ?_; refine ZF ?_; refine Zw (γ := 102) ?_; refine Zy ?_; refine Z0 ?_
  refine JD ?_; refine X0 ?_; refine JR ?_; refine ZL ?_; refine Z9 (hcon := nb) ?_; refine Z1 ?_; refine ZF ?_; refine ZF ?_; refine Zw (γ := 103) ?_; refine Zy ?_; refine Z0 ?_; refine JD ?_; refine X0 ?_
  refine X0 ?_; refine JR ?_; refine Z1 ?_; refine Z1 ?_; refine Zo ?_; refine Zq ?_; refine JD ?_; refine JF ?_; refine X3 ?_; refine X0 ?_; refine X0 ?_; refine JR ?_; refine ZB ?_; refine ZC ?_
  refine ZB ?_; refine ZC ?_; refine Zv ?_; refine JD ?_; refine JT ?_; refine X0 ?_; refine JR ?_; refine Z0 ?_; refine JD ?_
  (show AWP Tryz.prog E _ _ _; refine X1 ?_; exact (show Xd _ _ _ _ _ from ⟨_, St.le_refl _, ⟨rfl, trivial⟩, X2 _⟩))
 subst ck
 by_cases c2 : k = 2
 ·subst c2
  simp only [if_true, eq_self_iff_true, YL] at na nb
  obtain rfl : s = [] := p5 (by omega)
  obtain rfl : s' = [] := q5 (by omega)
  have r1 := p8 rfl
  have r2 := q8 rfl
  have hc := X8n n n' (by omega) (by omega)
  have hz := X8F (n := n) (m := n') (by omega) (by omega)
  obtain rfl : e = decide (n = n') := he.trans (by simp)
  clear he
  rw [← hz]
  clear hz
  have hy := X2o (decide (Vx n n' = 0))
  generalize Vx n n' = q at *
  refine X0 ?_; refine JR ?_; refine ZA (γ := 100) ?_; refine ZA (γ := 101) ?_; refine Z0 ?_; refine JD ?_; refine X0 ?_; refine X0 ?_; refine JR ?_; refine ZB ?_; refine ZC ?_; refine Zl ?_; refine Z1 ?_
  refine ZB ?_; refine ZC ?_; refine Zl ?_; refine Zq ?_; refine Z1 ?_; refine ZL ?_; refine Z9 (hcon := va) ?_; refine Zu ?_; refine Zq ?_; refine Z1 ?_; refine ZL ?_; refine Z9 (hcon := vb) ?_; refine Zu ?_; refine Zq ?_
  refine JD ?_; refine JF ?_; refine X3 ?_; refine X0 ?_; refine JR ?_; refine ZL ?_; refine Z9 (hcon := na) ?_; refine Z1 ?_; refine ZF ?_; refine ZF ?_; refine Zw (γ := 102) ?_; refine Zy ?_; refine Z0 ?_
  refine JD ?_; refine X0 ?_; refine JR ?_; refine ZL ?_; refine Z9 (hcon := nb) ?_; refine Z1 ?_; refine ZF ?_; refine ZF ?_; refine Zw (γ := 103) ?_; refine Zy ?_; refine Z0 ?_; refine JD ?_; refine X0 ?_
  refine X0 ?_; refine JR ?_; refine Z1 ?_; refine Z1 ?_; refine Z1 ?_; refine Zn ?_; refine JD ?_; refine JT ?_; refine X0 ?_; refine JR ?_; refine ZL ?_; refine ZL ?_; refine Z9 (hcon := hc) ?_; refine Zl ?_
  refine Z9 (hcon := hy) ?_; refine Z0 ?_; refine JD ?_
  (show AWP Tryz.prog E _ _ _; refine X1 ?_; exact (show Xd _ _ _ _ _ from ⟨_, St.le_refl _, ⟨rfl, trivial⟩, X2 _⟩))
 have c3 : ¬ k = 3 := by omega
 simp only [c2, c3, if_false, YL] at na nb
 by_cases c4 : k = 4
 ·obtain rfl : n = 0 := p6 c4
  obtain rfl : n' = 0 := q6 c4
  have hy := X2o (decide (s = s'))
  obtain rfl : e = decide (s = s') := he.trans (by simp)
  clear he
  refine X0 ?_; refine JR ?_; refine ZA (γ := 100) ?_; refine ZA (γ := 101) ?_; refine Z0 ?_; refine JD ?_; refine X0 ?_; refine X0 ?_; refine JR ?_; refine ZB ?_; refine ZC ?_; refine Zl ?_; refine Z1 ?_
  refine ZB ?_; refine ZC ?_; refine Zl ?_; refine Zq ?_; refine Z1 ?_; refine ZL ?_; refine Z9 (hcon := va) ?_; refine Zu ?_; refine Zq ?_; refine Z1 ?_; refine ZL ?_; refine Z9 (hcon := vb) ?_; refine Zu ?_; refine Zq ?_
  refine JD ?_; refine JF ?_; refine X3 ?_; refine X0 ?_; refine JR ?_; refine ZL ?_; refine Z9 (hcon := na) ?_; refine Z1 ?_; refine ZF ?_; refine ZF ?_; refine Zw (γ := 102) ?_; refine Zy ?_; refine Z0 ?_
  refine JD ?_; refine X0 ?_; refine JR ?_; refine ZL ?_; refine Z9 (hcon := nb) ?_; refine Z1 ?_; refine ZF ?_; refine ZF ?_; refine Zw (γ := 103) ?_; refine Zy ?_; refine Z0 ?_; refine JD ?_; refine X0 ?_
  refine X0 ?_; refine JR ?_; refine Z1 ?_; refine Z1 ?_; refine Zo ?_; refine Zq ?_; refine JD ?_; refine JF ?_; refine X3 ?_; refine X0 ?_; refine X0 ?_; refine JR ?_; refine ZB ?_; refine ZC ?_
  refine ZB ?_; refine ZC ?_; refine Zv ?_; refine JD ?_; refine JF ?_; refine X3 ?_; refine X0 ?_; refine X0 ?_; refine JR ?_; refine ZB ?_; refine ZC ?_; refine Zl ?_; refine JD ?_; refine JT ?_
  refine X0 ?_; refine JR ?_; refine ZB ?_; refine ZC ?_; refine ZB ?_; refine ZC ?_; refine Zr ?_; refine Z9 (hcon := hy) ?_; refine Z0 ?_; refine JD ?_
  (show AWP Tryz.prog E _ _ _; refine X1 ?_; exact (show Xd _ _ _ _ _ from ⟨_, St.le_refl _, ⟨rfl, trivial⟩, X2 _⟩))
 obtain rfl : s = [] := p5 c4
 obtain rfl : s' = [] := q5 c4
 have hy := X2o (decide (n = n'))
 obtain rfl : e = decide (n = n') := he.trans (by simp)
 clear he
 refine X0 ?_; refine JR ?_; refine ZA (γ := 100) ?_; refine ZA (γ := 101) ?_; refine Z0 ?_; refine JD ?_; refine X0 ?_; refine X0 ?_; refine JR ?_; refine ZB ?_; refine ZC ?_; refine Zl ?_; refine Z1 ?_
 refine ZB ?_; refine ZC ?_; refine Zl ?_; refine Zq ?_; refine Z1 ?_; refine ZL ?_; refine Z9 (hcon := va) ?_; refine Zu ?_; refine Zq ?_; refine Z1 ?_; refine ZL ?_; refine Z9 (hcon := vb) ?_; refine Zu ?_; refine Zq ?_
 refine JD ?_; refine JF ?_; refine X3 ?_; refine X0 ?_; refine JR ?_; refine ZL ?_; refine Z9 (hcon := na) ?_; refine Z1 ?_; refine ZF ?_; refine ZF ?_; refine Zw (γ := 102) ?_; refine Zy ?_; refine Z0 ?_
 refine JD ?_; refine X0 ?_; refine JR ?_; refine ZL ?_; refine Z9 (hcon := nb) ?_; refine Z1 ?_; refine ZF ?_; refine ZF ?_; refine Zw (γ := 103) ?_; refine Zy ?_; refine Z0 ?_; refine JD ?_; refine X0 ?_
 refine X0 ?_; refine JR ?_; refine Z1 ?_; refine Z1 ?_; refine Zo ?_; refine Zq ?_; refine JD ?_; refine JF ?_; refine X3 ?_; refine X0 ?_; refine X0 ?_; refine JR ?_; refine ZB ?_; refine ZC ?_
 refine ZB ?_; refine ZC ?_; refine Zv ?_; refine JD ?_; refine JF ?_; refine X3 ?_; refine X0 ?_; refine X0 ?_; refine JR ?_; refine ZB ?_; refine ZC ?_; refine Zl ?_; refine JD ?_; refine JF ?_
 refine X3 ?_; refine X0 ?_; refine X0 ?_; refine JR ?_; refine ZB ?_; refine ZC ?_; refine Zv ?_; refine Z1 ?_; refine ZB ?_; refine ZC ?_; refine Zv ?_; refine Zn ?_; refine JD ?_; refine JT ?_
 refine X0 ?_; refine JR ?_; refine ZB ?_; refine ZC ?_; refine ZB ?_; refine ZC ?_; refine Zl ?_; refine Z9 (hcon := hy) ?_; refine Z0 ?_; refine JD ?_
 (show AWP Tryz.prog E _ _ _; refine X1 ?_; exact (show Xd _ _ _ _ _ from ⟨_, St.le_refl _, ⟨rfl, trivial⟩, X2 _⟩))
theorem X82 (a b : Val) (ha : XC a = true) (hb : XC b = true) : Con Tryz.prog 183 [] [Xu a, Xu b] [] (ai (if eqV a b then 2 else 0)) := by
 refine Xa (xs := [ai (if eqV a b then 2 else 0)]) Tryz.func183 rfl Tryz.ntmps183 rfl rfl rfl (fun E => ?_)
 have hc := X6B a b ha hb
 have va := X18 a
 have vb := X18 b
 generalize (if eqV a b then (2 : Int) else 0) = z at *
 obtain ⟨k, n, d, s, l⟩ := a
 obtain ⟨k', n', d', s', l'⟩ := b
 obtain ⟨p1, p2, p3, p4, p5, p6, p7, p8⟩ := V4 ha
 obtain ⟨q1, q2, q3, q4, q5, q6, q7, q8⟩ := V4 hb
 rw [p1] at va
 rw [q1] at vb
 simp only [Xu] at *
 clear ha hb p1 q1
 have hk0 : k ≠ 0 := by omega
 have hk0' : k' ≠ 0 := by omega
 refine X0 ?_; refine JR ?_; refine ZA (γ := 100) ?_; refine ZA (γ := 101) ?_; refine Z0 ?_; refine JD ?_; refine X0 ?_; refine X0 ?_; refine JR ?_; refine ZB ?_; refine ZC ?_; refine Zl ?_; refine Z1 ?_
 refine ZB ?_; refine ZC ?_; refine Zl ?_; refine Zq ?_; refine Z1 ?_; refine ZL ?_; refine Z9 (hcon := va) ?_; refine Zu ?_; refine Zq ?_; refine Z1 ?_; refine ZL ?_; refine Z9 (hcon := vb) ?_; refine Zu ?_; refine Zq ?_
 refine JD ?_; refine JF ?_; refine X3 ?_; refine X0 ?_; refine JR ?_; refine ZL ?_; refine ZL ?_; refine Z9 (hcon := hc) ?_; refine Z0 ?_; refine JD ?_
 (show AWP Tryz.prog E _ _ _; refine X1 ?_; exact (show Xd _ _ _ _ _ from ⟨_, St.le_refl _, ⟨rfl, trivial⟩, X2 _⟩))
end Go.Fw

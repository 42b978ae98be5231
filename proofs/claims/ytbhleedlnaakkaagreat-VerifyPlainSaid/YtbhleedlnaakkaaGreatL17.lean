/- Plain values compared. -/
import Derived.Test.YtbhleedlnaakkaaGreatL16
set_option maxHeartbeats 32000000
namespace Go.Fw
open Go Go.Proofs
set_option maxRecDepth 100000
set_option linter.unusedVariables false
set_option linter.unusedSimpArgs false
theorem X83 : UF Tryz.prog 119 = some [.i .i64, .i .i64] := by kernel_rfl
theorem X38 (b : Bool) : Con Tryz.prog 238 [] [ab b] [] (ai (if b then 2 else 0)) := by
 refine X9 (xs := [ai (if b then 2 else 0)]) Tryz.func238 rfl Tryz.ntmps238 rfl rfl rfl (fun E => ?_)
 cases b with
 | true =>
  refine X0 ?_; refine JR ?_; refine Z0 ?_; refine JD ?_; refine X0 ?_; refine X0 ?_; refine JR ?_; refine Z1 ?_; refine JD ?_; refine JT ?_; refine X0 ?_; refine JR ?_; refine Z0 ?_; refine JD ?_
  exact X1 ⟨_, St.le_refl _, ⟨rfl, trivial⟩, X2 _⟩
 | false =>
  refine X0 ?_; refine JR ?_; refine Z0 ?_; refine JD ?_; refine X0 ?_; refine X0 ?_; refine JR ?_; refine Z1 ?_; refine JD ?_; refine JF ?_; refine X3 ?_; refine X0 ?_; refine JR ?_; refine Z0 ?_
  refine JD ?_
  exact X1 ⟨_, St.le_refl _, ⟨rfl, trivial⟩, X2 _⟩
theorem X4p (v : Val) (h : XF v = true) : Con Tryz.prog 237 [] [Xn v] [] (.tup [Yz (if v.kind = 2 then v.n else 0) (if v.kind = 2 then 1 else 0), ab (decide (v.kind = 2))]) := by
 refine X9 (xs := [Yz (if v.kind = 2 then v.n else 0) (if v.kind = 2 then 1 else 0), ab (decide (v.kind = 2))]) Tryz.func237 rfl Tryz.ntmps237 rfl rfl rfl (fun E => ?_)
 have hv := X1w v
 obtain ⟨k, n, d, s, l⟩ := v
 obtain ⟨p1, p2, p3, p4, p5, p6, p7, p8⟩ := Ve h
 rw [p1] at hv
 simp only [Xn, Val.kind, Val.n] at hv ⊢
 clear h p1
 by_cases hk : k = 2
 ·subst hk
  simp only [if_true, eq_self_iff_true, decide_true]
  refine X0 ?_; refine JR ?_; refine ZA (γ := 100) ?_; refine Zw (γ := 101) ?_; refine Z0 ?_; refine JD ?_; refine X0 ?_; refine X4 ?_; refine X0 ?_; refine JR ?_; refine ZB ?_; refine ZC ?_
  refine Zl ?_; refine Z1 ?_; refine ZL ?_; refine Z9 (hcon := hv) ?_; refine Zn ?_; refine Z0 ?_; refine JD ?_; refine JT ?_; refine X0 ?_; refine JR ?_; refine ZB ?_; refine ZC ?_; refine Zx ?_; refine Zy ?_
  refine Z0 ?_; refine JD ?_
  (show AWP Tryz.prog E _ _ _; refine X1 ?_; exact (show Xk _ _ _ _ _ from ⟨_, St.le_refl _, ⟨⟨101, 0, _, rfl, rfl, .inr ⟨2, _, rfl, rfl, rfl, rfl⟩⟩, rfl, trivial⟩, X2 _⟩))
 simp only [hk, if_false, decide_false]
 have h3 : k ≠ 3 := by omega
 refine X0 ?_; refine JR ?_; refine ZA (γ := 100) ?_; refine Zw (γ := 101) ?_; refine Z0 ?_; refine JD ?_; refine X0 ?_; refine X4 ?_; refine X0 ?_; refine JR ?_; refine ZB ?_; refine ZC ?_
 refine Zl ?_; refine Z1 ?_; refine Zo ?_; refine Zo ?_; refine Zq ?_; refine Z0 ?_; refine JD ?_; refine JF ?_; refine X0 ?_; refine JR ?_; refine ZB ?_; refine ZC ?_; refine Zl ?_; refine Z1 ?_; refine Zo ?_
 refine Zo ?_; refine Zq ?_; refine Z0 ?_; refine JD ?_; refine JF ?_; refine X3 ?_; refine X0 ?_; refine JR ?_; refine Zx ?_; refine Zy ?_; refine Z0 ?_; refine JD ?_
 (show AWP Tryz.prog E _ _ _; refine X1 ?_; exact (show Xk _ _ _ _ _ from ⟨_, St.le_refl _, ⟨⟨101, 0, _, rfl, rfl, .inr ⟨2, _, rfl, rfl, rfl, rfl⟩⟩, rfl, trivial⟩, X2 _⟩))
theorem X7a (a b : Val) (ha : XF a = true) (hb : XF b = true) : Con Tryz.prog 222 [] [Xn a, Xn b] [] (ai (if eqV a b then 2 else 0)) := by
 refine X9 (xs := [ai (if eqV a b then 2 else 0)]) Tryz.func222 rfl Tryz.ntmps222 rfl rfl rfl (fun E => ?_)
 have na := X4p a ha
 have nb := X4p b hb
 obtain ⟨e, he⟩ : ∃ e, e = eqV a b := ⟨_, rfl⟩
 rw [← he]
 obtain ⟨k, n, d, s, l⟩ := a
 obtain ⟨k', n', d', s', l'⟩ := b
 obtain ⟨p1, p2, p3, p4, p5, p6, p7, p8⟩ := Ve ha
 obtain ⟨q1, q2, q3, q4, q5, q6, q7, q8⟩ := Ve hb
 skip
 skip
 skip
 unfold eqV at he
 simp only [Xn, Val.kind, Val.n, Val.d, Val.s] at *
 clear ha hb p1 q1
 have hk0 : k ≠ 0 := by omega
 have hk0' : k' ≠ 0 := by omega
 have hk8 : k ≠ 8 := by omega
 have hk7 : k ≠ 7 := by omega
 by_cases ck : k = k'
 case neg =>
  obtain rfl : e = false := he.trans (decide_eq_false (fun h => ck h.1))
  clear he
  by_cases c2 : k = 2
  ·have c2' : ¬ k' = 2 := fun e => ck (by omega)
   subst c2
   simp only [if_true, eq_self_iff_true, decide_true] at na
   simp only [c2', if_false, decide_false] at nb
   simp only [Yz] at na nb
   refine X0 ?_; refine JR ?_; refine ZA (γ := 100) ?_; refine ZA (γ := 101) ?_; refine Z0 ?_; refine JD ?_; refine X0 ?_; refine X0 ?_; refine JR ?_; refine ZB ?_; refine ZC ?_; refine Zl ?_; refine Z1 ?_
   refine ZB ?_; refine ZC ?_; refine Zl ?_; refine Zq ?_; refine JD ?_; refine JF ?_; refine X3 ?_; refine X0 ?_; refine JR ?_; refine ZL ?_; refine Z9 (hcon := na) ?_; refine Z1 ?_; refine ZF ?_; refine ZF ?_
   refine Zw (γ := 102) ?_; refine Zy ?_; refine Z0 ?_; refine JD ?_; refine X0 ?_; refine JR ?_; refine ZL ?_; refine Z9 (hcon := nb) ?_; refine Z1 ?_; refine ZF ?_; refine ZF ?_; refine Zw (γ := 103) ?_; refine Zy ?_
   refine Z0 ?_; refine JD ?_; refine X0 ?_; refine X4 ?_; refine X0 ?_; refine JR ?_; refine Z1 ?_; refine Z1 ?_; refine Z1 ?_; refine Zn ?_; refine Z0 ?_; refine JD ?_; refine JF ?_; refine X0 ?_
   refine JR ?_; refine ZB ?_; refine ZC ?_; refine ZB ?_; refine ZC ?_; refine Zv ?_; refine Z0 ?_; refine JD ?_; refine JT ?_; refine X0 ?_; refine JR ?_; refine Z0 ?_; refine JD ?_
   (show AWP Tryz.prog E _ _ _; refine X1 ?_; exact (show Xk _ _ _ _ _ from ⟨_, St.le_refl _, ⟨rfl, trivial⟩, X2 _⟩))
  simp only [c2, if_false, decide_false] at na
  generalize (if k' = 2 then n' else 0) = z1 at *
  generalize (if k' = 2 then (1 : Int) else 0) = z2 at *
  generalize decide (k' = 2) = z3 at *
  simp only [Yz] at na nb
  refine X0 ?_; refine JR ?_; refine ZA (γ := 100) ?_; refine ZA (γ := 101) ?_; refine Z0 ?_; refine JD ?_; refine X0 ?_; refine X0 ?_; refine JR ?_; refine ZB ?_; refine ZC ?_; refine Zl ?_; refine Z1 ?_
  refine ZB ?_; refine ZC ?_; refine Zl ?_; refine Zq ?_; refine JD ?_; refine JF ?_; refine X3 ?_; refine X0 ?_; refine JR ?_; refine ZL ?_; refine Z9 (hcon := na) ?_; refine Z1 ?_; refine ZF ?_; refine ZF ?_
  refine Zw (γ := 102) ?_; refine Zy ?_; refine Z0 ?_; refine JD ?_; refine X0 ?_; refine JR ?_; refine ZL ?_; refine Z9 (hcon := nb) ?_; refine Z1 ?_; refine ZF ?_; refine ZF ?_; refine Zw (γ := 103) ?_; refine Zy ?_
  refine Z0 ?_; refine JD ?_; refine X0 ?_; refine X4 ?_; refine X0 ?_; refine JR ?_; refine Z1 ?_; refine Z1 ?_; refine Zo ?_; refine Zq ?_; refine Z0 ?_; refine JD ?_; refine JF ?_; refine X0 ?_
  refine JR ?_; refine ZB ?_; refine ZC ?_; refine ZB ?_; refine ZC ?_; refine Zv ?_; refine Z0 ?_; refine JD ?_; refine JT ?_; refine X0 ?_; refine JR ?_; refine Z0 ?_; refine JD ?_
  (show AWP Tryz.prog E _ _ _; refine X1 ?_; exact (show Xk _ _ _ _ _ from ⟨_, St.le_refl _, ⟨rfl, trivial⟩, X2 _⟩))
 subst ck
 by_cases c2 : k = 2
 ·subst c2
  simp only [if_true, eq_self_iff_true, decide_true] at na nb
  obtain rfl : s = [] := p5 (by omega)
  obtain rfl : s' = [] := q5 (by omega)
  have hy := X38 (decide (n = n'))
  obtain rfl : e = decide (n = n') := he.trans (by simp)
  clear he
  simp only [Yz] at na nb
  have hz : Yv [.int .i64 n, .int .i64 1] [.int .i64 n', .int .i64 1] = decide (n = n') := by rw [Bool.eq_iff_iff]; simp [Yv, Uu]
  refine X0 ?_; refine JR ?_; refine ZA (γ := 100) ?_; refine ZA (γ := 101) ?_; refine Z0 ?_; refine JD ?_; refine X0 ?_; refine X0 ?_; refine JR ?_; refine ZB ?_; refine ZC ?_; refine Zl ?_; refine Z1 ?_
  refine ZB ?_; refine ZC ?_; refine Zl ?_; refine Zq ?_; refine JD ?_; refine JF ?_; refine X3 ?_; refine X0 ?_; refine JR ?_; refine ZL ?_; refine Z9 (hcon := na) ?_; refine Z1 ?_; refine ZF ?_; refine ZF ?_
  refine Zw (γ := 102) ?_; refine Zy ?_; refine Z0 ?_; refine JD ?_; refine X0 ?_; refine JR ?_; refine ZL ?_; refine Z9 (hcon := nb) ?_; refine Z1 ?_; refine ZF ?_; refine ZF ?_; refine Zw (γ := 103) ?_; refine Zy ?_
  refine Z0 ?_; refine JD ?_; refine X0 ?_; refine X4 ?_; refine X0 ?_; refine JR ?_; refine Z1 ?_; refine Z1 ?_; refine Z1 ?_; refine Zn ?_; refine Z0 ?_; refine JD ?_; refine JT ?_; refine X0 ?_
  refine JR ?_; refine ZL ?_; refine ZL ?_; refine Z07 (us := [.int .i64 n, .int .i64 1]) (vs := [.int .i64 n', .int .i64 1]) (r := decide (n = n')) ?_ (hk := by exact X83) (hr := by exact hz)
  refine Z9 (hcon := hy) ?_; refine Z0 ?_; refine JD ?_
  (show AWP Tryz.prog E _ _ _; refine X1 ?_; exact (show Xk _ _ _ _ _ from ⟨_, St.le_refl _, ⟨rfl, trivial⟩, X2 _⟩))
 simp only [c2, if_false, decide_false] at na nb
 simp only [Yz] at na nb
 by_cases hn : n = n'
 ·have hy := X38 (decide (s = s'))
  obtain rfl : e = decide (s = s') := he.trans (by simp [hn])
  clear he
  refine X0 ?_; refine JR ?_; refine ZA (γ := 100) ?_; refine ZA (γ := 101) ?_; refine Z0 ?_; refine JD ?_; refine X0 ?_; refine X0 ?_; refine JR ?_; refine ZB ?_; refine ZC ?_; refine Zl ?_; refine Z1 ?_
  refine ZB ?_; refine ZC ?_; refine Zl ?_; refine Zq ?_; refine JD ?_; refine JF ?_; refine X3 ?_; refine X0 ?_; refine JR ?_; refine ZL ?_; refine Z9 (hcon := na) ?_; refine Z1 ?_; refine ZF ?_; refine ZF ?_
  refine Zw (γ := 102) ?_; refine Zy ?_; refine Z0 ?_; refine JD ?_; refine X0 ?_; refine JR ?_; refine ZL ?_; refine Z9 (hcon := nb) ?_; refine Z1 ?_; refine ZF ?_; refine ZF ?_; refine Zw (γ := 103) ?_; refine Zy ?_
  refine Z0 ?_; refine JD ?_; refine X0 ?_; refine X4 ?_; refine X0 ?_; refine JR ?_; refine Z1 ?_; refine Z1 ?_; refine Zo ?_; refine Zq ?_; refine Z0 ?_; refine JD ?_; refine JF ?_; refine X0 ?_
  refine JR ?_; refine ZB ?_; refine ZC ?_; refine ZB ?_; refine ZC ?_; refine Zv ?_; refine Z0 ?_; refine JD ?_; refine JF ?_; refine X0 ?_; refine JR ?_; refine ZB ?_; refine ZC ?_; refine Zv ?_; refine Z1 ?_
  refine ZB ?_; refine ZC ?_; refine Zv ?_; refine Zn ?_; refine Z0 ?_; refine JD ?_; refine JT ?_; refine X0 ?_; refine JR ?_; refine ZB ?_; refine ZC ?_; refine ZB ?_; refine ZC ?_; refine Zl ?_; refine Z1 ?_
  refine ZB ?_; refine ZC ?_; refine ZB ?_; refine ZC ?_; refine Zr ?_; refine Zn ?_; refine Z9 (hcon := hy) ?_; refine Z0 ?_; refine JD ?_
  (show AWP Tryz.prog E _ _ _; refine X1 ?_; exact (show Xk _ _ _ _ _ from ⟨_, St.le_refl _, ⟨rfl, trivial⟩, X2 _⟩))
 ·have hy := X38 false
  obtain rfl : e = false := he.trans (by simp [hn])
  clear he
  rw [show (if false = true then (2 : Int) else 0) = 0 from rfl] at hy
  refine X0 ?_; refine JR ?_; refine ZA (γ := 100) ?_; refine ZA (γ := 101) ?_; refine Z0 ?_; refine JD ?_; refine X0 ?_; refine X0 ?_; refine JR ?_; refine ZB ?_; refine ZC ?_; refine Zl ?_; refine Z1 ?_
  refine ZB ?_; refine ZC ?_; refine Zl ?_; refine Zq ?_; refine JD ?_; refine JF ?_; refine X3 ?_; refine X0 ?_; refine JR ?_; refine ZL ?_; refine Z9 (hcon := na) ?_; refine Z1 ?_; refine ZF ?_; refine ZF ?_
  refine Zw (γ := 102) ?_; refine Zy ?_; refine Z0 ?_; refine JD ?_; refine X0 ?_; refine JR ?_; refine ZL ?_; refine Z9 (hcon := nb) ?_; refine Z1 ?_; refine ZF ?_; refine ZF ?_; refine Zw (γ := 103) ?_; refine Zy ?_
  refine Z0 ?_; refine JD ?_; refine X0 ?_; refine X4 ?_; refine X0 ?_; refine JR ?_; refine Z1 ?_; refine Z1 ?_; refine Zo ?_; refine Zq ?_; refine Z0 ?_; refine JD ?_; refine JF ?_; refine X0 ?_
  refine JR ?_; refine ZB ?_; refine ZC ?_; refine ZB ?_; refine ZC ?_; refine Zv ?_; refine Z0 ?_; refine JD ?_; refine JF ?_; refine X0 ?_; refine JR ?_; refine ZB ?_; refine ZC ?_; refine Zv ?_; refine Z1 ?_
  refine ZB ?_; refine ZC ?_; refine Zv ?_; refine Zn ?_; refine Z0 ?_; refine JD ?_; refine JT ?_; refine X0 ?_; refine JR ?_; refine ZB ?_; refine ZC ?_; refine ZB ?_; refine ZC ?_; refine Zl ?_; refine Z1 ?_
  refine Zo ?_; refine Zo ?_; refine Zo ?_; refine Zo ?_; refine Zo ?_; refine Zq ?_; refine Z9 (hcon := hy) ?_; refine Z0 ?_; refine JD ?_
  (show AWP Tryz.prog E _ _ _; refine X1 ?_; exact (show Xk _ _ _ _ _ from ⟨_, St.le_refl _, ⟨rfl, trivial⟩, X2 _⟩))
theorem X8e (a b : Val) (ha : XF a = true) (hb : XF b = true) : Con Tryz.prog 183 [] [Xn a, Xn b] [] (ai (if eqV a b then 2 else 0)) := by
 refine X9 (xs := [ai (if eqV a b then 2 else 0)]) Tryz.func183 rfl Tryz.ntmps183 rfl rfl rfl (fun E => ?_)
 have hc := X7a a b ha hb
 have va := X1w a
 have vb := X1w b
 generalize (if eqV a b then (2 : Int) else 0) = z at *
 obtain ⟨k, n, d, s, l⟩ := a
 obtain ⟨k', n', d', s', l'⟩ := b
 obtain ⟨p1, p2, p3, p4, p5, p6, p7, p8⟩ := Ve ha
 obtain ⟨q1, q2, q3, q4, q5, q6, q7, q8⟩ := Ve hb
 rw [p1] at va
 rw [q1] at vb
 simp only [Xn] at *
 clear ha hb p1 q1
 have hk0 : k ≠ 0 := by omega
 have hk0' : k' ≠ 0 := by omega
 refine X0 ?_; refine JR ?_; refine ZA (γ := 100) ?_; refine ZA (γ := 101) ?_; refine Z0 ?_; refine JD ?_; refine X0 ?_; refine X0 ?_; refine JR ?_; refine ZB ?_; refine ZC ?_; refine Zl ?_; refine Z1 ?_
 refine ZB ?_; refine ZC ?_; refine Zl ?_; refine Zq ?_; refine Z1 ?_; refine ZL ?_; refine Z9 (hcon := va) ?_; refine Zu ?_; refine Zq ?_; refine Z1 ?_; refine ZL ?_; refine Z9 (hcon := vb) ?_; refine Zu ?_; refine Zq ?_
 refine JD ?_; refine JF ?_; refine X3 ?_; refine X0 ?_; refine JR ?_; refine ZL ?_; refine ZL ?_; refine Z9 (hcon := hc) ?_; refine Z0 ?_; refine JD ?_
 (show AWP Tryz.prog E _ _ _; refine X1 ?_; exact (show Xk _ _ _ _ _ from ⟨_, St.le_refl _, ⟨rfl, trivial⟩, X2 _⟩))
end Go.Fw

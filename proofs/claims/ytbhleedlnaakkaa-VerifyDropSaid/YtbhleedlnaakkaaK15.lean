/- Plain values compared. -/
import Derived.Test.YtbhleedlnaakkaaK14
set_option maxHeartbeats 32000000
namespace Go.Fw
open Go Go.Proofs
set_option maxRecDepth 100000
set_option linter.unusedVariables false
set_option linter.unusedSimpArgs false
theorem X5c : U6 Try.prog 98 = some [.i .i64, .i .i64] := by kernel_rfl
theorem X1b (b : Bool) : Con Try.prog 58 [] [ab b] [] (ai (if b then 2 else 0)) := by
 refine Xf (xs := [ai (if b then 2 else 0)]) Try.func58 rfl Try.ntmps58 rfl rfl rfl (fun E => ?_)
 cases b with
 | true =>
  refine X0 ?_; refine JR ?_; refine Z0 ?_; refine JD ?_; refine X0 ?_; refine X0 ?_; refine JR ?_; refine Z1 ?_; refine JD ?_; refine JT ?_; refine X0 ?_; refine JR ?_; refine Z0 ?_; refine JD ?_
  exact X1 ⟨_, St.le_refl _, ⟨rfl, trivial⟩, X2 _⟩
 | false =>
  refine X0 ?_; refine JR ?_; refine Z0 ?_; refine JD ?_; refine X0 ?_; refine X0 ?_; refine JR ?_; refine Z1 ?_; refine JD ?_; refine JF ?_; refine X3 ?_; refine X0 ?_; refine JR ?_; refine Z0 ?_
  refine JD ?_
  exact X1 ⟨_, St.le_refl _, ⟨rfl, trivial⟩, X2 _⟩
theorem X4E (v : Val) (h : XJ v = true) : Con Try.prog 57 [] [XS v] [] (.tup [V9 (if v.kind = 2 then v.n else 0) (if v.kind = 2 then 1 else 0), ab (decide (v.kind = 2))]) := by
 refine Xf (xs := [V9 (if v.kind = 2 then v.n else 0) (if v.kind = 2 then 1 else 0), ab (decide (v.kind = 2))]) Try.func57 rfl Try.ntmps57 rfl rfl rfl (fun E => ?_)
 have hv := X0Z v
 obtain ⟨k, n, d, s, l⟩ := v
 obtain ⟨p1, p2, p3, p4, p5, p6, p7, p8⟩ := Vv h
 rw [p1] at hv
 simp only [XS, Val.kind, Val.n] at hv ⊢
 clear h p1
 by_cases hk : k = 2
 ·subst hk
  simp only [if_true, eq_self_iff_true, decide_true]
  refine X0 ?_; refine JR ?_; refine Zn (γ := 100) ?_; refine Zh (γ := 101) ?_; refine Z0 ?_; refine JD ?_; refine X0 ?_; refine X4 ?_; refine X0 ?_; refine JR ?_; refine Zo ?_; refine Zp ?_
  refine Zi ?_; refine Z1 ?_; refine ZD ?_; refine Zc (hcon := hv) ?_; refine Z4 ?_; refine Z0 ?_; refine JD ?_; refine JT ?_; refine X0 ?_; refine JR ?_; refine Zo ?_; refine Zp ?_; refine Zj ?_; refine Zk ?_
  refine Z0 ?_; refine JD ?_
  (show AWP Try.prog E _ _ _; refine X1 ?_; exact (show Xj _ _ _ _ _ from ⟨_, St.le_refl _, ⟨⟨101, 0, _, rfl, rfl, .inr ⟨2, _, rfl, rfl, rfl, rfl⟩⟩, rfl, trivial⟩, X2 _⟩))
 simp only [hk, if_false, decide_false]
 have h3 : k ≠ 3 := by omega
 refine X0 ?_; refine JR ?_; refine Zn (γ := 100) ?_; refine Zh (γ := 101) ?_; refine Z0 ?_; refine JD ?_; refine X0 ?_; refine X4 ?_; refine X0 ?_; refine JR ?_; refine Zo ?_; refine Zp ?_
 refine Zi ?_; refine Z1 ?_; refine Z5 ?_; refine Z5 ?_; refine Z7 ?_; refine Z0 ?_; refine JD ?_; refine JF ?_; refine X0 ?_; refine JR ?_; refine Zo ?_; refine Zp ?_; refine Zi ?_; refine Z1 ?_; refine Z5 ?_
 refine Z5 ?_; refine Z7 ?_; refine Z0 ?_; refine JD ?_; refine JF ?_; refine X3 ?_; refine X0 ?_; refine JR ?_; refine Zj ?_; refine Zk ?_; refine Z0 ?_; refine JD ?_
 (show AWP Try.prog E _ _ _; refine X1 ?_; exact (show Xj _ _ _ _ _ from ⟨_, St.le_refl _, ⟨⟨101, 0, _, rfl, rfl, .inr ⟨2, _, rfl, rfl, rfl, rfl⟩⟩, rfl, trivial⟩, X2 _⟩))
theorem X8T (a b : Val) (ha : XJ a = true) (hb : XJ b = true) : Con Try.prog 53 [] [XS a, XS b] [] (ai (if eqV a b then 2 else 0)) := by
 refine Xf (xs := [ai (if eqV a b then 2 else 0)]) Try.func53 rfl Try.ntmps53 rfl rfl rfl (fun E => ?_)
 have na := X4E a ha
 have nb := X4E b hb
 obtain ⟨e, he⟩ : ∃ e, e = eqV a b := ⟨_, rfl⟩
 rw [← he]
 obtain ⟨k, n, d, s, l⟩ := a
 obtain ⟨k', n', d', s', l'⟩ := b
 obtain ⟨p1, p2, p3, p4, p5, p6, p7, p8⟩ := Vv ha
 obtain ⟨q1, q2, q3, q4, q5, q6, q7, q8⟩ := Vv hb
 skip
 skip
 skip
 unfold eqV at he
 simp only [XS, Val.kind, Val.n, Val.d, Val.s] at *
 clear ha hb p1 q1
 have hk0 : k ≠ 0 := by omega
 have hk0' : k' ≠ 0 := by omega
 have hk8 : k ≠ 8 := by omega
 have hk7 : k ≠ 7 := by omega
 by_cases ck : k = k'
 case neg =>
  obtain rfl : e = false := he.trans (decide_eq_false (fun h => ck h.1))
  clear he
  by_cases c2 : k = 2
  ·have c2' : ¬ k' = 2 := fun e => ck (by omega)
   subst c2
   simp only [if_true, eq_self_iff_true, decide_true] at na
   simp only [c2', if_false, decide_false] at nb
   simp only [V9] at na nb
   refine X0 ?_; refine JR ?_; refine Zn (γ := 100) ?_; refine Zn (γ := 101) ?_; refine Z0 ?_; refine JD ?_; refine X0 ?_; refine X0 ?_; refine JR ?_; refine Zo ?_; refine Zp ?_; refine Zi ?_; refine Z1 ?_
   refine Zo ?_; refine Zp ?_; refine Zi ?_; refine Z7 ?_; refine JD ?_; refine JF ?_; refine X3 ?_; refine X0 ?_; refine JR ?_; refine ZD ?_; refine Zc (hcon := na) ?_; refine Z1 ?_; refine Zs ?_; refine Zs ?_
   refine Zh (γ := 102) ?_; refine Zk ?_; refine Z0 ?_; refine JD ?_; refine X0 ?_; refine JR ?_; refine ZD ?_; refine Zc (hcon := nb) ?_; refine Z1 ?_; refine Zs ?_; refine Zs ?_; refine Zh (γ := 103) ?_; refine Zk ?_
   refine Z0 ?_; refine JD ?_; refine X0 ?_; refine X4 ?_; refine X0 ?_; refine JR ?_; refine Z1 ?_; refine Z1 ?_; refine Z1 ?_; refine Z4 ?_; refine Z0 ?_; refine JD ?_; refine JF ?_; refine X0 ?_
   refine JR ?_; refine Zo ?_; refine Zp ?_; refine Zo ?_; refine Zp ?_; refine Zg ?_; refine Z0 ?_; refine JD ?_; refine JT ?_; refine X0 ?_; refine JR ?_; refine Z0 ?_; refine JD ?_
   (show AWP Try.prog E _ _ _; refine X1 ?_; exact (show Xj _ _ _ _ _ from ⟨_, St.le_refl _, ⟨rfl, trivial⟩, X2 _⟩))
  simp only [c2, if_false, decide_false] at na
  generalize (if k' = 2 then n' else 0) = z1 at *
  generalize (if k' = 2 then (1 : Int) else 0) = z2 at *
  generalize decide (k' = 2) = z3 at *
  simp only [V9] at na nb
  refine X0 ?_; refine JR ?_; refine Zn (γ := 100) ?_; refine Zn (γ := 101) ?_; refine Z0 ?_; refine JD ?_; refine X0 ?_; refine X0 ?_; refine JR ?_; refine Zo ?_; refine Zp ?_; refine Zi ?_; refine Z1 ?_
  refine Zo ?_; refine Zp ?_; refine Zi ?_; refine Z7 ?_; refine JD ?_; refine JF ?_; refine X3 ?_; refine X0 ?_; refine JR ?_; refine ZD ?_; refine Zc (hcon := na) ?_; refine Z1 ?_; refine Zs ?_; refine Zs ?_
  refine Zh (γ := 102) ?_; refine Zk ?_; refine Z0 ?_; refine JD ?_; refine X0 ?_; refine JR ?_; refine ZD ?_; refine Zc (hcon := nb) ?_; refine Z1 ?_; refine Zs ?_; refine Zs ?_; refine Zh (γ := 103) ?_; refine Zk ?_
  refine Z0 ?_; refine JD ?_; refine X0 ?_; refine X4 ?_; refine X0 ?_; refine JR ?_; refine Z1 ?_; refine Z1 ?_; refine Z5 ?_; refine Z7 ?_; refine Z0 ?_; refine JD ?_; refine JF ?_; refine X0 ?_
  refine JR ?_; refine Zo ?_; refine Zp ?_; refine Zo ?_; refine Zp ?_; refine Zg ?_; refine Z0 ?_; refine JD ?_; refine JT ?_; refine X0 ?_; refine JR ?_; refine Z0 ?_; refine JD ?_
  (show AWP Try.prog E _ _ _; refine X1 ?_; exact (show Xj _ _ _ _ _ from ⟨_, St.le_refl _, ⟨rfl, trivial⟩, X2 _⟩))
 subst ck
 by_cases c2 : k = 2
 ·subst c2
  simp only [if_true, eq_self_iff_true, decide_true] at na nb
  obtain rfl : s = [] := p5 (by omega)
  obtain rfl : s' = [] := q5 (by omega)
  have hy := X1b (decide (n = n'))
  obtain rfl : e = decide (n = n') := he.trans (by simp)
  clear he
  simp only [V9] at na nb
  have hz : Yz [.int .i64 n, .int .i64 1] [.int .i64 n', .int .i64 1] = decide (n = n') := by rw [Bool.eq_iff_iff]; simp [Yz, Ul]
  refine X0 ?_; refine JR ?_; refine Zn (γ := 100) ?_; refine Zn (γ := 101) ?_; refine Z0 ?_; refine JD ?_; refine X0 ?_; refine X0 ?_; refine JR ?_; refine Zo ?_; refine Zp ?_; refine Zi ?_; refine Z1 ?_
  refine Zo ?_; refine Zp ?_; refine Zi ?_; refine Z7 ?_; refine JD ?_; refine JF ?_; refine X3 ?_; refine X0 ?_; refine JR ?_; refine ZD ?_; refine Zc (hcon := na) ?_; refine Z1 ?_; refine Zs ?_; refine Zs ?_
  refine Zh (γ := 102) ?_; refine Zk ?_; refine Z0 ?_; refine JD ?_; refine X0 ?_; refine JR ?_; refine ZD ?_; refine Zc (hcon := nb) ?_; refine Z1 ?_; refine Zs ?_; refine Zs ?_; refine Zh (γ := 103) ?_; refine Zk ?_
  refine Z0 ?_; refine JD ?_; refine X0 ?_; refine X4 ?_; refine X0 ?_; refine JR ?_; refine Z1 ?_; refine Z1 ?_; refine Z1 ?_; refine Z4 ?_; refine Z0 ?_; refine JD ?_; refine JT ?_; refine X0 ?_
  refine JR ?_; refine ZD ?_; refine ZD ?_; refine ZJ (us := [.int .i64 n, .int .i64 1]) (vs := [.int .i64 n', .int .i64 1]) (r := decide (n = n')) ?_ (hk := by exact X5c) (hr := by exact hz)
  refine Zc (hcon := hy) ?_; refine Z0 ?_; refine JD ?_
  (show AWP Try.prog E _ _ _; refine X1 ?_; exact (show Xj _ _ _ _ _ from ⟨_, St.le_refl _, ⟨rfl, trivial⟩, X2 _⟩))
 simp only [c2, if_false, decide_false] at na nb
 simp only [V9] at na nb
 by_cases hn : n = n'
 ·have hy := X1b (decide (s = s'))
  obtain rfl : e = decide (s = s') := he.trans (by simp [hn])
  clear he
  refine X0 ?_; refine JR ?_; refine Zn (γ := 100) ?_; refine Zn (γ := 101) ?_; refine Z0 ?_; refine JD ?_; refine X0 ?_; refine X0 ?_; refine JR ?_; refine Zo ?_; refine Zp ?_; refine Zi ?_; refine Z1 ?_
  refine Zo ?_; refine Zp ?_; refine Zi ?_; refine Z7 ?_; refine JD ?_; refine JF ?_; refine X3 ?_; refine X0 ?_; refine JR ?_; refine ZD ?_; refine Zc (hcon := na) ?_; refine Z1 ?_; refine Zs ?_; refine Zs ?_
  refine Zh (γ := 102) ?_; refine Zk ?_; refine Z0 ?_; refine JD ?_; refine X0 ?_; refine JR ?_; refine ZD ?_; refine Zc (hcon := nb) ?_; refine Z1 ?_; refine Zs ?_; refine Zs ?_; refine Zh (γ := 103) ?_; refine Zk ?_
  refine Z0 ?_; refine JD ?_; refine X0 ?_; refine X4 ?_; refine X0 ?_; refine JR ?_; refine Z1 ?_; refine Z1 ?_; refine Z5 ?_; refine Z7 ?_; refine Z0 ?_; refine JD ?_; refine JF ?_; refine X0 ?_
  refine JR ?_; refine Zo ?_; refine Zp ?_; refine Zo ?_; refine Zp ?_; refine Zg ?_; refine Z0 ?_; refine JD ?_; refine JF ?_; refine X0 ?_; refine JR ?_; refine Zo ?_; refine Zp ?_; refine Zg ?_; refine Z1 ?_
  refine Zo ?_; refine Zp ?_; refine Zg ?_; refine Z4 ?_; refine Z0 ?_; refine JD ?_; refine JT ?_; refine X0 ?_; refine JR ?_; refine Zo ?_; refine Zp ?_; refine Zo ?_; refine Zp ?_; refine Zi ?_; refine Z1 ?_
  refine Zo ?_; refine Zp ?_; refine Zo ?_; refine Zp ?_; refine Z8 ?_; refine Z4 ?_; refine Zc (hcon := hy) ?_; refine Z0 ?_; refine JD ?_
  (show AWP Try.prog E _ _ _; refine X1 ?_; exact (show Xj _ _ _ _ _ from ⟨_, St.le_refl _, ⟨rfl, trivial⟩, X2 _⟩))
 ·have hy := X1b false
  obtain rfl : e = false := he.trans (by simp [hn])
  clear he
  rw [show (if false = true then (2 : Int) else 0) = 0 from rfl] at hy
  refine X0 ?_; refine JR ?_; refine Zn (γ := 100) ?_; refine Zn (γ := 101) ?_; refine Z0 ?_; refine JD ?_; refine X0 ?_; refine X0 ?_; refine JR ?_; refine Zo ?_; refine Zp ?_; refine Zi ?_; refine Z1 ?_
  refine Zo ?_; refine Zp ?_; refine Zi ?_; refine Z7 ?_; refine JD ?_; refine JF ?_; refine X3 ?_; refine X0 ?_; refine JR ?_; refine ZD ?_; refine Zc (hcon := na) ?_; refine Z1 ?_; refine Zs ?_; refine Zs ?_
  refine Zh (γ := 102) ?_; refine Zk ?_; refine Z0 ?_; refine JD ?_; refine X0 ?_; refine JR ?_; refine ZD ?_; refine Zc (hcon := nb) ?_; refine Z1 ?_; refine Zs ?_; refine Zs ?_; refine Zh (γ := 103) ?_; refine Zk ?_
  refine Z0 ?_; refine JD ?_; refine X0 ?_; refine X4 ?_; refine X0 ?_; refine JR ?_; refine Z1 ?_; refine Z1 ?_; refine Z5 ?_; refine Z7 ?_; refine Z0 ?_; refine JD ?_; refine JF ?_; refine X0 ?_
  refine JR ?_; refine Zo ?_; refine Zp ?_; refine Zo ?_; refine Zp ?_; refine Zg ?_; refine Z0 ?_; refine JD ?_; refine JF ?_; refine X0 ?_; refine JR ?_; refine Zo ?_; refine Zp ?_; refine Zg ?_; refine Z1 ?_
  refine Zo ?_; refine Zp ?_; refine Zg ?_; refine Z4 ?_; refine Z0 ?_; refine JD ?_; refine JT ?_; refine X0 ?_; refine JR ?_; refine Zo ?_; refine Zp ?_; refine Zo ?_; refine Zp ?_; refine Zi ?_; refine Z1 ?_
  refine Z5 ?_; refine Z5 ?_; refine Z5 ?_; refine Z5 ?_; refine Z5 ?_; refine Z7 ?_; refine Zc (hcon := hy) ?_; refine Z0 ?_; refine JD ?_
  (show AWP Try.prog E _ _ _; refine X1 ?_; exact (show Xj _ _ _ _ _ from ⟨_, St.le_refl _, ⟨rfl, trivial⟩, X2 _⟩))
theorem X61 (a b : Val) (ha : XJ a = true) (hb : XJ b = true) : Con Try.prog 45 [] [XS a, XS b] [] (ai (if eqV a b then 2 else 0)) := by
 refine Xf (xs := [ai (if eqV a b then 2 else 0)]) Try.func45 rfl Try.ntmps45 rfl rfl rfl (fun E => ?_)
 have hc := X8T a b ha hb
 have va := X0Z a
 have vb := X0Z b
 generalize (if eqV a b then (2 : Int) else 0) = z at *
 obtain ⟨k, n, d, s, l⟩ := a
 obtain ⟨k', n', d', s', l'⟩ := b
 obtain ⟨p1, p2, p3, p4, p5, p6, p7, p8⟩ := Vv ha
 obtain ⟨q1, q2, q3, q4, q5, q6, q7, q8⟩ := Vv hb
 rw [p1] at va
 rw [q1] at vb
 simp only [XS] at *
 clear ha hb p1 q1
 have hk0 : k ≠ 0 := by omega
 have hk0' : k' ≠ 0 := by omega
 refine X0 ?_; refine JR ?_; refine Zn (γ := 100) ?_; refine Zn (γ := 101) ?_; refine Z0 ?_; refine JD ?_; refine X0 ?_; refine X0 ?_; refine JR ?_; refine Zo ?_; refine Zp ?_; refine Zi ?_; refine Z1 ?_
 refine Zo ?_; refine Zp ?_; refine Zi ?_; refine Z7 ?_; refine Z1 ?_; refine ZD ?_; refine Zc (hcon := va) ?_; refine Zd ?_; refine Z7 ?_; refine Z1 ?_; refine ZD ?_; refine Zc (hcon := vb) ?_; refine Zd ?_; refine Z7 ?_
 refine JD ?_; refine JF ?_; refine X3 ?_; refine X0 ?_; refine JR ?_; refine ZD ?_; refine ZD ?_; refine Zc (hcon := hc) ?_; refine Z0 ?_; refine JD ?_
 (show AWP Try.prog E _ _ _; refine X1 ?_; exact (show Xj _ _ _ _ _ from ⟨_, St.le_refl _, ⟨rfl, trivial⟩, X2 _⟩))
end Go.Fw

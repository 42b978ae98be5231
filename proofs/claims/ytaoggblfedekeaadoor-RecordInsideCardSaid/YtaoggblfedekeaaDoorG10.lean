/- Small tests of changes and rules. -/
import Derived.Test.YtaoggblfedekeaaDoorG08
import Derived.Test.YtaoggblfedekeaaDoorG09
import Derived.Test.YtaoggblfedekeaaDoorChecked
import Derived.Test.YtaoggblfedekeaaDoorG07
import Derived.Laws.RangeAny
set_option maxHeartbeats 8000000
namespace Go.Fw
open Go Go.Proofs
set_option maxRecDepth 100000
set_option linter.unusedVariables false
set_option linter.unusedSimpArgs false
def Uf (op : Int) : Bool × Bool × Bool × Bool := (decide (op = 6), XT op, XP op, decide (1 ≤ op ∧ op ≤ 8))
theorem X6X (op : Int) : Con Tryd.prog 36 [] [ai op] [] (.tup [.agg [ab (Uf op).1, ab (Uf op).2.1, ab (Uf op).2.2.1], ab (Uf op).2.2.2]) := by
 refine Xb (xs := [.agg [ab (Uf op).1, ab (Uf op).2.1, ab (Uf op).2.2.1], ab (Uf op).2.2.2]) Tryd.func36 rfl Tryd.ntmps36 rfl rfl rfl (fun E => ?_)
 by_cases k1 : op = 1
 ·subst k1
  refine X0 ?_; refine JR ?_; refine Zr (γ := 100) ?_; refine Z0 ?_; refine JD ?_; refine X0 ?_; refine X0 ?_; refine JR ?_; refine Z1 ?_; refine JD ?_; refine X5 ?_; refine X0 ?_
  refine X0 ?_; refine JR ?_; refine Zs ?_; refine Z0 ?_; refine JD ?_; refine JT ?_; refine X3 ?_; refine JT ?_; refine X0 ?_; refine JR ?_; refine Zt ?_; refine Zu ?_; refine Z0 ?_; refine JD ?_
  exact X1 ⟨_, St.le_refl _, ⟨⟨100, 0, _, rfl, rfl, .inr ⟨3, _, rfl, rfl, rfl, rfl⟩⟩, rfl, trivial⟩, X2 _⟩
 by_cases k2 : op = 2
 ·subst k2
  refine X0 ?_; refine JR ?_; refine Zr (γ := 100) ?_; refine Z0 ?_; refine JD ?_; refine X0 ?_; refine X0 ?_; refine JR ?_; refine Z1 ?_; refine JD ?_; refine X5 ?_; refine X0 ?_
  refine X0 ?_; refine JR ?_; refine Zs ?_; refine Z0 ?_; refine JD ?_; refine JF ?_; refine X0 ?_; refine JR ?_; refine Zs ?_; refine Z0 ?_; refine JD ?_; refine JT ?_; refine X3 ?_; refine JT ?_
  refine X0 ?_; refine JR ?_; refine Zt ?_; refine Zu ?_; refine Z0 ?_; refine JD ?_
  exact X1 ⟨_, St.le_refl _, ⟨⟨100, 0, _, rfl, rfl, .inr ⟨3, _, rfl, rfl, rfl, rfl⟩⟩, rfl, trivial⟩, X2 _⟩
 by_cases k7 : op = 7
 ·subst k7
  repeat first | refine X0 ?_ | (refine JR ?_; (repeat first | refine Z1 ?_ | refine Z0 ?_ | refine Zs ?_ | refine Zr (γ := 100) ?_ | refine Zu ?_ | refine Zt ?_); refine JD ?_) | refine JT ?_ | refine JF ?_ | refine X5 ?_
  exact X1 ⟨_, St.le_refl _, ⟨⟨100, 0, _, rfl, rfl, .inr ⟨3, _, rfl, rfl, rfl, rfl⟩⟩, rfl, trivial⟩, X2 _⟩
 by_cases k3 : op = 3
 ·subst k3
  repeat first | refine X0 ?_ | (refine JR ?_; (repeat first | refine Z1 ?_ | refine Z0 ?_ | refine Zs ?_ | refine Zr (γ := 100) ?_ | refine Zu ?_ | refine Zt ?_); refine JD ?_) | refine JT ?_ | refine JF ?_ | refine X5 ?_ | refine X3 ?_
  exact X1 ⟨_, St.le_refl _, ⟨⟨100, 0, _, rfl, rfl, .inr ⟨3, _, rfl, rfl, rfl, rfl⟩⟩, rfl, trivial⟩, X2 _⟩
 by_cases k4 : op = 4
 ·subst k4
  repeat first | refine X0 ?_ | (refine JR ?_; (repeat first | refine Z1 ?_ | refine Z0 ?_ | refine Zs ?_ | refine Zr (γ := 100) ?_ | refine Zu ?_ | refine Zt ?_); refine JD ?_) | refine JT ?_ | refine JF ?_ | refine X5 ?_
  exact X1 ⟨_, St.le_refl _, ⟨⟨100, 0, _, rfl, rfl, .inr ⟨3, _, rfl, rfl, rfl, rfl⟩⟩, rfl, trivial⟩, X2 _⟩
 by_cases k5 : op = 5
 ·subst k5
  repeat first | refine X0 ?_ | (refine JR ?_; (repeat first | refine Z1 ?_ | refine Z0 ?_ | refine Zs ?_ | refine Zr (γ := 100) ?_ | refine Zu ?_ | refine Zt ?_); refine JD ?_) | refine JT ?_ | refine JF ?_ | refine X5 ?_ | refine X3 ?_
  exact X1 ⟨_, St.le_refl _, ⟨⟨100, 0, _, rfl, rfl, .inr ⟨3, _, rfl, rfl, rfl, rfl⟩⟩, rfl, trivial⟩, X2 _⟩
 by_cases k8 : op = 8
 ·subst k8
  repeat first | refine X0 ?_ | (refine JR ?_; (repeat first | refine Z1 ?_ | refine Z0 ?_ | refine Zs ?_ | refine Zr (γ := 100) ?_ | refine Zu ?_ | refine Zt ?_); refine JD ?_) | refine JT ?_ | refine JF ?_ | refine X5 ?_
  exact X1 ⟨_, St.le_refl _, ⟨⟨100, 0, _, rfl, rfl, .inr ⟨3, _, rfl, rfl, rfl, rfl⟩⟩, rfl, trivial⟩, X2 _⟩
 by_cases k6 : op = 6
 ·subst k6
  repeat first | refine X0 ?_ | (refine JR ?_; (repeat first | refine Z1 ?_ | refine Z0 ?_ | refine Zs ?_ | refine Zr (γ := 100) ?_ | refine Zu ?_ | refine Zt ?_); refine JD ?_) | refine JT ?_ | refine JF ?_ | refine X5 ?_
  exact X1 ⟨_, St.le_refl _, ⟨⟨100, 0, _, rfl, rfl, .inr ⟨3, _, rfl, rfl, rfl, rfl⟩⟩, rfl, trivial⟩, X2 _⟩
 rw [show Uf op = (false, false, false, false) by unfold Uf XT XP; rw [decide_eq_false (by omega), decide_eq_false (by omega), decide_eq_false (by omega), decide_eq_false (by omega)]]
 repeat first | refine X0 ?_ | (refine JR ?_; (repeat first | refine Z1 ?_ | refine Z0 ?_ | refine Zs ?_ | refine Zr (γ := 100) ?_ | refine Zu ?_ | refine Zt ?_); refine JD ?_) | refine JF ?_ | refine X5 ?_ | refine X3 ?_
 exact X1 ⟨_, St.le_refl _, ⟨⟨100, 0, _, rfl, rfl, .inr ⟨3, _, rfl, rfl, rfl, rfl⟩⟩, rfl, trivial⟩, X2 _⟩
def YF (k : Int) : Bool × Bool × Bool × Bool := (Vm k, decide (k = 3 ∨ k = 5 ∨ k = 7), decide (k = 6), decide (1 ≤ k ∧ k ≤ 7))
theorem X9u (op : Int) : Con Tryd.prog 41 [] [ai op] [] (.tup [.agg [ab (YF op).1, ab (YF op).2.1, ab (YF op).2.2.1], ab (YF op).2.2.2]) := by
 refine Xb (xs := [.agg [ab (YF op).1, ab (YF op).2.1, ab (YF op).2.2.1], ab (YF op).2.2.2]) Tryd.func41 rfl Tryd.ntmps41 rfl rfl rfl (fun E => ?_)
 by_cases k1 : op = 1
 ·subst k1
  refine X0 ?_; refine JR ?_; refine Zr (γ := 100) ?_; refine Z0 ?_; refine JD ?_; refine X0 ?_; refine X0 ?_; refine JR ?_; refine Z1 ?_; refine JD ?_; refine X5 ?_; refine X0 ?_
  refine X0 ?_; refine JR ?_; refine Zs ?_; refine Z0 ?_; refine JD ?_; refine JT ?_; refine X3 ?_; refine JT ?_; refine X0 ?_; refine JR ?_; refine Zt ?_; refine Zu ?_; refine Z0 ?_; refine JD ?_
  exact X1 ⟨_, St.le_refl _, ⟨⟨100, 0, _, rfl, rfl, .inr ⟨3, _, rfl, rfl, rfl, rfl⟩⟩, rfl, trivial⟩, X2 _⟩
 by_cases k2 : op = 2
 ·subst k2
  refine X0 ?_; refine JR ?_; refine Zr (γ := 100) ?_; refine Z0 ?_; refine JD ?_; refine X0 ?_; refine X0 ?_; refine JR ?_; refine Z1 ?_; refine JD ?_; refine X5 ?_; refine X0 ?_
  refine X0 ?_; refine JR ?_; refine Zs ?_; refine Z0 ?_; refine JD ?_; refine JF ?_; refine X0 ?_; refine JR ?_; refine Zs ?_; refine Z0 ?_; refine JD ?_; refine JT ?_; refine X3 ?_; refine JT ?_
  refine X0 ?_; refine JR ?_; refine Zt ?_; refine Zu ?_; refine Z0 ?_; refine JD ?_
  exact X1 ⟨_, St.le_refl _, ⟨⟨100, 0, _, rfl, rfl, .inr ⟨3, _, rfl, rfl, rfl, rfl⟩⟩, rfl, trivial⟩, X2 _⟩
 by_cases k4 : op = 4
 ·subst k4
  repeat first | refine X0 ?_ | (refine JR ?_; (repeat first | refine Z1 ?_ | refine Z0 ?_ | refine Zs ?_ | refine Zr (γ := 100) ?_ | refine Zu ?_ | refine Zt ?_); refine JD ?_) | refine JT ?_ | refine JF ?_ | refine X5 ?_
  exact X1 ⟨_, St.le_refl _, ⟨⟨100, 0, _, rfl, rfl, .inr ⟨3, _, rfl, rfl, rfl, rfl⟩⟩, rfl, trivial⟩, X2 _⟩
 by_cases k3 : op = 3
 ·subst k3
  repeat first | refine X0 ?_ | (refine JR ?_; (repeat first | refine Z1 ?_ | refine Z0 ?_ | refine Zs ?_ | refine Zr (γ := 100) ?_ | refine Zu ?_ | refine Zt ?_); refine JD ?_) | refine JT ?_ | refine JF ?_ | refine X5 ?_ | refine X3 ?_
  exact X1 ⟨_, St.le_refl _, ⟨⟨100, 0, _, rfl, rfl, .inr ⟨3, _, rfl, rfl, rfl, rfl⟩⟩, rfl, trivial⟩, X2 _⟩
 by_cases k5 : op = 5
 ·subst k5
  repeat first | refine X0 ?_ | (refine JR ?_; (repeat first | refine Z1 ?_ | refine Z0 ?_ | refine Zs ?_ | refine Zr (γ := 100) ?_ | refine Zu ?_ | refine Zt ?_); refine JD ?_) | refine JT ?_ | refine JF ?_ | refine X5 ?_
  exact X1 ⟨_, St.le_refl _, ⟨⟨100, 0, _, rfl, rfl, .inr ⟨3, _, rfl, rfl, rfl, rfl⟩⟩, rfl, trivial⟩, X2 _⟩
 by_cases k6 : op = 6
 ·subst k6
  repeat first | refine X0 ?_ | (refine JR ?_; (repeat first | refine Z1 ?_ | refine Z0 ?_ | refine Zs ?_ | refine Zr (γ := 100) ?_ | refine Zu ?_ | refine Zt ?_); refine JD ?_) | refine JT ?_ | refine JF ?_ | refine X5 ?_
  exact X1 ⟨_, St.le_refl _, ⟨⟨100, 0, _, rfl, rfl, .inr ⟨3, _, rfl, rfl, rfl, rfl⟩⟩, rfl, trivial⟩, X2 _⟩
 by_cases k7 : op = 7
 ·subst k7
  repeat first | refine X0 ?_ | (refine JR ?_; (repeat first | refine Z1 ?_ | refine Z0 ?_ | refine Zs ?_ | refine Zr (γ := 100) ?_ | refine Zu ?_ | refine Zt ?_); refine JD ?_) | refine JT ?_ | refine JF ?_ | refine X5 ?_
  exact X1 ⟨_, St.le_refl _, ⟨⟨100, 0, _, rfl, rfl, .inr ⟨3, _, rfl, rfl, rfl, rfl⟩⟩, rfl, trivial⟩, X2 _⟩
 rw [show YF op = (false, false, false, false) by unfold YF Vm; rw [decide_eq_false (by omega), decide_eq_false (by omega), decide_eq_false (by omega), decide_eq_false (by omega)]]
 repeat first | refine X0 ?_ | (refine JR ?_; (repeat first | refine Z1 ?_ | refine Z0 ?_ | refine Zs ?_ | refine Zr (γ := 100) ?_ | refine Zu ?_ | refine Zt ?_); refine JD ?_) | refine JF ?_ | refine X5 ?_ | refine X3 ?_
 exact X1 ⟨_, St.le_refl _, ⟨⟨100, 0, _, rfl, rfl, .inr ⟨3, _, rfl, rfl, rfl, rfl⟩⟩, rfl, trivial⟩, X2 _⟩
theorem X3b (n : Int) : Con Tryd.prog 37 [] [ai n] [] (ab (idV n)) := by
 refine Xb (xs := [ab (idV n)]) Tryd.func37 rfl Tryd.ntmps37 rfl rfl rfl (fun E => ?_)
 by_cases h1 : 1 ≤ n
 ·by_cases h2 : n ≤ 1000000
  ·rw [show idV n = true by unfold idV; exact decide_eq_true ⟨h1, h2⟩]
   refine X0 ?_; refine JR ?_; refine Z0 ?_; refine JD ?_; refine X0 ?_; refine JR ?_; refine Z1 ?_; refine Z2 ?_; refine Z1 ?_; refine Z1 ?_; refine Zh ?_; refine Zi ?_; refine Z0 ?_; refine JD ?_
   first | exact X1 ⟨_, St.le_refl _, ⟨rfl, trivial⟩, X2 _⟩ | exact X1 ⟨_, Xi 2 (y := ab true) (AVal.le_of_eq (by refine Eq.trans (b := ab (decide _)) rfl ?_; exact congrArg ab (by simp; omega))), ⟨rfl, trivial⟩, X2 _⟩ | fail
  ·rw [show idV n = false by unfold idV; exact decide_eq_false (by omega)]
   refine X0 ?_; refine JR ?_; refine Z0 ?_; refine JD ?_; refine X0 ?_; refine JR ?_; refine Z1 ?_; refine Z2 ?_; refine Z1 ?_; refine Z1 ?_; refine Zh ?_; refine Zi ?_; refine Z0 ?_; refine JD ?_
   first | exact X1 ⟨_, St.le_refl _, ⟨rfl, trivial⟩, X2 _⟩ | exact X1 ⟨_, Xi 2 (y := ab false) (AVal.le_of_eq (by refine Eq.trans (b := ab (decide _)) rfl ?_; exact congrArg ab (by simp; omega))), ⟨rfl, trivial⟩, X2 _⟩ | fail
 ·rw [show idV n = false by unfold idV; exact decide_eq_false (by omega)]
  refine X0 ?_; refine JR ?_; refine Z0 ?_; refine JD ?_; refine X0 ?_; refine JR ?_; refine Z1 ?_; refine Z2 ?_; refine Z1 ?_; refine Zj ?_; refine Zj ?_; refine Zl ?_; refine Z0 ?_; refine JD ?_
  first | exact X1 ⟨_, St.le_refl _, ⟨rfl, trivial⟩, X2 _⟩ | exact X1 ⟨_, Xi 2 (y := ab false) (AVal.le_of_eq (by refine Eq.trans (b := ab (decide _)) rfl ?_; exact congrArg ab (by simp; omega))), ⟨rfl, trivial⟩, X2 _⟩ | fail
end Go.Fw
namespace Go.Fw
open Go Go.Proofs
set_option maxRecDepth 100000
set_option linter.unusedVariables false
set_option linter.unusedSimpArgs false
abbrev nj (n : Nat) : Value := .int .i64 n
def inV (n : Int) : Bool := decide (-1000000000000000 ≤ n ∧ n ≤ 1000000000000000)
theorem X19 (n : Int) : Con Tryd.prog 84 [] [ai n] [] (ab (inV n)) := by
 refine Xb (xs := [ab (inV n)]) Tryd.func84 rfl Tryd.ntmps84 rfl rfl rfl (fun E => ?_)
 by_cases h1 : -1000000000000000 ≤ n
 ·by_cases h2 : n ≤ 1000000000000000
  ·rw [show inV n = true by simp [inV, h1, h2]]
   refine X0 ?_; refine JR ?_; refine Z0 ?_; refine JD ?_; refine X0 ?_; refine JR ?_; refine Z1 ?_; refine Z2 ?_; refine Z1 ?_; refine Z1 ?_; refine Zh ?_; refine Zi ?_; refine Z0 ?_; refine JD ?_
   exact X1 ⟨_, Xi 2 (y := ab true) (AVal.le_of_eq (by refine Eq.trans (b := ab (decide (n ≤ 1000000000000000))) rfl ?_; rw [decide_eq_true h2])), ⟨rfl, trivial⟩, X2 _⟩
  ·rw [show inV n = false by simp [inV, h2]]
   refine X0 ?_; refine JR ?_; refine Z0 ?_; refine JD ?_; refine X0 ?_; refine JR ?_; refine Z1 ?_; refine Z2 ?_; refine Z1 ?_; refine Z1 ?_; refine Zh ?_; refine Zi ?_; refine Z0 ?_; refine JD ?_
   exact X1 ⟨_, Xi 2 (y := ab false) (AVal.le_of_eq (by refine Eq.trans (b := ab (decide (n ≤ 1000000000000000))) rfl ?_; rw [decide_eq_false h2])), ⟨rfl, trivial⟩, X2 _⟩
 ·rw [show inV n = false by simp [inV, h1]]
  refine X0 ?_; refine JR ?_; refine Z0 ?_; refine JD ?_; refine X0 ?_; refine JR ?_; refine Z1 ?_; refine Z2 ?_; refine Z1 ?_; refine Zj ?_; refine Zj ?_; refine Zl ?_; refine Z0 ?_; refine JD ?_
  exact X1 ⟨_, Xi 2 (y := ab false) (AVal.le_refl _), ⟨rfl, trivial⟩, X2 _⟩
theorem X9j (n : Int) : Con Tryd.prog 75 [] [ai n] [] (ab (inV n)) := by
 refine Xb (xs := [ab (inV n)]) Tryd.func75 rfl Tryd.ntmps75 rfl rfl rfl (fun E => ?_)
 by_cases h1 : -1000000000000000 ≤ n
 ·by_cases h2 : n ≤ 1000000000000000
  ·rw [show inV n = true by simp [inV, h1, h2]]
   refine X0 ?_; refine JR ?_; refine Z0 ?_; refine JD ?_; refine X0 ?_; refine JR ?_; refine Z1 ?_; refine Z2 ?_; refine Z1 ?_; refine Z1 ?_; refine Zh ?_; refine Zi ?_; refine Z0 ?_; refine JD ?_
   exact X1 ⟨_, Xi 2 (y := ab true) (AVal.le_of_eq (by refine Eq.trans (b := ab (decide (n ≤ 1000000000000000))) rfl ?_; rw [decide_eq_true h2])), ⟨rfl, trivial⟩, X2 _⟩
  ·rw [show inV n = false by simp [inV, h2]]
   refine X0 ?_; refine JR ?_; refine Z0 ?_; refine JD ?_; refine X0 ?_; refine JR ?_; refine Z1 ?_; refine Z2 ?_; refine Z1 ?_; refine Z1 ?_; refine Zh ?_; refine Zi ?_; refine Z0 ?_; refine JD ?_
   exact X1 ⟨_, Xi 2 (y := ab false) (AVal.le_of_eq (by refine Eq.trans (b := ab (decide (n ≤ 1000000000000000))) rfl ?_; rw [decide_eq_false h2])), ⟨rfl, trivial⟩, X2 _⟩
 ·rw [show inV n = false by simp [inV, h1]]
  refine X0 ?_; refine JR ?_; refine Z0 ?_; refine JD ?_; refine X0 ?_; refine JR ?_; refine Z1 ?_; refine Z2 ?_; refine Z1 ?_; refine Zj ?_; refine Zj ?_; refine Zl ?_; refine Z0 ?_; refine JD ?_
  exact X1 ⟨_, Xi 2 (y := ab false) (AVal.le_refl _), ⟨rfl, trivial⟩, X2 _⟩
theorem X4j (n : Int) (h : -1000000000000000 ≤ n ∧ n ≤ 1000000000000000) : Con Tryd.prog 99 [] [ai n] [] (ai (n.natAbs : Nat)) := by
 refine Xb (xs := [ai (n.natAbs : Nat)]) Tryd.func99 rfl Tryd.ntmps99 rfl rfl rfl (fun E => ?_)
 refine X0 ?_; refine JR ?_; refine Z0 ?_; refine JD ?_; refine X0 ?_; refine JR ?_; refine Z1 ?_; refine Z1 ?_; refine Zp ?_; refine Zv ?_; refine Z0 ?_; refine JD ?_
 exact X1 ⟨_, Xi 2 (y := ai (n.natAbs : Nat)) (AVal.le_of_eq (by refine Eq.trans (b := ai (max n (-n))) rfl ?_; congr 3; omega)), ⟨rfl, trivial⟩, X2 _⟩
theorem X20 (n : Int) (h : -1000000000000000 ≤ n ∧ n ≤ 1000000000000000) : Con Tryd.prog 64 [] [ai n] [] (ai (n.natAbs : Nat)) := by
 refine Xb (xs := [ai (n.natAbs : Nat)]) Tryd.func64 rfl Tryd.ntmps64 rfl rfl rfl (fun E => ?_)
 by_cases h0 : n < 0
 ·refine X0 ?_; refine JR ?_; refine Z0 ?_; refine JD ?_; refine X0 ?_; refine X0 ?_; refine JR ?_; refine Z1 ?_; refine Z7 ?_; refine JD ?_; refine JT ?_; refine X0 ?_; refine JR ?_; refine Z1 ?_
  refine Zp ?_; refine Z0 ?_; refine JD ?_
  exact X1 ⟨_, Xi 2 (y := ai (n.natAbs : Nat)) (AVal.le_of_eq (by refine Eq.trans (b := ai (-n)) rfl ?_; congr 3; omega)), ⟨rfl, trivial⟩, X2 _⟩
 ·refine X0 ?_; refine JR ?_; refine Z0 ?_; refine JD ?_; refine X0 ?_; refine X0 ?_; refine JR ?_; refine Z1 ?_; refine Z7 ?_; refine JD ?_; refine JF ?_; refine X3 ?_; refine X0 ?_; refine JR ?_
  refine Z1 ?_; refine Z0 ?_; refine JD ?_
  exact X1 ⟨_, Xi 2 (y := ai (n.natAbs : Nat)) (AVal.le_of_eq (by refine Eq.trans (b := ai n) rfl ?_; congr 3; omega)), ⟨rfl, trivial⟩, X2 _⟩
theorem X8e (a b : Int) (ha : -1000000000000000 ≤ a ∧ a ≤ 1000000000000000) (hb : -1000000000000000 ≤ b ∧ b ≤ 1000000000000000) : Con Tryd.prog 94 [] [ai a, ai b] [] (ai (Nat.gcd a.natAbs b.natAbs : Nat)) := by
 refine Xb (xs := [ai (Nat.gcd a.natAbs b.natAbs : Nat)]) Tryd.func94 rfl Tryd.ntmps94 rfl rfl rfl (fun E => ?_)
 have h1 : Con Tryd.prog 84 [] [ai a] [] (ab true) := by
  have h := X19 a
  rwa [show inV a = true by simpa [inV] using ha] at h
 have h2 : Con Tryd.prog 84 [] [ai b] [] (ab true) := by
  have h := X19 b
  rwa [show inV b = true by simpa [inV] using hb] at h
 refine X0 ?_; refine JR ?_; refine Z0 ?_; refine JD ?_; refine X0 ?_; refine X0 ?_; refine JR ?_; refine Z1 ?_; refine Z8 (hcon := h1) ?_; refine Zp ?_; refine Z1 ?_; refine Z1 ?_
 refine Z8 (hcon := h2) ?_; refine Zp ?_; refine Zl ?_; refine JD ?_; refine JF ?_; refine X3 ?_; refine X0 ?_; refine JR ?_; refine Z1 ?_; refine Z8 (hcon := X4j a ha) ?_; refine Z1 ?_
 refine Z8 (hcon := X4j b hb) ?_; refine Z0 ?_; refine Z0 ?_; refine JD ?_; refine X0 ?_; refine X5 ?_
 refine XR (ι := Nat × Nat) (fun i => Nat.gcd i.1 i.2 = Nat.gcd a.natAbs b.natAbs) (fun i => ⟨24, [(0, ai i.1), (1, ai i.2)], []⟩) (fun i => i.2) (a.natAbs, b.natAbs) rfl
  (Xg rfl ⟨JL, JL, trivial⟩ trivial) ?_
 rintro ⟨x, y⟩ hg
 simp only at hg
 by_cases hy : y = 0
 ·subst hy
  rw [← hg, Nat.gcd_zero_right]
  refine X0 ?_; refine X0 ?_; refine JR ?_; refine Z1 ?_; refine Zq ?_; refine JD ?_; refine JF ?_; refine Xt ?_; refine X0 ?_; refine JR ?_; refine Z1 ?_; refine Z0 ?_; refine JD ?_
  exact X1 ⟨_, St.le_refl _, ⟨rfl, trivial⟩, X2 _⟩
 ·have hy' : ¬ ((y : Int) = 0) := by omega
  refine X0 ?_; refine X0 ?_; refine JR ?_; refine Z1 ?_; refine Zq ?_; refine JD ?_; refine JT ?_; refine X3 ?_; refine X5 ?_; refine JR ?_; refine Z1 ?_; refine Z1 ?_; refine Z1 ?_
  refine Zw (op := .rem) (r' := nj (x % y)) (u := nj x) (v := nj y) ?_ (hr := by exact Yy hy); refine Z0 ?_; refine Z0 ?_; refine JD ?_
  exact ⟨(y, x % y), by simp only; rw [← hg, Nat.gcd_comm x y, Nat.gcd_rec y x, Nat.gcd_comm], Nat.mod_lt _ (by omega), Xg rfl ⟨JL, JL, trivial⟩ trivial⟩
theorem Xab (x y : Nat) (hx : x ≤ 1000000000000000) (hy : y ≤ 1000000000000000) : Con Tryd.prog 79 [] [ai x, ai y] [] (ai (Nat.gcd x y : Nat)) := by
 refine Xb (xs := [ai (Nat.gcd x y : Nat)]) Tryd.func79 rfl Tryd.ntmps79 rfl rfl rfl (fun E => ?_)
 refine X0 ?_; refine JR ?_; refine Z0 ?_; refine JD ?_; refine X0 ?_; refine X5 ?_
 generalize hG : Nat.gcd x y = G
 refine XR (ι := Nat × Nat) (fun i => Nat.gcd i.1 i.2 = G) (fun i => ⟨12, [(0, ai i.1), (1, ai i.2)], []⟩) (fun i => i.2) (x, y) hG
  (Xg rfl ⟨JL, JL, trivial⟩ trivial) ?_
 rintro ⟨x, y⟩ hg
 simp only at hg
 by_cases hy : y = 0
 ·subst hy
  rw [← hg, Nat.gcd_zero_right]
  refine X0 ?_; refine X0 ?_; refine JR ?_; refine Z1 ?_; refine Zn ?_; refine JD ?_; refine JF ?_; refine Xt ?_; refine X0 ?_; refine JR ?_; refine Z1 ?_; refine Z0 ?_; refine JD ?_
  exact X1 ⟨_, St.le_refl _, ⟨rfl, trivial⟩, X2 _⟩
 ·have hy' : (0 : Int) < y := by omega
  refine X0 ?_; refine X0 ?_; refine JR ?_; refine Z1 ?_; refine Zn ?_; refine JD ?_; refine JT ?_; refine X3 ?_; refine X5 ?_; refine JR ?_; refine Z1 ?_; refine Z1 ?_; refine Z1 ?_
  refine Zw (op := .rem) (r' := nj (x % y)) (u := nj x) (v := nj y) ?_ (hr := by exact Yy hy); refine Z0 ?_; refine Z0 ?_; refine JD ?_
  exact ⟨(y, x % y), by simp only; rw [← hg, Nat.gcd_comm x y, Nat.gcd_rec y x, Nat.gcd_comm], Nat.mod_lt _ (by omega), Xg rfl ⟨JL, JL, trivial⟩ trivial⟩
abbrev X0w (n d : Int) : AVal := .agg [ai n, ai d]
theorem VV {n d : Int} (h : ¬ (1 ≤ d ∧ d ≤ 1000000000000000 ∧ -1000000000000000 ≤ n ∧ n ≤ 1000000000000000)) : YV n d = false := by simp only [YV, decide_eq_false h, Bool.false_and]
theorem X4t {n d : Int} (h : 1 ≤ d ∧ d ≤ 1000000000000000 ∧ -1000000000000000 ≤ n ∧ n ≤ 1000000000000000) : YV n d = decide (Nat.gcd n.natAbs d.natAbs = 1) := by simp only [YV, decide_eq_true h, Bool.true_and]
theorem Xa6 (n d : Int) : Con Tryd.prog 85 [] [X0w n d] [] (ab (YV n d)) := by
 refine Xb (xs := [ab (YV n d)]) Tryd.func85 rfl Tryd.ntmps85 rfl rfl rfl (fun E => ?_)
 by_cases h1 : 1 ≤ d
 case neg =>
  rw [VV (by omega)]
  repeat first | refine X0 ?_ | (refine JR ?_; (repeat first | refine Z1 ?_ | refine Z0 ?_ | refine Zy ?_ | refine Zz ?_ | refine Z2 ?_ | refine Zx (γ := 100) ?_ | refine Zl ?_ | refine Zj ?_); refine JD ?_)
  exact X1 ⟨_, St.le_refl _, ⟨rfl, trivial⟩, X2 _⟩
 by_cases h2 : d ≤ 1000000000000000
 case neg =>
  rw [VV (by omega)]
  refine X0 ?_; refine JR ?_; refine Zx (γ := 100) ?_; refine Z0 ?_; refine JD ?_; refine X0 ?_; refine JR ?_; refine Zy ?_; refine Zz ?_; refine Z2 ?_; refine Z1 ?_; refine Zy ?_; refine Zz ?_; refine Zh ?_
  refine Zi ?_; refine Z1 ?_; refine Zj ?_; refine Zj ?_; refine Zj ?_; refine Zl ?_; refine Z1 ?_; refine Zj ?_; refine Zj ?_; refine Zj ?_; refine Zj ?_; refine Zj ?_; refine Zj ?_; refine Zl ?_; refine Z0 ?_
  refine JD ?_
  exact X1 ⟨_, St.le_refl _, ⟨rfl, trivial⟩, X2 _⟩
 by_cases h3 : -1000000000000000 ≤ n ∧ n ≤ 1000000000000000
 case neg =>
  rw [VV (by omega)]
  have hin : Con Tryd.prog 84 [] [ai n] [] (ab false) := by
   have h := X19 n
   rwa [show inV n = false by simpa [inV] using h3] at h
  refine X0 ?_; refine JR ?_; refine Zx (γ := 100) ?_; refine Z0 ?_; refine JD ?_; refine X0 ?_; refine JR ?_; refine Zy ?_; refine Zz ?_; refine Z2 ?_; refine Z1 ?_; refine Zy ?_; refine Zz ?_; refine Zh ?_
  refine Zi ?_; refine Z1 ?_; refine Zy ?_; refine Zz ?_; refine Z8 (hcon := hin) ?_; refine Zi ?_; refine Z1 ?_; refine Zj ?_; refine Zj ?_; refine Zj ?_; refine Zj ?_; refine Zj ?_; refine Zj ?_; refine Zl ?_
  refine Z0 ?_; refine JD ?_
  exact X1 ⟨_, St.le_refl _, ⟨rfl, trivial⟩, X2 _⟩
 rw [X4t (by omega)]
 have hin : Con Tryd.prog 84 [] [ai n] [] (ab true) := by
  have h := X19 n
  rwa [show inV n = true by simpa [inV] using h3] at h
 refine X0 ?_; refine JR ?_; refine Zx (γ := 100) ?_; refine Z0 ?_; refine JD ?_; refine X0 ?_; refine JR ?_; refine Zy ?_; refine Zz ?_; refine Z2 ?_; refine Z1 ?_; refine Zy ?_; refine Zz ?_; refine Zh ?_
 refine Zi ?_; refine Z1 ?_; refine Zy ?_; refine Zz ?_; refine Z8 (hcon := hin) ?_; refine Zi ?_; refine Z1 ?_; refine Zy ?_; refine Zz ?_; refine Zy ?_; refine Zz ?_; refine Z8 (hcon := X8e n d h3 (by omega)) ?_
 refine Zs ?_; refine Zi ?_; refine Z0 ?_; refine JD ?_
 exact X1 ⟨_, Xi 2 (y := ab (decide (Nat.gcd n.natAbs d.natAbs = 1))) (AVal.le_of_eq (by refine Eq.trans (b := ab (decide (((Nat.gcd n.natAbs d.natAbs : Nat) : Int) = 1))) rfl ?_; exact congrArg ab (decide_eq_decide.2 (by omega)))), ⟨rfl, trivial⟩, X2 _⟩
theorem X43 (n d : Int) : Con Tryd.prog 60 [] [X0w n d] [] (ab (YV n d)) := by
 refine Xb (xs := [ab (YV n d)]) Tryd.func60 rfl Tryd.ntmps60 rfl rfl rfl (fun E => ?_)
 by_cases h1 : 1 ≤ d
 case neg =>
  rw [VV (by omega)]
  repeat first | refine X0 ?_ | (refine JR ?_; (repeat first | refine Z1 ?_ | refine Z0 ?_ | refine Zy ?_ | refine Zz ?_ | refine Z2 ?_ | refine Zx (γ := 100) ?_ | refine Zl ?_ | refine Zj ?_); refine JD ?_)
  exact X1 ⟨_, St.le_refl _, ⟨rfl, trivial⟩, X2 _⟩
 by_cases h2 : d ≤ 1000000000000000
 case neg =>
  rw [VV (by omega)]
  repeat first | refine X0 ?_ | (refine JR ?_; (repeat first | refine Z1 ?_ | refine Z0 ?_ | refine Zy ?_ | refine Zz ?_ | refine Zh ?_ | refine Z2 ?_ | refine Zx (γ := 100) ?_ | refine Zi ?_ | refine Zl ?_ | refine Zj ?_); refine JD ?_)
  exact X1 ⟨_, St.le_refl _, ⟨rfl, trivial⟩, X2 _⟩
 by_cases h3 : -1000000000000000 ≤ n
 case neg =>
  rw [VV (by omega)]
  repeat first | refine X0 ?_ | (refine JR ?_; (repeat first | refine Z1 ?_ | refine Z0 ?_ | refine Zy ?_ | refine Zz ?_ | refine Zh ?_ | refine Z2 ?_ | refine Zx (γ := 100) ?_ | refine Zi ?_ | refine Zl ?_ | refine Zj ?_); refine JD ?_)
  exact X1 ⟨_, St.le_refl _, ⟨rfl, trivial⟩, X2 _⟩
 by_cases h4 : n ≤ 1000000000000000
 case neg =>
  rw [VV (by omega)]
  repeat first | refine X0 ?_ | (refine JR ?_; (repeat first | refine Z1 ?_ | refine Z0 ?_ | refine Zy ?_ | refine Zz ?_ | refine Zh ?_ | refine Z2 ?_ | refine Zx (γ := 100) ?_ | refine Zi ?_ | refine Zl ?_ | refine Zj ?_); refine JD ?_)
  exact X1 ⟨_, St.le_refl _, ⟨rfl, trivial⟩, X2 _⟩
 rw [X4t (by omega)]
 obtain ⟨e, rfl⟩ : ∃ e : Nat, d = e := ⟨d.toNat, by omega⟩
 refine X0 ?_; refine JR ?_; refine Zx (γ := 100) ?_; refine Z0 ?_; refine JD ?_; refine X0 ?_; refine JR ?_; refine Zy ?_; refine Zz ?_; refine Z2 ?_; refine Z1 ?_; refine Zy ?_; refine Zz ?_; refine Zh ?_
 refine Zi ?_; refine Z1 ?_; refine Zy ?_; refine Zz ?_; refine Z2 ?_; refine Zi ?_; refine Z1 ?_; refine Zy ?_; refine Zz ?_; refine Zh ?_; refine Zi ?_; refine Z1 ?_; refine Zy ?_; refine Zz ?_
 refine Z8 (hcon := X20 n ⟨h3, h4⟩) ?_; refine Zy ?_; refine Zz ?_; refine Z8 (hcon := Xab n.natAbs e (by omega) (by omega)) ?_; refine Zs ?_; refine Zi ?_; refine Z0 ?_; refine JD ?_
 exact X1 ⟨_, Xi 2 (y := ab (decide (Nat.gcd n.natAbs (e : Int).natAbs = 1))) (AVal.le_of_eq (by refine Eq.trans (b := ab (decide (((Nat.gcd n.natAbs e : Nat) : Int) = 1))) rfl ?_; exact congrArg ab (decide_eq_decide.2 (by rw [Int.natAbs_natCast]; omega)))), ⟨rfl, trivial⟩, X2 _⟩
end Go.Fw
namespace Go.Fw
open Go Go.Proofs
set_option maxRecDepth 100000
set_option linter.unusedVariables false
set_option linter.unusedSimpArgs false
abbrev X0U (l : List UInt8) : AVal := .d (.v (.string (X4 l)))
def okB (b : UInt8) : Bool := decide (32 ≤ b.toNat ∧ b.toNat ≤ 126)
def UF (s : List UInt8) : Int := if YJ s then -1 else (s.takeWhile okB).length
theorem X6i {s : List UInt8} : (UF s < 0) ↔ YJ s = true := by
 unfold UF
 cases YJ s <;> simp
theorem X3s {s : List UInt8} {p : Nat} (h : ∀ j, j < p → ∃ b, s[j]? = some b ∧ okB b = true) (hp : p = s.length) : YJ s = true := by
 unfold YJ
 rw [List.all_eq_true]
 intro x hx
 obtain ⟨i, hi⟩ := List.getElem?_of_mem hx
 obtain ⟨b, h1, h2⟩ := h i (by rw [hp]; exact (List.getElem?_eq_some_iff.1 hi).1)
 rw [hi] at h1; cases h1; exact h2
theorem X8f {s : List UInt8} {p : Nat} {c : UInt8} (h : ∀ j, j < p → ∃ b, s[j]? = some b ∧ okB b = true) (hc : s[p]? = some c) (hb : okB c = false) : UF s = p := by
 have h1 : YJ s = false := by
  cases hs : YJ s with
  | false => rfl
  | true =>
   unfold YJ at hs
   rw [List.all_eq_true] at hs
   have := hs c (List.mem_of_getElem? hc)
   unfold okB at hb
   rw [hb] at this; simp at this
 unfold UF
 rw [h1, X1x s p h (fun b hb' => by rw [hc] at hb'; cases hb'; exact hb)]
 simp
theorem X5q (l : List UInt8) {p : Nat} {c : UInt8} (h : l[p]? = some c) (hp : p < (X4 l).size) : (X4 l)[p] = c := by
 have h1 := (List.getElem?_eq_some_iff.1 h).2
 exact h1
theorem X74 (c : Nat) (hc : c ≤ 2147483647) : Con Tryd.prog 87 [] [.d (.v (.int .i32 c))] [] (ab (!decide (32 ≤ c ∧ c ≤ 126))) := by
 refine Xb (xs := [ab (!decide (32 ≤ c ∧ c ≤ 126))]) Tryd.func87 rfl Tryd.ntmps87 rfl rfl rfl (fun E => ?_)
 by_cases h1 : c < 32
 ·rw [show (!decide (32 ≤ c ∧ c ≤ 126)) = true by simp; omega]
  refine X0 ?_; refine JR ?_; refine Z0 ?_; refine JD ?_; refine X0 ?_; refine JR ?_; refine Z1 ?_; refine Z7 ?_; refine Z1 ?_; refine Zj ?_; refine Zj ?_; refine Zi ?_; refine Z0 ?_; refine JD ?_
  exact X1 ⟨_, St.le_refl _, ⟨rfl, trivial⟩, X2 _⟩
 ·by_cases h2 : 126 < c
  ·rw [show (!decide (32 ≤ c ∧ c ≤ 126)) = true by simp; omega]
   refine X0 ?_; refine JR ?_; refine Z0 ?_; refine JD ?_; refine X0 ?_; refine JR ?_; refine Z1 ?_; refine Z7 ?_; refine Z1 ?_; refine Z1 ?_; refine Zn ?_; refine Zl ?_; refine Z0 ?_; refine JD ?_
   exact X1 ⟨_, Xi 2 (y := ab true) (AVal.le_of_eq (by refine Eq.trans (b := ab (decide (126 < (c : Int)))) rfl ?_; exact congrArg ab (decide_eq_true (by omega)))), ⟨rfl, trivial⟩, X2 _⟩
  ·rw [show (!decide (32 ≤ c ∧ c ≤ 126)) = false by simp; omega]
   refine X0 ?_; refine JR ?_; refine Z0 ?_; refine JD ?_; refine X0 ?_; refine JR ?_; refine Z1 ?_; refine Z7 ?_; refine Z1 ?_; refine Z1 ?_; refine Zn ?_; refine Zl ?_; refine Z0 ?_; refine JD ?_
   exact X1 ⟨_, Xi 2 (y := ab false) (AVal.le_of_eq (by refine Eq.trans (b := ab (decide (126 < (c : Int)))) rfl ?_; exact congrArg ab (decide_eq_false (by omega)))), ⟨rfl, trivial⟩, X2 _⟩
theorem X7G (s : List UInt8) (hs : s.length ≤ 9223372036854775807) : Con Tryd.prog 95 [] [X0U s, .fn 87 [], ab true] [] (ai (UF s)) := by
 refine Xb (xs := [ai (UF s)]) Tryd.func95 rfl Tryd.ntmps95 rfl rfl rfl (fun E => ?_)
 have hsz : (X4 s).size = s.length := rfl
 refine X0 ?_; refine JR ?_; refine Z0 ?_; refine JD ?_; refine X0 ?_; refine X0 ?_; refine JR ?_; refine Z1 ?_; refine ZA (γ := 100) ?_; refine JD ?_; refine X5 ?_
 refine XR (fun p : Nat => p ≤ s.length ∧ ∀ j, j < p → ∃ b, s[j]? = some b ∧ okB b = true) (fun p => ⟨21, [(1, .fn 87 []), (2, ab true), (10, .ptr 100 0)], [(100, .iter (X4 s) p)]⟩) (fun p => s.length - p) 0 ⟨by omega, fun j hj => by omega⟩
  (Xg rfl ⟨JL, JL, JL, trivial⟩ ⟨rfl, trivial⟩) ?_
 rintro p ⟨hp, hall⟩
 by_cases hlt : p < s.length
 ·obtain ⟨c, hc⟩ := XX (l := s) hlt
  have hlt' : p < (X4 s).size := hlt
  have hget := X5q s hc hlt'
  have hr := X74 (Utf8.decode (X4 s) p).1 (decode_le _ _)
  have go : okB c = true → Utf8.decode (X4 s) p = (c.toNat, 1) := fun hok => decode_ascii _ _ hlt' (by unfold okB at hok; rw [decide_eq_true_eq] at hok; rw [hget]; omega) |>.trans (by rw [hget])
  cases hok : okB c with
  | true =>
   have hd := go hok
   rw [show (!decide (32 ≤ (Utf8.decode (X4 s) p).1 ∧ (Utf8.decode (X4 s) p).1 ≤ 126)) = false by rw [hd]; unfold okB at hok; simp only; rw [hok]; rfl] at hr
   refine X0 ?_; refine JR ?_; refine ZB ?_; refine ZC ?_; refine JD ?_; refine X0 ?_; refine JT ?_; refine X3 ?_; refine X5 ?_; refine X0 ?_; refine JR ?_; refine ZC ?_; refine ZC ?_
   refine Z0 ?_; refine Z0 ?_; refine JD ?_; refine X0 ?_; refine JR ?_; refine Z1 ?_; refine Z1 ?_; refine ZD (hcon := hr) ?_; refine Z1 ?_; refine ZE ?_; refine JD ?_; refine JF ?_; refine X3 ?_
   refine ⟨p + 1, ⟨by omega, fun j hj => ?_⟩, by omega, Xg rfl ⟨JL, JL, JL, trivial⟩ ⟨?_, trivial⟩⟩
   ·by_cases e : j = p
    ·subst e; exact ⟨c, hc, hok⟩
    ·exact hall j (by omega)
   ·refine Eq.trans (b := AObj.iter (X4 s) (p + (Utf8.decode (X4 s) p).2)) rfl ?_
    rw [hd]
  | false =>
   rw [X8f hall hc hok]
   have hbad : (!decide (32 ≤ (Utf8.decode (X4 s) p).1 ∧ (Utf8.decode (X4 s) p).1 ≤ 126)) = true := by
    by_cases ha : c.toNat < 128
    ·rw [decode_ascii _ _ hlt' (by rw [hget]; exact ha), hget]
     unfold okB at hok
     simp only; rw [hok]; rfl
    ·have := (decode_high (X4 s) p hlt' (by rw [hget]; omega)).1
     simp; omega
   rw [hbad] at hr
   refine X0 ?_; refine JR ?_; refine ZB ?_; refine ZC ?_; refine JD ?_; refine X0 ?_; refine JT ?_; refine X3 ?_; refine X5 ?_; refine X0 ?_; refine JR ?_; refine ZC ?_; refine ZC ?_
   refine Z0 ?_; refine Z0 ?_; refine JD ?_; refine X0 ?_; refine JR ?_; refine Z1 ?_; refine Z1 ?_; refine ZD (hcon := hr) ?_; refine Z1 ?_; refine ZE ?_; refine JD ?_; refine JT ?_; refine X0 ?_; refine JR ?_
   refine Z1 ?_; refine Z0 ?_; refine JD ?_
   exact X1 ⟨_, St.le_refl _, ⟨rfl, trivial⟩, X2 _⟩
 ·obtain rfl : p = s.length := by omega
  rw [show UF s = -1 by unfold UF; rw [X3s hall rfl]; rfl]
  have hge : (X4 s).size ≤ s.length := Nat.le_refl _
  refine X0 ?_; refine JR ?_; refine ZF ?_; refine ZC ?_; refine JD ?_; refine X0 ?_; refine JF ?_; refine Xt ?_; refine X0 ?_; refine JR ?_; refine Z0 ?_; refine JD ?_
  exact X1 ⟨_, St.le_refl _, ⟨rfl, trivial⟩, X2 _⟩
theorem X9M (s : List UInt8) (hs : s.length ≤ 9223372036854775807) : Con Tryd.prog 86 [] [X0U s, .fn 87 []] [] (ai (UF s)) := by
 refine Xb (xs := [ai (UF s)]) Tryd.func86 rfl Tryd.ntmps86 rfl rfl rfl (fun E => ?_)
 refine X0 ?_; refine JR ?_; refine Z0 ?_; refine JD ?_; refine X0 ?_; refine JR ?_; refine Z1 ?_; refine Z1 ?_; refine Z8 (hcon := X7G s hs) ?_; refine Z0 ?_; refine JD ?_
 exact X1 ⟨_, St.le_refl _, ⟨rfl, trivial⟩, X2 _⟩
end Go.Fw
namespace Go.Fw
open Go Go.Proofs
set_option maxRecDepth 100000
set_option linter.unusedVariables false
set_option linter.unusedSimpArgs false
def Xh : Val → AVal
 | .mk k n d s l => .agg [ai k, ai n, ai d, X0U s, .d (.sl 5 (Xm l))]
def Yx (l : List Val) : Bool := decide (l.length % 2 = 1 ∧ l.length ≤ 25) && Yh 0 l
theorem X3m {v : Val} (h : v.kind = 5 ∨ v.kind = 6) (m m' : Nat) : X6 m v = X6 m' v := by
 obtain ⟨k, n, d, s, l⟩ := v
 have h : k = 5 ∨ k = 6 := h
 rw [X6, X6]
 rcases h with rfl | rfl <;> simp
theorem U3 (l : List Val) : (Xm l).length = l.length := by rw [Vl, List.length_map]
theorem X0d {l : List Val} {i : Nat} {x : Val} (h : l[i]? = some x) : (Xm l)[i]? = some (YK x) := by rw [Vl]; exact Ua h
theorem X2z {i : Nat} {l : List Val} {x : Val} (h : l[i]? = some x) : Yh i (l.drop i) = (decide (x.kind = 5 + (i % 2 : Nat)) && X6 0 x && Yh (i + 1) (l.drop (i + 1))) := by
 rw [List.drop_eq_getElem_cons (List.getElem?_eq_some_iff.1 h).1, (List.getElem?_eq_some_iff.1 h).2, Yh]
theorem X6u {m i : Nat} {l : List Val} {x : Val} (h : l[i]? = some x) : Yk m (l.drop i) = (X6 m x && Yk m (l.drop (i + 1))) := by
 rw [List.drop_eq_getElem_cons (List.getElem?_eq_some_iff.1 h).1, (List.getElem?_eq_some_iff.1 h).2, Yk]
theorem X1B {i : Nat} {l : List Val} {x : Val} (h : l[i]? = some x) (hk : ¬ x.kind = 5 + (i % 2 : Nat)) : Yh i (l.drop i) = false := by
 rw [X2z h, decide_eq_false hk]; rfl
theorem X1l {i : Nat} {l : List Val} {x : Val} (h : l[i]? = some x) (hv : X6 0 x = false) : Yh i (l.drop i) = false := by
 rw [X2z h, hv, Bool.and_false]; rfl
theorem X1P {i : Nat} {l : List Val} {x : Val} (h : l[i]? = some x) (hk : x.kind = 5 + (i % 2 : Nat)) (hv : X6 0 x = true) : Yh i (l.drop i) = Yh (i + 1) (l.drop (i + 1)) := by
 rw [X2z h, decide_eq_true hk, hv]; rfl
def X1O (v : Val) : Prop := ∀ m : Nat, m ≤ 8 → Con Tryd.prog 68 [] [Xh v, ai (8 - m : Nat)] [] (ab (X6 m v))
def X3h (l : List Val) : Prop := Con Tryd.prog 88 [] [.d (.sl 5 (Xm l))] [] (ab (Yx l))
theorem X7q (l : List Val) (ih : ∀ x ∈ l, X1O x) : X3h l := by
 refine Xb (xs := [ab (Yx l)]) Tryd.func88 rfl Tryd.ntmps88 rfl rfl rfl (fun E => ?_)
 have hlen := U3 l
 by_cases h1 : l.length % 2 = 0
 ·rw [show Yx l = false by unfold Yx; rw [decide_eq_false (by omega), Bool.false_and]]
  refine X0 ?_; refine JR ?_; refine Z0 ?_; refine JD ?_; refine X0 ?_; refine X0 ?_; refine JR ?_; refine Z1 ?_; refine Zb ?_; refine ZG ?_; refine Zs ?_; refine Z1 ?_; refine Zj ?_; refine Zj ?_
  refine Zj ?_; refine Zi ?_; refine JD ?_; refine JT ?_; refine X0 ?_; refine JR ?_; refine Z0 ?_; refine JD ?_
  exact X1 ⟨_, St.le_refl _, ⟨rfl, trivial⟩, X2 _⟩
 by_cases h2 : 25 < l.length
 ·rw [show Yx l = false by unfold Yx; rw [decide_eq_false (by omega), Bool.false_and]]
  refine X0 ?_; refine JR ?_; refine Z0 ?_; refine JD ?_; refine X0 ?_; refine X0 ?_; refine JR ?_; refine Z1 ?_; refine Zb ?_; refine ZG ?_; refine Zs ?_; refine Z1 ?_; refine Z1 ?_; refine Zb ?_
  refine Zn ?_; refine Zl ?_; refine JD ?_; refine JT ?_; refine X0 ?_; refine JR ?_; refine Z0 ?_; refine JD ?_
  exact X1 ⟨_, St.le_refl _, ⟨rfl, trivial⟩, X2 _⟩
 rw [show Yx l = Yh 0 (l.drop 0) by unfold Yx; rw [decide_eq_true (by omega), Bool.true_and]; rfl]
 refine X0 ?_; refine JR ?_; refine Z0 ?_; refine JD ?_; refine X0 ?_; refine X0 ?_; refine JR ?_; refine Z1 ?_; refine Zb ?_; refine ZG ?_; refine Zs ?_; refine Z1 ?_; refine Z1 ?_; refine Zb ?_
 refine Zn ?_; refine Zl ?_; refine JD ?_; refine JF ?_; refine X3 ?_; refine X0 ?_; refine X0 ?_; refine JR ?_; refine Z1 ?_; refine Zb ?_; refine Z1 ?_; refine JD ?_; refine X5 ?_
 refine XR (fun i : Nat => i ≤ l.length ∧ Yh 0 (l.drop 0) = Yh i (l.drop i)) (fun i => ⟨37, [(15, .d (.sl 5 (Xm l))), (16, ai l.length), (17, ai i)], []⟩) (fun i => l.length - i) 0 ⟨by omega, rfl⟩
  (Xg rfl ⟨JL, (by refine AVal.le_of_eq ?_; refine Eq.trans (b := ai ((Xm l).length : Nat)) rfl ?_; rw [hlen]), JL, trivial⟩ trivial) ?_
 rintro i ⟨hi, hpv⟩
 by_cases hlt : i < l.length
 ·obtain ⟨x, hx⟩ := XX (l := l) hlt
  have hgx := X0d hx
  have hixl : i < (Xm l).length := by rw [hlen]; exact hlt
  have hvx := ih x (List.mem_of_getElem? hx) 8 (by omega)
  obtain ⟨k, n, d, s, q⟩ := x
  simp only [Xh, Nat.sub_self] at hvx
  rw [YK] at hgx
  rw [hpv]
  by_cases hpar : i % 2 = 0
  case pos =>
   by_cases hk : k = 5
   case neg =>
    rw [X1B hx (by rw [hpar]; show ¬ k = _; omega)]
    refine X0 ?_; refine JR ?_; refine Z7 ?_; refine JD ?_; refine X0 ?_; refine JT ?_; refine X3 ?_; refine X0 ?_; refine X5 ?_; refine X0 ?_; refine JR ?_; refine Z1 ?_; refine ZH ?_
    refine ZI ?_; refine Zr (γ := 100) ?_; refine Z0 ?_; refine Zu ?_; refine JD ?_; refine X0 ?_; refine JR ?_; refine Z5 ?_; refine Z1 ?_
    refine Z4 (op := .rem) (r' := nj 0) (u := nj i) (v := nj 2) ?_ (hr' := by exact congrArg nj hpar) (hr := by exact Yy (by omega)); refine ZH ?_; refine ZJ ?_; refine Z0 ?_; refine JD ?_; refine X0 ?_
    refine JR ?_; refine Zy ?_; refine Zz ?_; refine Z1 ?_; refine Zq ?_; refine Z1 ?_; refine Zj ?_; refine Zj ?_; refine Zj ?_; refine Zi ?_; refine JD ?_; refine JT ?_; refine X0 ?_; refine JR ?_; refine Z0 ?_
    refine JD ?_
    exact X1 ⟨_, St.le_refl _, ⟨rfl, trivial⟩, X2 _⟩
   subst hk
   have hfl := X3m (v := .mk 5 n d s q) (.inl rfl) 8 0
   cases hvv : X6 8 (.mk 5 n d s q) with
   | true =>
    rw [hvv] at hvx hfl
    have hgo := X1P hx (by rw [hpar]; rfl) hfl.symm
    rw [hgo, ← hgo, ← hpv]
    refine X0 ?_; refine JR ?_; refine Z7 ?_; refine JD ?_; refine X0 ?_; refine JT ?_; refine X3 ?_; refine X0 ?_; refine X5 ?_; refine X0 ?_; refine JR ?_; refine Z1 ?_; refine ZH ?_
    refine ZI ?_; refine Zr (γ := 100) ?_; refine Z0 ?_; refine Zu ?_; refine JD ?_; refine X0 ?_; refine JR ?_; refine Z5 ?_; refine Z1 ?_
    refine Z4 (op := .rem) (r' := nj 0) (u := nj i) (v := nj 2) ?_ (hr' := by exact congrArg nj hpar) (hr := by exact Yy (by omega)); refine ZH ?_; refine ZJ ?_; refine Z0 ?_; refine JD ?_; refine X0 ?_
    refine JR ?_; refine Zy ?_; refine Zz ?_; refine Z1 ?_; refine Zq ?_; refine Z1 ?_; refine ZK ?_; refine Z8 (hcon := hvx) ?_; refine Zp ?_; refine Zl ?_; refine JD ?_; refine JF ?_; refine X3 ?_; refine JR ?_
    refine Zc ?_; refine Z1 ?_; refine JD ?_
    exact ⟨i + 1, ⟨by omega, hpv.trans hgo⟩, by omega, Xg rfl ⟨JL, JL, JL, trivial⟩ trivial⟩
   | false =>
    rw [hvv] at hvx hfl
    rw [X1l hx hfl.symm]
    refine X0 ?_; refine JR ?_; refine Z7 ?_; refine JD ?_; refine X0 ?_; refine JT ?_; refine X3 ?_; refine X0 ?_; refine X5 ?_; refine X0 ?_; refine JR ?_; refine Z1 ?_; refine ZH ?_
    refine ZI ?_; refine Zr (γ := 100) ?_; refine Z0 ?_; refine Zu ?_; refine JD ?_; refine X0 ?_; refine JR ?_; refine Z5 ?_; refine Z1 ?_
    refine Z4 (op := .rem) (r' := nj 0) (u := nj i) (v := nj 2) ?_ (hr' := by exact congrArg nj hpar) (hr := by exact Yy (by omega)); refine ZH ?_; refine ZJ ?_; refine Z0 ?_; refine JD ?_; refine X0 ?_
    refine JR ?_; refine Zy ?_; refine Zz ?_; refine Z1 ?_; refine Zq ?_; refine Z1 ?_; refine ZK ?_; refine Z8 (hcon := hvx) ?_; refine Zp ?_; refine Zl ?_; refine JD ?_; refine JT ?_; refine X0 ?_; refine JR ?_
    refine Z0 ?_; refine JD ?_
    exact X1 ⟨_, St.le_refl _, ⟨rfl, trivial⟩, X2 _⟩
  case neg =>
   have hpar : i % 2 = 1 := by omega
   by_cases hk : k = 6
   case neg =>
    rw [X1B hx (by rw [hpar]; show ¬ k = _; omega)]
    refine X0 ?_; refine JR ?_; refine Z7 ?_; refine JD ?_; refine X0 ?_; refine JT ?_; refine X3 ?_; refine X0 ?_; refine X5 ?_; refine X0 ?_; refine JR ?_; refine Z1 ?_; refine ZH ?_
    refine ZI ?_; refine Zr (γ := 100) ?_; refine Z0 ?_; refine Zu ?_; refine JD ?_; refine X0 ?_; refine JR ?_; refine Z5 ?_; refine Z1 ?_
    refine Z4 (op := .rem) (r' := nj 1) (u := nj i) (v := nj 2) ?_ (hr' := by exact congrArg nj hpar) (hr := by exact Yy (by omega)); refine ZH ?_; refine ZJ ?_; refine Z0 ?_; refine JD ?_; refine X0 ?_
    refine JR ?_; refine Zy ?_; refine Zz ?_; refine Z1 ?_; refine Zq ?_; refine Z1 ?_; refine Zj ?_; refine Zj ?_; refine Zj ?_; refine Zi ?_; refine JD ?_; refine JT ?_; refine X0 ?_; refine JR ?_; refine Z0 ?_
    refine JD ?_
    exact X1 ⟨_, St.le_refl _, ⟨rfl, trivial⟩, X2 _⟩
   subst hk
   have hfl := X3m (v := .mk 6 n d s q) (.inr rfl) 8 0
   cases hvv : X6 8 (.mk 6 n d s q) with
   | true =>
    rw [hvv] at hvx hfl
    have hgo := X1P hx (by rw [hpar]; rfl) hfl.symm
    rw [hgo, ← hgo, ← hpv]
    refine X0 ?_; refine JR ?_; refine Z7 ?_; refine JD ?_; refine X0 ?_; refine JT ?_; refine X3 ?_; refine X0 ?_; refine X5 ?_; refine X0 ?_; refine JR ?_; refine Z1 ?_; refine ZH ?_
    refine ZI ?_; refine Zr (γ := 100) ?_; refine Z0 ?_; refine Zu ?_; refine JD ?_; refine X0 ?_; refine JR ?_; refine Z5 ?_; refine Z1 ?_
    refine Z4 (op := .rem) (r' := nj 1) (u := nj i) (v := nj 2) ?_ (hr' := by exact congrArg nj hpar) (hr := by exact Yy (by omega)); refine ZH ?_; refine ZJ ?_; refine Z0 ?_; refine JD ?_; refine X0 ?_
    refine JR ?_; refine Zy ?_; refine Zz ?_; refine Z1 ?_; refine Zq ?_; refine Z1 ?_; refine ZK ?_; refine Z8 (hcon := hvx) ?_; refine Zp ?_; refine Zl ?_; refine JD ?_; refine JF ?_; refine X3 ?_; refine JR ?_
    refine Zc ?_; refine Z1 ?_; refine JD ?_
    exact ⟨i + 1, ⟨by omega, hpv.trans hgo⟩, by omega, Xg rfl ⟨JL, JL, JL, trivial⟩ trivial⟩
   | false =>
    rw [hvv] at hvx hfl
    rw [X1l hx hfl.symm]
    refine X0 ?_; refine JR ?_; refine Z7 ?_; refine JD ?_; refine X0 ?_; refine JT ?_; refine X3 ?_; refine X0 ?_; refine X5 ?_; refine X0 ?_; refine JR ?_; refine Z1 ?_; refine ZH ?_
    refine ZI ?_; refine Zr (γ := 100) ?_; refine Z0 ?_; refine Zu ?_; refine JD ?_; refine X0 ?_; refine JR ?_; refine Z5 ?_; refine Z1 ?_
    refine Z4 (op := .rem) (r' := nj 1) (u := nj i) (v := nj 2) ?_ (hr' := by exact congrArg nj hpar) (hr := by exact Yy (by omega)); refine ZH ?_; refine ZJ ?_; refine Z0 ?_; refine JD ?_; refine X0 ?_
    refine JR ?_; refine Zy ?_; refine Zz ?_; refine Z1 ?_; refine Zq ?_; refine Z1 ?_; refine ZK ?_; refine Z8 (hcon := hvx) ?_; refine Zp ?_; refine Zl ?_; refine JD ?_; refine JT ?_; refine X0 ?_; refine JR ?_
    refine Z0 ?_; refine JD ?_
    exact X1 ⟨_, St.le_refl _, ⟨rfl, trivial⟩, X2 _⟩
 obtain rfl : i = l.length := by omega
 rw [hpv, List.drop_length, Yh]
 refine X0 ?_; refine JR ?_; refine Z7 ?_; refine JD ?_; refine X0 ?_; refine JF ?_; refine Xt ?_; refine X0 ?_; refine JR ?_; refine Z0 ?_; refine JD ?_
 exact X1 ⟨_, St.le_refl _, ⟨rfl, trivial⟩, X2 _⟩
end Go.Fw

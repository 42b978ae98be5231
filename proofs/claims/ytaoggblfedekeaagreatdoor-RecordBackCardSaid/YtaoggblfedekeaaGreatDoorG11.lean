/- Ranges, greatest common divisors, fractions. -/
import Derived.Test.YtaoggblfedekeaaGreatDoorG08
import Derived.Test.YtaoggblfedekeaaGreatDoorChecked
import Derived.Test.YtaoggblfedekeaaGreatDoorG09
import Derived.Test.YtaoggblfedekeaaGreatDoorG07
import Derived.Laws.RangeAny
set_option maxHeartbeats 8000000
namespace Go.Fw
open Go Go.Proofs
set_option maxRecDepth 100000
set_option linter.unusedVariables false
set_option linter.unusedSimpArgs false
abbrev nj (n : Nat) : Value := .int .i64 n
def inV (n : Int) : Bool := decide (-1000000000000000 ≤ n ∧ n ≤ 1000000000000000)
theorem X1j (n : Int) : Con Tryz.prog 133 [] [ai n] [] (ab (inV n)) := by
 refine X8 (xs := [ab (inV n)]) Tryz.func133 rfl Tryz.ntmps133 rfl rfl rfl (fun E => ?_)
 by_cases h1 : -1000000000000000 ≤ n
 ·by_cases h2 : n ≤ 1000000000000000
  ·rw [show inV n = true by simp [inV, h1, h2]]
   refine X0 ?_; refine JR ?_; refine Z0 ?_; refine JD ?_; refine X0 ?_; refine JR ?_; refine Z1 ?_; refine Z2 ?_; refine Z1 ?_; refine Z1 ?_; refine Zj ?_; refine Zk ?_; refine Z0 ?_; refine JD ?_
   exact X1 ⟨_, X9 2 (y := ab true) (AVal.le_of_eq (by refine Eq.trans (b := ab (decide (n ≤ 1000000000000000))) rfl ?_; rw [decide_eq_true h2])), ⟨rfl, trivial⟩, X2 _⟩
  ·rw [show inV n = false by simp [inV, h2]]
   refine X0 ?_; refine JR ?_; refine Z0 ?_; refine JD ?_; refine X0 ?_; refine JR ?_; refine Z1 ?_; refine Z2 ?_; refine Z1 ?_; refine Z1 ?_; refine Zj ?_; refine Zk ?_; refine Z0 ?_; refine JD ?_
   exact X1 ⟨_, X9 2 (y := ab false) (AVal.le_of_eq (by refine Eq.trans (b := ab (decide (n ≤ 1000000000000000))) rfl ?_; rw [decide_eq_false h2])), ⟨rfl, trivial⟩, X2 _⟩
 ·rw [show inV n = false by simp [inV, h1]]
  refine X0 ?_; refine JR ?_; refine Z0 ?_; refine JD ?_; refine X0 ?_; refine JR ?_; refine Z1 ?_; refine Z2 ?_; refine Z1 ?_; refine Zl ?_; refine Zl ?_; refine Zn ?_; refine Z0 ?_; refine JD ?_
  exact X1 ⟨_, X9 2 (y := ab false) (AVal.le_refl _), ⟨rfl, trivial⟩, X2 _⟩
theorem Xat (n : Int) : Con Tryz.prog 116 [] [ai n] [] (ab (inV n)) := by
 refine X8 (xs := [ab (inV n)]) Tryz.func116 rfl Tryz.ntmps116 rfl rfl rfl (fun E => ?_)
 by_cases h1 : -1000000000000000 ≤ n
 ·by_cases h2 : n ≤ 1000000000000000
  ·rw [show inV n = true by simp [inV, h1, h2]]
   refine X0 ?_; refine JR ?_; refine Z0 ?_; refine JD ?_; refine X0 ?_; refine JR ?_; refine Z1 ?_; refine Z2 ?_; refine Z1 ?_; refine Z1 ?_; refine Zj ?_; refine Zk ?_; refine Z0 ?_; refine JD ?_
   exact X1 ⟨_, X9 2 (y := ab true) (AVal.le_of_eq (by refine Eq.trans (b := ab (decide (n ≤ 1000000000000000))) rfl ?_; rw [decide_eq_true h2])), ⟨rfl, trivial⟩, X2 _⟩
  ·rw [show inV n = false by simp [inV, h2]]
   refine X0 ?_; refine JR ?_; refine Z0 ?_; refine JD ?_; refine X0 ?_; refine JR ?_; refine Z1 ?_; refine Z2 ?_; refine Z1 ?_; refine Z1 ?_; refine Zj ?_; refine Zk ?_; refine Z0 ?_; refine JD ?_
   exact X1 ⟨_, X9 2 (y := ab false) (AVal.le_of_eq (by refine Eq.trans (b := ab (decide (n ≤ 1000000000000000))) rfl ?_; rw [decide_eq_false h2])), ⟨rfl, trivial⟩, X2 _⟩
 ·rw [show inV n = false by simp [inV, h1]]
  refine X0 ?_; refine JR ?_; refine Z0 ?_; refine JD ?_; refine X0 ?_; refine JR ?_; refine Z1 ?_; refine Z2 ?_; refine Z1 ?_; refine Zl ?_; refine Zl ?_; refine Zn ?_; refine Z0 ?_; refine JD ?_
  exact X1 ⟨_, X9 2 (y := ab false) (AVal.le_refl _), ⟨rfl, trivial⟩, X2 _⟩
theorem X4I (n : Int) (h : -1000000000000000 ≤ n ∧ n ≤ 1000000000000000) : Con Tryz.prog 151 [] [ai n] [] (ai (n.natAbs : Nat)) := by
 refine X8 (xs := [ai (n.natAbs : Nat)]) Tryz.func151 rfl Tryz.ntmps151 rfl rfl rfl (fun E => ?_)
 refine X0 ?_; refine JR ?_; refine Z0 ?_; refine JD ?_; refine X0 ?_; refine JR ?_; refine Z1 ?_; refine Z1 ?_; refine Zr ?_; refine Zx ?_; refine Z0 ?_; refine JD ?_
 exact X1 ⟨_, X9 2 (y := ai (n.natAbs : Nat)) (AVal.le_of_eq (by refine Eq.trans (b := ai (max n (-n))) rfl ?_; congr 3; omega)), ⟨rfl, trivial⟩, X2 _⟩
theorem X2V (n : Int) (h : -1000000000000000 ≤ n ∧ n ≤ 1000000000000000) : Con Tryz.prog 108 [] [ai n] [] (ai (n.natAbs : Nat)) := by
 refine X8 (xs := [ai (n.natAbs : Nat)]) Tryz.func108 rfl Tryz.ntmps108 rfl rfl rfl (fun E => ?_)
 by_cases h0 : n < 0
 ·refine X0 ?_; refine JR ?_; refine Z0 ?_; refine JD ?_; refine X0 ?_; refine X0 ?_; refine JR ?_; refine Z1 ?_; refine Z8 ?_; refine JD ?_; refine JT ?_; refine X0 ?_; refine JR ?_; refine Z1 ?_
  refine Zr ?_; refine Z0 ?_; refine JD ?_
  exact X1 ⟨_, X9 2 (y := ai (n.natAbs : Nat)) (AVal.le_of_eq (by refine Eq.trans (b := ai (-n)) rfl ?_; congr 3; omega)), ⟨rfl, trivial⟩, X2 _⟩
 ·refine X0 ?_; refine JR ?_; refine Z0 ?_; refine JD ?_; refine X0 ?_; refine X0 ?_; refine JR ?_; refine Z1 ?_; refine Z8 ?_; refine JD ?_; refine JF ?_; refine X3 ?_; refine X0 ?_; refine JR ?_
  refine Z1 ?_; refine Z0 ?_; refine JD ?_
  exact X1 ⟨_, X9 2 (y := ai (n.natAbs : Nat)) (AVal.le_of_eq (by refine Eq.trans (b := ai n) rfl ?_; congr 3; omega)), ⟨rfl, trivial⟩, X2 _⟩
theorem XbX (a b : Int) (ha : -1000000000000000 ≤ a ∧ a ≤ 1000000000000000) (hb : -1000000000000000 ≤ b ∧ b ≤ 1000000000000000) : Con Tryz.prog 143 [] [ai a, ai b] [] (ai (Nat.gcd a.natAbs b.natAbs : Nat)) := by
 refine X8 (xs := [ai (Nat.gcd a.natAbs b.natAbs : Nat)]) Tryz.func143 rfl Tryz.ntmps143 rfl rfl rfl (fun E => ?_)
 have h1 : Con Tryz.prog 133 [] [ai a] [] (ab true) := by
  have h := X1j a
  rwa [show inV a = true by simpa [inV] using ha] at h
 have h2 : Con Tryz.prog 133 [] [ai b] [] (ab true) := by
  have h := X1j b
  rwa [show inV b = true by simpa [inV] using hb] at h
 refine X0 ?_; refine JR ?_; refine Z0 ?_; refine JD ?_; refine X0 ?_; refine X0 ?_; refine JR ?_; refine Z1 ?_; refine Z9 (hcon := h1) ?_; refine Zr ?_; refine Z1 ?_; refine Z1 ?_
 refine Z9 (hcon := h2) ?_; refine Zr ?_; refine Zn ?_; refine JD ?_; refine JF ?_; refine X3 ?_; refine X0 ?_; refine JR ?_; refine Z1 ?_; refine Z9 (hcon := X4I a ha) ?_; refine Z1 ?_
 refine Z9 (hcon := X4I b hb) ?_; refine Z0 ?_; refine Z0 ?_; refine JD ?_; refine X0 ?_; refine X5 ?_
 refine XR (ι := Nat × Nat) (fun i => Nat.gcd i.1 i.2 = Nat.gcd a.natAbs b.natAbs) (fun i => ⟨24, [(0, ai i.1), (1, ai i.2)], []⟩) (fun i => i.2) (a.natAbs, b.natAbs) rfl
  (Xc rfl ⟨JL, JL, trivial⟩ trivial) ?_
 rintro ⟨x, y⟩ hg
 simp only at hg
 by_cases hy : y = 0
 ·subst hy
  rw [← hg, Nat.gcd_zero_right]
  refine X0 ?_; refine X0 ?_; refine JR ?_; refine Z1 ?_; refine Zs ?_; refine JD ?_; refine JF ?_; refine Xv ?_; refine X0 ?_; refine JR ?_; refine Z1 ?_; refine Z0 ?_; refine JD ?_
  exact X1 ⟨_, St.le_refl _, ⟨rfl, trivial⟩, X2 _⟩
 ·have hy' : ¬ ((y : Int) = 0) := by omega
  refine X0 ?_; refine X0 ?_; refine JR ?_; refine Z1 ?_; refine Zs ?_; refine JD ?_; refine JT ?_; refine X3 ?_; refine X5 ?_; refine JR ?_; refine Z1 ?_; refine Z1 ?_; refine Z1 ?_
  refine Z7 (op := .rem) (r' := nj (x % y)) (u := nj x) (v := nj y) ?_ (hr := by exact Ys hy); refine Z0 ?_; refine Z0 ?_; refine JD ?_
  exact ⟨(y, x % y), by simp only; rw [← hg, Nat.gcd_comm x y, Nat.gcd_rec y x, Nat.gcd_comm], Nat.mod_lt _ (by omega), Xc rfl ⟨JL, JL, trivial⟩ trivial⟩
theorem X81 (x y : Nat) (hx : x ≤ 1000000000000000) (hy : y ≤ 1000000000000000) : Con Tryz.prog 124 [] [ai x, ai y] [] (ai (Nat.gcd x y : Nat)) := by
 refine X8 (xs := [ai (Nat.gcd x y : Nat)]) Tryz.func124 rfl Tryz.ntmps124 rfl rfl rfl (fun E => ?_)
 refine X0 ?_; refine JR ?_; refine Z0 ?_; refine JD ?_; refine X0 ?_; refine X5 ?_
 generalize hG : Nat.gcd x y = G
 refine XR (ι := Nat × Nat) (fun i => Nat.gcd i.1 i.2 = G) (fun i => ⟨12, [(0, ai i.1), (1, ai i.2)], []⟩) (fun i => i.2) (x, y) hG
  (Xc rfl ⟨JL, JL, trivial⟩ trivial) ?_
 rintro ⟨x, y⟩ hg
 simp only at hg
 by_cases hy : y = 0
 ·subst hy
  rw [← hg, Nat.gcd_zero_right]
  refine X0 ?_; refine X0 ?_; refine JR ?_; refine Z1 ?_; refine Zp ?_; refine JD ?_; refine JF ?_; refine Xv ?_; refine X0 ?_; refine JR ?_; refine Z1 ?_; refine Z0 ?_; refine JD ?_
  exact X1 ⟨_, St.le_refl _, ⟨rfl, trivial⟩, X2 _⟩
 ·have hy' : (0 : Int) < y := by omega
  refine X0 ?_; refine X0 ?_; refine JR ?_; refine Z1 ?_; refine Zp ?_; refine JD ?_; refine JT ?_; refine X3 ?_; refine X5 ?_; refine JR ?_; refine Z1 ?_; refine Z1 ?_; refine Z1 ?_
  refine Z7 (op := .rem) (r' := nj (x % y)) (u := nj x) (v := nj y) ?_ (hr := by exact Ys hy); refine Z0 ?_; refine Z0 ?_; refine JD ?_
  exact ⟨(y, x % y), by simp only; rw [← hg, Nat.gcd_comm x y, Nat.gcd_rec y x, Nat.gcd_comm], Nat.mod_lt _ (by omega), Xc rfl ⟨JL, JL, trivial⟩ trivial⟩
abbrev X0Q (n d : Int) : AVal := .agg [ai n, ai d]
theorem X0v {n d : Int} (h : ¬ (1 ≤ d ∧ d ≤ 1000000000000000 ∧ -1000000000000000 ≤ n ∧ n ≤ 1000000000000000)) : Ub n d = false := by simp only [Ub, decide_eq_false h, Bool.false_and]
theorem X4L {n d : Int} (h : 1 ≤ d ∧ d ≤ 1000000000000000 ∧ -1000000000000000 ≤ n ∧ n ≤ 1000000000000000) : Ub n d = decide (Nat.gcd n.natAbs d.natAbs = 1) := by simp only [Ub, decide_eq_true h, Bool.true_and]
theorem X8j (n d : Int) : Con Tryz.prog 134 [] [X0Q n d] [] (ab (Ub n d)) := by
 refine X8 (xs := [ab (Ub n d)]) Tryz.func134 rfl Tryz.ntmps134 rfl rfl rfl (fun E => ?_)
 by_cases h1 : 1 ≤ d
 case neg =>
  rw [X0v (by omega)]
  repeat first | refine X0 ?_ | (refine JR ?_; (repeat first | refine Z1 ?_ | refine Z0 ?_ | refine Zz ?_ | refine ZA ?_ | refine Z2 ?_ | refine Zy (γ := 100) ?_ | refine Zn ?_ | refine Zl ?_); refine JD ?_)
  exact X1 ⟨_, St.le_refl _, ⟨rfl, trivial⟩, X2 _⟩
 by_cases h2 : d ≤ 1000000000000000
 case neg =>
  rw [X0v (by omega)]
  refine X0 ?_; refine JR ?_; refine Zy (γ := 100) ?_; refine Z0 ?_; refine JD ?_; refine X0 ?_; refine JR ?_; refine Zz ?_; refine ZA ?_; refine Z2 ?_; refine Z1 ?_; refine Zz ?_; refine ZA ?_; refine Zj ?_
  refine Zk ?_; refine Z1 ?_; refine Zl ?_; refine Zl ?_; refine Zl ?_; refine Zn ?_; refine Z1 ?_; refine Zl ?_; refine Zl ?_; refine Zl ?_; refine Zl ?_; refine Zl ?_; refine Zl ?_; refine Zn ?_; refine Z0 ?_
  refine JD ?_
  exact X1 ⟨_, St.le_refl _, ⟨rfl, trivial⟩, X2 _⟩
 by_cases h3 : -1000000000000000 ≤ n ∧ n ≤ 1000000000000000
 case neg =>
  rw [X0v (by omega)]
  have hin : Con Tryz.prog 133 [] [ai n] [] (ab false) := by
   have h := X1j n
   rwa [show inV n = false by simpa [inV] using h3] at h
  refine X0 ?_; refine JR ?_; refine Zy (γ := 100) ?_; refine Z0 ?_; refine JD ?_; refine X0 ?_; refine JR ?_; refine Zz ?_; refine ZA ?_; refine Z2 ?_; refine Z1 ?_; refine Zz ?_; refine ZA ?_; refine Zj ?_
  refine Zk ?_; refine Z1 ?_; refine Zz ?_; refine ZA ?_; refine Z9 (hcon := hin) ?_; refine Zk ?_; refine Z1 ?_; refine Zl ?_; refine Zl ?_; refine Zl ?_; refine Zl ?_; refine Zl ?_; refine Zl ?_; refine Zn ?_
  refine Z0 ?_; refine JD ?_
  exact X1 ⟨_, St.le_refl _, ⟨rfl, trivial⟩, X2 _⟩
 rw [X4L (by omega)]
 have hin : Con Tryz.prog 133 [] [ai n] [] (ab true) := by
  have h := X1j n
  rwa [show inV n = true by simpa [inV] using h3] at h
 refine X0 ?_; refine JR ?_; refine Zy (γ := 100) ?_; refine Z0 ?_; refine JD ?_; refine X0 ?_; refine JR ?_; refine Zz ?_; refine ZA ?_; refine Z2 ?_; refine Z1 ?_; refine Zz ?_; refine ZA ?_; refine Zj ?_
 refine Zk ?_; refine Z1 ?_; refine Zz ?_; refine ZA ?_; refine Z9 (hcon := hin) ?_; refine Zk ?_; refine Z1 ?_; refine Zz ?_; refine ZA ?_; refine Zz ?_; refine ZA ?_; refine Z9 (hcon := XbX n d h3 (by omega)) ?_
 refine Zu ?_; refine Zk ?_; refine Z0 ?_; refine JD ?_
 exact X1 ⟨_, X9 2 (y := ab (decide (Nat.gcd n.natAbs d.natAbs = 1))) (AVal.le_of_eq (by refine Eq.trans (b := ab (decide (((Nat.gcd n.natAbs d.natAbs : Nat) : Int) = 1))) rfl ?_; exact congrArg ab (decide_eq_decide.2 (by omega)))), ⟨rfl, trivial⟩, X2 _⟩
theorem X5G (n d : Int) : Con Tryz.prog 104 [] [X0Q n d] [] (ab (Ub n d)) := by
 refine X8 (xs := [ab (Ub n d)]) Tryz.func104 rfl Tryz.ntmps104 rfl rfl rfl (fun E => ?_)
 by_cases h1 : 1 ≤ d
 case neg =>
  rw [X0v (by omega)]
  repeat first | refine X0 ?_ | (refine JR ?_; (repeat first | refine Z1 ?_ | refine Z0 ?_ | refine Zz ?_ | refine ZA ?_ | refine Z2 ?_ | refine Zy (γ := 100) ?_ | refine Zn ?_ | refine Zl ?_); refine JD ?_)
  exact X1 ⟨_, St.le_refl _, ⟨rfl, trivial⟩, X2 _⟩
 by_cases h2 : d ≤ 1000000000000000
 case neg =>
  rw [X0v (by omega)]
  repeat first | refine X0 ?_ | (refine JR ?_; (repeat first | refine Z1 ?_ | refine Z0 ?_ | refine Zz ?_ | refine ZA ?_ | refine Zj ?_ | refine Z2 ?_ | refine Zy (γ := 100) ?_ | refine Zk ?_ | refine Zn ?_ | refine Zl ?_); refine JD ?_)
  exact X1 ⟨_, St.le_refl _, ⟨rfl, trivial⟩, X2 _⟩
 by_cases h3 : -1000000000000000 ≤ n
 case neg =>
  rw [X0v (by omega)]
  repeat first | refine X0 ?_ | (refine JR ?_; (repeat first | refine Z1 ?_ | refine Z0 ?_ | refine Zz ?_ | refine ZA ?_ | refine Zj ?_ | refine Z2 ?_ | refine Zy (γ := 100) ?_ | refine Zk ?_ | refine Zn ?_ | refine Zl ?_); refine JD ?_)
  exact X1 ⟨_, St.le_refl _, ⟨rfl, trivial⟩, X2 _⟩
 by_cases h4 : n ≤ 1000000000000000
 case neg =>
  rw [X0v (by omega)]
  repeat first | refine X0 ?_ | (refine JR ?_; (repeat first | refine Z1 ?_ | refine Z0 ?_ | refine Zz ?_ | refine ZA ?_ | refine Zj ?_ | refine Z2 ?_ | refine Zy (γ := 100) ?_ | refine Zk ?_ | refine Zn ?_ | refine Zl ?_); refine JD ?_)
  exact X1 ⟨_, St.le_refl _, ⟨rfl, trivial⟩, X2 _⟩
 rw [X4L (by omega)]
 obtain ⟨e, rfl⟩ : ∃ e : Nat, d = e := ⟨d.toNat, by omega⟩
 refine X0 ?_; refine JR ?_; refine Zy (γ := 100) ?_; refine Z0 ?_; refine JD ?_; refine X0 ?_; refine JR ?_; refine Zz ?_; refine ZA ?_; refine Z2 ?_; refine Z1 ?_; refine Zz ?_; refine ZA ?_; refine Zj ?_
 refine Zk ?_; refine Z1 ?_; refine Zz ?_; refine ZA ?_; refine Z2 ?_; refine Zk ?_; refine Z1 ?_; refine Zz ?_; refine ZA ?_; refine Zj ?_; refine Zk ?_; refine Z1 ?_; refine Zz ?_; refine ZA ?_
 refine Z9 (hcon := X2V n ⟨h3, h4⟩) ?_; refine Zz ?_; refine ZA ?_; refine Z9 (hcon := X81 n.natAbs e (by omega) (by omega)) ?_; refine Zu ?_; refine Zk ?_; refine Z0 ?_; refine JD ?_
 exact X1 ⟨_, X9 2 (y := ab (decide (Nat.gcd n.natAbs (e : Int).natAbs = 1))) (AVal.le_of_eq (by refine Eq.trans (b := ab (decide (((Nat.gcd n.natAbs e : Nat) : Int) = 1))) rfl ?_; exact congrArg ab (decide_eq_decide.2 (by rw [Int.natAbs_natCast]; omega)))), ⟨rfl, trivial⟩, X2 _⟩
end Go.Fw
namespace Go.Fw
open Go Go.Proofs
set_option maxRecDepth 100000
set_option linter.unusedVariables false
set_option linter.unusedSimpArgs false
abbrev X00 (l : List UInt8) : AVal := .d (.v (.string (X4 l)))
def okB (b : UInt8) : Bool := decide (32 ≤ b.toNat ∧ b.toNat ≤ 126)
def V6 (s : List UInt8) : Int := if YZ s then -1 else (s.takeWhile okB).length
theorem X7K {s : List UInt8} : (V6 s < 0) ↔ YZ s = true := by
 unfold V6
 cases YZ s <;> simp
theorem X6V {s : List UInt8} {p : Nat} (h : ∀ j, j < p → ∃ b, s[j]? = some b ∧ okB b = true) (hp : p = s.length) : YZ s = true := by
 unfold YZ
 rw [List.all_eq_true]
 intro x hx
 obtain ⟨i, hi⟩ := List.getElem?_of_mem hx
 obtain ⟨b, h1, h2⟩ := h i (by rw [hp]; exact (List.getElem?_eq_some_iff.1 hi).1)
 rw [hi] at h1; cases h1; exact h2
theorem XaJ {s : List UInt8} {p : Nat} {c : UInt8} (h : ∀ j, j < p → ∃ b, s[j]? = some b ∧ okB b = true) (hc : s[p]? = some c) (hb : okB c = false) : V6 s = p := by
 have h1 : YZ s = false := by
  cases hs : YZ s with
  | false => rfl
  | true =>
   unfold YZ at hs
   rw [List.all_eq_true] at hs
   have := hs c (List.mem_of_getElem? hc)
   unfold okB at hb
   rw [hb] at this; simp at this
 unfold V6
 rw [h1, X1F s p h (fun b hb' => by rw [hc] at hb'; cases hb'; exact hb)]
 simp
theorem X7y (l : List UInt8) {p : Nat} {c : UInt8} (h : l[p]? = some c) (hp : p < (X4 l).size) : (X4 l)[p] = c := by
 have h1 := (List.getElem?_eq_some_iff.1 h).2
 exact h1
theorem X8E (c : Nat) (hc : c ≤ 2147483647) : Con Tryz.prog 136 [] [.d (.v (.int .i32 c))] [] (ab (!decide (32 ≤ c ∧ c ≤ 126))) := by
 refine X8 (xs := [ab (!decide (32 ≤ c ∧ c ≤ 126))]) Tryz.func136 rfl Tryz.ntmps136 rfl rfl rfl (fun E => ?_)
 by_cases h1 : c < 32
 ·rw [show (!decide (32 ≤ c ∧ c ≤ 126)) = true by simp; omega]
  refine X0 ?_; refine JR ?_; refine Z0 ?_; refine JD ?_; refine X0 ?_; refine JR ?_; refine Z1 ?_; refine Z8 ?_; refine Z1 ?_; refine Zl ?_; refine Zl ?_; refine Zk ?_; refine Z0 ?_; refine JD ?_
  exact X1 ⟨_, St.le_refl _, ⟨rfl, trivial⟩, X2 _⟩
 ·by_cases h2 : 126 < c
  ·rw [show (!decide (32 ≤ c ∧ c ≤ 126)) = true by simp; omega]
   refine X0 ?_; refine JR ?_; refine Z0 ?_; refine JD ?_; refine X0 ?_; refine JR ?_; refine Z1 ?_; refine Z8 ?_; refine Z1 ?_; refine Z1 ?_; refine Zp ?_; refine Zn ?_; refine Z0 ?_; refine JD ?_
   exact X1 ⟨_, X9 2 (y := ab true) (AVal.le_of_eq (by refine Eq.trans (b := ab (decide (126 < (c : Int)))) rfl ?_; exact congrArg ab (decide_eq_true (by omega)))), ⟨rfl, trivial⟩, X2 _⟩
  ·rw [show (!decide (32 ≤ c ∧ c ≤ 126)) = false by simp; omega]
   refine X0 ?_; refine JR ?_; refine Z0 ?_; refine JD ?_; refine X0 ?_; refine JR ?_; refine Z1 ?_; refine Z8 ?_; refine Z1 ?_; refine Z1 ?_; refine Zp ?_; refine Zn ?_; refine Z0 ?_; refine JD ?_
   exact X1 ⟨_, X9 2 (y := ab false) (AVal.le_of_eq (by refine Eq.trans (b := ab (decide (126 < (c : Int)))) rfl ?_; exact congrArg ab (decide_eq_false (by omega)))), ⟨rfl, trivial⟩, X2 _⟩
theorem X8x (s : List UInt8) (hs : s.length ≤ 9223372036854775807) : Con Tryz.prog 144 [] [X00 s, .fn 136 [], ab true] [] (ai (V6 s)) := by
 refine X8 (xs := [ai (V6 s)]) Tryz.func144 rfl Tryz.ntmps144 rfl rfl rfl (fun E => ?_)
 have hsz : (X4 s).size = s.length := rfl
 refine X0 ?_; refine JR ?_; refine Z0 ?_; refine JD ?_; refine X0 ?_; refine X0 ?_; refine JR ?_; refine Z1 ?_; refine ZB (γ := 100) ?_; refine JD ?_; refine X5 ?_
 refine XR (fun p : Nat => p ≤ s.length ∧ ∀ j, j < p → ∃ b, s[j]? = some b ∧ okB b = true) (fun p => ⟨21, [(1, .fn 136 []), (2, ab true), (10, .ptr 100 0)], [(100, .iter (X4 s) p)]⟩) (fun p => s.length - p) 0 ⟨by omega, fun j hj => by omega⟩
  (Xc rfl ⟨JL, JL, JL, trivial⟩ ⟨rfl, trivial⟩) ?_
 rintro p ⟨hp, hall⟩
 by_cases hlt : p < s.length
 ·obtain ⟨c, hc⟩ := XT (l := s) hlt
  have hlt' : p < (X4 s).size := hlt
  have hget := X7y s hc hlt'
  have hr := X8E (Utf8.decode (X4 s) p).1 (decode_le _ _)
  have go : okB c = true → Utf8.decode (X4 s) p = (c.toNat, 1) := fun hok => decode_ascii _ _ hlt' (by unfold okB at hok; rw [decide_eq_true_eq] at hok; rw [hget]; omega) |>.trans (by rw [hget])
  cases hok : okB c with
  | true =>
   have hd := go hok
   rw [show (!decide (32 ≤ (Utf8.decode (X4 s) p).1 ∧ (Utf8.decode (X4 s) p).1 ≤ 126)) = false by rw [hd]; unfold okB at hok; simp only; rw [hok]; rfl] at hr
   refine X0 ?_; refine JR ?_; refine ZC ?_; refine ZD ?_; refine JD ?_; refine X0 ?_; refine JT ?_; refine X3 ?_; refine X5 ?_; refine X0 ?_; refine JR ?_; refine ZD ?_; refine ZD ?_
   refine Z0 ?_; refine Z0 ?_; refine JD ?_; refine X0 ?_; refine JR ?_; refine Z1 ?_; refine Z1 ?_; refine ZE (hcon := hr) ?_; refine Z1 ?_; refine ZF ?_; refine JD ?_; refine JF ?_; refine X3 ?_
   refine ⟨p + 1, ⟨by omega, fun j hj => ?_⟩, by omega, Xc rfl ⟨JL, JL, JL, trivial⟩ ⟨?_, trivial⟩⟩
   ·by_cases e : j = p
    ·subst e; exact ⟨c, hc, hok⟩
    ·exact hall j (by omega)
   ·refine Eq.trans (b := AObj.iter (X4 s) (p + (Utf8.decode (X4 s) p).2)) rfl ?_
    rw [hd]
  | false =>
   rw [XaJ hall hc hok]
   have hbad : (!decide (32 ≤ (Utf8.decode (X4 s) p).1 ∧ (Utf8.decode (X4 s) p).1 ≤ 126)) = true := by
    by_cases ha : c.toNat < 128
    ·rw [decode_ascii _ _ hlt' (by rw [hget]; exact ha), hget]
     unfold okB at hok
     simp only; rw [hok]; rfl
    ·have := (decode_high (X4 s) p hlt' (by rw [hget]; omega)).1
     simp; omega
   rw [hbad] at hr
   refine X0 ?_; refine JR ?_; refine ZC ?_; refine ZD ?_; refine JD ?_; refine X0 ?_; refine JT ?_; refine X3 ?_; refine X5 ?_; refine X0 ?_; refine JR ?_; refine ZD ?_; refine ZD ?_
   refine Z0 ?_; refine Z0 ?_; refine JD ?_; refine X0 ?_; refine JR ?_; refine Z1 ?_; refine Z1 ?_; refine ZE (hcon := hr) ?_; refine Z1 ?_; refine ZF ?_; refine JD ?_; refine JT ?_; refine X0 ?_; refine JR ?_
   refine Z1 ?_; refine Z0 ?_; refine JD ?_
   exact X1 ⟨_, St.le_refl _, ⟨rfl, trivial⟩, X2 _⟩
 ·obtain rfl : p = s.length := by omega
  rw [show V6 s = -1 by unfold V6; rw [X6V hall rfl]; rfl]
  have hge : (X4 s).size ≤ s.length := Nat.le_refl _
  refine X0 ?_; refine JR ?_; refine ZG ?_; refine ZD ?_; refine JD ?_; refine X0 ?_; refine JF ?_; refine Xv ?_; refine X0 ?_; refine JR ?_; refine Z0 ?_; refine JD ?_
  exact X1 ⟨_, St.le_refl _, ⟨rfl, trivial⟩, X2 _⟩
theorem X8L (s : List UInt8) (hs : s.length ≤ 9223372036854775807) : Con Tryz.prog 135 [] [X00 s, .fn 136 []] [] (ai (V6 s)) := by
 refine X8 (xs := [ai (V6 s)]) Tryz.func135 rfl Tryz.ntmps135 rfl rfl rfl (fun E => ?_)
 refine X0 ?_; refine JR ?_; refine Z0 ?_; refine JD ?_; refine X0 ?_; refine JR ?_; refine Z1 ?_; refine Z1 ?_; refine Z9 (hcon := X8x s hs) ?_; refine Z0 ?_; refine JD ?_
 exact X1 ⟨_, St.le_refl _, ⟨rfl, trivial⟩, X2 _⟩
end Go.Fw
namespace Go.Fw
open Go Go.Proofs
set_option maxRecDepth 100000
set_option linter.unusedVariables false
set_option linter.unusedSimpArgs false
def Xb : Val → AVal
 | .mk k n d s l => .agg [ai k, ai n, ai d, X00 s, .d (.sl 5 (Xs l))]
def YN (l : List Val) : Bool := decide (l.length % 2 = 1 ∧ l.length ≤ 25) && Yx 0 l
theorem X6Z {v : Val} (h : v.kind = 5 ∨ v.kind = 6) (m m' : Nat) : X6 m v = X6 m' v := by
 obtain ⟨k, n, d, s, l⟩ := v
 have h : k = 5 ∨ k = 6 := h
 rw [X6, X6]
 rcases h with rfl | rfl <;> simp
theorem U2 (l : List Val) : (Xs l).length = l.length := by rw [VQ, List.length_map]
theorem VL {l : List Val} {i : Nat} {x : Val} (h : l[i]? = some x) : (Xs l)[i]? = some (YP x) := by rw [VQ]; exact YR h
theorem X43 {i : Nat} {l : List Val} {x : Val} (h : l[i]? = some x) : Yx i (l.drop i) = (decide (x.kind = 5 + (i % 2 : Nat)) && X6 0 x && Yx (i + 1) (l.drop (i + 1))) := by
 rw [List.drop_eq_getElem_cons (List.getElem?_eq_some_iff.1 h).1, (List.getElem?_eq_some_iff.1 h).2, Yx]
theorem X5V {m i : Nat} {l : List Val} {x : Val} (h : l[i]? = some x) : YA m (l.drop i) = (X6 m x && YA m (l.drop (i + 1))) := by
 rw [List.drop_eq_getElem_cons (List.getElem?_eq_some_iff.1 h).1, (List.getElem?_eq_some_iff.1 h).2, YA]
theorem X2e {i : Nat} {l : List Val} {x : Val} (h : l[i]? = some x) (hk : ¬ x.kind = 5 + (i % 2 : Nat)) : Yx i (l.drop i) = false := by
 rw [X43 h, decide_eq_false hk]; rfl
theorem X1N {i : Nat} {l : List Val} {x : Val} (h : l[i]? = some x) (hv : X6 0 x = false) : Yx i (l.drop i) = false := by
 rw [X43 h, hv, Bool.and_false]; rfl
theorem X1B {i : Nat} {l : List Val} {x : Val} (h : l[i]? = some x) (hk : x.kind = 5 + (i % 2 : Nat)) (hv : X6 0 x = true) : Yx i (l.drop i) = Yx (i + 1) (l.drop (i + 1)) := by
 rw [X43 h, decide_eq_true hk, hv]; rfl
def X2y (v : Val) : Prop := ∀ m : Nat, m ≤ 8 → Con Tryz.prog 114 [] [Xb v, ai (8 - m : Nat)] [] (ab (X6 m v))
def X4p (l : List Val) : Prop := Con Tryz.prog 137 [] [.d (.sl 5 (Xs l))] [] (ab (YN l))
theorem X90 (l : List Val) (ih : ∀ x ∈ l, X2y x) : X4p l := by
 refine X8 (xs := [ab (YN l)]) Tryz.func137 rfl Tryz.ntmps137 rfl rfl rfl (fun E => ?_)
 have hlen := U2 l
 by_cases h1 : l.length % 2 = 0
 ·rw [show YN l = false by unfold YN; rw [decide_eq_false (by omega), Bool.false_and]]
  refine X0 ?_; refine JR ?_; refine Z0 ?_; refine JD ?_; refine X0 ?_; refine X0 ?_; refine JR ?_; refine Z1 ?_; refine Zd ?_; refine ZH ?_; refine Zu ?_; refine Z1 ?_; refine Zl ?_; refine Zl ?_
  refine Zl ?_; refine Zk ?_; refine JD ?_; refine JT ?_; refine X0 ?_; refine JR ?_; refine Z0 ?_; refine JD ?_
  exact X1 ⟨_, St.le_refl _, ⟨rfl, trivial⟩, X2 _⟩
 by_cases h2 : 25 < l.length
 ·rw [show YN l = false by unfold YN; rw [decide_eq_false (by omega), Bool.false_and]]
  refine X0 ?_; refine JR ?_; refine Z0 ?_; refine JD ?_; refine X0 ?_; refine X0 ?_; refine JR ?_; refine Z1 ?_; refine Zd ?_; refine ZH ?_; refine Zu ?_; refine Z1 ?_; refine Z1 ?_; refine Zd ?_
  refine Zp ?_; refine Zn ?_; refine JD ?_; refine JT ?_; refine X0 ?_; refine JR ?_; refine Z0 ?_; refine JD ?_
  exact X1 ⟨_, St.le_refl _, ⟨rfl, trivial⟩, X2 _⟩
 rw [show YN l = Yx 0 (l.drop 0) by unfold YN; rw [decide_eq_true (by omega), Bool.true_and]; rfl]
 refine X0 ?_; refine JR ?_; refine Z0 ?_; refine JD ?_; refine X0 ?_; refine X0 ?_; refine JR ?_; refine Z1 ?_; refine Zd ?_; refine ZH ?_; refine Zu ?_; refine Z1 ?_; refine Z1 ?_; refine Zd ?_
 refine Zp ?_; refine Zn ?_; refine JD ?_; refine JF ?_; refine X3 ?_; refine X0 ?_; refine X0 ?_; refine JR ?_; refine Z1 ?_; refine Zd ?_; refine Z1 ?_; refine JD ?_; refine X5 ?_
 refine XR (fun i : Nat => i ≤ l.length ∧ Yx 0 (l.drop 0) = Yx i (l.drop i)) (fun i => ⟨37, [(15, .d (.sl 5 (Xs l))), (16, ai l.length), (17, ai i)], []⟩) (fun i => l.length - i) 0 ⟨by omega, rfl⟩
  (Xc rfl ⟨JL, (by refine AVal.le_of_eq ?_; refine Eq.trans (b := ai ((Xs l).length : Nat)) rfl ?_; rw [hlen]), JL, trivial⟩ trivial) ?_
 rintro i ⟨hi, hpv⟩
 by_cases hlt : i < l.length
 ·obtain ⟨x, hx⟩ := XT (l := l) hlt
  have hgx := VL hx
  have hixl : i < (Xs l).length := by rw [hlen]; exact hlt
  have hvx := ih x (List.mem_of_getElem? hx) 8 (by omega)
  obtain ⟨k, n, d, s, q⟩ := x
  simp only [Xb, Nat.sub_self] at hvx
  rw [YP] at hgx
  rw [hpv]
  by_cases hpar : i % 2 = 0
  case pos =>
   by_cases hk : k = 5
   case neg =>
    rw [X2e hx (by rw [hpar]; show ¬ k = _; omega)]
    refine X0 ?_; refine JR ?_; refine Z8 ?_; refine JD ?_; refine X0 ?_; refine JT ?_; refine X3 ?_; refine X0 ?_; refine X5 ?_; refine X0 ?_; refine JR ?_; refine Z1 ?_; refine ZI ?_
    refine ZJ ?_; refine Zt (γ := 100) ?_; refine Z0 ?_; refine Zw ?_; refine JD ?_; refine X0 ?_; refine JR ?_; refine Z5 ?_; refine Z1 ?_
    refine Z4 (op := .rem) (r' := nj 0) (u := nj i) (v := nj 2) ?_ (hr' := by exact congrArg nj hpar) (hr := by exact Ys (by omega)); refine ZI ?_; refine ZK ?_; refine Z0 ?_; refine JD ?_; refine X0 ?_
    refine JR ?_; refine Zz ?_; refine ZA ?_; refine Z1 ?_; refine Zs ?_; refine Z1 ?_; refine Zl ?_; refine Zl ?_; refine Zl ?_; refine Zk ?_; refine JD ?_; refine JT ?_; refine X0 ?_; refine JR ?_; refine Z0 ?_
    refine JD ?_
    exact X1 ⟨_, St.le_refl _, ⟨rfl, trivial⟩, X2 _⟩
   subst hk
   have hfl := X6Z (v := .mk 5 n d s q) (.inl rfl) 8 0
   cases hvv : X6 8 (.mk 5 n d s q) with
   | true =>
    rw [hvv] at hvx hfl
    have hgo := X1B hx (by rw [hpar]; rfl) hfl.symm
    rw [hgo, ← hgo, ← hpv]
    refine X0 ?_; refine JR ?_; refine Z8 ?_; refine JD ?_; refine X0 ?_; refine JT ?_; refine X3 ?_; refine X0 ?_; refine X5 ?_; refine X0 ?_; refine JR ?_; refine Z1 ?_; refine ZI ?_
    refine ZJ ?_; refine Zt (γ := 100) ?_; refine Z0 ?_; refine Zw ?_; refine JD ?_; refine X0 ?_; refine JR ?_; refine Z5 ?_; refine Z1 ?_
    refine Z4 (op := .rem) (r' := nj 0) (u := nj i) (v := nj 2) ?_ (hr' := by exact congrArg nj hpar) (hr := by exact Ys (by omega)); refine ZI ?_; refine ZK ?_; refine Z0 ?_; refine JD ?_; refine X0 ?_
    refine JR ?_; refine Zz ?_; refine ZA ?_; refine Z1 ?_; refine Zs ?_; refine Z1 ?_; refine ZL ?_; refine Z9 (hcon := hvx) ?_; refine Zr ?_; refine Zn ?_; refine JD ?_; refine JF ?_; refine X3 ?_; refine JR ?_
    refine Zb ?_; refine Z1 ?_; refine JD ?_
    exact ⟨i + 1, ⟨by omega, hpv.trans hgo⟩, by omega, Xc rfl ⟨JL, JL, JL, trivial⟩ trivial⟩
   | false =>
    rw [hvv] at hvx hfl
    rw [X1N hx hfl.symm]
    refine X0 ?_; refine JR ?_; refine Z8 ?_; refine JD ?_; refine X0 ?_; refine JT ?_; refine X3 ?_; refine X0 ?_; refine X5 ?_; refine X0 ?_; refine JR ?_; refine Z1 ?_; refine ZI ?_
    refine ZJ ?_; refine Zt (γ := 100) ?_; refine Z0 ?_; refine Zw ?_; refine JD ?_; refine X0 ?_; refine JR ?_; refine Z5 ?_; refine Z1 ?_
    refine Z4 (op := .rem) (r' := nj 0) (u := nj i) (v := nj 2) ?_ (hr' := by exact congrArg nj hpar) (hr := by exact Ys (by omega)); refine ZI ?_; refine ZK ?_; refine Z0 ?_; refine JD ?_; refine X0 ?_
    refine JR ?_; refine Zz ?_; refine ZA ?_; refine Z1 ?_; refine Zs ?_; refine Z1 ?_; refine ZL ?_; refine Z9 (hcon := hvx) ?_; refine Zr ?_; refine Zn ?_; refine JD ?_; refine JT ?_; refine X0 ?_; refine JR ?_
    refine Z0 ?_; refine JD ?_
    exact X1 ⟨_, St.le_refl _, ⟨rfl, trivial⟩, X2 _⟩
  case neg =>
   have hpar : i % 2 = 1 := by omega
   by_cases hk : k = 6
   case neg =>
    rw [X2e hx (by rw [hpar]; show ¬ k = _; omega)]
    refine X0 ?_; refine JR ?_; refine Z8 ?_; refine JD ?_; refine X0 ?_; refine JT ?_; refine X3 ?_; refine X0 ?_; refine X5 ?_; refine X0 ?_; refine JR ?_; refine Z1 ?_; refine ZI ?_
    refine ZJ ?_; refine Zt (γ := 100) ?_; refine Z0 ?_; refine Zw ?_; refine JD ?_; refine X0 ?_; refine JR ?_; refine Z5 ?_; refine Z1 ?_
    refine Z4 (op := .rem) (r' := nj 1) (u := nj i) (v := nj 2) ?_ (hr' := by exact congrArg nj hpar) (hr := by exact Ys (by omega)); refine ZI ?_; refine ZK ?_; refine Z0 ?_; refine JD ?_; refine X0 ?_
    refine JR ?_; refine Zz ?_; refine ZA ?_; refine Z1 ?_; refine Zs ?_; refine Z1 ?_; refine Zl ?_; refine Zl ?_; refine Zl ?_; refine Zk ?_; refine JD ?_; refine JT ?_; refine X0 ?_; refine JR ?_; refine Z0 ?_
    refine JD ?_
    exact X1 ⟨_, St.le_refl _, ⟨rfl, trivial⟩, X2 _⟩
   subst hk
   have hfl := X6Z (v := .mk 6 n d s q) (.inr rfl) 8 0
   cases hvv : X6 8 (.mk 6 n d s q) with
   | true =>
    rw [hvv] at hvx hfl
    have hgo := X1B hx (by rw [hpar]; rfl) hfl.symm
    rw [hgo, ← hgo, ← hpv]
    refine X0 ?_; refine JR ?_; refine Z8 ?_; refine JD ?_; refine X0 ?_; refine JT ?_; refine X3 ?_; refine X0 ?_; refine X5 ?_; refine X0 ?_; refine JR ?_; refine Z1 ?_; refine ZI ?_
    refine ZJ ?_; refine Zt (γ := 100) ?_; refine Z0 ?_; refine Zw ?_; refine JD ?_; refine X0 ?_; refine JR ?_; refine Z5 ?_; refine Z1 ?_
    refine Z4 (op := .rem) (r' := nj 1) (u := nj i) (v := nj 2) ?_ (hr' := by exact congrArg nj hpar) (hr := by exact Ys (by omega)); refine ZI ?_; refine ZK ?_; refine Z0 ?_; refine JD ?_; refine X0 ?_
    refine JR ?_; refine Zz ?_; refine ZA ?_; refine Z1 ?_; refine Zs ?_; refine Z1 ?_; refine ZL ?_; refine Z9 (hcon := hvx) ?_; refine Zr ?_; refine Zn ?_; refine JD ?_; refine JF ?_; refine X3 ?_; refine JR ?_
    refine Zb ?_; refine Z1 ?_; refine JD ?_
    exact ⟨i + 1, ⟨by omega, hpv.trans hgo⟩, by omega, Xc rfl ⟨JL, JL, JL, trivial⟩ trivial⟩
   | false =>
    rw [hvv] at hvx hfl
    rw [X1N hx hfl.symm]
    refine X0 ?_; refine JR ?_; refine Z8 ?_; refine JD ?_; refine X0 ?_; refine JT ?_; refine X3 ?_; refine X0 ?_; refine X5 ?_; refine X0 ?_; refine JR ?_; refine Z1 ?_; refine ZI ?_
    refine ZJ ?_; refine Zt (γ := 100) ?_; refine Z0 ?_; refine Zw ?_; refine JD ?_; refine X0 ?_; refine JR ?_; refine Z5 ?_; refine Z1 ?_
    refine Z4 (op := .rem) (r' := nj 1) (u := nj i) (v := nj 2) ?_ (hr' := by exact congrArg nj hpar) (hr := by exact Ys (by omega)); refine ZI ?_; refine ZK ?_; refine Z0 ?_; refine JD ?_; refine X0 ?_
    refine JR ?_; refine Zz ?_; refine ZA ?_; refine Z1 ?_; refine Zs ?_; refine Z1 ?_; refine ZL ?_; refine Z9 (hcon := hvx) ?_; refine Zr ?_; refine Zn ?_; refine JD ?_; refine JT ?_; refine X0 ?_; refine JR ?_
    refine Z0 ?_; refine JD ?_
    exact X1 ⟨_, St.le_refl _, ⟨rfl, trivial⟩, X2 _⟩
 obtain rfl : i = l.length := by omega
 rw [hpv, List.drop_length, Yx]
 refine X0 ?_; refine JR ?_; refine Z8 ?_; refine JD ?_; refine X0 ?_; refine JF ?_; refine Xv ?_; refine X0 ?_; refine JR ?_; refine Z0 ?_; refine JD ?_
 exact X1 ⟨_, St.le_refl _, ⟨rfl, trivial⟩, X2 _⟩
end Go.Fw

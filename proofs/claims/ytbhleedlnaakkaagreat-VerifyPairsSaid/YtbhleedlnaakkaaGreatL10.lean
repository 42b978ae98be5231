/- Ranges, greatest common divisors, fractions. -/
import Derived.Test.YtbhleedlnaakkaaGreatChecked
import Derived.Laws.RangeAny
import Derived.Test.YtbhleedlnaakkaaGreatL09
set_option maxHeartbeats 8000000
namespace Go.Fw
open Go Go.Proofs
set_option maxRecDepth 100000
set_option linter.unusedVariables false
set_option linter.unusedSimpArgs false
abbrev nj (n : Nat) : Value := .int .i64 n
def inV (n : Int) : Bool := decide (-1000000000000000 ≤ n ∧ n ≤ 1000000000000000)
theorem X1a (n : Int) : Con Tryz.prog 225 [] [ai n] [] (ab (inV n)) := by
 refine X9 (xs := [ab (inV n)]) Tryz.func225 rfl Tryz.ntmps225 rfl rfl rfl (fun E => ?_)
 by_cases h1 : -1000000000000000 ≤ n
 ·by_cases h2 : n ≤ 1000000000000000
  ·rw [show inV n = true by simp [inV, h1, h2]]
   refine X0 ?_; refine JR ?_; refine Z0 ?_; refine JD ?_; refine X0 ?_; refine JR ?_; refine Z1 ?_; refine Z2 ?_; refine Z1 ?_; refine Z1 ?_; refine Zm ?_; refine Zn ?_; refine Z0 ?_; refine JD ?_
   exact X1 ⟨_, Xe 2 (y := ab true) (AVal.le_of_eq (by refine Eq.trans (b := ab (decide (n ≤ 1000000000000000))) rfl ?_; rw [decide_eq_true h2])), ⟨rfl, trivial⟩, X2 _⟩
  ·rw [show inV n = false by simp [inV, h2]]
   refine X0 ?_; refine JR ?_; refine Z0 ?_; refine JD ?_; refine X0 ?_; refine JR ?_; refine Z1 ?_; refine Z2 ?_; refine Z1 ?_; refine Z1 ?_; refine Zm ?_; refine Zn ?_; refine Z0 ?_; refine JD ?_
   exact X1 ⟨_, Xe 2 (y := ab false) (AVal.le_of_eq (by refine Eq.trans (b := ab (decide (n ≤ 1000000000000000))) rfl ?_; rw [decide_eq_false h2])), ⟨rfl, trivial⟩, X2 _⟩
 ·rw [show inV n = false by simp [inV, h1]]
  refine X0 ?_; refine JR ?_; refine Z0 ?_; refine JD ?_; refine X0 ?_; refine JR ?_; refine Z1 ?_; refine Z2 ?_; refine Z1 ?_; refine Zo ?_; refine Zo ?_; refine Zq ?_; refine Z0 ?_; refine JD ?_
  exact X1 ⟨_, Xe 2 (y := ab false) (AVal.le_refl _), ⟨rfl, trivial⟩, X2 _⟩
theorem X7v (n : Int) : Con Tryz.prog 200 [] [ai n] [] (ab (inV n)) := by
 refine X9 (xs := [ab (inV n)]) Tryz.func200 rfl Tryz.ntmps200 rfl rfl rfl (fun E => ?_)
 by_cases h1 : -1000000000000000 ≤ n
 ·by_cases h2 : n ≤ 1000000000000000
  ·rw [show inV n = true by simp [inV, h1, h2]]
   refine X0 ?_; refine JR ?_; refine Z0 ?_; refine JD ?_; refine X0 ?_; refine JR ?_; refine Z1 ?_; refine Z2 ?_; refine Z1 ?_; refine Z1 ?_; refine Zm ?_; refine Zn ?_; refine Z0 ?_; refine JD ?_
   exact X1 ⟨_, Xe 2 (y := ab true) (AVal.le_of_eq (by refine Eq.trans (b := ab (decide (n ≤ 1000000000000000))) rfl ?_; rw [decide_eq_true h2])), ⟨rfl, trivial⟩, X2 _⟩
  ·rw [show inV n = false by simp [inV, h2]]
   refine X0 ?_; refine JR ?_; refine Z0 ?_; refine JD ?_; refine X0 ?_; refine JR ?_; refine Z1 ?_; refine Z2 ?_; refine Z1 ?_; refine Z1 ?_; refine Zm ?_; refine Zn ?_; refine Z0 ?_; refine JD ?_
   exact X1 ⟨_, Xe 2 (y := ab false) (AVal.le_of_eq (by refine Eq.trans (b := ab (decide (n ≤ 1000000000000000))) rfl ?_; rw [decide_eq_false h2])), ⟨rfl, trivial⟩, X2 _⟩
 ·rw [show inV n = false by simp [inV, h1]]
  refine X0 ?_; refine JR ?_; refine Z0 ?_; refine JD ?_; refine X0 ?_; refine JR ?_; refine Z1 ?_; refine Z2 ?_; refine Z1 ?_; refine Zo ?_; refine Zo ?_; refine Zq ?_; refine Z0 ?_; refine JD ?_
  exact X1 ⟨_, Xe 2 (y := ab false) (AVal.le_refl _), ⟨rfl, trivial⟩, X2 _⟩
theorem X6c (n : Int) (h : -1000000000000000 ≤ n ∧ n ≤ 1000000000000000) : Con Tryz.prog 251 [] [ai n] [] (ai (n.natAbs : Nat)) := by
 refine X9 (xs := [ai (n.natAbs : Nat)]) Tryz.func251 rfl Tryz.ntmps251 rfl rfl rfl (fun E => ?_)
 refine X0 ?_; refine JR ?_; refine Z0 ?_; refine JD ?_; refine X0 ?_; refine JR ?_; refine Z1 ?_; refine Z1 ?_; refine Zu ?_; refine Zz ?_; refine Z0 ?_; refine JD ?_
 exact X1 ⟨_, Xe 2 (y := ai (n.natAbs : Nat)) (AVal.le_of_eq (by refine Eq.trans (b := ai (max n (-n))) rfl ?_; congr 3; omega)), ⟨rfl, trivial⟩, X2 _⟩
theorem X0J (n : Int) (h : -1000000000000000 ≤ n ∧ n ≤ 1000000000000000) : Con Tryz.prog 145 [] [ai n] [] (ai (n.natAbs : Nat)) := by
 refine X9 (xs := [ai (n.natAbs : Nat)]) Tryz.func145 rfl Tryz.ntmps145 rfl rfl rfl (fun E => ?_)
 by_cases h0 : n < 0
 ·refine X0 ?_; refine JR ?_; refine Z0 ?_; refine JD ?_; refine X0 ?_; refine X0 ?_; refine JR ?_; refine Z1 ?_; refine Z8 ?_; refine JD ?_; refine JT ?_; refine X0 ?_; refine JR ?_; refine Z1 ?_
  refine Zu ?_; refine Z0 ?_; refine JD ?_
  exact X1 ⟨_, Xe 2 (y := ai (n.natAbs : Nat)) (AVal.le_of_eq (by refine Eq.trans (b := ai (-n)) rfl ?_; congr 3; omega)), ⟨rfl, trivial⟩, X2 _⟩
 ·refine X0 ?_; refine JR ?_; refine Z0 ?_; refine JD ?_; refine X0 ?_; refine X0 ?_; refine JR ?_; refine Z1 ?_; refine Z8 ?_; refine JD ?_; refine JF ?_; refine X3 ?_; refine X0 ?_; refine JR ?_
  refine Z1 ?_; refine Z0 ?_; refine JD ?_
  exact X1 ⟨_, Xe 2 (y := ai (n.natAbs : Nat)) (AVal.le_of_eq (by refine Eq.trans (b := ai n) rfl ?_; congr 3; omega)), ⟨rfl, trivial⟩, X2 _⟩
theorem X6V (a b : Int) (ha : -1000000000000000 ≤ a ∧ a ≤ 1000000000000000) (hb : -1000000000000000 ≤ b ∧ b ≤ 1000000000000000) : Con Tryz.prog 244 [] [ai a, ai b] [] (ai (Nat.gcd a.natAbs b.natAbs : Nat)) := by
 refine X9 (xs := [ai (Nat.gcd a.natAbs b.natAbs : Nat)]) Tryz.func244 rfl Tryz.ntmps244 rfl rfl rfl (fun E => ?_)
 have h1 : Con Tryz.prog 225 [] [ai a] [] (ab true) := by
  have h := X1a a
  rwa [show inV a = true by simpa [inV] using ha] at h
 have h2 : Con Tryz.prog 225 [] [ai b] [] (ab true) := by
  have h := X1a b
  rwa [show inV b = true by simpa [inV] using hb] at h
 refine X0 ?_; refine JR ?_; refine Z0 ?_; refine JD ?_; refine X0 ?_; refine X0 ?_; refine JR ?_; refine Z1 ?_; refine Z9 (hcon := h1) ?_; refine Zu ?_; refine Z1 ?_; refine Z1 ?_
 refine Z9 (hcon := h2) ?_; refine Zu ?_; refine Zq ?_; refine JD ?_; refine JF ?_; refine X3 ?_; refine X0 ?_; refine JR ?_; refine Z1 ?_; refine Z9 (hcon := X6c a ha) ?_; refine Z1 ?_
 refine Z9 (hcon := X6c b hb) ?_; refine Z0 ?_; refine Z0 ?_; refine JD ?_; refine X0 ?_; refine X4 ?_
 refine Xs (ι := Nat × Nat) (fun i => Nat.gcd i.1 i.2 = Nat.gcd a.natAbs b.natAbs) (fun i => ⟨24, [(0, ai i.1), (1, ai i.2)], []⟩) (fun i => i.2) (a.natAbs, b.natAbs) rfl
  (X7 rfl ⟨JL, JL, trivial⟩ trivial) ?_
 rintro ⟨x, y⟩ hg
 simp only at hg
 by_cases hy : y = 0
 ·subst hy
  rw [← hg, Nat.gcd_zero_right]
  refine X0 ?_; refine X0 ?_; refine JR ?_; refine Z1 ?_; refine Zv ?_; refine JD ?_; refine JF ?_; refine Xo ?_; refine X0 ?_; refine JR ?_; refine Z1 ?_; refine Z0 ?_; refine JD ?_
  exact X1 ⟨_, St.le_refl _, ⟨rfl, trivial⟩, X2 _⟩
 ·have hy' : ¬ ((y : Int) = 0) := by omega
  refine X0 ?_; refine X0 ?_; refine JR ?_; refine Z1 ?_; refine Zv ?_; refine JD ?_; refine JT ?_; refine X3 ?_; refine X4 ?_; refine JR ?_; refine Z1 ?_; refine Z1 ?_; refine Z1 ?_
  refine Z7 (op := .rem) (r' := nj (x % y)) (u := nj x) (v := nj y) ?_ (hr := by exact YD hy); refine Z0 ?_; refine Z0 ?_; refine JD ?_
  exact ⟨(y, x % y), by simp only; rw [← hg, Nat.gcd_comm x y, Nat.gcd_rec y x, Nat.gcd_comm], Nat.mod_lt _ (by omega), X7 rfl ⟨JL, JL, trivial⟩ trivial⟩
theorem XbI (x y : Nat) (hx : x ≤ 1000000000000000) (hy : y ≤ 1000000000000000) : Con Tryz.prog 204 [] [ai x, ai y] [] (ai (Nat.gcd x y : Nat)) := by
 refine X9 (xs := [ai (Nat.gcd x y : Nat)]) Tryz.func204 rfl Tryz.ntmps204 rfl rfl rfl (fun E => ?_)
 refine X0 ?_; refine JR ?_; refine Z0 ?_; refine JD ?_; refine X0 ?_; refine X4 ?_
 generalize hG : Nat.gcd x y = G
 refine Xs (ι := Nat × Nat) (fun i => Nat.gcd i.1 i.2 = G) (fun i => ⟨12, [(0, ai i.1), (1, ai i.2)], []⟩) (fun i => i.2) (x, y) hG
  (X7 rfl ⟨JL, JL, trivial⟩ trivial) ?_
 rintro ⟨x, y⟩ hg
 simp only at hg
 by_cases hy : y = 0
 ·subst hy
  rw [← hg, Nat.gcd_zero_right]
  refine X0 ?_; refine X0 ?_; refine JR ?_; refine Z1 ?_; refine Zs ?_; refine JD ?_; refine JF ?_; refine Xo ?_; refine X0 ?_; refine JR ?_; refine Z1 ?_; refine Z0 ?_; refine JD ?_
  exact X1 ⟨_, St.le_refl _, ⟨rfl, trivial⟩, X2 _⟩
 ·have hy' : (0 : Int) < y := by omega
  refine X0 ?_; refine X0 ?_; refine JR ?_; refine Z1 ?_; refine Zs ?_; refine JD ?_; refine JT ?_; refine X3 ?_; refine X4 ?_; refine JR ?_; refine Z1 ?_; refine Z1 ?_; refine Z1 ?_
  refine Z7 (op := .rem) (r' := nj (x % y)) (u := nj x) (v := nj y) ?_ (hr := by exact YD hy); refine Z0 ?_; refine Z0 ?_; refine JD ?_
  exact ⟨(y, x % y), by simp only; rw [← hg, Nat.gcd_comm x y, Nat.gcd_rec y x, Nat.gcd_comm], Nat.mod_lt _ (by omega), X7 rfl ⟨JL, JL, trivial⟩ trivial⟩
abbrev Yz (n d : Int) : AVal := .agg [ai n, ai d]
theorem VD {n d : Int} (h : ¬ (1 ≤ d ∧ d ≤ 1000000000000000 ∧ -1000000000000000 ≤ n ∧ n ≤ 1000000000000000)) : YN n d = false := by simp only [YN, decide_eq_false h, Bool.false_and]
theorem X5U {n d : Int} (h : 1 ≤ d ∧ d ≤ 1000000000000000 ∧ -1000000000000000 ≤ n ∧ n ≤ 1000000000000000) : YN n d = decide (Nat.gcd n.natAbs d.natAbs = 1) := by simp only [YN, decide_eq_true h, Bool.true_and]
theorem X9p (n d : Int) : Con Tryz.prog 226 [] [Yz n d] [] (ab (YN n d)) := by
 refine X9 (xs := [ab (YN n d)]) Tryz.func226 rfl Tryz.ntmps226 rfl rfl rfl (fun E => ?_)
 by_cases h1 : 1 ≤ d
 case neg =>
  rw [VD (by omega)]
  repeat first | refine X0 ?_ | (refine JR ?_; (repeat first | refine Z1 ?_ | refine Z0 ?_ | refine ZB ?_ | refine ZC ?_ | refine Z2 ?_ | refine ZA (γ := 100) ?_ | refine Zq ?_ | refine Zo ?_); refine JD ?_)
  exact X1 ⟨_, St.le_refl _, ⟨rfl, trivial⟩, X2 _⟩
 by_cases h2 : d ≤ 1000000000000000
 case neg =>
  rw [VD (by omega)]
  refine X0 ?_; refine JR ?_; refine ZA (γ := 100) ?_; refine Z0 ?_; refine JD ?_; refine X0 ?_; refine JR ?_; refine ZB ?_; refine ZC ?_; refine Z2 ?_; refine Z1 ?_; refine ZB ?_; refine ZC ?_; refine Zm ?_
  refine Zn ?_; refine Z1 ?_; refine Zo ?_; refine Zo ?_; refine Zo ?_; refine Zq ?_; refine Z1 ?_; refine Zo ?_; refine Zo ?_; refine Zo ?_; refine Zo ?_; refine Zo ?_; refine Zo ?_; refine Zq ?_; refine Z0 ?_
  refine JD ?_
  exact X1 ⟨_, St.le_refl _, ⟨rfl, trivial⟩, X2 _⟩
 by_cases h3 : -1000000000000000 ≤ n ∧ n ≤ 1000000000000000
 case neg =>
  rw [VD (by omega)]
  have hin : Con Tryz.prog 225 [] [ai n] [] (ab false) := by
   have h := X1a n
   rwa [show inV n = false by simpa [inV] using h3] at h
  refine X0 ?_; refine JR ?_; refine ZA (γ := 100) ?_; refine Z0 ?_; refine JD ?_; refine X0 ?_; refine JR ?_; refine ZB ?_; refine ZC ?_; refine Z2 ?_; refine Z1 ?_; refine ZB ?_; refine ZC ?_; refine Zm ?_
  refine Zn ?_; refine Z1 ?_; refine ZB ?_; refine ZC ?_; refine Z9 (hcon := hin) ?_; refine Zn ?_; refine Z1 ?_; refine Zo ?_; refine Zo ?_; refine Zo ?_; refine Zo ?_; refine Zo ?_; refine Zo ?_; refine Zq ?_
  refine Z0 ?_; refine JD ?_
  exact X1 ⟨_, St.le_refl _, ⟨rfl, trivial⟩, X2 _⟩
 rw [X5U (by omega)]
 have hin : Con Tryz.prog 225 [] [ai n] [] (ab true) := by
  have h := X1a n
  rwa [show inV n = true by simpa [inV] using h3] at h
 refine X0 ?_; refine JR ?_; refine ZA (γ := 100) ?_; refine Z0 ?_; refine JD ?_; refine X0 ?_; refine JR ?_; refine ZB ?_; refine ZC ?_; refine Z2 ?_; refine Z1 ?_; refine ZB ?_; refine ZC ?_; refine Zm ?_
 refine Zn ?_; refine Z1 ?_; refine ZB ?_; refine ZC ?_; refine Z9 (hcon := hin) ?_; refine Zn ?_; refine Z1 ?_; refine ZB ?_; refine ZC ?_; refine ZB ?_; refine ZC ?_; refine Z9 (hcon := X6V n d h3 (by omega)) ?_
 refine Zl ?_; refine Zn ?_; refine Z0 ?_; refine JD ?_
 exact X1 ⟨_, Xe 2 (y := ab (decide (Nat.gcd n.natAbs d.natAbs = 1))) (AVal.le_of_eq (by refine Eq.trans (b := ab (decide (((Nat.gcd n.natAbs d.natAbs : Nat) : Int) = 1))) rfl ?_; exact congrArg ab (decide_eq_decide.2 (by omega)))), ⟨rfl, trivial⟩, X2 _⟩
theorem X1P (n d : Int) : Con Tryz.prog 141 [] [Yz n d] [] (ab (YN n d)) := by
 refine X9 (xs := [ab (YN n d)]) Tryz.func141 rfl Tryz.ntmps141 rfl rfl rfl (fun E => ?_)
 by_cases h1 : 1 ≤ d
 case neg =>
  rw [VD (by omega)]
  repeat first | refine X0 ?_ | (refine JR ?_; (repeat first | refine Z1 ?_ | refine Z0 ?_ | refine ZB ?_ | refine ZC ?_ | refine Z2 ?_ | refine ZA (γ := 100) ?_ | refine Zq ?_ | refine Zo ?_); refine JD ?_)
  exact X1 ⟨_, St.le_refl _, ⟨rfl, trivial⟩, X2 _⟩
 by_cases h2 : d ≤ 1000000000000000
 case neg =>
  rw [VD (by omega)]
  repeat first | refine X0 ?_ | (refine JR ?_; (repeat first | refine Z1 ?_ | refine Z0 ?_ | refine ZB ?_ | refine ZC ?_ | refine Zm ?_ | refine Z2 ?_ | refine ZA (γ := 100) ?_ | refine Zn ?_ | refine Zq ?_ | refine Zo ?_); refine JD ?_)
  exact X1 ⟨_, St.le_refl _, ⟨rfl, trivial⟩, X2 _⟩
 by_cases h3 : -1000000000000000 ≤ n
 case neg =>
  rw [VD (by omega)]
  repeat first | refine X0 ?_ | (refine JR ?_; (repeat first | refine Z1 ?_ | refine Z0 ?_ | refine ZB ?_ | refine ZC ?_ | refine Zm ?_ | refine Z2 ?_ | refine ZA (γ := 100) ?_ | refine Zn ?_ | refine Zq ?_ | refine Zo ?_); refine JD ?_)
  exact X1 ⟨_, St.le_refl _, ⟨rfl, trivial⟩, X2 _⟩
 by_cases h4 : n ≤ 1000000000000000
 case neg =>
  rw [VD (by omega)]
  repeat first | refine X0 ?_ | (refine JR ?_; (repeat first | refine Z1 ?_ | refine Z0 ?_ | refine ZB ?_ | refine ZC ?_ | refine Zm ?_ | refine Z2 ?_ | refine ZA (γ := 100) ?_ | refine Zn ?_ | refine Zq ?_ | refine Zo ?_); refine JD ?_)
  exact X1 ⟨_, St.le_refl _, ⟨rfl, trivial⟩, X2 _⟩
 rw [X5U (by omega)]
 obtain ⟨e, rfl⟩ : ∃ e : Nat, d = e := ⟨d.toNat, by omega⟩
 refine X0 ?_; refine JR ?_; refine ZA (γ := 100) ?_; refine Z0 ?_; refine JD ?_; refine X0 ?_; refine JR ?_; refine ZB ?_; refine ZC ?_; refine Z2 ?_; refine Z1 ?_; refine ZB ?_; refine ZC ?_; refine Zm ?_
 refine Zn ?_; refine Z1 ?_; refine ZB ?_; refine ZC ?_; refine Z2 ?_; refine Zn ?_; refine Z1 ?_; refine ZB ?_; refine ZC ?_; refine Zm ?_; refine Zn ?_; refine Z1 ?_; refine ZB ?_; refine ZC ?_
 refine Z9 (hcon := X0J n ⟨h3, h4⟩) ?_; refine ZB ?_; refine ZC ?_; refine Z9 (hcon := XbI n.natAbs e (by omega) (by omega)) ?_; refine Zl ?_; refine Zn ?_; refine Z0 ?_; refine JD ?_
 exact X1 ⟨_, Xe 2 (y := ab (decide (Nat.gcd n.natAbs (e : Int).natAbs = 1))) (AVal.le_of_eq (by refine Eq.trans (b := ab (decide (((Nat.gcd n.natAbs e : Nat) : Int) = 1))) rfl ?_; exact congrArg ab (decide_eq_decide.2 (by rw [Int.natAbs_natCast]; omega)))), ⟨rfl, trivial⟩, X2 _⟩
end Go.Fw
namespace Go.Fw
open Go Go.Proofs
set_option maxRecDepth 100000
set_option linter.unusedVariables false
set_option linter.unusedSimpArgs false
abbrev X0Z (l : List UInt8) : AVal := .d (.v (.string (X6 l)))
def okB (b : UInt8) : Bool := decide (32 ≤ b.toNat ∧ b.toNat ≤ 126)
def UP (s : List UInt8) : Int := if YM s then -1 else (s.takeWhile okB).length
theorem X61 {s : List UInt8} : (UP s < 0) ↔ YM s = true := by
 unfold UP
 cases YM s <;> simp
theorem X6J {s : List UInt8} {p : Nat} (h : ∀ j, j < p → ∃ b, s[j]? = some b ∧ okB b = true) (hp : p = s.length) : YM s = true := by
 unfold YM
 rw [List.all_eq_true]
 intro x hx
 obtain ⟨i, hi⟩ := List.getElem?_of_mem hx
 obtain ⟨b, h1, h2⟩ := h i (by rw [hp]; exact (List.getElem?_eq_some_iff.1 hi).1)
 rw [hi] at h1; cases h1; exact h2
theorem Xbi {s : List UInt8} {p : Nat} {c : UInt8} (h : ∀ j, j < p → ∃ b, s[j]? = some b ∧ okB b = true) (hc : s[p]? = some c) (hb : okB c = false) : UP s = p := by
 have h1 : YM s = false := by
  cases hs : YM s with
  | false => rfl
  | true =>
   unfold YM at hs
   rw [List.all_eq_true] at hs
   have := hs c (List.mem_of_getElem? hc)
   unfold okB at hb
   rw [hb] at this; simp at this
 unfold UP
 rw [h1, X5g s p h (fun b hb' => by rw [hc] at hb'; cases hb'; exact hb)]
 simp
theorem X3Y (l : List UInt8) {p : Nat} {c : UInt8} (h : l[p]? = some c) (hp : p < (X6 l).size) : (X6 l)[p] = c := by
 have h1 := (List.getElem?_eq_some_iff.1 h).2
 exact h1
theorem X7D (c : Nat) (hc : c ≤ 2147483647) : Con Tryz.prog 228 [] [.d (.v (.int .i32 c))] [] (ab (!decide (32 ≤ c ∧ c ≤ 126))) := by
 refine X9 (xs := [ab (!decide (32 ≤ c ∧ c ≤ 126))]) Tryz.func228 rfl Tryz.ntmps228 rfl rfl rfl (fun E => ?_)
 by_cases h1 : c < 32
 ·rw [show (!decide (32 ≤ c ∧ c ≤ 126)) = true by simp; omega]
  refine X0 ?_; refine JR ?_; refine Z0 ?_; refine JD ?_; refine X0 ?_; refine JR ?_; refine Z1 ?_; refine Z8 ?_; refine Z1 ?_; refine Zo ?_; refine Zo ?_; refine Zn ?_; refine Z0 ?_; refine JD ?_
  exact X1 ⟨_, St.le_refl _, ⟨rfl, trivial⟩, X2 _⟩
 ·by_cases h2 : 126 < c
  ·rw [show (!decide (32 ≤ c ∧ c ≤ 126)) = true by simp; omega]
   refine X0 ?_; refine JR ?_; refine Z0 ?_; refine JD ?_; refine X0 ?_; refine JR ?_; refine Z1 ?_; refine Z8 ?_; refine Z1 ?_; refine Z1 ?_; refine Zs ?_; refine Zq ?_; refine Z0 ?_; refine JD ?_
   exact X1 ⟨_, Xe 2 (y := ab true) (AVal.le_of_eq (by refine Eq.trans (b := ab (decide (126 < (c : Int)))) rfl ?_; exact congrArg ab (decide_eq_true (by omega)))), ⟨rfl, trivial⟩, X2 _⟩
  ·rw [show (!decide (32 ≤ c ∧ c ≤ 126)) = false by simp; omega]
   refine X0 ?_; refine JR ?_; refine Z0 ?_; refine JD ?_; refine X0 ?_; refine JR ?_; refine Z1 ?_; refine Z8 ?_; refine Z1 ?_; refine Z1 ?_; refine Zs ?_; refine Zq ?_; refine Z0 ?_; refine JD ?_
   exact X1 ⟨_, Xe 2 (y := ab false) (AVal.le_of_eq (by refine Eq.trans (b := ab (decide (126 < (c : Int)))) rfl ?_; exact congrArg ab (decide_eq_false (by omega)))), ⟨rfl, trivial⟩, X2 _⟩
theorem Xba (s : List UInt8) (hs : s.length ≤ 9223372036854775807) : Con Tryz.prog 245 [] [X0Z s, .fn 228 [], ab true] [] (ai (UP s)) := by
 refine X9 (xs := [ai (UP s)]) Tryz.func245 rfl Tryz.ntmps245 rfl rfl rfl (fun E => ?_)
 have hsz : (X6 s).size = s.length := rfl
 refine X0 ?_; refine JR ?_; refine Z0 ?_; refine JD ?_; refine X0 ?_; refine X0 ?_; refine JR ?_; refine Z1 ?_; refine ZD (γ := 100) ?_; refine JD ?_; refine X4 ?_
 refine Xs (fun p : Nat => p ≤ s.length ∧ ∀ j, j < p → ∃ b, s[j]? = some b ∧ okB b = true) (fun p => ⟨21, [(1, .fn 228 []), (2, ab true), (10, .ptr 100 0)], [(100, .iter (X6 s) p)]⟩) (fun p => s.length - p) 0 ⟨by omega, fun j hj => by omega⟩
  (X7 rfl ⟨JL, JL, JL, trivial⟩ ⟨rfl, trivial⟩) ?_
 rintro p ⟨hp, hall⟩
 by_cases hlt : p < s.length
 ·obtain ⟨c, hc⟩ := Xm (l := s) hlt
  have hlt' : p < (X6 s).size := hlt
  have hget := X3Y s hc hlt'
  have hr := X7D (Utf8.decode (X6 s) p).1 (decode_le _ _)
  have go : okB c = true → Utf8.decode (X6 s) p = (c.toNat, 1) := fun hok => decode_ascii _ _ hlt' (by unfold okB at hok; rw [decide_eq_true_eq] at hok; rw [hget]; omega) |>.trans (by rw [hget])
  cases hok : okB c with
  | true =>
   have hd := go hok
   rw [show (!decide (32 ≤ (Utf8.decode (X6 s) p).1 ∧ (Utf8.decode (X6 s) p).1 ≤ 126)) = false by rw [hd]; unfold okB at hok; simp only; rw [hok]; rfl] at hr
   refine X0 ?_; refine JR ?_; refine ZE ?_; refine ZF ?_; refine JD ?_; refine X0 ?_; refine JT ?_; refine X3 ?_; refine X4 ?_; refine X0 ?_; refine JR ?_; refine ZF ?_; refine ZF ?_
   refine Z0 ?_; refine Z0 ?_; refine JD ?_; refine X0 ?_; refine JR ?_; refine Z1 ?_; refine Z1 ?_; refine ZG (hcon := hr) ?_; refine Z1 ?_; refine ZH ?_; refine JD ?_; refine JF ?_; refine X3 ?_
   refine ⟨p + 1, ⟨by omega, fun j hj => ?_⟩, by omega, X7 rfl ⟨JL, JL, JL, trivial⟩ ⟨?_, trivial⟩⟩
   ·by_cases e : j = p
    ·subst e; exact ⟨c, hc, hok⟩
    ·exact hall j (by omega)
   ·refine Eq.trans (b := AObj.iter (X6 s) (p + (Utf8.decode (X6 s) p).2)) rfl ?_
    rw [hd]
  | false =>
   rw [Xbi hall hc hok]
   have hbad : (!decide (32 ≤ (Utf8.decode (X6 s) p).1 ∧ (Utf8.decode (X6 s) p).1 ≤ 126)) = true := by
    by_cases ha : c.toNat < 128
    ·rw [decode_ascii _ _ hlt' (by rw [hget]; exact ha), hget]
     unfold okB at hok
     simp only; rw [hok]; rfl
    ·have := (decode_high (X6 s) p hlt' (by rw [hget]; omega)).1
     simp; omega
   rw [hbad] at hr
   refine X0 ?_; refine JR ?_; refine ZE ?_; refine ZF ?_; refine JD ?_; refine X0 ?_; refine JT ?_; refine X3 ?_; refine X4 ?_; refine X0 ?_; refine JR ?_; refine ZF ?_; refine ZF ?_
   refine Z0 ?_; refine Z0 ?_; refine JD ?_; refine X0 ?_; refine JR ?_; refine Z1 ?_; refine Z1 ?_; refine ZG (hcon := hr) ?_; refine Z1 ?_; refine ZH ?_; refine JD ?_; refine JT ?_; refine X0 ?_; refine JR ?_
   refine Z1 ?_; refine Z0 ?_; refine JD ?_
   exact X1 ⟨_, St.le_refl _, ⟨rfl, trivial⟩, X2 _⟩
 ·obtain rfl : p = s.length := by omega
  rw [show UP s = -1 by unfold UP; rw [X6J hall rfl]; rfl]
  have hge : (X6 s).size ≤ s.length := Nat.le_refl _
  refine X0 ?_; refine JR ?_; refine ZI ?_; refine ZF ?_; refine JD ?_; refine X0 ?_; refine JF ?_; refine Xo ?_; refine X0 ?_; refine JR ?_; refine Z0 ?_; refine JD ?_
  exact X1 ⟨_, St.le_refl _, ⟨rfl, trivial⟩, X2 _⟩
theorem X7g (s : List UInt8) (hs : s.length ≤ 9223372036854775807) : Con Tryz.prog 227 [] [X0Z s, .fn 228 []] [] (ai (UP s)) := by
 refine X9 (xs := [ai (UP s)]) Tryz.func227 rfl Tryz.ntmps227 rfl rfl rfl (fun E => ?_)
 refine X0 ?_; refine JR ?_; refine Z0 ?_; refine JD ?_; refine X0 ?_; refine JR ?_; refine Z1 ?_; refine Z1 ?_; refine Z9 (hcon := Xba s hs) ?_; refine Z0 ?_; refine JD ?_
 exact X1 ⟨_, St.le_refl _, ⟨rfl, trivial⟩, X2 _⟩
end Go.Fw
namespace Go.Fw
open Go Go.Proofs
set_option maxRecDepth 100000
set_option linter.unusedVariables false
set_option linter.unusedSimpArgs false
def Xn : Val → AVal
 | .mk k n d s l => .agg [ai k, ai n, ai d, X0Z s, .d (.sl 5 (XG l))]
def YB (l : List Val) : Bool := decide (l.length % 2 = 1 ∧ l.length ≤ 25) && YQ 0 l
theorem X3Q {v : Val} (h : v.kind = 5 ∨ v.kind = 6) (m m' : Nat) : X5 m v = X5 m' v := by
 obtain ⟨k, n, d, s, l⟩ := v
 have h : k = 5 ∨ k = 6 := h
 rw [X5, X5]
 rcases h with rfl | rfl <;> simp
theorem UE (l : List Val) : (XG l).length = l.length := by rw [X0C, List.length_map]
theorem X1g {l : List Val} {i : Nat} {x : Val} (h : l[i]? = some x) : (XG l)[i]? = some (Y8 x) := by rw [X0C]; exact Xr h
theorem X3h {i : Nat} {l : List Val} {x : Val} (h : l[i]? = some x) : YQ i (l.drop i) = (decide (x.kind = 5 + (i % 2 : Nat)) && X5 0 x && YQ (i + 1) (l.drop (i + 1))) := by
 rw [List.drop_eq_getElem_cons (List.getElem?_eq_some_iff.1 h).1, (List.getElem?_eq_some_iff.1 h).2, YQ]
theorem X6E {m i : Nat} {l : List Val} {x : Val} (h : l[i]? = some x) : YX m (l.drop i) = (X5 m x && YX m (l.drop (i + 1))) := by
 rw [List.drop_eq_getElem_cons (List.getElem?_eq_some_iff.1 h).1, (List.getElem?_eq_some_iff.1 h).2, YX]
theorem X2f {i : Nat} {l : List Val} {x : Val} (h : l[i]? = some x) (hk : ¬ x.kind = 5 + (i % 2 : Nat)) : YQ i (l.drop i) = false := by
 rw [X3h h, decide_eq_false hk]; rfl
theorem X1o {i : Nat} {l : List Val} {x : Val} (h : l[i]? = some x) (hv : X5 0 x = false) : YQ i (l.drop i) = false := by
 rw [X3h h, hv, Bool.and_false]; rfl
theorem X1S {i : Nat} {l : List Val} {x : Val} (h : l[i]? = some x) (hk : x.kind = 5 + (i % 2 : Nat)) (hv : X5 0 x = true) : YQ i (l.drop i) = YQ (i + 1) (l.drop (i + 1)) := by
 rw [X3h h, decide_eq_true hk, hv]; rfl
def X1A (v : Val) : Prop := ∀ m : Nat, m ≤ 8 → Con Tryz.prog 211 [] [Xn v, ai (8 - m : Nat)] [] (ab (X5 m v))
def X2s (l : List Val) : Prop := Con Tryz.prog 229 [] [.d (.sl 5 (XG l))] [] (ab (YB l))
theorem X8Q (l : List Val) (ih : ∀ x ∈ l, X1A x) : X2s l := by
 refine X9 (xs := [ab (YB l)]) Tryz.func229 rfl Tryz.ntmps229 rfl rfl rfl (fun E => ?_)
 have hlen := UE l
 by_cases h1 : l.length % 2 = 0
 ·rw [show YB l = false by unfold YB; rw [decide_eq_false (by omega), Bool.false_and]]
  refine X0 ?_; refine JR ?_; refine Z0 ?_; refine JD ?_; refine X0 ?_; refine X0 ?_; refine JR ?_; refine Z1 ?_; refine Zd ?_; refine ZJ ?_; refine Zl ?_; refine Z1 ?_; refine Zo ?_; refine Zo ?_
  refine Zo ?_; refine Zn ?_; refine JD ?_; refine JT ?_; refine X0 ?_; refine JR ?_; refine Z0 ?_; refine JD ?_
  exact X1 ⟨_, St.le_refl _, ⟨rfl, trivial⟩, X2 _⟩
 by_cases h2 : 25 < l.length
 ·rw [show YB l = false by unfold YB; rw [decide_eq_false (by omega), Bool.false_and]]
  refine X0 ?_; refine JR ?_; refine Z0 ?_; refine JD ?_; refine X0 ?_; refine X0 ?_; refine JR ?_; refine Z1 ?_; refine Zd ?_; refine ZJ ?_; refine Zl ?_; refine Z1 ?_; refine Z1 ?_; refine Zd ?_
  refine Zs ?_; refine Zq ?_; refine JD ?_; refine JT ?_; refine X0 ?_; refine JR ?_; refine Z0 ?_; refine JD ?_
  exact X1 ⟨_, St.le_refl _, ⟨rfl, trivial⟩, X2 _⟩
 rw [show YB l = YQ 0 (l.drop 0) by unfold YB; rw [decide_eq_true (by omega), Bool.true_and]; rfl]
 refine X0 ?_; refine JR ?_; refine Z0 ?_; refine JD ?_; refine X0 ?_; refine X0 ?_; refine JR ?_; refine Z1 ?_; refine Zd ?_; refine ZJ ?_; refine Zl ?_; refine Z1 ?_; refine Z1 ?_; refine Zd ?_
 refine Zs ?_; refine Zq ?_; refine JD ?_; refine JF ?_; refine X3 ?_; refine X0 ?_; refine X0 ?_; refine JR ?_; refine Z1 ?_; refine Zd ?_; refine Z1 ?_; refine JD ?_; refine X4 ?_
 refine Xs (fun i : Nat => i ≤ l.length ∧ YQ 0 (l.drop 0) = YQ i (l.drop i)) (fun i => ⟨37, [(15, .d (.sl 5 (XG l))), (16, ai l.length), (17, ai i)], []⟩) (fun i => l.length - i) 0 ⟨by omega, rfl⟩
  (X7 rfl ⟨JL, (by refine AVal.le_of_eq ?_; refine Eq.trans (b := ai ((XG l).length : Nat)) rfl ?_; rw [hlen]), JL, trivial⟩ trivial) ?_
 rintro i ⟨hi, hpv⟩
 by_cases hlt : i < l.length
 ·obtain ⟨x, hx⟩ := Xm (l := l) hlt
  have hgx := X1g hx
  have hixl : i < (XG l).length := by rw [hlen]; exact hlt
  have hvx := ih x (List.mem_of_getElem? hx) 8 (by omega)
  obtain ⟨k, n, d, s, q⟩ := x
  simp only [Xn, Nat.sub_self] at hvx
  rw [Y8] at hgx
  rw [hpv]
  by_cases hpar : i % 2 = 0
  case pos =>
   by_cases hk : k = 5
   case neg =>
    rw [X2f hx (by rw [hpar]; show ¬ k = _; omega)]
    refine X0 ?_; refine JR ?_; refine Z8 ?_; refine JD ?_; refine X0 ?_; refine JT ?_; refine X3 ?_; refine X0 ?_; refine X4 ?_; refine X0 ?_; refine JR ?_; refine Z1 ?_; refine Zj ?_
    refine ZK ?_; refine Zw (γ := 100) ?_; refine Z0 ?_; refine Zy ?_; refine JD ?_; refine X0 ?_; refine JR ?_; refine Z5 ?_; refine Z1 ?_
    refine Z4 (op := .rem) (r' := nj 0) (u := nj i) (v := nj 2) ?_ (hr' := by exact congrArg nj hpar) (hr := by exact YD (by omega)); refine Zj ?_; refine Zk ?_; refine Z0 ?_; refine JD ?_; refine X0 ?_
    refine JR ?_; refine ZB ?_; refine ZC ?_; refine Z1 ?_; refine Zv ?_; refine Z1 ?_; refine Zo ?_; refine Zo ?_; refine Zo ?_; refine Zn ?_; refine JD ?_; refine JT ?_; refine X0 ?_; refine JR ?_; refine Z0 ?_
    refine JD ?_
    exact X1 ⟨_, St.le_refl _, ⟨rfl, trivial⟩, X2 _⟩
   subst hk
   have hfl := X3Q (v := .mk 5 n d s q) (.inl rfl) 8 0
   cases hvv : X5 8 (.mk 5 n d s q) with
   | true =>
    rw [hvv] at hvx hfl
    have hgo := X1S hx (by rw [hpar]; rfl) hfl.symm
    rw [hgo, ← hgo, ← hpv]
    refine X0 ?_; refine JR ?_; refine Z8 ?_; refine JD ?_; refine X0 ?_; refine JT ?_; refine X3 ?_; refine X0 ?_; refine X4 ?_; refine X0 ?_; refine JR ?_; refine Z1 ?_; refine Zj ?_
    refine ZK ?_; refine Zw (γ := 100) ?_; refine Z0 ?_; refine Zy ?_; refine JD ?_; refine X0 ?_; refine JR ?_; refine Z5 ?_; refine Z1 ?_
    refine Z4 (op := .rem) (r' := nj 0) (u := nj i) (v := nj 2) ?_ (hr' := by exact congrArg nj hpar) (hr := by exact YD (by omega)); refine Zj ?_; refine Zk ?_; refine Z0 ?_; refine JD ?_; refine X0 ?_
    refine JR ?_; refine ZB ?_; refine ZC ?_; refine Z1 ?_; refine Zv ?_; refine Z1 ?_; refine ZL ?_; refine Z9 (hcon := hvx) ?_; refine Zu ?_; refine Zq ?_; refine JD ?_; refine JF ?_; refine X3 ?_; refine JR ?_
    refine Zb ?_; refine Z1 ?_; refine JD ?_
    exact ⟨i + 1, ⟨by omega, hpv.trans hgo⟩, by omega, X7 rfl ⟨JL, JL, JL, trivial⟩ trivial⟩
   | false =>
    rw [hvv] at hvx hfl
    rw [X1o hx hfl.symm]
    refine X0 ?_; refine JR ?_; refine Z8 ?_; refine JD ?_; refine X0 ?_; refine JT ?_; refine X3 ?_; refine X0 ?_; refine X4 ?_; refine X0 ?_; refine JR ?_; refine Z1 ?_; refine Zj ?_
    refine ZK ?_; refine Zw (γ := 100) ?_; refine Z0 ?_; refine Zy ?_; refine JD ?_; refine X0 ?_; refine JR ?_; refine Z5 ?_; refine Z1 ?_
    refine Z4 (op := .rem) (r' := nj 0) (u := nj i) (v := nj 2) ?_ (hr' := by exact congrArg nj hpar) (hr := by exact YD (by omega)); refine Zj ?_; refine Zk ?_; refine Z0 ?_; refine JD ?_; refine X0 ?_
    refine JR ?_; refine ZB ?_; refine ZC ?_; refine Z1 ?_; refine Zv ?_; refine Z1 ?_; refine ZL ?_; refine Z9 (hcon := hvx) ?_; refine Zu ?_; refine Zq ?_; refine JD ?_; refine JT ?_; refine X0 ?_; refine JR ?_
    refine Z0 ?_; refine JD ?_
    exact X1 ⟨_, St.le_refl _, ⟨rfl, trivial⟩, X2 _⟩
  case neg =>
   have hpar : i % 2 = 1 := by omega
   by_cases hk : k = 6
   case neg =>
    rw [X2f hx (by rw [hpar]; show ¬ k = _; omega)]
    refine X0 ?_; refine JR ?_; refine Z8 ?_; refine JD ?_; refine X0 ?_; refine JT ?_; refine X3 ?_; refine X0 ?_; refine X4 ?_; refine X0 ?_; refine JR ?_; refine Z1 ?_; refine Zj ?_
    refine ZK ?_; refine Zw (γ := 100) ?_; refine Z0 ?_; refine Zy ?_; refine JD ?_; refine X0 ?_; refine JR ?_; refine Z5 ?_; refine Z1 ?_
    refine Z4 (op := .rem) (r' := nj 1) (u := nj i) (v := nj 2) ?_ (hr' := by exact congrArg nj hpar) (hr := by exact YD (by omega)); refine Zj ?_; refine Zk ?_; refine Z0 ?_; refine JD ?_; refine X0 ?_
    refine JR ?_; refine ZB ?_; refine ZC ?_; refine Z1 ?_; refine Zv ?_; refine Z1 ?_; refine Zo ?_; refine Zo ?_; refine Zo ?_; refine Zn ?_; refine JD ?_; refine JT ?_; refine X0 ?_; refine JR ?_; refine Z0 ?_
    refine JD ?_
    exact X1 ⟨_, St.le_refl _, ⟨rfl, trivial⟩, X2 _⟩
   subst hk
   have hfl := X3Q (v := .mk 6 n d s q) (.inr rfl) 8 0
   cases hvv : X5 8 (.mk 6 n d s q) with
   | true =>
    rw [hvv] at hvx hfl
    have hgo := X1S hx (by rw [hpar]; rfl) hfl.symm
    rw [hgo, ← hgo, ← hpv]
    refine X0 ?_; refine JR ?_; refine Z8 ?_; refine JD ?_; refine X0 ?_; refine JT ?_; refine X3 ?_; refine X0 ?_; refine X4 ?_; refine X0 ?_; refine JR ?_; refine Z1 ?_; refine Zj ?_
    refine ZK ?_; refine Zw (γ := 100) ?_; refine Z0 ?_; refine Zy ?_; refine JD ?_; refine X0 ?_; refine JR ?_; refine Z5 ?_; refine Z1 ?_
    refine Z4 (op := .rem) (r' := nj 1) (u := nj i) (v := nj 2) ?_ (hr' := by exact congrArg nj hpar) (hr := by exact YD (by omega)); refine Zj ?_; refine Zk ?_; refine Z0 ?_; refine JD ?_; refine X0 ?_
    refine JR ?_; refine ZB ?_; refine ZC ?_; refine Z1 ?_; refine Zv ?_; refine Z1 ?_; refine ZL ?_; refine Z9 (hcon := hvx) ?_; refine Zu ?_; refine Zq ?_; refine JD ?_; refine JF ?_; refine X3 ?_; refine JR ?_
    refine Zb ?_; refine Z1 ?_; refine JD ?_
    exact ⟨i + 1, ⟨by omega, hpv.trans hgo⟩, by omega, X7 rfl ⟨JL, JL, JL, trivial⟩ trivial⟩
   | false =>
    rw [hvv] at hvx hfl
    rw [X1o hx hfl.symm]
    refine X0 ?_; refine JR ?_; refine Z8 ?_; refine JD ?_; refine X0 ?_; refine JT ?_; refine X3 ?_; refine X0 ?_; refine X4 ?_; refine X0 ?_; refine JR ?_; refine Z1 ?_; refine Zj ?_
    refine ZK ?_; refine Zw (γ := 100) ?_; refine Z0 ?_; refine Zy ?_; refine JD ?_; refine X0 ?_; refine JR ?_; refine Z5 ?_; refine Z1 ?_
    refine Z4 (op := .rem) (r' := nj 1) (u := nj i) (v := nj 2) ?_ (hr' := by exact congrArg nj hpar) (hr := by exact YD (by omega)); refine Zj ?_; refine Zk ?_; refine Z0 ?_; refine JD ?_; refine X0 ?_
    refine JR ?_; refine ZB ?_; refine ZC ?_; refine Z1 ?_; refine Zv ?_; refine Z1 ?_; refine ZL ?_; refine Z9 (hcon := hvx) ?_; refine Zu ?_; refine Zq ?_; refine JD ?_; refine JT ?_; refine X0 ?_; refine JR ?_
    refine Z0 ?_; refine JD ?_
    exact X1 ⟨_, St.le_refl _, ⟨rfl, trivial⟩, X2 _⟩
 obtain rfl : i = l.length := by omega
 rw [hpv, List.drop_length, YQ]
 refine X0 ?_; refine JR ?_; refine Z8 ?_; refine JD ?_; refine X0 ?_; refine JF ?_; refine Xo ?_; refine X0 ?_; refine JR ?_; refine Z0 ?_; refine JD ?_
 exact X1 ⟨_, St.le_refl _, ⟨rfl, trivial⟩, X2 _⟩
end Go.Fw

/- Names: the program's and the references'. -/
import Derived.Test.YtpfldfkhgplcgaaGreatDoorChecked
import Derived.Laws.RangeAny
import Derived.Test.YtpfldfkhgplcgaaGreatDoorM11
set_option maxHeartbeats 8000000
namespace Go.Fw
open Go Go.Proofs
set_option maxRecDepth 100000
set_option linter.unusedVariables false
set_option linter.unusedSimpArgs false
theorem X1p {c : UInt8} (h : (97 ≤ c.toNat ∧ c.toNat ≤ 122) ∨ (65 ≤ c.toNat ∧ c.toNat ≤ 90)) : Ub c = true := decide_eq_true h
theorem X0e {c : UInt8} (h : ¬ ((97 ≤ c.toNat ∧ c.toNat ≤ 122) ∨ (65 ≤ c.toNat ∧ c.toNat ≤ 90))) : Ub c = false := decide_eq_false h
theorem Xa1 (c : UInt8) : Con Tryz.prog 146 [] [au8 c.toNat] [] (ab (Ub c)) := by
 refine Xa (xs := [ab (Ub c)]) Tryz.func146 rfl Tryz.ntmps146 rfl rfl rfl (fun E => ?_)
 by_cases h1 : 97 ≤ c.toNat
 ·by_cases h2 : c.toNat ≤ 122
  ·rw [X1p (by omega)]
   refine QP ?_; refine QR ?_; refine Zo ?_; refine Zp ?_; refine Zp ?_; refine QS ?_; refine Qc ?_; exact QT
  ·rw [X0e (by omega)]
   refine QP ?_; refine Qy ?_; exact QX
 by_cases h3 : 65 ≤ c.toNat
 ·by_cases h4 : c.toNat ≤ 90
  ·rw [X1p (by omega)]
   refine QY ?_; refine QZ ?_; refine Z2 ?_; refine Qy ?_; refine Zm ?_; refine Zn ?_; exact Qaa
  ·rw [X0e (by omega)]
   refine QY ?_; refine QZ ?_; exact QX
 rw [X0e (by omega)]
 repeat first | refine X0 ?_ | (refine JR ?_; (repeat first | refine Z1 ?_ | refine Z0 ?_ | refine Z2 ?_ | refine Zq ?_ | refine Zo ?_); refine JD ?_)
 exact QV
theorem X79 {s : List UInt8} (h : s = []) : Yl s = false := by subst h; rfl
theorem X75 {s : List UInt8} (h : 20 < s.length) : Yl s = false := by unfold Yl; rw [decide_eq_false (by omega)]; rfl
theorem X39 {s : List UInt8} {c : UInt8} (hc : s[0]? = some c) (h : Ub c = false) : Yl s = false := by unfold Yl; rw [hc, Option.getD_some, h]; simp
theorem X1g {s : List UInt8} {c : UInt8} {i : Nat} (hc : s[i]? = some c) (h : Y5 c = false) : Yl s = false := by
 unfold Yl
 rw [show s.all Y5 = false by rw [List.all_eq_false]; exact ⟨c, List.mem_of_getElem? hc, by simp [h]⟩]
 simp
theorem X6o {s : List UInt8} {c : UInt8} (hc : s[0]? = some c) (h : Ub c = true) (h20 : ¬ 20 < s.length) (hall : ∀ j, j < s.length → ∃ b, s[j]? = some b ∧ Y5 b = true) : Yl s = true := by
 have hl := (List.getElem?_eq_some_iff.1 hc).1
 unfold Yl
 rw [hc, Option.getD_some, h, decide_eq_true (by omega)]
 simp only [Bool.true_and, List.all_eq_true]
 intro b hb
 obtain ⟨j, hj⟩ := List.getElem?_of_mem hb
 obtain ⟨b', h1, h2⟩ := hall j (List.getElem?_eq_some_iff.1 hj).1
 rw [hj] at h1
 obtain rfl := Option.some.inj h1
 exact h2
theorem X02 {s : List UInt8} {i : Nat} {c : UInt8} (hc : s[i]? = some c) (h : Y5 c = true) (hall : ∀ j, j < i → ∃ b, s[j]? = some b ∧ Y5 b = true) : ∀ j, j < i + 1 → ∃ b, s[j]? = some b ∧ Y5 b = true := fun j hj => by
 by_cases e : j = i
 ·subst e; exact ⟨c, hc, h⟩
 ·exact hall j (by omega)
theorem X3G (s : List UInt8) : Con Tryz.prog 110 [] [.d (.v (.string (X7 s)))] [] (ab (Yl s)) := by
 refine Xa (xs := [ab (Yl s)]) Tryz.func110 rfl Tryz.ntmps110 rfl rfl rfl (fun E => ?_)
 have hsz : (X7 s).size = s.length := rfl
 by_cases h0 : s = []
 ·rw [X79 h0]
  subst h0
  repeat first | refine X0 ?_ | (refine JR ?_; (repeat first | refine Z1 ?_ | refine Z0 ?_ | refine Zr ?_ | refine Zn ?_ | refine Zo ?_); refine JD ?_) | refine JT ?_
  exact QN
 by_cases h20 : 20 < s.length
 ·rw [X75 h20]
  have h20' : (20 : Int) < (X7 s).size := by omega
  refine Qo ?_; refine Zr ?_; refine Qy ?_; refine Zc ?_; refine Qba ?_; refine Qda ?_; exact Qea
 have h20' : ¬ (20 : Int) < (X7 s).size := by omega
 obtain ⟨c, hc⟩ := Xx (l := s) (k := 0) (by cases s with | nil => exact absurd rfl h0 | cons => simp)
 have hl := Xa1 c
 cases hlc : Ub c with
 | false =>
  rw [X39 hc hlc]
  rw [hlc] at hl
  refine Qo ?_; refine Zr ?_; refine Qy ?_; refine Zc ?_; refine Qfa ?_; refine Zt ?_; refine Z9 (hcon := hl) ?_; refine Zu ?_; refine Zq ?_; exact Qea
 | true =>
  rw [hlc] at hl
  refine Qo ?_; refine Zr ?_; refine Qy ?_; refine Zc ?_; refine Qfa ?_; refine Qga ?_; refine Qha ?_; refine Qg ?_; refine Zc ?_; refine Z1 ?_; refine JD ?_; refine X5 ?_
  refine Xu (fun i : Nat => i ≤ s.length ∧ ∀ j, j < i → ∃ b, s[j]? = some b ∧ Y5 b = true) (fun i => ⟨46, [(0, .d (.v (.string (X7 s)))), (18, ai (X7 s).size), (19, ai i)], []⟩) (fun i => s.length - i) 0 ⟨by omega, fun j hj => by omega⟩
   (X9 rfl ⟨JL, JL, JL, trivial⟩ trivial) ?_
  rintro i ⟨hi, hall⟩
  by_cases hil : i < s.length
  case neg =>
   obtain rfl : i = s.length := by omega
   rw [X6o hc hlc h20 hall]
   have hn : ¬ ((s.length : Nat) : Int) < (X7 s).size := by omega
   refine QM ?_; exact Qia
  have hn : (i : Int) < (X7 s).size := by omega
  clear hl hlc hc
  obtain ⟨c, hc⟩ := Xx (l := s) hil
  have hl := Xa1 c
  cases hlc : Ub c with
  | true =>
   rw [hlc] at hl
   have hnx := X02 hc (show Y5 c = true by unfold Y5; rw [hlc]; rfl) hall
   repeat first | refine X0 ?_ | (refine JR ?_; (repeat first | refine Z1 ?_ | refine Z0 ?_ | refine Z8 ?_ | refine Zb ?_ | refine Zu ?_ | refine Zq ?_ | refine Zt ?_ | refine Zo ?_ | refine Zp ?_ | refine Z9 (hcon := hl) ?_); refine JD ?_) | refine JT ?_ | refine JF ?_ | refine X5 ?_ | refine X4 ?_
   exact Qja
  | false =>
   rw [hlc] at hl
   by_cases g1 : 48 ≤ c.toNat
   ·by_cases g2 : c.toNat ≤ 57
    ·have hnx := X02 hc (show Y5 c = true by unfold Y5; rw [decide_eq_true (by omega)]; simp) hall
     repeat first | refine X0 ?_ | (refine JR ?_; (repeat first | refine Z1 ?_ | refine Z0 ?_ | refine Z8 ?_ | refine Zs ?_ | refine Zb ?_ | refine Zu ?_ | refine Zn ?_ | refine Zq ?_ | refine Zt ?_ | refine Zo ?_ | refine Z9 (hcon := hl) ?_); refine JD ?_) | refine JT ?_ | refine JF ?_ | refine X5 ?_ | refine X4 ?_
     exact Qja
    by_cases g3 : c.toNat = 95
    ·have hnx := X02 hc (show Y5 c = true by unfold Y5; rw [decide_eq_true (by omega)]; simp) hall
     repeat first | refine X0 ?_ | (refine JR ?_; (repeat first | refine Z1 ?_ | refine Z0 ?_ | refine Z8 ?_ | refine Zs ?_ | refine Zv ?_ | refine Zb ?_ | refine Zu ?_ | refine Zn ?_ | refine Zq ?_ | refine Zt ?_ | refine Z9 (hcon := hl) ?_); refine JD ?_) | refine JT ?_ | refine JF ?_ | refine X5 ?_ | refine X4 ?_
     exact Qja
    ·rw [X1g hc (show Y5 c = false by unfold Y5; rw [hlc, decide_eq_false (by omega)]; rfl)]
     repeat first | refine X0 ?_ | (refine JR ?_; (repeat first | refine Z1 ?_ | refine Z0 ?_ | refine Z8 ?_ | refine Zs ?_ | refine Zv ?_ | refine Zu ?_ | refine Zn ?_ | refine Zq ?_ | refine Zt ?_ | refine Z9 (hcon := hl) ?_); refine JD ?_) | refine JT ?_ | refine X5 ?_ | refine X4 ?_
     exact QN
   ·have g3 : ¬ c.toNat = 95 := by omega
    rw [X1g hc (show Y5 c = false by unfold Y5; rw [hlc, decide_eq_false (by omega)]; rfl)]
    repeat first | refine X0 ?_ | (refine JR ?_; (repeat first | refine Z1 ?_ | refine Z0 ?_ | refine Z8 ?_ | refine Zv ?_ | refine Zu ?_ | refine Zn ?_ | refine Zt ?_ | refine Zo ?_ | refine Z9 (hcon := hl) ?_); refine JD ?_) | refine JT ?_ | refine X5 ?_ | refine X4 ?_
    exact QN
def Vp (op : Int) : Bool × Bool × Bool × Bool := (decide (op = 6), XV op, XQ op, decide (1 ≤ op ∧ op ≤ 8))
theorem XhB (op : Int) : Con Tryz.prog 111 [] [ai op] [] (.tup [.agg [ab (Vp op).1, ab (Vp op).2.1, ab (Vp op).2.2.1], ab (Vp op).2.2.2]) := by
 refine Xa (xs := [.agg [ab (Vp op).1, ab (Vp op).2.1, ab (Vp op).2.2.1], ab (Vp op).2.2.2]) Tryz.func111 rfl Tryz.ntmps111 rfl rfl rfl (fun E => ?_)
 by_cases k1 : op = 1
 ·subst k1
  refine Qka ?_; refine Qw ?_; refine Qma ?_; exact Qqa
 by_cases k2 : op = 2
 ·subst k2
  refine Qka ?_; refine Qw ?_; refine QG ?_; refine X0 ?_; refine Qra ?_; refine Qla ?_; refine X4 ?_; refine JT ?_; exact Qqa
 by_cases k7 : op = 7
 ·subst k7
  repeat first | refine X0 ?_ | (refine JR ?_; (repeat first | refine Z1 ?_ | refine Z0 ?_ | refine Zl ?_ | refine Zw (γ := 100) ?_ | refine Zy ?_ | refine Zx ?_); refine JD ?_) | refine JT ?_ | refine JF ?_ | refine X5 ?_
  exact Qoa
 by_cases k3 : op = 3
 ·subst k3
  repeat first | refine X0 ?_ | (refine JR ?_; (repeat first | refine Z1 ?_ | refine Z0 ?_ | refine Zl ?_ | refine Zw (γ := 100) ?_ | refine Zy ?_ | refine Zx ?_); refine JD ?_) | refine JT ?_ | refine JF ?_ | refine X5 ?_ | refine X4 ?_
  exact Qoa
 by_cases k4 : op = 4
 ·subst k4
  repeat first | refine X0 ?_ | (refine JR ?_; (repeat first | refine Z1 ?_ | refine Z0 ?_ | refine Zl ?_ | refine Zw (γ := 100) ?_ | refine Zy ?_ | refine Zx ?_); refine JD ?_) | refine JT ?_ | refine JF ?_ | refine X5 ?_
  exact Qoa
 by_cases k5 : op = 5
 ·subst k5
  repeat first | refine X0 ?_ | (refine JR ?_; (repeat first | refine Z1 ?_ | refine Z0 ?_ | refine Zl ?_ | refine Zw (γ := 100) ?_ | refine Zy ?_ | refine Zx ?_); refine JD ?_) | refine JT ?_ | refine JF ?_ | refine X5 ?_ | refine X4 ?_
  exact Qoa
 by_cases k8 : op = 8
 ·subst k8
  repeat first | refine X0 ?_ | (refine JR ?_; (repeat first | refine Z1 ?_ | refine Z0 ?_ | refine Zl ?_ | refine Zw (γ := 100) ?_ | refine Zy ?_ | refine Zx ?_); refine JD ?_) | refine JT ?_ | refine JF ?_ | refine X5 ?_
  exact Qoa
 by_cases k6 : op = 6
 ·subst k6
  repeat first | refine X0 ?_ | (refine JR ?_; (repeat first | refine Z1 ?_ | refine Z0 ?_ | refine Zl ?_ | refine Zw (γ := 100) ?_ | refine Zy ?_ | refine Zx ?_); refine JD ?_) | refine JT ?_ | refine JF ?_ | refine X5 ?_
  exact Qoa
 rw [show Vp op = (false, false, false, false) by unfold Vp XV XQ; rw [decide_eq_false (by omega), decide_eq_false (by omega), decide_eq_false (by omega), decide_eq_false (by omega)]]
 repeat first | refine X0 ?_ | (refine JR ?_; (repeat first | refine Z1 ?_ | refine Z0 ?_ | refine Zl ?_ | refine Zw (γ := 100) ?_ | refine Zy ?_ | refine Zx ?_); refine JD ?_) | refine JF ?_ | refine X5 ?_ | refine X4 ?_
 exact Qoa
def UW (k : Int) : Bool × Bool × Bool × Bool := (V9 k, decide (k = 3 ∨ k = 5 ∨ k = 7), decide (k = 6), decide (1 ≤ k ∧ k ≤ 7))
theorem XeO (op : Int) : Con Tryz.prog 108 [] [ai op] [] (.tup [.agg [ab (UW op).1, ab (UW op).2.1, ab (UW op).2.2.1], ab (UW op).2.2.2]) := by
 refine Xa (xs := [.agg [ab (UW op).1, ab (UW op).2.1, ab (UW op).2.2.1], ab (UW op).2.2.2]) Tryz.func108 rfl Tryz.ntmps108 rfl rfl rfl (fun E => ?_)
 by_cases k1 : op = 1
 ·subst k1
  refine Qka ?_; refine Qw ?_; refine Qma ?_; exact Qqa
 by_cases k2 : op = 2
 ·subst k2
  refine Qka ?_; refine Qw ?_; refine QG ?_; refine X0 ?_; refine Qra ?_; refine Qla ?_; refine X4 ?_; refine JT ?_; exact Qqa
 by_cases k4 : op = 4
 ·subst k4
  repeat first | refine X0 ?_ | (refine JR ?_; (repeat first | refine Z1 ?_ | refine Z0 ?_ | refine Zl ?_ | refine Zw (γ := 100) ?_ | refine Zy ?_ | refine Zx ?_); refine JD ?_) | refine JT ?_ | refine JF ?_ | refine X5 ?_
  exact Qoa
 by_cases k3 : op = 3
 ·subst k3
  repeat first | refine X0 ?_ | (refine JR ?_; (repeat first | refine Z1 ?_ | refine Z0 ?_ | refine Zl ?_ | refine Zw (γ := 100) ?_ | refine Zy ?_ | refine Zx ?_); refine JD ?_) | refine JT ?_ | refine JF ?_ | refine X5 ?_ | refine X4 ?_
  exact Qoa
 by_cases k5 : op = 5
 ·subst k5
  repeat first | refine X0 ?_ | (refine JR ?_; (repeat first | refine Z1 ?_ | refine Z0 ?_ | refine Zl ?_ | refine Zw (γ := 100) ?_ | refine Zy ?_ | refine Zx ?_); refine JD ?_) | refine JT ?_ | refine JF ?_ | refine X5 ?_
  exact Qoa
 by_cases k6 : op = 6
 ·subst k6
  repeat first | refine X0 ?_ | (refine JR ?_; (repeat first | refine Z1 ?_ | refine Z0 ?_ | refine Zl ?_ | refine Zw (γ := 100) ?_ | refine Zy ?_ | refine Zx ?_); refine JD ?_) | refine JT ?_ | refine JF ?_ | refine X5 ?_
  exact Qoa
 by_cases k7 : op = 7
 ·subst k7
  repeat first | refine X0 ?_ | (refine JR ?_; (repeat first | refine Z1 ?_ | refine Z0 ?_ | refine Zl ?_ | refine Zw (γ := 100) ?_ | refine Zy ?_ | refine Zx ?_); refine JD ?_) | refine JT ?_ | refine JF ?_ | refine X5 ?_
  exact Qoa
 rw [show UW op = (false, false, false, false) by unfold UW V9; rw [decide_eq_false (by omega), decide_eq_false (by omega), decide_eq_false (by omega), decide_eq_false (by omega)]]
 repeat first | refine X0 ?_ | (refine JR ?_; (repeat first | refine Z1 ?_ | refine Z0 ?_ | refine Zl ?_ | refine Zw (γ := 100) ?_ | refine Zy ?_ | refine Zx ?_); refine JD ?_) | refine JF ?_ | refine X5 ?_ | refine X4 ?_
 exact Qoa
theorem X64 (n : Int) : Con Tryz.prog 112 [] [ai n] [] (ab (idV n)) := by
 refine Xa (xs := [ab (idV n)]) Tryz.func112 rfl Tryz.ntmps112 rfl rfl rfl (fun E => ?_)
 by_cases h1 : 1 ≤ n
 ·by_cases h2 : n ≤ 1000000
  ·rw [show idV n = true by unfold idV; exact decide_eq_true ⟨h1, h2⟩]
   exact Qua
  ·rw [show idV n = false by unfold idV; exact decide_eq_false (by omega)]
   exact Qwa
 ·rw [show idV n = false by unfold idV; exact decide_eq_false (by omega)]
  refine QY ?_; exact QW
abbrev nj (n : Nat) : Value := .int .i64 n
def inV (n : Int) : Bool := decide (-1000000000000000 ≤ n ∧ n ≤ 1000000000000000)
theorem X3f (n : Int) : Con Tryz.prog 194 [] [ai n] [] (ab (inV n)) := by
 refine Xa (xs := [ab (inV n)]) Tryz.func194 rfl Tryz.ntmps194 rfl rfl rfl (fun E => ?_)
 by_cases h1 : -1000000000000000 ≤ n
 ·by_cases h2 : n ≤ 1000000000000000
  ·rw [show inV n = true by simp [inV, h1, h2]]
   refine Qva ?_; exact Qxa
  ·rw [show inV n = false by simp [inV, h2]]
   refine Qva ?_; exact Qya
 ·rw [show inV n = false by simp [inV, h1]]
  refine QY ?_; refine QU ?_; exact X1 ⟨_, Xb 2 (y := ab false) (AVal.le_refl _), ⟨rfl, trivial⟩, X3 _⟩
theorem Xgt (n : Int) : Con Tryz.prog 181 [] [ai n] [] (ab (inV n)) := by
 refine Xa (xs := [ab (inV n)]) Tryz.func181 rfl Tryz.ntmps181 rfl rfl rfl (fun E => ?_)
 by_cases h1 : -1000000000000000 ≤ n
 ·by_cases h2 : n ≤ 1000000000000000
  ·rw [show inV n = true by simp [inV, h1, h2]]
   refine Qva ?_; exact Qxa
  ·rw [show inV n = false by simp [inV, h2]]
   refine Qva ?_; exact Qya
 ·rw [show inV n = false by simp [inV, h1]]
  refine QY ?_; refine QU ?_; exact X1 ⟨_, Xb 2 (y := ab false) (AVal.le_refl _), ⟨rfl, trivial⟩, X3 _⟩
theorem Xa4 (n : Int) (h : -1000000000000000 ≤ n ∧ n ≤ 1000000000000000) : Con Tryz.prog 212 [] [ai n] [] (ai (n.natAbs : Nat)) := by
 refine Xa (xs := [ai (n.natAbs : Nat)]) Tryz.func212 rfl Tryz.ntmps212 rfl rfl rfl (fun E => ?_)
 refine Qd ?_; refine Qi ?_; refine Zu ?_; refine Zz ?_; refine Qc ?_; exact X1 ⟨_, Xb 2 (y := ai (n.natAbs : Nat)) (AVal.le_of_eq (by refine Eq.trans (b := ai (max n (-n))) rfl ?_; congr 3; omega)), ⟨rfl, trivial⟩, X3 _⟩
theorem X6U (n : Int) (h : -1000000000000000 ≤ n ∧ n ≤ 1000000000000000) : Con Tryz.prog 168 [] [ai n] [] (ai (n.natAbs : Nat)) := by
 refine Xa (xs := [ai (n.natAbs : Nat)]) Tryz.func168 rfl Tryz.ntmps168 rfl rfl rfl (fun E => ?_)
 by_cases h0 : n < 0
 ·refine Qp ?_; refine Qh ?_; refine Qf ?_; refine Qza ?_; exact X1 ⟨_, Xb 2 (y := ai (n.natAbs : Nat)) (AVal.le_of_eq (by refine Eq.trans (b := ai (-n)) rfl ?_; congr 3; omega)), ⟨rfl, trivial⟩, X3 _⟩
 ·refine Qp ?_; refine Qs ?_; refine Qz ?_; exact X1 ⟨_, Xb 2 (y := ai (n.natAbs : Nat)) (AVal.le_of_eq (by refine Eq.trans (b := ai n) rfl ?_; congr 3; omega)), ⟨rfl, trivial⟩, X3 _⟩
theorem Xec (a b : Int) (ha : -1000000000000000 ≤ a ∧ a ≤ 1000000000000000) (hb : -1000000000000000 ≤ b ∧ b ≤ 1000000000000000) : Con Tryz.prog 204 [] [ai a, ai b] [] (ai (Nat.gcd a.natAbs b.natAbs : Nat)) := by
 refine Xa (xs := [ai (Nat.gcd a.natAbs b.natAbs : Nat)]) Tryz.func204 rfl Tryz.ntmps204 rfl rfl rfl (fun E => ?_)
 have h1 : Con Tryz.prog 194 [] [ai a] [] (ab true) := by
  have h := X3f a
  rwa [show inV a = true by simpa [inV] using ha] at h
 have h2 : Con Tryz.prog 194 [] [ai b] [] (ab true) := by
  have h := X3f b
  rwa [show inV b = true by simpa [inV] using hb] at h
 refine Qo ?_; refine Z9 (hcon := h1) ?_; refine Zu ?_; refine Qy ?_; refine Z9 (hcon := h2) ?_; refine Zu ?_; refine Qha ?_; refine Qf ?_; refine Z9 (hcon := Xa4 a ha) ?_; refine Z1 ?_; refine Z9 (hcon := Xa4 b hb) ?_; refine QAa ?_; refine Qe ?_
 refine Xu (ι := Nat × Nat) (fun i => Nat.gcd i.1 i.2 = Nat.gcd a.natAbs b.natAbs) (fun i => ⟨24, [(0, ai i.1), (1, ai i.2)], []⟩) (fun i => i.2) (a.natAbs, b.natAbs) rfl
  (X9 rfl ⟨JL, JL, trivial⟩ trivial) ?_
 rintro ⟨x, y⟩ hg
 simp only at hg
 by_cases hy : y = 0
 ·subst hy
  rw [← hg, Nat.gcd_zero_right]
  refine Qg ?_; refine Zv ?_; refine Qm ?_; exact QBa
 ·have hy' : ¬ ((y : Int) = 0) := by omega
  refine Qg ?_; refine Zv ?_; refine Qh ?_; refine X4 ?_; refine X5 ?_; refine QDa ?_; refine Z7 (op := .rem) (r' := nj (x % y)) (u := nj x) (v := nj y) ?_ (hr := by exact U5 hy); refine QAa ?_; exact QEa
theorem Xcx (x y : Nat) (hx : x ≤ 1000000000000000) (hy : y ≤ 1000000000000000) : Con Tryz.prog 185 [] [ai x, ai y] [] (ai (Nat.gcd x y : Nat)) := by
 refine Xa (xs := [ai (Nat.gcd x y : Nat)]) Tryz.func185 rfl Tryz.ntmps185 rfl rfl rfl (fun E => ?_)
 refine Qd ?_; refine Qe ?_
 generalize hG : Nat.gcd x y = G
 refine Xu (ι := Nat × Nat) (fun i => Nat.gcd i.1 i.2 = G) (fun i => ⟨12, [(0, ai i.1), (1, ai i.2)], []⟩) (fun i => i.2) (x, y) hG
  (X9 rfl ⟨JL, JL, trivial⟩ trivial) ?_
 rintro ⟨x, y⟩ hg
 simp only at hg
 by_cases hy : y = 0
 ·subst hy
  rw [← hg, Nat.gcd_zero_right]
  refine Qg ?_; refine Zs ?_; refine Qm ?_; exact QBa
 ·have hy' : (0 : Int) < y := by omega
  refine Qg ?_; refine Zs ?_; refine Qh ?_; refine X4 ?_; refine X5 ?_; refine QDa ?_; refine Z7 (op := .rem) (r' := nj (x % y)) (u := nj x) (v := nj y) ?_ (hr := by exact U5 hy); refine QAa ?_; exact QEa
abbrev X2y (n d : Int) : AVal := .agg [ai n, ai d]
theorem X1R {n d : Int} (h : ¬ (1 ≤ d ∧ d ≤ 1000000000000000 ∧ -1000000000000000 ≤ n ∧ n ≤ 1000000000000000)) : Vc n d = false := by simp only [Vc, decide_eq_false h, Bool.false_and]
theorem X95 {n d : Int} (h : 1 ≤ d ∧ d ≤ 1000000000000000 ∧ -1000000000000000 ≤ n ∧ n ≤ 1000000000000000) : Vc n d = decide (Nat.gcd n.natAbs d.natAbs = 1) := by simp only [Vc, decide_eq_true h, Bool.true_and]
theorem Xet (n d : Int) : Con Tryz.prog 195 [] [X2y n d] [] (ab (Vc n d)) := by
 refine Xa (xs := [ab (Vc n d)]) Tryz.func195 rfl Tryz.ntmps195 rfl rfl rfl (fun E => ?_)
 by_cases h1 : 1 ≤ d
 case neg =>
  rw [X1R (by omega)]
  repeat first | refine X0 ?_ | (refine JR ?_; (repeat first | refine Z1 ?_ | refine Z0 ?_ | refine ZB ?_ | refine ZC ?_ | refine Z2 ?_ | refine ZA (γ := 100) ?_ | refine Zq ?_ | refine Zo ?_); refine JD ?_)
  exact QN
 by_cases h2 : d ≤ 1000000000000000
 case neg =>
  rw [X1R (by omega)]
  refine QJa ?_; refine Z2 ?_; refine QKa ?_; refine Zm ?_; refine Zn ?_; refine QR ?_; refine QLa ?_; refine QMa ?_; refine QU ?_; exact QN
 by_cases h3 : -1000000000000000 ≤ n ∧ n ≤ 1000000000000000
 case neg =>
  rw [X1R (by omega)]
  have hin : Con Tryz.prog 194 [] [ai n] [] (ab false) := by
   have h := X3f n
   rwa [show inV n = false by simpa [inV] using h3] at h
  refine QJa ?_; refine Z2 ?_; refine QKa ?_; refine QNa ?_; refine Z9 (hcon := hin) ?_; refine Zn ?_; refine QMa ?_; refine QU ?_; exact QN
 rw [X95 (by omega)]
 have hin : Con Tryz.prog 194 [] [ai n] [] (ab true) := by
  have h := X3f n
  rwa [show inV n = true by simpa [inV] using h3] at h
 refine QJa ?_; refine Z2 ?_; refine QKa ?_; refine QNa ?_; refine Z9 (hcon := hin) ?_; refine Zn ?_; refine QKa ?_; refine QHa ?_; refine Z9 (hcon := Xec n d h3 (by omega)) ?_; refine Zl ?_; refine Qsa ?_; exact X1 ⟨_, Xb 2 (y := ab (decide (Nat.gcd n.natAbs d.natAbs = 1))) (AVal.le_of_eq (by refine Eq.trans (b := ab (decide (((Nat.gcd n.natAbs d.natAbs : Nat) : Int) = 1))) rfl ?_; exact congrArg ab (decide_eq_decide.2 (by omega)))), ⟨rfl, trivial⟩, X3 _⟩
theorem Xby (n d : Int) : Con Tryz.prog 164 [] [X2y n d] [] (ab (Vc n d)) := by
 refine Xa (xs := [ab (Vc n d)]) Tryz.func164 rfl Tryz.ntmps164 rfl rfl rfl (fun E => ?_)
 by_cases h1 : 1 ≤ d
 case neg =>
  rw [X1R (by omega)]
  repeat first | refine X0 ?_ | (refine JR ?_; (repeat first | refine Z1 ?_ | refine Z0 ?_ | refine ZB ?_ | refine ZC ?_ | refine Z2 ?_ | refine ZA (γ := 100) ?_ | refine Zq ?_ | refine Zo ?_); refine JD ?_)
  exact QN
 by_cases h2 : d ≤ 1000000000000000
 case neg =>
  rw [X1R (by omega)]
  repeat first | refine X0 ?_ | (refine JR ?_; (repeat first | refine Z1 ?_ | refine Z0 ?_ | refine ZB ?_ | refine ZC ?_ | refine Zm ?_ | refine Z2 ?_ | refine ZA (γ := 100) ?_ | refine Zn ?_ | refine Zq ?_ | refine Zo ?_); refine JD ?_)
  exact QN
 by_cases h3 : -1000000000000000 ≤ n
 case neg =>
  rw [X1R (by omega)]
  repeat first | refine X0 ?_ | (refine JR ?_; (repeat first | refine Z1 ?_ | refine Z0 ?_ | refine ZB ?_ | refine ZC ?_ | refine Zm ?_ | refine Z2 ?_ | refine ZA (γ := 100) ?_ | refine Zn ?_ | refine Zq ?_ | refine Zo ?_); refine JD ?_)
  exact QN
 by_cases h4 : n ≤ 1000000000000000
 case neg =>
  rw [X1R (by omega)]
  repeat first | refine X0 ?_ | (refine JR ?_; (repeat first | refine Z1 ?_ | refine Z0 ?_ | refine ZB ?_ | refine ZC ?_ | refine Zm ?_ | refine Z2 ?_ | refine ZA (γ := 100) ?_ | refine Zn ?_ | refine Zq ?_ | refine Zo ?_); refine JD ?_)
  exact QN
 rw [X95 (by omega)]
 obtain ⟨e, rfl⟩ : ∃ e : Nat, d = e := ⟨d.toNat, by omega⟩
 refine QJa ?_; refine Z2 ?_; refine QKa ?_; refine QNa ?_; refine Z2 ?_; refine Zn ?_; refine QKa ?_; refine QNa ?_; refine Z9 (hcon := X6U n ⟨h3, h4⟩) ?_; refine QHa ?_; refine Z9 (hcon := Xcx n.natAbs e (by omega) (by omega)) ?_; refine Zl ?_; refine Qsa ?_; exact X1 ⟨_, Xb 2 (y := ab (decide (Nat.gcd n.natAbs (e : Int).natAbs = 1))) (AVal.le_of_eq (by refine Eq.trans (b := ab (decide (((Nat.gcd n.natAbs e : Nat) : Int) = 1))) rfl ?_; exact congrArg ab (decide_eq_decide.2 (by rw [Int.natAbs_natCast]; omega)))), ⟨rfl, trivial⟩, X3 _⟩
abbrev X1J (l : List UInt8) : AVal := .d (.v (.string (X7 l)))
def okB (b : UInt8) : Bool := decide (32 ≤ b.toNat ∧ b.toNat ≤ 126)
def X0y (s : List UInt8) : Int := if V7 s then -1 else (s.takeWhile okB).length
theorem X7v {s : List UInt8} : (X0y s < 0) ↔ V7 s = true := by
 unfold X0y
 cases V7 s <;> simp
theorem XaQ {s : List UInt8} {p : Nat} (h : ∀ j, j < p → ∃ b, s[j]? = some b ∧ okB b = true) (hp : p = s.length) : V7 s = true := by
 unfold V7
 rw [List.all_eq_true]
 intro x hx
 obtain ⟨i, hi⟩ := List.getElem?_of_mem hx
 obtain ⟨b, h1, h2⟩ := h i (by rw [hp]; exact (List.getElem?_eq_some_iff.1 hi).1)
 rw [hi] at h1; cases h1; exact h2
theorem Xdj {s : List UInt8} {p : Nat} {c : UInt8} (h : ∀ j, j < p → ∃ b, s[j]? = some b ∧ okB b = true) (hc : s[p]? = some c) (hb : okB c = false) : X0y s = p := by
 have h1 : V7 s = false := by
  cases hs : V7 s with
  | false => rfl
  | true =>
   unfold V7 at hs
   rw [List.all_eq_true] at hs
   have := hs c (List.mem_of_getElem? hc)
   unfold okB at hb
   rw [hb] at this; simp at this
 unfold X0y
 rw [h1, X4o s p h (fun b hb' => by rw [hc] at hb'; cases hb'; exact hb)]
 simp
theorem Xb8 (l : List UInt8) {p : Nat} {c : UInt8} (h : l[p]? = some c) (hp : p < (X7 l).size) : (X7 l)[p] = c := by
 have h1 := (List.getElem?_eq_some_iff.1 h).2
 exact h1
theorem XcV (c : Nat) (hc : c ≤ 2147483647) : Con Tryz.prog 197 [] [.d (.v (.int .i32 c))] [] (ab (!decide (32 ≤ c ∧ c ≤ 126))) := by
 refine Xa (xs := [ab (!decide (32 ≤ c ∧ c ≤ 126))]) Tryz.func197 rfl Tryz.ntmps197 rfl rfl rfl (fun E => ?_)
 by_cases h1 : c < 32
 ·rw [show (!decide (32 ≤ c ∧ c ≤ 126)) = true by simp; omega]
  refine Qv ?_; refine Z8 ?_; refine QR ?_; refine Qsa ?_; exact QN
 ·by_cases h2 : 126 < c
  ·rw [show (!decide (32 ≤ c ∧ c ≤ 126)) = true by simp; omega]
   refine Qv ?_; refine QOa ?_; refine Zs ?_; refine QU ?_; exact X1 ⟨_, Xb 2 (y := ab true) (AVal.le_of_eq (by refine Eq.trans (b := ab (decide (126 < (c : Int)))) rfl ?_; exact congrArg ab (decide_eq_true (by omega)))), ⟨rfl, trivial⟩, X3 _⟩
  ·rw [show (!decide (32 ≤ c ∧ c ≤ 126)) = false by simp; omega]
   refine Qv ?_; refine QOa ?_; refine Zs ?_; refine QU ?_; exact X1 ⟨_, Xb 2 (y := ab false) (AVal.le_of_eq (by refine Eq.trans (b := ab (decide (126 < (c : Int)))) rfl ?_; exact congrArg ab (decide_eq_false (by omega)))), ⟨rfl, trivial⟩, X3 _⟩
theorem Xg9 (s : List UInt8) (hs : s.length ≤ 9223372036854775807) : Con Tryz.prog 205 [] [X1J s, .fn 197 [], ab true] [] (ai (X0y s)) := by
 refine Xa (xs := [ai (X0y s)]) Tryz.func205 rfl Tryz.ntmps205 rfl rfl rfl (fun E => ?_)
 have hsz : (X7 s).size = s.length := rfl
 refine Qo ?_; refine ZD (γ := 100) ?_; refine QG ?_
 refine Xu (fun p : Nat => p ≤ s.length ∧ ∀ j, j < p → ∃ b, s[j]? = some b ∧ okB b = true) (fun p => ⟨21, [(1, .fn 197 []), (2, ab true), (10, .ptr 100 0)], [(100, .iter (X7 s) p)]⟩) (fun p => s.length - p) 0 ⟨by omega, fun j hj => by omega⟩
  (X9 rfl ⟨JL, JL, JL, trivial⟩ ⟨rfl, trivial⟩) ?_
 rintro p ⟨hp, hall⟩
 by_cases hlt : p < s.length
 ·obtain ⟨c, hc⟩ := Xx (l := s) hlt
  have hlt' : p < (X7 s).size := hlt
  have hget := Xb8 s hc hlt'
  have hr := XcV (Utf8.decode (X7 s) p).1 (decode_le _ _)
  have go : okB c = true → Utf8.decode (X7 s) p = (c.toNat, 1) := fun hok => decode_ascii _ _ hlt' (by unfold okB at hok; rw [decide_eq_true_eq] at hok; rw [hget]; omega) |>.trans (by rw [hget])
  cases hok : okB c with
  | true =>
   have hd := go hok
   rw [show (!decide (32 ≤ (Utf8.decode (X7 s) p).1 ∧ (Utf8.decode (X7 s) p).1 ≤ 126)) = false by rw [hd]; unfold okB at hok; simp only; rw [hok]; rfl] at hr
   refine Qb ?_; refine ZE ?_; refine ZF ?_; refine JD ?_; refine X0 ?_; refine JT ?_; refine X4 ?_; refine X5 ?_; refine Qb ?_; refine ZF ?_; refine ZF ?_; refine QAa ?_; refine Qi ?_; refine ZG (hcon := hr) ?_; refine Z1 ?_; refine ZH ?_; refine Qs ?_
   refine ⟨p + 1, ⟨by omega, fun j hj => ?_⟩, by omega, X9 rfl ⟨JL, JL, JL, trivial⟩ ⟨?_, trivial⟩⟩
   ·by_cases e : j = p
    ·subst e; exact ⟨c, hc, hok⟩
    ·exact hall j (by omega)
   ·refine Eq.trans (b := AObj.iter (X7 s) (p + (Utf8.decode (X7 s) p).2)) rfl ?_
    rw [hd]
  | false =>
   rw [Xdj hall hc hok]
   have hbad : (!decide (32 ≤ (Utf8.decode (X7 s) p).1 ∧ (Utf8.decode (X7 s) p).1 ≤ 126)) = true := by
    by_cases ha : c.toNat < 128
    ·rw [decode_ascii _ _ hlt' (by rw [hget]; exact ha), hget]
     unfold okB at hok
     simp only; rw [hok]; rfl
    ·have := (decode_high (X7 s) p hlt' (by rw [hget]; omega)).1
     simp; omega
   rw [hbad] at hr
   refine Qb ?_; refine ZE ?_; refine ZF ?_; refine JD ?_; refine X0 ?_; refine JT ?_; refine X4 ?_; refine X5 ?_; refine Qb ?_; refine ZF ?_; refine ZF ?_; refine QAa ?_; refine Qi ?_; refine ZG (hcon := hr) ?_; refine Z1 ?_; refine ZH ?_; refine Qh ?_; exact QBa
 ·obtain rfl : p = s.length := by omega
  rw [show X0y s = -1 by unfold X0y; rw [XaQ hall rfl]; rfl]
  have hge : (X7 s).size ≤ s.length := Nat.le_refl _
  refine Qb ?_; refine ZI ?_; refine ZF ?_; refine JD ?_; refine X0 ?_; refine JF ?_; refine Xp ?_; exact Qia
theorem Xf8 (s : List UInt8) (hs : s.length ≤ 9223372036854775807) : Con Tryz.prog 196 [] [X1J s, .fn 197 []] [] (ai (X0y s)) := by
 refine Xa (xs := [ai (X0y s)]) Tryz.func196 rfl Tryz.ntmps196 rfl rfl rfl (fun E => ?_)
 refine Qd ?_; refine Qi ?_; refine Z9 (hcon := Xg9 s hs) ?_; exact QO
def Xo : Val → AVal
 | .mk k n d s l => .agg [ai k, ai n, ai d, X1J s, .d (.sl 5 (XF l))]
def UI (l : List Val) : Bool := decide (l.length % 2 = 1 ∧ l.length ≤ 25) && Ue 0 l
theorem Xaq {v : Val} (h : v.kind = 5 ∨ v.kind = 6) (m m' : Nat) : X8 m v = X8 m' v := by
 obtain ⟨k, n, d, s, l⟩ := v
 have h : k = 5 ∨ k = 6 := h
 rw [X8, X8]
 rcases h with rfl | rfl <;> simp
theorem Vr (l : List Val) : (XF l).length = l.length := by rw [X25, List.length_map]
theorem X1y {l : List Val} {i : Nat} {x : Val} (h : l[i]? = some x) : (XF l)[i]? = some (V5 x) := by rw [X25]; exact YR h
theorem X5w {i : Nat} {l : List Val} {x : Val} (h : l[i]? = some x) : Ue i (l.drop i) = (decide (x.kind = 5 + (i % 2 : Nat)) && X8 0 x && Ue (i + 1) (l.drop (i + 1))) := by
 rw [List.drop_eq_getElem_cons (List.getElem?_eq_some_iff.1 h).1, (List.getElem?_eq_some_iff.1 h).2, Ue]
theorem X9q {m i : Nat} {l : List Val} {x : Val} (h : l[i]? = some x) : Un m (l.drop i) = (X8 m x && Un m (l.drop (i + 1))) := by
 rw [List.drop_eq_getElem_cons (List.getElem?_eq_some_iff.1 h).1, (List.getElem?_eq_some_iff.1 h).2, Un]
theorem X3X {i : Nat} {l : List Val} {x : Val} (h : l[i]? = some x) (hk : ¬ x.kind = 5 + (i % 2 : Nat)) : Ue i (l.drop i) = false := by
 rw [X5w h, decide_eq_false hk]; rfl
theorem X55 {i : Nat} {l : List Val} {x : Val} (h : l[i]? = some x) (hv : X8 0 x = false) : Ue i (l.drop i) = false := by
 rw [X5w h, hv, Bool.and_false]; rfl
theorem X3T {i : Nat} {l : List Val} {x : Val} (h : l[i]? = some x) (hk : x.kind = 5 + (i % 2 : Nat)) (hv : X8 0 x = true) : Ue i (l.drop i) = Ue (i + 1) (l.drop (i + 1)) := by
 rw [X5w h, decide_eq_true hk, hv]; rfl
def X5d (v : Val) : Prop := ∀ m : Nat, m ≤ 8 → Con Tryz.prog 174 [] [Xo v, ai (8 - m : Nat)] [] (ab (X8 m v))
def X6v (l : List Val) : Prop := Con Tryz.prog 198 [] [.d (.sl 5 (XF l))] [] (ab (UI l))
theorem Xct (l : List Val) (ih : ∀ x ∈ l, X5d x) : X6v l := by
 refine Xa (xs := [ab (UI l)]) Tryz.func198 rfl Tryz.ntmps198 rfl rfl rfl (fun E => ?_)
 have hlen := Vr l
 by_cases h1 : l.length % 2 = 0
 ·rw [show UI l = false by unfold UI; rw [decide_eq_false (by omega), Bool.false_and]]
  refine QPa ?_; refine ZJ ?_; refine Zl ?_; exact QRa
 by_cases h2 : 25 < l.length
 ·rw [show UI l = false by unfold UI; rw [decide_eq_false (by omega), Bool.false_and]]
  refine QPa ?_; refine ZJ ?_; refine QSa ?_; refine Zd ?_; exact QTa
 rw [show UI l = Ue 0 (l.drop 0) by unfold UI; rw [decide_eq_true (by omega), Bool.true_and]; rfl]
 refine QPa ?_; refine ZJ ?_; refine QSa ?_; refine QUa ?_; refine Qha ?_; refine Qg ?_; refine QA ?_
 refine Xu (fun i : Nat => i ≤ l.length ∧ Ue 0 (l.drop 0) = Ue i (l.drop i)) (fun i => ⟨37, [(15, .d (.sl 5 (XF l))), (16, ai l.length), (17, ai i)], []⟩) (fun i => l.length - i) 0 ⟨by omega, rfl⟩
  (X9 rfl ⟨JL, (by refine AVal.le_of_eq ?_; refine Eq.trans (b := ai ((XF l).length : Nat)) rfl ?_; rw [hlen]), JL, trivial⟩ trivial) ?_
 rintro i ⟨hi, hpv⟩
 by_cases hlt : i < l.length
 ·obtain ⟨x, hx⟩ := Xx (l := l) hlt
  have hgx := X1y hx
  have hixl : i < (XF l).length := by rw [hlen]; exact hlt
  have hvx := ih x (List.mem_of_getElem? hx) 8 (by omega)
  obtain ⟨k, n, d, s, q⟩ := x
  simp only [Xo, Nat.sub_self] at hvx
  rw [V5] at hgx
  rw [hpv]
  by_cases hpar : i % 2 = 0
  case pos =>
   by_cases hk : k = 5
   case neg =>
    rw [X3X hx (by rw [hpar]; show ¬ k = _; omega)]
    refine QXa ?_; refine QF ?_; refine QYa ?_; refine Zv ?_; exact QRa
   subst hk
   have hfl := Xaq (v := .mk 5 n d s q) (.inl rfl) 8 0
   cases hvv : X8 8 (.mk 5 n d s q) with
   | true =>
    rw [hvv] at hvx hfl
    have hgo := X3T hx (by rw [hpar]; rfl) hfl.symm
    rw [hgo, ← hgo, ← hpv]
    refine QXa ?_; refine QZa ?_; refine Qab ?_; refine QK ?_; exact ⟨i + 1, ⟨by omega, hpv.trans hgo⟩, by omega, X9 rfl ⟨JL, JL, JL, trivial⟩ trivial⟩
   | false =>
    rw [hvv] at hvx hfl
    rw [X55 hx hfl.symm]
    refine QXa ?_; refine QZa ?_; exact Qbb
  case neg =>
   have hpar : i % 2 = 1 := by omega
   by_cases hk : k = 6
   case neg =>
    rw [X3X hx (by rw [hpar]; show ¬ k = _; omega)]
    refine Qcb ?_; refine QF ?_; refine QYa ?_; refine Zv ?_; exact QRa
   subst hk
   have hfl := Xaq (v := .mk 6 n d s q) (.inr rfl) 8 0
   cases hvv : X8 8 (.mk 6 n d s q) with
   | true =>
    rw [hvv] at hvx hfl
    have hgo := X3T hx (by rw [hpar]; rfl) hfl.symm
    rw [hgo, ← hgo, ← hpv]
    refine Qcb ?_; refine QZa ?_; refine Qab ?_; refine QK ?_; exact ⟨i + 1, ⟨by omega, hpv.trans hgo⟩, by omega, X9 rfl ⟨JL, JL, JL, trivial⟩ trivial⟩
   | false =>
    rw [hvv] at hvx hfl
    rw [X55 hx hfl.symm]
    refine Qcb ?_; refine QZa ?_; exact Qbb
 obtain rfl : i = l.length := by omega
 rw [hpv, List.drop_length, Ue]
 refine QM ?_; exact Qia
end Go.Fw

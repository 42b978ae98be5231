/- Names: the program's and the references'. -/
import Derived.Test.YtpfldfkhgplcgaaGreatDoorChecked
import Derived.Laws.RangeAny
import Derived.Test.YtpfldfkhgplcgaaGreatDoorK11
set_option maxHeartbeats 8000000
namespace Go.Fw
open Go Go.Proofs
set_option maxRecDepth 100000
set_option linter.unusedVariables false
set_option linter.unusedSimpArgs false
theorem X1c {c : UInt8} (h : (97 ≤ c.toNat ∧ c.toNat ≤ 122) ∨ (65 ≤ c.toNat ∧ c.toNat ≤ 90)) : U2 c = true := decide_eq_true h
theorem VZ {c : UInt8} (h : ¬ ((97 ≤ c.toNat ∧ c.toNat ≤ 122) ∨ (65 ≤ c.toNat ∧ c.toNat ≤ 90))) : U2 c = false := decide_eq_false h
theorem X8v (c : UInt8) : Con Tryz.prog 146 [] [au8 c.toNat] [] (ab (U2 c)) := by
 refine Xb (xs := [ab (U2 c)]) Tryz.func146 rfl Tryz.ntmps146 rfl rfl rfl (fun E => ?_)
 by_cases h1 : 97 ≤ c.toNat
 ·by_cases h2 : c.toNat ≤ 122
  ·rw [X1c (by omega)]
   refine QN ?_; refine QP ?_; refine Zo ?_; refine Zp ?_; refine Zp ?_; refine Zo ?_; exact QS
  ·rw [VZ (by omega)]
   refine QN ?_; refine Qw ?_; exact QW
 by_cases h3 : 65 ≤ c.toNat
 ·by_cases h4 : c.toNat ≤ 90
  ·rw [X1c (by omega)]
   refine QX ?_; refine QY ?_; refine Z2 ?_; refine Qw ?_; refine Zm ?_; refine Zn ?_; exact QZ
  ·rw [VZ (by omega)]
   refine QX ?_; refine QY ?_; exact QW
 rw [VZ (by omega)]
 repeat first | refine X0 ?_ | (refine JR ?_; (repeat first | refine Z1 ?_ | refine Z0 ?_ | refine Z2 ?_ | refine Zq ?_ | refine Zo ?_); refine JD ?_)
 exact QU
theorem X6L {s : List UInt8} (h : s = []) : Y2 s = false := by subst h; rfl
theorem X66 {s : List UInt8} (h : 20 < s.length) : Y2 s = false := by unfold Y2; rw [decide_eq_false (by omega)]; rfl
theorem X3p {s : List UInt8} {c : UInt8} (hc : s[0]? = some c) (h : U2 c = false) : Y2 s = false := by unfold Y2; rw [hc, Option.getD_some, h]; simp
theorem X0Y {s : List UInt8} {c : UInt8} {i : Nat} (hc : s[i]? = some c) (h : XQ c = false) : Y2 s = false := by
 unfold Y2
 rw [show s.all XQ = false by rw [List.all_eq_false]; exact ⟨c, List.mem_of_getElem? hc, by simp [h]⟩]
 simp
theorem X5W {s : List UInt8} {c : UInt8} (hc : s[0]? = some c) (h : U2 c = true) (h20 : ¬ 20 < s.length) (hall : ∀ j, j < s.length → ∃ b, s[j]? = some b ∧ XQ b = true) : Y2 s = true := by
 have hl := (List.getElem?_eq_some_iff.1 hc).1
 unfold Y2
 rw [hc, Option.getD_some, h, decide_eq_true (by omega)]
 simp only [Bool.true_and, List.all_eq_true]
 intro b hb
 obtain ⟨j, hj⟩ := List.getElem?_of_mem hb
 obtain ⟨b', h1, h2⟩ := hall j (List.getElem?_eq_some_iff.1 hj).1
 rw [hj] at h1
 obtain rfl := Option.some.inj h1
 exact h2
theorem VO {s : List UInt8} {i : Nat} {c : UInt8} (hc : s[i]? = some c) (h : XQ c = true) (hall : ∀ j, j < i → ∃ b, s[j]? = some b ∧ XQ b = true) : ∀ j, j < i + 1 → ∃ b, s[j]? = some b ∧ XQ b = true := fun j hj => by
 by_cases e : j = i
 ·subst e; exact ⟨c, hc, h⟩
 ·exact hall j (by omega)
theorem X2X (s : List UInt8) : Con Tryz.prog 110 [] [.d (.v (.string (X6 s)))] [] (ab (Y2 s)) := by
 refine Xb (xs := [ab (Y2 s)]) Tryz.func110 rfl Tryz.ntmps110 rfl rfl rfl (fun E => ?_)
 have hsz : (X6 s).size = s.length := rfl
 by_cases h0 : s = []
 ·rw [X6L h0]
  subst h0
  repeat first | refine X0 ?_ | (refine JR ?_; (repeat first | refine Z1 ?_ | refine Z0 ?_ | refine Zr ?_ | refine Zn ?_ | refine Zo ?_); refine JD ?_) | refine JT ?_
  exact QL
 by_cases h20 : 20 < s.length
 ·rw [X66 h20]
  have h20' : (20 : Int) < (X6 s).size := by omega
  refine Qy ?_; refine Zr ?_; refine Qw ?_; refine Zc ?_; refine Qaa ?_; refine Qba ?_; refine Zn ?_; exact Qca
 have h20' : ¬ (20 : Int) < (X6 s).size := by omega
 obtain ⟨c, hc⟩ := Xv (l := s) (k := 0) (by cases s with | nil => exact absurd rfl h0 | cons => simp)
 have hl := X8v c
 cases hlc : U2 c with
 | false =>
  rw [X3p hc hlc]
  rw [hlc] at hl
  refine Qy ?_; refine Zr ?_; refine Qw ?_; refine Zc ?_; refine Qda ?_; refine Zt ?_; refine Z9 (hcon := hl) ?_; refine Zu ?_; refine Zq ?_; exact Qca
 | true =>
  rw [hlc] at hl
  refine Qy ?_; refine Zr ?_; refine Qw ?_; refine Zc ?_; refine Qda ?_; refine Qea ?_; refine Qfa ?_; refine Qg ?_; refine Zc ?_; refine Z1 ?_; refine JD ?_; refine X5 ?_
  refine Xu (fun i : Nat => i ≤ s.length ∧ ∀ j, j < i → ∃ b, s[j]? = some b ∧ XQ b = true) (fun i => ⟨46, [(0, .d (.v (.string (X6 s)))), (18, ai (X6 s).size), (19, ai i)], []⟩) (fun i => s.length - i) 0 ⟨by omega, fun j hj => by omega⟩
   (Xa rfl ⟨JL, JL, JL, trivial⟩ trivial) ?_
  rintro i ⟨hi, hall⟩
  by_cases hil : i < s.length
  case neg =>
   obtain rfl : i = s.length := by omega
   rw [X5W hc hlc h20 hall]
   have hn : ¬ ((s.length : Nat) : Int) < (X6 s).size := by omega
   refine QK ?_; exact Qga
  have hn : (i : Int) < (X6 s).size := by omega
  clear hl hlc hc
  obtain ⟨c, hc⟩ := Xv (l := s) hil
  have hl := X8v c
  cases hlc : U2 c with
  | true =>
   rw [hlc] at hl
   have hnx := VO hc (show XQ c = true by unfold XQ; rw [hlc]; rfl) hall
   repeat first | refine X0 ?_ | (refine JR ?_; (repeat first | refine Z1 ?_ | refine Z0 ?_ | refine Z8 ?_ | refine Zb ?_ | refine Zu ?_ | refine Zq ?_ | refine Zt ?_ | refine Zo ?_ | refine Zp ?_ | refine Z9 (hcon := hl) ?_); refine JD ?_) | refine JT ?_ | refine JF ?_ | refine X5 ?_ | refine X4 ?_
   exact Qha
  | false =>
   rw [hlc] at hl
   by_cases g1 : 48 ≤ c.toNat
   ·by_cases g2 : c.toNat ≤ 57
    ·have hnx := VO hc (show XQ c = true by unfold XQ; rw [decide_eq_true (by omega)]; simp) hall
     repeat first | refine X0 ?_ | (refine JR ?_; (repeat first | refine Z1 ?_ | refine Z0 ?_ | refine Z8 ?_ | refine Zs ?_ | refine Zb ?_ | refine Zu ?_ | refine Zn ?_ | refine Zq ?_ | refine Zt ?_ | refine Zo ?_ | refine Z9 (hcon := hl) ?_); refine JD ?_) | refine JT ?_ | refine JF ?_ | refine X5 ?_ | refine X4 ?_
     exact Qha
    by_cases g3 : c.toNat = 95
    ·have hnx := VO hc (show XQ c = true by unfold XQ; rw [decide_eq_true (by omega)]; simp) hall
     repeat first | refine X0 ?_ | (refine JR ?_; (repeat first | refine Z1 ?_ | refine Z0 ?_ | refine Z8 ?_ | refine Zs ?_ | refine Zv ?_ | refine Zb ?_ | refine Zu ?_ | refine Zn ?_ | refine Zq ?_ | refine Zt ?_ | refine Z9 (hcon := hl) ?_); refine JD ?_) | refine JT ?_ | refine JF ?_ | refine X5 ?_ | refine X4 ?_
     exact Qha
    ·rw [X0Y hc (show XQ c = false by unfold XQ; rw [hlc, decide_eq_false (by omega)]; rfl)]
     repeat first | refine X0 ?_ | (refine JR ?_; (repeat first | refine Z1 ?_ | refine Z0 ?_ | refine Z8 ?_ | refine Zs ?_ | refine Zv ?_ | refine Zu ?_ | refine Zn ?_ | refine Zq ?_ | refine Zt ?_ | refine Z9 (hcon := hl) ?_); refine JD ?_) | refine JT ?_ | refine X5 ?_ | refine X4 ?_
     exact QL
   ·have g3 : ¬ c.toNat = 95 := by omega
    rw [X0Y hc (show XQ c = false by unfold XQ; rw [hlc, decide_eq_false (by omega)]; rfl)]
    repeat first | refine X0 ?_ | (refine JR ?_; (repeat first | refine Z1 ?_ | refine Z0 ?_ | refine Z8 ?_ | refine Zv ?_ | refine Zu ?_ | refine Zn ?_ | refine Zt ?_ | refine Zo ?_ | refine Z9 (hcon := hl) ?_); refine JD ?_) | refine JT ?_ | refine X5 ?_ | refine X4 ?_
    exact QL
def V9 (op : Int) : Bool × Bool × Bool × Bool := (decide (op = 6), XX op, XS op, decide (1 ≤ op ∧ op ≤ 8))
theorem XcX (op : Int) : Con Tryz.prog 111 [] [ai op] [] (.tup [.agg [ab (V9 op).1, ab (V9 op).2.1, ab (V9 op).2.2.1], ab (V9 op).2.2.2]) := by
 refine Xb (xs := [.agg [ab (V9 op).1, ab (V9 op).2.1, ab (V9 op).2.2.1], ab (V9 op).2.2.2]) Tryz.func111 rfl Tryz.ntmps111 rfl rfl rfl (fun E => ?_)
 by_cases k1 : op = 1
 ·subst k1
  refine Qka ?_; exact Qpa
 by_cases k2 : op = 2
 ·subst k2
  refine Qka ?_; refine Qqa ?_; exact Qpa
 by_cases k7 : op = 7
 ·subst k7
  repeat first | refine X0 ?_ | (refine JR ?_; (repeat first | refine Z1 ?_ | refine Z0 ?_ | refine Zl ?_ | refine Zw (γ := 100) ?_ | refine Zy ?_ | refine Zx ?_); refine JD ?_) | refine JT ?_ | refine JF ?_ | refine X5 ?_
  exact Qna
 by_cases k3 : op = 3
 ·subst k3
  repeat first | refine X0 ?_ | (refine JR ?_; (repeat first | refine Z1 ?_ | refine Z0 ?_ | refine Zl ?_ | refine Zw (γ := 100) ?_ | refine Zy ?_ | refine Zx ?_); refine JD ?_) | refine JT ?_ | refine JF ?_ | refine X5 ?_ | refine X4 ?_
  exact Qna
 by_cases k4 : op = 4
 ·subst k4
  repeat first | refine X0 ?_ | (refine JR ?_; (repeat first | refine Z1 ?_ | refine Z0 ?_ | refine Zl ?_ | refine Zw (γ := 100) ?_ | refine Zy ?_ | refine Zx ?_); refine JD ?_) | refine JT ?_ | refine JF ?_ | refine X5 ?_
  exact Qna
 by_cases k5 : op = 5
 ·subst k5
  repeat first | refine X0 ?_ | (refine JR ?_; (repeat first | refine Z1 ?_ | refine Z0 ?_ | refine Zl ?_ | refine Zw (γ := 100) ?_ | refine Zy ?_ | refine Zx ?_); refine JD ?_) | refine JT ?_ | refine JF ?_ | refine X5 ?_ | refine X4 ?_
  exact Qna
 by_cases k8 : op = 8
 ·subst k8
  repeat first | refine X0 ?_ | (refine JR ?_; (repeat first | refine Z1 ?_ | refine Z0 ?_ | refine Zl ?_ | refine Zw (γ := 100) ?_ | refine Zy ?_ | refine Zx ?_); refine JD ?_) | refine JT ?_ | refine JF ?_ | refine X5 ?_
  exact Qna
 by_cases k6 : op = 6
 ·subst k6
  repeat first | refine X0 ?_ | (refine JR ?_; (repeat first | refine Z1 ?_ | refine Z0 ?_ | refine Zl ?_ | refine Zw (γ := 100) ?_ | refine Zy ?_ | refine Zx ?_); refine JD ?_) | refine JT ?_ | refine JF ?_ | refine X5 ?_
  exact Qna
 rw [show V9 op = (false, false, false, false) by unfold V9 XX XS; rw [decide_eq_false (by omega), decide_eq_false (by omega), decide_eq_false (by omega), decide_eq_false (by omega)]]
 repeat first | refine X0 ?_ | (refine JR ?_; (repeat first | refine Z1 ?_ | refine Z0 ?_ | refine Zl ?_ | refine Zw (γ := 100) ?_ | refine Zy ?_ | refine Zx ?_); refine JD ?_) | refine JF ?_ | refine X5 ?_ | refine X4 ?_
 exact Qna
def UF (k : Int) : Bool × Bool × Bool × Bool := (UZ k, decide (k = 3 ∨ k = 5 ∨ k = 7), decide (k = 6), decide (1 ≤ k ∧ k ≤ 7))
theorem XcB (op : Int) : Con Tryz.prog 108 [] [ai op] [] (.tup [.agg [ab (UF op).1, ab (UF op).2.1, ab (UF op).2.2.1], ab (UF op).2.2.2]) := by
 refine Xb (xs := [.agg [ab (UF op).1, ab (UF op).2.1, ab (UF op).2.2.1], ab (UF op).2.2.2]) Tryz.func108 rfl Tryz.ntmps108 rfl rfl rfl (fun E => ?_)
 by_cases k1 : op = 1
 ·subst k1
  refine Qka ?_; exact Qpa
 by_cases k2 : op = 2
 ·subst k2
  refine Qka ?_; refine Qqa ?_; exact Qpa
 by_cases k4 : op = 4
 ·subst k4
  repeat first | refine X0 ?_ | (refine JR ?_; (repeat first | refine Z1 ?_ | refine Z0 ?_ | refine Zl ?_ | refine Zw (γ := 100) ?_ | refine Zy ?_ | refine Zx ?_); refine JD ?_) | refine JT ?_ | refine JF ?_ | refine X5 ?_
  exact Qna
 by_cases k3 : op = 3
 ·subst k3
  repeat first | refine X0 ?_ | (refine JR ?_; (repeat first | refine Z1 ?_ | refine Z0 ?_ | refine Zl ?_ | refine Zw (γ := 100) ?_ | refine Zy ?_ | refine Zx ?_); refine JD ?_) | refine JT ?_ | refine JF ?_ | refine X5 ?_ | refine X4 ?_
  exact Qna
 by_cases k5 : op = 5
 ·subst k5
  repeat first | refine X0 ?_ | (refine JR ?_; (repeat first | refine Z1 ?_ | refine Z0 ?_ | refine Zl ?_ | refine Zw (γ := 100) ?_ | refine Zy ?_ | refine Zx ?_); refine JD ?_) | refine JT ?_ | refine JF ?_ | refine X5 ?_
  exact Qna
 by_cases k6 : op = 6
 ·subst k6
  repeat first | refine X0 ?_ | (refine JR ?_; (repeat first | refine Z1 ?_ | refine Z0 ?_ | refine Zl ?_ | refine Zw (γ := 100) ?_ | refine Zy ?_ | refine Zx ?_); refine JD ?_) | refine JT ?_ | refine JF ?_ | refine X5 ?_
  exact Qna
 by_cases k7 : op = 7
 ·subst k7
  repeat first | refine X0 ?_ | (refine JR ?_; (repeat first | refine Z1 ?_ | refine Z0 ?_ | refine Zl ?_ | refine Zw (γ := 100) ?_ | refine Zy ?_ | refine Zx ?_); refine JD ?_) | refine JT ?_ | refine JF ?_ | refine X5 ?_
  exact Qna
 rw [show UF op = (false, false, false, false) by unfold UF UZ; rw [decide_eq_false (by omega), decide_eq_false (by omega), decide_eq_false (by omega), decide_eq_false (by omega)]]
 repeat first | refine X0 ?_ | (refine JR ?_; (repeat first | refine Z1 ?_ | refine Z0 ?_ | refine Zl ?_ | refine Zw (γ := 100) ?_ | refine Zy ?_ | refine Zx ?_); refine JD ?_) | refine JF ?_ | refine X5 ?_ | refine X4 ?_
 exact Qna
theorem X5Q (n : Int) : Con Tryz.prog 112 [] [ai n] [] (ab (idV n)) := by
 refine Xb (xs := [ab (idV n)]) Tryz.func112 rfl Tryz.ntmps112 rfl rfl rfl (fun E => ?_)
 by_cases h1 : 1 ≤ n
 ·by_cases h2 : n ≤ 1000000
  ·rw [show idV n = true by unfold idV; exact decide_eq_true ⟨h1, h2⟩]
   exact Qra
  ·rw [show idV n = false by unfold idV; exact decide_eq_false (by omega)]
   exact Qta
 ·rw [show idV n = false by unfold idV; exact decide_eq_false (by omega)]
  refine QX ?_; exact QV
abbrev nj (n : Nat) : Value := .int .i64 n
def inV (n : Int) : Bool := decide (-1000000000000000 ≤ n ∧ n ≤ 1000000000000000)
theorem X32 (n : Int) : Con Tryz.prog 194 [] [ai n] [] (ab (inV n)) := by
 refine Xb (xs := [ab (inV n)]) Tryz.func194 rfl Tryz.ntmps194 rfl rfl rfl (fun E => ?_)
 by_cases h1 : -1000000000000000 ≤ n
 ·by_cases h2 : n ≤ 1000000000000000
  ·rw [show inV n = true by simp [inV, h1, h2]]
   refine Qsa ?_; exact Qua
  ·rw [show inV n = false by simp [inV, h2]]
   refine Qsa ?_; exact Qva
 ·rw [show inV n = false by simp [inV, h1]]
  refine QX ?_; refine QT ?_; exact X1 ⟨_, Xc 2 (y := ab false) (AVal.le_refl _), ⟨rfl, trivial⟩, X3 _⟩
theorem XgS (n : Int) : Con Tryz.prog 181 [] [ai n] [] (ab (inV n)) := by
 refine Xb (xs := [ab (inV n)]) Tryz.func181 rfl Tryz.ntmps181 rfl rfl rfl (fun E => ?_)
 by_cases h1 : -1000000000000000 ≤ n
 ·by_cases h2 : n ≤ 1000000000000000
  ·rw [show inV n = true by simp [inV, h1, h2]]
   refine Qsa ?_; exact Qua
  ·rw [show inV n = false by simp [inV, h2]]
   refine Qsa ?_; exact Qva
 ·rw [show inV n = false by simp [inV, h1]]
  refine QX ?_; refine QT ?_; exact X1 ⟨_, Xc 2 (y := ab false) (AVal.le_refl _), ⟨rfl, trivial⟩, X3 _⟩
theorem Xaw (n : Int) (h : -1000000000000000 ≤ n ∧ n ≤ 1000000000000000) : Con Tryz.prog 212 [] [ai n] [] (ai (n.natAbs : Nat)) := by
 refine Xb (xs := [ai (n.natAbs : Nat)]) Tryz.func212 rfl Tryz.ntmps212 rfl rfl rfl (fun E => ?_)
 refine Qwa ?_; refine Zu ?_; refine Zz ?_; refine Qc ?_; exact X1 ⟨_, Xc 2 (y := ai (n.natAbs : Nat)) (AVal.le_of_eq (by refine Eq.trans (b := ai (max n (-n))) rfl ?_; congr 3; omega)), ⟨rfl, trivial⟩, X3 _⟩
theorem X6K (n : Int) (h : -1000000000000000 ≤ n ∧ n ≤ 1000000000000000) : Con Tryz.prog 168 [] [ai n] [] (ai (n.natAbs : Nat)) := by
 refine Xb (xs := [ai (n.natAbs : Nat)]) Tryz.func168 rfl Tryz.ntmps168 rfl rfl rfl (fun E => ?_)
 by_cases h0 : n < 0
 ·refine Qo ?_; refine Qh ?_; refine Qf ?_; refine Qxa ?_; exact X1 ⟨_, Xc 2 (y := ai (n.natAbs : Nat)) (AVal.le_of_eq (by refine Eq.trans (b := ai (-n)) rfl ?_; congr 3; omega)), ⟨rfl, trivial⟩, X3 _⟩
 ·refine Qo ?_; refine Qr ?_; refine Qx ?_; exact X1 ⟨_, Xc 2 (y := ai (n.natAbs : Nat)) (AVal.le_of_eq (by refine Eq.trans (b := ai n) rfl ?_; congr 3; omega)), ⟨rfl, trivial⟩, X3 _⟩
theorem Xgh (a b : Int) (ha : -1000000000000000 ≤ a ∧ a ≤ 1000000000000000) (hb : -1000000000000000 ≤ b ∧ b ≤ 1000000000000000) : Con Tryz.prog 204 [] [ai a, ai b] [] (ai (Nat.gcd a.natAbs b.natAbs : Nat)) := by
 refine Xb (xs := [ai (Nat.gcd a.natAbs b.natAbs : Nat)]) Tryz.func204 rfl Tryz.ntmps204 rfl rfl rfl (fun E => ?_)
 have h1 : Con Tryz.prog 194 [] [ai a] [] (ab true) := by
  have h := X32 a
  rwa [show inV a = true by simpa [inV] using ha] at h
 have h2 : Con Tryz.prog 194 [] [ai b] [] (ab true) := by
  have h := X32 b
  rwa [show inV b = true by simpa [inV] using hb] at h
 refine Qy ?_; refine Z9 (hcon := h1) ?_; refine Zu ?_; refine Qw ?_; refine Z9 (hcon := h2) ?_; refine Zu ?_; refine Qfa ?_; refine Qf ?_; refine Z9 (hcon := Xaw a ha) ?_; refine Z1 ?_; refine Z9 (hcon := Xaw b hb) ?_; refine Qya ?_; refine Qe ?_
 refine Xu (ι := Nat × Nat) (fun i => Nat.gcd i.1 i.2 = Nat.gcd a.natAbs b.natAbs) (fun i => ⟨24, [(0, ai i.1), (1, ai i.2)], []⟩) (fun i => i.2) (a.natAbs, b.natAbs) rfl
  (Xa rfl ⟨JL, JL, trivial⟩ trivial) ?_
 rintro ⟨x, y⟩ hg
 simp only at hg
 by_cases hy : y = 0
 ·subst hy
  rw [← hg, Nat.gcd_zero_right]
  refine Qg ?_; refine Zv ?_; refine Ql ?_; exact Qza
 ·have hy' : ¬ ((y : Int) = 0) := by omega
  refine Qg ?_; refine QAa ?_; refine X4 ?_; refine X5 ?_; refine JR ?_; refine QBa ?_; refine Z7 (op := .rem) (r' := nj (x % y)) (u := nj x) (v := nj y) ?_ (hr := by exact YX hy); refine Qya ?_; exact QCa
theorem Xes (x y : Nat) (hx : x ≤ 1000000000000000) (hy : y ≤ 1000000000000000) : Con Tryz.prog 185 [] [ai x, ai y] [] (ai (Nat.gcd x y : Nat)) := by
 refine Xb (xs := [ai (Nat.gcd x y : Nat)]) Tryz.func185 rfl Tryz.ntmps185 rfl rfl rfl (fun E => ?_)
 refine Qd ?_; refine Qe ?_
 generalize hG : Nat.gcd x y = G
 refine Xu (ι := Nat × Nat) (fun i => Nat.gcd i.1 i.2 = G) (fun i => ⟨12, [(0, ai i.1), (1, ai i.2)], []⟩) (fun i => i.2) (x, y) hG
  (Xa rfl ⟨JL, JL, trivial⟩ trivial) ?_
 rintro ⟨x, y⟩ hg
 simp only at hg
 by_cases hy : y = 0
 ·subst hy
  rw [← hg, Nat.gcd_zero_right]
  refine Qg ?_; refine Zs ?_; refine Ql ?_; exact Qza
 ·have hy' : (0 : Int) < y := by omega
  refine Qg ?_; refine Zs ?_; refine Qh ?_; refine X4 ?_; refine X5 ?_; refine JR ?_; refine QBa ?_; refine Z7 (op := .rem) (r' := nj (x % y)) (u := nj x) (v := nj y) ?_ (hr := by exact YX hy); refine Qya ?_; exact QCa
abbrev X21 (n d : Int) : AVal := .agg [ai n, ai d]
theorem X1p {n d : Int} (h : ¬ (1 ≤ d ∧ d ≤ 1000000000000000 ∧ -1000000000000000 ≤ n ∧ n ≤ 1000000000000000)) : Ve n d = false := by simp only [Ve, decide_eq_false h, Bool.false_and]
theorem X8T {n d : Int} (h : 1 ≤ d ∧ d ≤ 1000000000000000 ∧ -1000000000000000 ≤ n ∧ n ≤ 1000000000000000) : Ve n d = decide (Nat.gcd n.natAbs d.natAbs = 1) := by simp only [Ve, decide_eq_true h, Bool.true_and]
theorem Xf9 (n d : Int) : Con Tryz.prog 195 [] [X21 n d] [] (ab (Ve n d)) := by
 refine Xb (xs := [ab (Ve n d)]) Tryz.func195 rfl Tryz.ntmps195 rfl rfl rfl (fun E => ?_)
 by_cases h1 : 1 ≤ d
 case neg =>
  rw [X1p (by omega)]
  repeat first | refine X0 ?_ | (refine JR ?_; (repeat first | refine Z1 ?_ | refine Z0 ?_ | refine ZB ?_ | refine ZC ?_ | refine Z2 ?_ | refine ZA (γ := 100) ?_ | refine Zq ?_ | refine Zo ?_); refine JD ?_)
  exact QL
 by_cases h2 : d ≤ 1000000000000000
 case neg =>
  rw [X1p (by omega)]
  refine QHa ?_; refine Z2 ?_; refine QIa ?_; refine Zm ?_; refine Zn ?_; refine QP ?_; refine QJa ?_; refine QKa ?_; refine QT ?_; exact QL
 by_cases h3 : -1000000000000000 ≤ n ∧ n ≤ 1000000000000000
 case neg =>
  rw [X1p (by omega)]
  have hin : Con Tryz.prog 194 [] [ai n] [] (ab false) := by
   have h := X32 n
   rwa [show inV n = false by simpa [inV] using h3] at h
  refine QMa ?_; refine Z9 (hcon := hin) ?_; refine Zn ?_; refine QKa ?_; refine QT ?_; exact QL
 rw [X8T (by omega)]
 have hin : Con Tryz.prog 194 [] [ai n] [] (ab true) := by
  have h := X32 n
  rwa [show inV n = true by simpa [inV] using h3] at h
 refine QMa ?_; refine Z9 (hcon := hin) ?_; refine QLa ?_; refine QFa ?_; refine Z9 (hcon := Xgh n d h3 (by omega)) ?_; refine Zl ?_; refine QQ ?_; exact X1 ⟨_, Xc 2 (y := ab (decide (Nat.gcd n.natAbs d.natAbs = 1))) (AVal.le_of_eq (by refine Eq.trans (b := ab (decide (((Nat.gcd n.natAbs d.natAbs : Nat) : Int) = 1))) rfl ?_; exact congrArg ab (decide_eq_decide.2 (by omega)))), ⟨rfl, trivial⟩, X3 _⟩
theorem X8u (n d : Int) : Con Tryz.prog 164 [] [X21 n d] [] (ab (Ve n d)) := by
 refine Xb (xs := [ab (Ve n d)]) Tryz.func164 rfl Tryz.ntmps164 rfl rfl rfl (fun E => ?_)
 by_cases h1 : 1 ≤ d
 case neg =>
  rw [X1p (by omega)]
  repeat first | refine X0 ?_ | (refine JR ?_; (repeat first | refine Z1 ?_ | refine Z0 ?_ | refine ZB ?_ | refine ZC ?_ | refine Z2 ?_ | refine ZA (γ := 100) ?_ | refine Zq ?_ | refine Zo ?_); refine JD ?_)
  exact QL
 by_cases h2 : d ≤ 1000000000000000
 case neg =>
  rw [X1p (by omega)]
  repeat first | refine X0 ?_ | (refine JR ?_; (repeat first | refine Z1 ?_ | refine Z0 ?_ | refine ZB ?_ | refine ZC ?_ | refine Zm ?_ | refine Z2 ?_ | refine ZA (γ := 100) ?_ | refine Zn ?_ | refine Zq ?_ | refine Zo ?_); refine JD ?_)
  exact QL
 by_cases h3 : -1000000000000000 ≤ n
 case neg =>
  rw [X1p (by omega)]
  repeat first | refine X0 ?_ | (refine JR ?_; (repeat first | refine Z1 ?_ | refine Z0 ?_ | refine ZB ?_ | refine ZC ?_ | refine Zm ?_ | refine Z2 ?_ | refine ZA (γ := 100) ?_ | refine Zn ?_ | refine Zq ?_ | refine Zo ?_); refine JD ?_)
  exact QL
 by_cases h4 : n ≤ 1000000000000000
 case neg =>
  rw [X1p (by omega)]
  repeat first | refine X0 ?_ | (refine JR ?_; (repeat first | refine Z1 ?_ | refine Z0 ?_ | refine ZB ?_ | refine ZC ?_ | refine Zm ?_ | refine Z2 ?_ | refine ZA (γ := 100) ?_ | refine Zn ?_ | refine Zq ?_ | refine Zo ?_); refine JD ?_)
  exact QL
 rw [X8T (by omega)]
 obtain ⟨e, rfl⟩ : ∃ e : Nat, d = e := ⟨d.toNat, by omega⟩
 refine QMa ?_; refine Z2 ?_; refine QLa ?_; refine Zm ?_; refine QLa ?_; refine Z9 (hcon := X6K n ⟨h3, h4⟩) ?_; refine QFa ?_; refine Z9 (hcon := Xes n.natAbs e (by omega) (by omega)) ?_; refine Zl ?_; refine QQ ?_; exact X1 ⟨_, Xc 2 (y := ab (decide (Nat.gcd n.natAbs (e : Int).natAbs = 1))) (AVal.le_of_eq (by refine Eq.trans (b := ab (decide (((Nat.gcd n.natAbs e : Nat) : Int) = 1))) rfl ?_; exact congrArg ab (decide_eq_decide.2 (by rw [Int.natAbs_natCast]; omega)))), ⟨rfl, trivial⟩, X3 _⟩
abbrev X2O (l : List UInt8) : AVal := .d (.v (.string (X6 l)))
def okB (b : UInt8) : Bool := decide (32 ≤ b.toNat ∧ b.toNat ≤ 126)
def X0h (s : List UInt8) : Int := if US s then -1 else (s.takeWhile okB).length
theorem X7H {s : List UInt8} : (X0h s < 0) ↔ US s = true := by
 unfold X0h
 cases US s <;> simp
theorem X8I {s : List UInt8} {p : Nat} (h : ∀ j, j < p → ∃ b, s[j]? = some b ∧ okB b = true) (hp : p = s.length) : US s = true := by
 unfold US
 rw [List.all_eq_true]
 intro x hx
 obtain ⟨i, hi⟩ := List.getElem?_of_mem hx
 obtain ⟨b, h1, h2⟩ := h i (by rw [hp]; exact (List.getElem?_eq_some_iff.1 hi).1)
 rw [hi] at h1; cases h1; exact h2
theorem Xch {s : List UInt8} {p : Nat} {c : UInt8} (h : ∀ j, j < p → ∃ b, s[j]? = some b ∧ okB b = true) (hc : s[p]? = some c) (hb : okB c = false) : X0h s = p := by
 have h1 : US s = false := by
  cases hs : US s with
  | false => rfl
  | true =>
   unfold US at hs
   rw [List.all_eq_true] at hs
   have := hs c (List.mem_of_getElem? hc)
   unfold okB at hb
   rw [hb] at this; simp at this
 unfold X0h
 rw [h1, X4E s p h (fun b hb' => by rw [hc] at hb'; cases hb'; exact hb)]
 simp
theorem X8i (l : List UInt8) {p : Nat} {c : UInt8} (h : l[p]? = some c) (hp : p < (X6 l).size) : (X6 l)[p] = c := by
 have h1 := (List.getElem?_eq_some_iff.1 h).2
 exact h1
theorem Xhq (c : Nat) (hc : c ≤ 2147483647) : Con Tryz.prog 197 [] [.d (.v (.int .i32 c))] [] (ab (!decide (32 ≤ c ∧ c ≤ 126))) := by
 refine Xb (xs := [ab (!decide (32 ≤ c ∧ c ≤ 126))]) Tryz.func197 rfl Tryz.ntmps197 rfl rfl rfl (fun E => ?_)
 by_cases h1 : c < 32
 ·rw [show (!decide (32 ≤ c ∧ c ≤ 126)) = true by simp; omega]
  refine Qu ?_; refine Z8 ?_; refine QP ?_; refine QQ ?_; exact QL
 ·by_cases h2 : 126 < c
  ·rw [show (!decide (32 ≤ c ∧ c ≤ 126)) = true by simp; omega]
   refine Qu ?_; refine Z8 ?_; refine Qw ?_; refine Zs ?_; refine QT ?_; exact X1 ⟨_, Xc 2 (y := ab true) (AVal.le_of_eq (by refine Eq.trans (b := ab (decide (126 < (c : Int)))) rfl ?_; exact congrArg ab (decide_eq_true (by omega)))), ⟨rfl, trivial⟩, X3 _⟩
  ·rw [show (!decide (32 ≤ c ∧ c ≤ 126)) = false by simp; omega]
   refine Qu ?_; refine Z8 ?_; refine Qw ?_; refine Zs ?_; refine QT ?_; exact X1 ⟨_, Xc 2 (y := ab false) (AVal.le_of_eq (by refine Eq.trans (b := ab (decide (126 < (c : Int)))) rfl ?_; exact congrArg ab (decide_eq_false (by omega)))), ⟨rfl, trivial⟩, X3 _⟩
theorem Xbg (s : List UInt8) (hs : s.length ≤ 9223372036854775807) : Con Tryz.prog 205 [] [X2O s, .fn 197 [], ab true] [] (ai (X0h s)) := by
 refine Xb (xs := [ai (X0h s)]) Tryz.func205 rfl Tryz.ntmps205 rfl rfl rfl (fun E => ?_)
 have hsz : (X6 s).size = s.length := rfl
 refine Qy ?_; refine ZD (γ := 100) ?_; refine QE ?_
 refine Xu (fun p : Nat => p ≤ s.length ∧ ∀ j, j < p → ∃ b, s[j]? = some b ∧ okB b = true) (fun p => ⟨21, [(1, .fn 197 []), (2, ab true), (10, .ptr 100 0)], [(100, .iter (X6 s) p)]⟩) (fun p => s.length - p) 0 ⟨by omega, fun j hj => by omega⟩
  (Xa rfl ⟨JL, JL, JL, trivial⟩ ⟨rfl, trivial⟩) ?_
 rintro p ⟨hp, hall⟩
 by_cases hlt : p < s.length
 ·obtain ⟨c, hc⟩ := Xv (l := s) hlt
  have hlt' : p < (X6 s).size := hlt
  have hget := X8i s hc hlt'
  have hr := Xhq (Utf8.decode (X6 s) p).1 (decode_le _ _)
  have go : okB c = true → Utf8.decode (X6 s) p = (c.toNat, 1) := fun hok => decode_ascii _ _ hlt' (by unfold okB at hok; rw [decide_eq_true_eq] at hok; rw [hget]; omega) |>.trans (by rw [hget])
  cases hok : okB c with
  | true =>
   have hd := go hok
   rw [show (!decide (32 ≤ (Utf8.decode (X6 s) p).1 ∧ (Utf8.decode (X6 s) p).1 ≤ 126)) = false by rw [hd]; unfold okB at hok; simp only; rw [hok]; rfl] at hr
   refine Qb ?_; refine ZE ?_; refine ZF ?_; refine JD ?_; refine X0 ?_; refine JT ?_; refine X4 ?_; refine X5 ?_; refine Qb ?_; refine ZF ?_; refine ZF ?_; refine Qya ?_; refine Qi ?_; refine ZG (hcon := hr) ?_; refine Z1 ?_; refine ZH ?_; refine Qr ?_
   refine ⟨p + 1, ⟨by omega, fun j hj => ?_⟩, by omega, Xa rfl ⟨JL, JL, JL, trivial⟩ ⟨?_, trivial⟩⟩
   ·by_cases e : j = p
    ·subst e; exact ⟨c, hc, hok⟩
    ·exact hall j (by omega)
   ·refine Eq.trans (b := AObj.iter (X6 s) (p + (Utf8.decode (X6 s) p).2)) rfl ?_
    rw [hd]
  | false =>
   rw [Xch hall hc hok]
   have hbad : (!decide (32 ≤ (Utf8.decode (X6 s) p).1 ∧ (Utf8.decode (X6 s) p).1 ≤ 126)) = true := by
    by_cases ha : c.toNat < 128
    ·rw [decode_ascii _ _ hlt' (by rw [hget]; exact ha), hget]
     unfold okB at hok
     simp only; rw [hok]; rfl
    ·have := (decode_high (X6 s) p hlt' (by rw [hget]; omega)).1
     simp; omega
   rw [hbad] at hr
   refine Qb ?_; refine ZE ?_; refine ZF ?_; refine JD ?_; refine X0 ?_; refine JT ?_; refine X4 ?_; refine X5 ?_; refine Qb ?_; refine ZF ?_; refine ZF ?_; refine Qya ?_; refine Qi ?_; refine ZG (hcon := hr) ?_; refine Z1 ?_; refine ZH ?_; refine Qh ?_; exact Qza
 ·obtain rfl : p = s.length := by omega
  rw [show X0h s = -1 by unfold X0h; rw [X8I hall rfl]; rfl]
  have hge : (X6 s).size ≤ s.length := Nat.le_refl _
  refine Qb ?_; refine ZI ?_; refine ZF ?_; refine JD ?_; refine X0 ?_; refine JF ?_; refine Xn ?_; exact Qga
theorem XgV (s : List UInt8) (hs : s.length ≤ 9223372036854775807) : Con Tryz.prog 196 [] [X2O s, .fn 197 []] [] (ai (X0h s)) := by
 refine Xb (xs := [ai (X0h s)]) Tryz.func196 rfl Tryz.ntmps196 rfl rfl rfl (fun E => ?_)
 refine Qwa ?_; refine Z9 (hcon := Xbg s hs) ?_; exact QM
def Xi : Val → AVal
 | .mk k n d s l => .agg [ai k, ai n, ai d, X2O s, .d (.sl 5 (Xy l))]
def UC (l : List Val) : Bool := decide (l.length % 2 = 1 ∧ l.length ≤ 25) && U7 0 l
theorem X98 {v : Val} (h : v.kind = 5 ∨ v.kind = 6) (m m' : Nat) : X8 m v = X8 m' v := by
 obtain ⟨k, n, d, s, l⟩ := v
 have h : k = 5 ∨ k = 6 := h
 rw [X8, X8]
 rcases h with rfl | rfl <;> simp
theorem Va (l : List Val) : (Xy l).length = l.length := by rw [X1A, List.length_map]
theorem X2x {l : List Val} {i : Nat} {x : Val} (h : l[i]? = some x) : (Xy l)[i]? = some (Vb x) := by rw [X1A]; exact YF h
theorem X5m {i : Nat} {l : List Val} {x : Val} (h : l[i]? = some x) : U7 i (l.drop i) = (decide (x.kind = 5 + (i % 2 : Nat)) && X8 0 x && U7 (i + 1) (l.drop (i + 1))) := by
 rw [List.drop_eq_getElem_cons (List.getElem?_eq_some_iff.1 h).1, (List.getElem?_eq_some_iff.1 h).2, U7]
theorem X8g {m i : Nat} {l : List Val} {x : Val} (h : l[i]? = some x) : Uf m (l.drop i) = (X8 m x && Uf m (l.drop (i + 1))) := by
 rw [List.drop_eq_getElem_cons (List.getElem?_eq_some_iff.1 h).1, (List.getElem?_eq_some_iff.1 h).2, Uf]
theorem X43 {i : Nat} {l : List Val} {x : Val} (h : l[i]? = some x) (hk : ¬ x.kind = 5 + (i % 2 : Nat)) : U7 i (l.drop i) = false := by
 rw [X5m h, decide_eq_false hk]; rfl
theorem X3N {i : Nat} {l : List Val} {x : Val} (h : l[i]? = some x) (hv : X8 0 x = false) : U7 i (l.drop i) = false := by
 rw [X5m h, hv, Bool.and_false]; rfl
theorem X4r {i : Nat} {l : List Val} {x : Val} (h : l[i]? = some x) (hk : x.kind = 5 + (i % 2 : Nat)) (hv : X8 0 x = true) : U7 i (l.drop i) = U7 (i + 1) (l.drop (i + 1)) := by
 rw [X5m h, decide_eq_true hk, hv]; rfl
def X3G (v : Val) : Prop := ∀ m : Nat, m ≤ 8 → Con Tryz.prog 174 [] [Xi v, ai (8 - m : Nat)] [] (ab (X8 m v))
def X5E (l : List Val) : Prop := Con Tryz.prog 198 [] [.d (.sl 5 (Xy l))] [] (ab (UC l))
theorem XbC (l : List Val) (ih : ∀ x ∈ l, X3G x) : X5E l := by
 refine Xb (xs := [ab (UC l)]) Tryz.func198 rfl Tryz.ntmps198 rfl rfl rfl (fun E => ?_)
 have hlen := Va l
 by_cases h1 : l.length % 2 = 0
 ·rw [show UC l = false by unfold UC; rw [decide_eq_false (by omega), Bool.false_and]]
  refine Qy ?_; refine Zd ?_; refine ZJ ?_; refine Zl ?_; exact QPa
 by_cases h2 : 25 < l.length
 ·rw [show UC l = false by unfold UC; rw [decide_eq_false (by omega), Bool.false_and]]
  refine QRa ?_; exact Qca
 rw [show UC l = U7 0 (l.drop 0) by unfold UC; rw [decide_eq_true (by omega), Bool.true_and]; rfl]
 refine QRa ?_; refine Qr ?_; refine Qg ?_; refine Qz ?_
 refine Xu (fun i : Nat => i ≤ l.length ∧ U7 0 (l.drop 0) = U7 i (l.drop i)) (fun i => ⟨37, [(15, .d (.sl 5 (Xy l))), (16, ai l.length), (17, ai i)], []⟩) (fun i => l.length - i) 0 ⟨by omega, rfl⟩
  (Xa rfl ⟨JL, (by refine AVal.le_of_eq ?_; refine Eq.trans (b := ai ((Xy l).length : Nat)) rfl ?_; rw [hlen]), JL, trivial⟩ trivial) ?_
 rintro i ⟨hi, hpv⟩
 by_cases hlt : i < l.length
 ·obtain ⟨x, hx⟩ := Xv (l := l) hlt
  have hgx := X2x hx
  have hixl : i < (Xy l).length := by rw [hlen]; exact hlt
  have hvx := ih x (List.mem_of_getElem? hx) 8 (by omega)
  obtain ⟨k, n, d, s, q⟩ := x
  simp only [Xi, Nat.sub_self] at hvx
  rw [Vb] at hgx
  rw [hpv]
  by_cases hpar : i % 2 = 0
  case pos =>
   by_cases hk : k = 5
   case neg =>
    rw [X43 hx (by rw [hpar]; show ¬ k = _; omega)]
    refine QVa ?_; refine QD ?_; refine Qc ?_; refine QWa ?_; refine Zv ?_; exact QPa
   subst hk
   have hfl := X98 (v := .mk 5 n d s q) (.inl rfl) 8 0
   cases hvv : X8 8 (.mk 5 n d s q) with
   | true =>
    rw [hvv] at hvx hfl
    have hgo := X4r hx (by rw [hpar]; rfl) hfl.symm
    rw [hgo, ← hgo, ← hpv]
    refine QVa ?_; refine QXa ?_; refine QYa ?_; refine QI ?_; exact ⟨i + 1, ⟨by omega, hpv.trans hgo⟩, by omega, Xa rfl ⟨JL, JL, JL, trivial⟩ trivial⟩
   | false =>
    rw [hvv] at hvx hfl
    rw [X3N hx hfl.symm]
    refine QVa ?_; refine QXa ?_; exact QZa
  case neg =>
   have hpar : i % 2 = 1 := by omega
   by_cases hk : k = 6
   case neg =>
    rw [X43 hx (by rw [hpar]; show ¬ k = _; omega)]
    refine Qab ?_; refine QD ?_; refine Qc ?_; refine QWa ?_; refine Zv ?_; exact QPa
   subst hk
   have hfl := X98 (v := .mk 6 n d s q) (.inr rfl) 8 0
   cases hvv : X8 8 (.mk 6 n d s q) with
   | true =>
    rw [hvv] at hvx hfl
    have hgo := X4r hx (by rw [hpar]; rfl) hfl.symm
    rw [hgo, ← hgo, ← hpv]
    refine Qab ?_; refine QXa ?_; refine QYa ?_; refine QI ?_; exact ⟨i + 1, ⟨by omega, hpv.trans hgo⟩, by omega, Xa rfl ⟨JL, JL, JL, trivial⟩ trivial⟩
   | false =>
    rw [hvv] at hvx hfl
    rw [X3N hx hfl.symm]
    refine Qab ?_; refine QXa ?_; exact QZa
 obtain rfl : i = l.length := by omega
 rw [hpv, List.drop_length, U7]
 refine QK ?_; exact Qga
end Go.Fw

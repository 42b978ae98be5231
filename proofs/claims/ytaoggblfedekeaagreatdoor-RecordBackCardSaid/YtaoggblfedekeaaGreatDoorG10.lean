/- Names: the program's and the references'. -/
import Derived.Test.YtaoggblfedekeaaGreatDoorG08
import Derived.Test.YtaoggblfedekeaaGreatDoorG09
import Derived.Test.YtaoggblfedekeaaGreatDoorG07
set_option maxHeartbeats 8000000
namespace Go.Fw
open Go Go.Proofs
set_option maxRecDepth 100000
set_option linter.unusedVariables false
set_option linter.unusedSimpArgs false
theorem VH {c : UInt8} (h : (97 ≤ c.toNat ∧ c.toNat ≤ 122) ∨ (65 ≤ c.toNat ∧ c.toNat ≤ 90)) : Yv c = true := decide_eq_true h
theorem UR {c : UInt8} (h : ¬ ((97 ≤ c.toNat ∧ c.toNat ≤ 122) ∨ (65 ≤ c.toNat ∧ c.toNat ≤ 90))) : Yv c = false := decide_eq_false h
theorem X7m (c : UInt8) : Con Tryz.prog 89 [] [au8 c.toNat] [] (ab (Yv c)) := by
 refine X8 (xs := [ab (Yv c)]) Tryz.func89 rfl Tryz.ntmps89 rfl rfl rfl (fun E => ?_)
 by_cases h1 : 97 ≤ c.toNat
 ·by_cases h2 : c.toNat ≤ 122
  ·rw [VH (by omega)]
   refine X0 ?_; refine JR ?_; refine Z0 ?_; refine JD ?_; refine X0 ?_; refine JR ?_; refine Z1 ?_; refine Z2 ?_; refine Z1 ?_; refine Z1 ?_; refine Zj ?_; refine Zk ?_; refine Z1 ?_; refine Zl ?_; refine Zl ?_
   refine Zl ?_; refine Zm ?_; refine Zm ?_; refine Zl ?_; refine Zk ?_; refine Z0 ?_; refine JD ?_
   first | exact X1 ⟨_, St.le_refl _, ⟨rfl, trivial⟩, X2 _⟩ | exact X1 ⟨_, X9 2 (y := ab true) (AVal.le_of_eq (by refine Eq.trans (b := ab (decide _)) rfl ?_; exact congrArg ab (by simp; omega))), ⟨rfl, trivial⟩, X2 _⟩ | fail
  ·rw [UR (by omega)]
   refine X0 ?_; refine JR ?_; refine Z0 ?_; refine JD ?_; refine X0 ?_; refine JR ?_; refine Z1 ?_; refine Z2 ?_; refine Z1 ?_; refine Z1 ?_; refine Zj ?_; refine Zk ?_; refine Z1 ?_; refine Z1 ?_; refine Z2 ?_
   refine Z1 ?_; refine Z1 ?_; refine Zj ?_; refine Zk ?_; refine Zn ?_; refine Z0 ?_; refine JD ?_
   first | exact X1 ⟨_, St.le_refl _, ⟨rfl, trivial⟩, X2 _⟩ | exact X1 ⟨_, X9 2 (y := ab false) (AVal.le_of_eq (by refine Eq.trans (b := ab (decide _)) rfl ?_; exact congrArg ab (by simp; omega))), ⟨rfl, trivial⟩, X2 _⟩ | fail
 by_cases h3 : 65 ≤ c.toNat
 ·by_cases h4 : c.toNat ≤ 90
  ·rw [VH (by omega)]
   refine X0 ?_; refine JR ?_; refine Z0 ?_; refine JD ?_; refine X0 ?_; refine JR ?_; refine Z1 ?_; refine Z2 ?_; refine Z1 ?_; refine Zl ?_; refine Zl ?_; refine Zn ?_; refine Z1 ?_; refine Z1 ?_; refine Z2 ?_
   refine Z1 ?_; refine Z1 ?_; refine Zj ?_; refine Zk ?_; refine Zn ?_; refine Z0 ?_; refine JD ?_
   first | exact X1 ⟨_, St.le_refl _, ⟨rfl, trivial⟩, X2 _⟩ | exact X1 ⟨_, X9 2 (y := ab true) (AVal.le_of_eq (by refine Eq.trans (b := ab (decide _)) rfl ?_; exact congrArg ab (by simp; omega))), ⟨rfl, trivial⟩, X2 _⟩ | fail
  ·rw [UR (by omega)]
   refine X0 ?_; refine JR ?_; refine Z0 ?_; refine JD ?_; refine X0 ?_; refine JR ?_; refine Z1 ?_; refine Z2 ?_; refine Z1 ?_; refine Zl ?_; refine Zl ?_; refine Zn ?_; refine Z1 ?_; refine Z1 ?_; refine Z2 ?_
   refine Z1 ?_; refine Z1 ?_; refine Zj ?_; refine Zk ?_; refine Zn ?_; refine Z0 ?_; refine JD ?_
   first | exact X1 ⟨_, St.le_refl _, ⟨rfl, trivial⟩, X2 _⟩ | exact X1 ⟨_, X9 2 (y := ab false) (AVal.le_of_eq (by refine Eq.trans (b := ab (decide _)) rfl ?_; exact congrArg ab (by simp; omega))), ⟨rfl, trivial⟩, X2 _⟩ | fail
 rw [UR (by omega)]
 repeat first | refine X0 ?_ | (refine JR ?_; (repeat first | refine Z1 ?_ | refine Z0 ?_ | refine Z2 ?_ | refine Zn ?_ | refine Zl ?_); refine JD ?_)
 first | exact X1 ⟨_, St.le_refl _, ⟨rfl, trivial⟩, X2 _⟩ | exact X1 ⟨_, X9 2 (y := ab false) (AVal.le_of_eq (by refine Eq.trans (b := ab (decide _)) rfl ?_; exact congrArg ab (by simp; omega))), ⟨rfl, trivial⟩, X2 _⟩ | fail
theorem X5B (c : UInt8) : Con Tryz.prog 92 [] [au8 c.toNat] [] (ab (Yv c)) := by
 refine X8 (xs := [ab (Yv c)]) Tryz.func92 rfl Tryz.ntmps92 rfl rfl rfl (fun E => ?_)
 by_cases h1 : 97 ≤ c.toNat
 ·by_cases h2 : c.toNat ≤ 122
  ·rw [VH (by omega)]
   refine X0 ?_; refine JR ?_; refine Z0 ?_; refine JD ?_; refine X0 ?_; refine JR ?_; refine Z1 ?_; refine Z2 ?_; refine Z1 ?_; refine Z1 ?_; refine Zj ?_; refine Zk ?_; refine Z1 ?_; refine Zl ?_; refine Zl ?_
   refine Zl ?_; refine Zm ?_; refine Zm ?_; refine Zl ?_; refine Zk ?_; refine Z0 ?_; refine JD ?_
   first | exact X1 ⟨_, St.le_refl _, ⟨rfl, trivial⟩, X2 _⟩ | exact X1 ⟨_, X9 2 (y := ab true) (AVal.le_of_eq (by refine Eq.trans (b := ab (decide _)) rfl ?_; exact congrArg ab (by simp; omega))), ⟨rfl, trivial⟩, X2 _⟩ | fail
  ·rw [UR (by omega)]
   refine X0 ?_; refine JR ?_; refine Z0 ?_; refine JD ?_; refine X0 ?_; refine JR ?_; refine Z1 ?_; refine Z2 ?_; refine Z1 ?_; refine Z1 ?_; refine Zj ?_; refine Zk ?_; refine Z1 ?_; refine Z1 ?_; refine Z2 ?_
   refine Z1 ?_; refine Z1 ?_; refine Zj ?_; refine Zk ?_; refine Zn ?_; refine Z0 ?_; refine JD ?_
   first | exact X1 ⟨_, St.le_refl _, ⟨rfl, trivial⟩, X2 _⟩ | exact X1 ⟨_, X9 2 (y := ab false) (AVal.le_of_eq (by refine Eq.trans (b := ab (decide _)) rfl ?_; exact congrArg ab (by simp; omega))), ⟨rfl, trivial⟩, X2 _⟩ | fail
 by_cases h3 : 65 ≤ c.toNat
 ·by_cases h4 : c.toNat ≤ 90
  ·rw [VH (by omega)]
   refine X0 ?_; refine JR ?_; refine Z0 ?_; refine JD ?_; refine X0 ?_; refine JR ?_; refine Z1 ?_; refine Z2 ?_; refine Z1 ?_; refine Zl ?_; refine Zl ?_; refine Zn ?_; refine Z1 ?_; refine Z1 ?_; refine Z2 ?_
   refine Z1 ?_; refine Z1 ?_; refine Zj ?_; refine Zk ?_; refine Zn ?_; refine Z0 ?_; refine JD ?_
   first | exact X1 ⟨_, St.le_refl _, ⟨rfl, trivial⟩, X2 _⟩ | exact X1 ⟨_, X9 2 (y := ab true) (AVal.le_of_eq (by refine Eq.trans (b := ab (decide _)) rfl ?_; exact congrArg ab (by simp; omega))), ⟨rfl, trivial⟩, X2 _⟩ | fail
  ·rw [UR (by omega)]
   refine X0 ?_; refine JR ?_; refine Z0 ?_; refine JD ?_; refine X0 ?_; refine JR ?_; refine Z1 ?_; refine Z2 ?_; refine Z1 ?_; refine Zl ?_; refine Zl ?_; refine Zn ?_; refine Z1 ?_; refine Z1 ?_; refine Z2 ?_
   refine Z1 ?_; refine Z1 ?_; refine Zj ?_; refine Zk ?_; refine Zn ?_; refine Z0 ?_; refine JD ?_
   first | exact X1 ⟨_, St.le_refl _, ⟨rfl, trivial⟩, X2 _⟩ | exact X1 ⟨_, X9 2 (y := ab false) (AVal.le_of_eq (by refine Eq.trans (b := ab (decide _)) rfl ?_; exact congrArg ab (by simp; omega))), ⟨rfl, trivial⟩, X2 _⟩ | fail
 rw [UR (by omega)]
 repeat first | refine X0 ?_ | (refine JR ?_; (repeat first | refine Z1 ?_ | refine Z0 ?_ | refine Z2 ?_ | refine Zn ?_ | refine Zl ?_); refine JD ?_)
 first | exact X1 ⟨_, St.le_refl _, ⟨rfl, trivial⟩, X2 _⟩ | exact X1 ⟨_, X9 2 (y := ab false) (AVal.le_of_eq (by refine Eq.trans (b := ab (decide _)) rfl ?_; exact congrArg ab (by simp; omega))), ⟨rfl, trivial⟩, X2 _⟩ | fail
theorem X49 {s : List UInt8} (h : s = []) : XW s = false := by subst h; rfl
theorem X3e {s : List UInt8} (h : 20 < s.length) : XW s = false := by unfold XW; rw [decide_eq_false (by omega)]; rfl
theorem X1h {s : List UInt8} {c : UInt8} (hc : s[0]? = some c) (h : Yv c = false) : XW s = false := by unfold XW; rw [hc, Option.getD_some, h]; simp
theorem VI {s : List UInt8} {c : UInt8} {i : Nat} (hc : s[i]? = some c) (h : XJ c = false) : XW s = false := by
 unfold XW
 rw [show s.all XJ = false by rw [List.all_eq_false]; exact ⟨c, List.mem_of_getElem? hc, by simp [h]⟩]
 simp
theorem X3i {s : List UInt8} {c : UInt8} (hc : s[0]? = some c) (h : Yv c = true) (h20 : ¬ 20 < s.length) (hall : ∀ j, j < s.length → ∃ b, s[j]? = some b ∧ XJ b = true) : XW s = true := by
 have hl := (List.getElem?_eq_some_iff.1 hc).1
 unfold XW
 rw [hc, Option.getD_some, h, decide_eq_true (by omega)]
 simp only [Bool.true_and, List.all_eq_true]
 intro b hb
 obtain ⟨j, hj⟩ := List.getElem?_of_mem hb
 obtain ⟨b', h1, h2⟩ := hall j (List.getElem?_eq_some_iff.1 hj).1
 rw [hj] at h1
 obtain rfl := Option.some.inj h1
 exact h2
theorem UN {s : List UInt8} {i : Nat} {c : UInt8} (hc : s[i]? = some c) (h : XJ c = true) (hall : ∀ j, j < i → ∃ b, s[j]? = some b ∧ XJ b = true) : ∀ j, j < i + 1 → ∃ b, s[j]? = some b ∧ XJ b = true := fun j hj => by
 by_cases e : j = i
 ·subst e; exact ⟨c, hc, h⟩
 ·exact hall j (by omega)
theorem X1t (s : List UInt8) : Con Tryz.prog 54 [] [.d (.v (.string (X4 s)))] [] (ab (XW s)) := by
 refine X8 (xs := [ab (XW s)]) Tryz.func54 rfl Tryz.ntmps54 rfl rfl rfl (fun E => ?_)
 have hsz : (X4 s).size = s.length := rfl
 by_cases h0 : s = []
 ·rw [X49 h0]
  subst h0
  repeat first | refine X0 ?_ | (refine JR ?_; (repeat first | refine Z1 ?_ | refine Z0 ?_ | refine Zo ?_ | refine Zk ?_ | refine Zl ?_); refine JD ?_) | refine JT ?_
  exact X1 ⟨_, St.le_refl _, ⟨rfl, trivial⟩, X2 _⟩
 by_cases h20 : 20 < s.length
 ·rw [X3e h20]
  have h20' : (20 : Int) < (X4 s).size := by omega
  refine X0 ?_; refine JR ?_; refine Z0 ?_; refine JD ?_; refine X0 ?_; refine X0 ?_; refine JR ?_; refine Z1 ?_; refine Zo ?_; refine Z1 ?_; refine Z1 ?_; refine Zc ?_; refine Zp ?_; refine Zn ?_
  refine Z1 ?_; refine Zl ?_; refine Zl ?_; refine Zl ?_; refine Zl ?_; refine Zk ?_; refine JD ?_; refine JT ?_; refine X0 ?_; refine JR ?_; refine Z0 ?_; refine JD ?_
  exact X1 ⟨_, St.le_refl _, ⟨rfl, trivial⟩, X2 _⟩
 have h20' : ¬ (20 : Int) < (X4 s).size := by omega
 obtain ⟨c, hc⟩ := XT (l := s) (k := 0) (by cases s with | nil => exact absurd rfl h0 | cons => simp)
 have hl := X7m c
 cases hlc : Yv c with
 | false =>
  rw [X1h hc hlc]
  rw [hlc] at hl
  refine X0 ?_; refine JR ?_; refine Z0 ?_; refine JD ?_; refine X0 ?_; refine X0 ?_; refine JR ?_; refine Z1 ?_; refine Zo ?_; refine Z1 ?_; refine Z1 ?_; refine Zc ?_; refine Zp ?_; refine Zn ?_
  refine Z1 ?_; refine Z1 ?_; refine Zq ?_; refine Z9 (hcon := hl) ?_; refine Zr ?_; refine Zn ?_; refine JD ?_; refine JT ?_; refine X0 ?_; refine JR ?_; refine Z0 ?_; refine JD ?_
  exact X1 ⟨_, St.le_refl _, ⟨rfl, trivial⟩, X2 _⟩
 | true =>
  rw [hlc] at hl
  refine X0 ?_; refine JR ?_; refine Z0 ?_; refine JD ?_; refine X0 ?_; refine X0 ?_; refine JR ?_; refine Z1 ?_; refine Zo ?_; refine Z1 ?_; refine Z1 ?_; refine Zc ?_; refine Zp ?_; refine Zn ?_
  refine Z1 ?_; refine Z1 ?_; refine Zq ?_; refine Z9 (hcon := hl) ?_; refine Zr ?_; refine Zn ?_; refine JD ?_; refine JF ?_; refine X3 ?_; refine X0 ?_; refine X0 ?_; refine JR ?_; refine Z1 ?_
  refine Zc ?_; refine Z1 ?_; refine JD ?_; refine X5 ?_
  refine XR (fun i : Nat => i ≤ s.length ∧ ∀ j, j < i → ∃ b, s[j]? = some b ∧ XJ b = true) (fun i => ⟨46, [(0, .d (.v (.string (X4 s)))), (18, ai (X4 s).size), (19, ai i)], []⟩) (fun i => s.length - i) 0 ⟨by omega, fun j hj => by omega⟩
   (Xc rfl ⟨JL, JL, JL, trivial⟩ trivial) ?_
  rintro i ⟨hi, hall⟩
  by_cases hil : i < s.length
  case neg =>
   obtain rfl : i = s.length := by omega
   rw [X3i hc hlc h20 hall]
   have hn : ¬ ((s.length : Nat) : Int) < (X4 s).size := by omega
   refine X0 ?_; refine JR ?_; refine Z8 ?_; refine JD ?_; refine X0 ?_; refine JF ?_; refine Xv ?_; refine X0 ?_; refine JR ?_; refine Z0 ?_; refine JD ?_
   exact X1 ⟨_, St.le_refl _, ⟨rfl, trivial⟩, X2 _⟩
  have hn : (i : Int) < (X4 s).size := by omega
  clear hl hlc hc
  obtain ⟨c, hc⟩ := XT (l := s) hil
  have hl := X7m c
  cases hlc : Yv c with
  | true =>
   rw [hlc] at hl
   have hnx := UN hc (show XJ c = true by unfold XJ; rw [hlc]; rfl) hall
   repeat first | refine X0 ?_ | (refine JR ?_; (repeat first | refine Z1 ?_ | refine Z0 ?_ | refine Z8 ?_ | refine Zb ?_ | refine Zr ?_ | refine Zn ?_ | refine Zq ?_ | refine Zl ?_ | refine Zm ?_ | refine Z9 (hcon := hl) ?_); refine JD ?_) | refine JT ?_ | refine JF ?_ | refine X5 ?_ | refine X3 ?_
   exact ⟨i + 1, ⟨by omega, hnx⟩, by omega, Xc rfl ⟨JL, JL, JL, trivial⟩ trivial⟩
  | false =>
   rw [hlc] at hl
   by_cases g1 : 48 ≤ c.toNat
   ·by_cases g2 : c.toNat ≤ 57
    ·have hnx := UN hc (show XJ c = true by unfold XJ; rw [decide_eq_true (by omega)]; simp) hall
     repeat first | refine X0 ?_ | (refine JR ?_; (repeat first | refine Z1 ?_ | refine Z0 ?_ | refine Z8 ?_ | refine Zp ?_ | refine Zb ?_ | refine Zr ?_ | refine Zk ?_ | refine Zn ?_ | refine Zq ?_ | refine Zl ?_ | refine Z9 (hcon := hl) ?_); refine JD ?_) | refine JT ?_ | refine JF ?_ | refine X5 ?_ | refine X3 ?_
     exact ⟨i + 1, ⟨by omega, hnx⟩, by omega, Xc rfl ⟨JL, JL, JL, trivial⟩ trivial⟩
    by_cases g3 : c.toNat = 95
    ·have hnx := UN hc (show XJ c = true by unfold XJ; rw [decide_eq_true (by omega)]; simp) hall
     repeat first | refine X0 ?_ | (refine JR ?_; (repeat first | refine Z1 ?_ | refine Z0 ?_ | refine Z8 ?_ | refine Zp ?_ | refine Zs ?_ | refine Zb ?_ | refine Zr ?_ | refine Zk ?_ | refine Zn ?_ | refine Zq ?_ | refine Z9 (hcon := hl) ?_); refine JD ?_) | refine JT ?_ | refine JF ?_ | refine X5 ?_ | refine X3 ?_
     exact ⟨i + 1, ⟨by omega, hnx⟩, by omega, Xc rfl ⟨JL, JL, JL, trivial⟩ trivial⟩
    ·rw [VI hc (show XJ c = false by unfold XJ; rw [hlc, decide_eq_false (by omega)]; rfl)]
     repeat first | refine X0 ?_ | (refine JR ?_; (repeat first | refine Z1 ?_ | refine Z0 ?_ | refine Z8 ?_ | refine Zp ?_ | refine Zs ?_ | refine Zr ?_ | refine Zk ?_ | refine Zn ?_ | refine Zq ?_ | refine Z9 (hcon := hl) ?_); refine JD ?_) | refine JT ?_ | refine X5 ?_ | refine X3 ?_
     exact X1 ⟨_, St.le_refl _, ⟨rfl, trivial⟩, X2 _⟩
   ·have g3 : ¬ c.toNat = 95 := by omega
    rw [VI hc (show XJ c = false by unfold XJ; rw [hlc, decide_eq_false (by omega)]; rfl)]
    repeat first | refine X0 ?_ | (refine JR ?_; (repeat first | refine Z1 ?_ | refine Z0 ?_ | refine Z8 ?_ | refine Zs ?_ | refine Zr ?_ | refine Zk ?_ | refine Zq ?_ | refine Zl ?_ | refine Z9 (hcon := hl) ?_); refine JD ?_) | refine JT ?_ | refine X5 ?_ | refine X3 ?_
    exact X1 ⟨_, St.le_refl _, ⟨rfl, trivial⟩, X2 _⟩
end Go.Fw
namespace Go.Fw
open Go Go.Proofs
set_option maxRecDepth 100000
set_option linter.unusedVariables false
set_option linter.unusedSimpArgs false
def Ud (op : Int) : Bool × Bool × Bool × Bool := (decide (op = 6), XC op, Xz op, decide (1 ≤ op ∧ op ≤ 8))
theorem Xbq (op : Int) : Con Tryz.prog 51 [] [ai op] [] (.tup [.agg [ab (Ud op).1, ab (Ud op).2.1, ab (Ud op).2.2.1], ab (Ud op).2.2.2]) := by
 refine X8 (xs := [.agg [ab (Ud op).1, ab (Ud op).2.1, ab (Ud op).2.2.1], ab (Ud op).2.2.2]) Tryz.func51 rfl Tryz.ntmps51 rfl rfl rfl (fun E => ?_)
 by_cases k1 : op = 1
 ·subst k1
  refine X0 ?_; refine JR ?_; refine Zt (γ := 100) ?_; refine Z0 ?_; refine JD ?_; refine X0 ?_; refine X0 ?_; refine JR ?_; refine Z1 ?_; refine JD ?_; refine X5 ?_; refine X0 ?_
  refine X0 ?_; refine JR ?_; refine Zu ?_; refine Z0 ?_; refine JD ?_; refine JT ?_; refine X3 ?_; refine JT ?_; refine X0 ?_; refine JR ?_; refine Zv ?_; refine Zw ?_; refine Z0 ?_; refine JD ?_
  exact X1 ⟨_, St.le_refl _, ⟨⟨100, 0, _, rfl, rfl, .inr ⟨3, _, rfl, rfl, rfl, rfl⟩⟩, rfl, trivial⟩, X2 _⟩
 by_cases k2 : op = 2
 ·subst k2
  refine X0 ?_; refine JR ?_; refine Zt (γ := 100) ?_; refine Z0 ?_; refine JD ?_; refine X0 ?_; refine X0 ?_; refine JR ?_; refine Z1 ?_; refine JD ?_; refine X5 ?_; refine X0 ?_
  refine X0 ?_; refine JR ?_; refine Zu ?_; refine Z0 ?_; refine JD ?_; refine JF ?_; refine X0 ?_; refine JR ?_; refine Zu ?_; refine Z0 ?_; refine JD ?_; refine JT ?_; refine X3 ?_; refine JT ?_
  refine X0 ?_; refine JR ?_; refine Zv ?_; refine Zw ?_; refine Z0 ?_; refine JD ?_
  exact X1 ⟨_, St.le_refl _, ⟨⟨100, 0, _, rfl, rfl, .inr ⟨3, _, rfl, rfl, rfl, rfl⟩⟩, rfl, trivial⟩, X2 _⟩
 by_cases k7 : op = 7
 ·subst k7
  repeat first | refine X0 ?_ | (refine JR ?_; (repeat first | refine Z1 ?_ | refine Z0 ?_ | refine Zu ?_ | refine Zt (γ := 100) ?_ | refine Zw ?_ | refine Zv ?_); refine JD ?_) | refine JT ?_ | refine JF ?_ | refine X5 ?_
  exact X1 ⟨_, St.le_refl _, ⟨⟨100, 0, _, rfl, rfl, .inr ⟨3, _, rfl, rfl, rfl, rfl⟩⟩, rfl, trivial⟩, X2 _⟩
 by_cases k3 : op = 3
 ·subst k3
  repeat first | refine X0 ?_ | (refine JR ?_; (repeat first | refine Z1 ?_ | refine Z0 ?_ | refine Zu ?_ | refine Zt (γ := 100) ?_ | refine Zw ?_ | refine Zv ?_); refine JD ?_) | refine JT ?_ | refine JF ?_ | refine X5 ?_ | refine X3 ?_
  exact X1 ⟨_, St.le_refl _, ⟨⟨100, 0, _, rfl, rfl, .inr ⟨3, _, rfl, rfl, rfl, rfl⟩⟩, rfl, trivial⟩, X2 _⟩
 by_cases k4 : op = 4
 ·subst k4
  repeat first | refine X0 ?_ | (refine JR ?_; (repeat first | refine Z1 ?_ | refine Z0 ?_ | refine Zu ?_ | refine Zt (γ := 100) ?_ | refine Zw ?_ | refine Zv ?_); refine JD ?_) | refine JT ?_ | refine JF ?_ | refine X5 ?_
  exact X1 ⟨_, St.le_refl _, ⟨⟨100, 0, _, rfl, rfl, .inr ⟨3, _, rfl, rfl, rfl, rfl⟩⟩, rfl, trivial⟩, X2 _⟩
 by_cases k5 : op = 5
 ·subst k5
  repeat first | refine X0 ?_ | (refine JR ?_; (repeat first | refine Z1 ?_ | refine Z0 ?_ | refine Zu ?_ | refine Zt (γ := 100) ?_ | refine Zw ?_ | refine Zv ?_); refine JD ?_) | refine JT ?_ | refine JF ?_ | refine X5 ?_ | refine X3 ?_
  exact X1 ⟨_, St.le_refl _, ⟨⟨100, 0, _, rfl, rfl, .inr ⟨3, _, rfl, rfl, rfl, rfl⟩⟩, rfl, trivial⟩, X2 _⟩
 by_cases k8 : op = 8
 ·subst k8
  repeat first | refine X0 ?_ | (refine JR ?_; (repeat first | refine Z1 ?_ | refine Z0 ?_ | refine Zu ?_ | refine Zt (γ := 100) ?_ | refine Zw ?_ | refine Zv ?_); refine JD ?_) | refine JT ?_ | refine JF ?_ | refine X5 ?_
  exact X1 ⟨_, St.le_refl _, ⟨⟨100, 0, _, rfl, rfl, .inr ⟨3, _, rfl, rfl, rfl, rfl⟩⟩, rfl, trivial⟩, X2 _⟩
 by_cases k6 : op = 6
 ·subst k6
  repeat first | refine X0 ?_ | (refine JR ?_; (repeat first | refine Z1 ?_ | refine Z0 ?_ | refine Zu ?_ | refine Zt (γ := 100) ?_ | refine Zw ?_ | refine Zv ?_); refine JD ?_) | refine JT ?_ | refine JF ?_ | refine X5 ?_
  exact X1 ⟨_, St.le_refl _, ⟨⟨100, 0, _, rfl, rfl, .inr ⟨3, _, rfl, rfl, rfl, rfl⟩⟩, rfl, trivial⟩, X2 _⟩
 rw [show Ud op = (false, false, false, false) by unfold Ud XC Xz; rw [decide_eq_false (by omega), decide_eq_false (by omega), decide_eq_false (by omega), decide_eq_false (by omega)]]
 repeat first | refine X0 ?_ | (refine JR ?_; (repeat first | refine Z1 ?_ | refine Z0 ?_ | refine Zu ?_ | refine Zt (γ := 100) ?_ | refine Zw ?_ | refine Zv ?_); refine JD ?_) | refine JF ?_ | refine X5 ?_ | refine X3 ?_
 exact X1 ⟨_, St.le_refl _, ⟨⟨100, 0, _, rfl, rfl, .inr ⟨3, _, rfl, rfl, rfl, rfl⟩⟩, rfl, trivial⟩, X2 _⟩
def YY (k : Int) : Bool × Bool × Bool × Bool := (U4 k, decide (k = 3 ∨ k = 5 ∨ k = 7), decide (k = 6), decide (1 ≤ k ∧ k ≤ 7))
theorem XbI (op : Int) : Con Tryz.prog 67 [] [ai op] [] (.tup [.agg [ab (YY op).1, ab (YY op).2.1, ab (YY op).2.2.1], ab (YY op).2.2.2]) := by
 refine X8 (xs := [.agg [ab (YY op).1, ab (YY op).2.1, ab (YY op).2.2.1], ab (YY op).2.2.2]) Tryz.func67 rfl Tryz.ntmps67 rfl rfl rfl (fun E => ?_)
 by_cases k1 : op = 1
 ·subst k1
  refine X0 ?_; refine JR ?_; refine Zt (γ := 100) ?_; refine Z0 ?_; refine JD ?_; refine X0 ?_; refine X0 ?_; refine JR ?_; refine Z1 ?_; refine JD ?_; refine X5 ?_; refine X0 ?_
  refine X0 ?_; refine JR ?_; refine Zu ?_; refine Z0 ?_; refine JD ?_; refine JT ?_; refine X3 ?_; refine JT ?_; refine X0 ?_; refine JR ?_; refine Zv ?_; refine Zw ?_; refine Z0 ?_; refine JD ?_
  exact X1 ⟨_, St.le_refl _, ⟨⟨100, 0, _, rfl, rfl, .inr ⟨3, _, rfl, rfl, rfl, rfl⟩⟩, rfl, trivial⟩, X2 _⟩
 by_cases k2 : op = 2
 ·subst k2
  refine X0 ?_; refine JR ?_; refine Zt (γ := 100) ?_; refine Z0 ?_; refine JD ?_; refine X0 ?_; refine X0 ?_; refine JR ?_; refine Z1 ?_; refine JD ?_; refine X5 ?_; refine X0 ?_
  refine X0 ?_; refine JR ?_; refine Zu ?_; refine Z0 ?_; refine JD ?_; refine JF ?_; refine X0 ?_; refine JR ?_; refine Zu ?_; refine Z0 ?_; refine JD ?_; refine JT ?_; refine X3 ?_; refine JT ?_
  refine X0 ?_; refine JR ?_; refine Zv ?_; refine Zw ?_; refine Z0 ?_; refine JD ?_
  exact X1 ⟨_, St.le_refl _, ⟨⟨100, 0, _, rfl, rfl, .inr ⟨3, _, rfl, rfl, rfl, rfl⟩⟩, rfl, trivial⟩, X2 _⟩
 by_cases k4 : op = 4
 ·subst k4
  repeat first | refine X0 ?_ | (refine JR ?_; (repeat first | refine Z1 ?_ | refine Z0 ?_ | refine Zu ?_ | refine Zt (γ := 100) ?_ | refine Zw ?_ | refine Zv ?_); refine JD ?_) | refine JT ?_ | refine JF ?_ | refine X5 ?_
  exact X1 ⟨_, St.le_refl _, ⟨⟨100, 0, _, rfl, rfl, .inr ⟨3, _, rfl, rfl, rfl, rfl⟩⟩, rfl, trivial⟩, X2 _⟩
 by_cases k3 : op = 3
 ·subst k3
  repeat first | refine X0 ?_ | (refine JR ?_; (repeat first | refine Z1 ?_ | refine Z0 ?_ | refine Zu ?_ | refine Zt (γ := 100) ?_ | refine Zw ?_ | refine Zv ?_); refine JD ?_) | refine JT ?_ | refine JF ?_ | refine X5 ?_ | refine X3 ?_
  exact X1 ⟨_, St.le_refl _, ⟨⟨100, 0, _, rfl, rfl, .inr ⟨3, _, rfl, rfl, rfl, rfl⟩⟩, rfl, trivial⟩, X2 _⟩
 by_cases k5 : op = 5
 ·subst k5
  repeat first | refine X0 ?_ | (refine JR ?_; (repeat first | refine Z1 ?_ | refine Z0 ?_ | refine Zu ?_ | refine Zt (γ := 100) ?_ | refine Zw ?_ | refine Zv ?_); refine JD ?_) | refine JT ?_ | refine JF ?_ | refine X5 ?_
  exact X1 ⟨_, St.le_refl _, ⟨⟨100, 0, _, rfl, rfl, .inr ⟨3, _, rfl, rfl, rfl, rfl⟩⟩, rfl, trivial⟩, X2 _⟩
 by_cases k6 : op = 6
 ·subst k6
  repeat first | refine X0 ?_ | (refine JR ?_; (repeat first | refine Z1 ?_ | refine Z0 ?_ | refine Zu ?_ | refine Zt (γ := 100) ?_ | refine Zw ?_ | refine Zv ?_); refine JD ?_) | refine JT ?_ | refine JF ?_ | refine X5 ?_
  exact X1 ⟨_, St.le_refl _, ⟨⟨100, 0, _, rfl, rfl, .inr ⟨3, _, rfl, rfl, rfl, rfl⟩⟩, rfl, trivial⟩, X2 _⟩
 by_cases k7 : op = 7
 ·subst k7
  repeat first | refine X0 ?_ | (refine JR ?_; (repeat first | refine Z1 ?_ | refine Z0 ?_ | refine Zu ?_ | refine Zt (γ := 100) ?_ | refine Zw ?_ | refine Zv ?_); refine JD ?_) | refine JT ?_ | refine JF ?_ | refine X5 ?_
  exact X1 ⟨_, St.le_refl _, ⟨⟨100, 0, _, rfl, rfl, .inr ⟨3, _, rfl, rfl, rfl, rfl⟩⟩, rfl, trivial⟩, X2 _⟩
 rw [show YY op = (false, false, false, false) by unfold YY U4; rw [decide_eq_false (by omega), decide_eq_false (by omega), decide_eq_false (by omega), decide_eq_false (by omega)]]
 repeat first | refine X0 ?_ | (refine JR ?_; (repeat first | refine Z1 ?_ | refine Z0 ?_ | refine Zu ?_ | refine Zt (γ := 100) ?_ | refine Zw ?_ | refine Zv ?_); refine JD ?_) | refine JF ?_ | refine X5 ?_ | refine X3 ?_
 exact X1 ⟨_, St.le_refl _, ⟨⟨100, 0, _, rfl, rfl, .inr ⟨3, _, rfl, rfl, rfl, rfl⟩⟩, rfl, trivial⟩, X2 _⟩
theorem X4a (n : Int) : Con Tryz.prog 52 [] [ai n] [] (ab (idV n)) := by
 refine X8 (xs := [ab (idV n)]) Tryz.func52 rfl Tryz.ntmps52 rfl rfl rfl (fun E => ?_)
 by_cases h1 : 1 ≤ n
 ·by_cases h2 : n ≤ 1000000
  ·rw [show idV n = true by unfold idV; exact decide_eq_true ⟨h1, h2⟩]
   refine X0 ?_; refine JR ?_; refine Z0 ?_; refine JD ?_; refine X0 ?_; refine JR ?_; refine Z1 ?_; refine Z2 ?_; refine Z1 ?_; refine Z1 ?_; refine Zj ?_; refine Zk ?_; refine Z0 ?_; refine JD ?_
   first | exact X1 ⟨_, St.le_refl _, ⟨rfl, trivial⟩, X2 _⟩ | exact X1 ⟨_, X9 2 (y := ab true) (AVal.le_of_eq (by refine Eq.trans (b := ab (decide _)) rfl ?_; exact congrArg ab (by simp; omega))), ⟨rfl, trivial⟩, X2 _⟩ | fail
  ·rw [show idV n = false by unfold idV; exact decide_eq_false (by omega)]
   refine X0 ?_; refine JR ?_; refine Z0 ?_; refine JD ?_; refine X0 ?_; refine JR ?_; refine Z1 ?_; refine Z2 ?_; refine Z1 ?_; refine Z1 ?_; refine Zj ?_; refine Zk ?_; refine Z0 ?_; refine JD ?_
   first | exact X1 ⟨_, St.le_refl _, ⟨rfl, trivial⟩, X2 _⟩ | exact X1 ⟨_, X9 2 (y := ab false) (AVal.le_of_eq (by refine Eq.trans (b := ab (decide _)) rfl ?_; exact congrArg ab (by simp; omega))), ⟨rfl, trivial⟩, X2 _⟩ | fail
 ·rw [show idV n = false by unfold idV; exact decide_eq_false (by omega)]
  refine X0 ?_; refine JR ?_; refine Z0 ?_; refine JD ?_; refine X0 ?_; refine JR ?_; refine Z1 ?_; refine Z2 ?_; refine Z1 ?_; refine Zl ?_; refine Zl ?_; refine Zn ?_; refine Z0 ?_; refine JD ?_
  first | exact X1 ⟨_, St.le_refl _, ⟨rfl, trivial⟩, X2 _⟩ | exact X1 ⟨_, X9 2 (y := ab false) (AVal.le_of_eq (by refine Eq.trans (b := ab (decide _)) rfl ?_; exact congrArg ab (by simp; omega))), ⟨rfl, trivial⟩, X2 _⟩ | fail
theorem X3c (n : Int) : Con Tryz.prog 59 [] [ai n] [] (ab (idV n)) := by
 refine X8 (xs := [ab (idV n)]) Tryz.func59 rfl Tryz.ntmps59 rfl rfl rfl (fun E => ?_)
 by_cases h1 : 1 ≤ n
 ·by_cases h2 : n ≤ 1000000
  ·rw [show idV n = true by unfold idV; exact decide_eq_true ⟨h1, h2⟩]
   refine X0 ?_; refine JR ?_; refine Z0 ?_; refine JD ?_; refine X0 ?_; refine JR ?_; refine Z1 ?_; refine Z2 ?_; refine Z1 ?_; refine Z1 ?_; refine Zj ?_; refine Zk ?_; refine Z0 ?_; refine JD ?_
   first | exact X1 ⟨_, St.le_refl _, ⟨rfl, trivial⟩, X2 _⟩ | exact X1 ⟨_, X9 2 (y := ab true) (AVal.le_of_eq (by refine Eq.trans (b := ab (decide _)) rfl ?_; exact congrArg ab (by simp; omega))), ⟨rfl, trivial⟩, X2 _⟩ | fail
  ·rw [show idV n = false by unfold idV; exact decide_eq_false (by omega)]
   refine X0 ?_; refine JR ?_; refine Z0 ?_; refine JD ?_; refine X0 ?_; refine JR ?_; refine Z1 ?_; refine Z2 ?_; refine Z1 ?_; refine Z1 ?_; refine Zj ?_; refine Zk ?_; refine Z0 ?_; refine JD ?_
   first | exact X1 ⟨_, St.le_refl _, ⟨rfl, trivial⟩, X2 _⟩ | exact X1 ⟨_, X9 2 (y := ab false) (AVal.le_of_eq (by refine Eq.trans (b := ab (decide _)) rfl ?_; exact congrArg ab (by simp; omega))), ⟨rfl, trivial⟩, X2 _⟩ | fail
 ·rw [show idV n = false by unfold idV; exact decide_eq_false (by omega)]
  refine X0 ?_; refine JR ?_; refine Z0 ?_; refine JD ?_; refine X0 ?_; refine JR ?_; refine Z1 ?_; refine Z2 ?_; refine Z1 ?_; refine Zl ?_; refine Zl ?_; refine Zn ?_; refine Z0 ?_; refine JD ?_
  first | exact X1 ⟨_, St.le_refl _, ⟨rfl, trivial⟩, X2 _⟩ | exact X1 ⟨_, X9 2 (y := ab false) (AVal.le_of_eq (by refine Eq.trans (b := ab (decide _)) rfl ?_; exact congrArg ab (by simp; omega))), ⟨rfl, trivial⟩, X2 _⟩ | fail
theorem Xaj (op : Int) : Con Tryz.prog 60 [] [ai op] [] (ab (XC op)) := by
 refine X8 (xs := [ab (XC op)]) Tryz.func60 rfl Tryz.ntmps60 rfl rfl rfl (fun E => ?_)
 by_cases k3 : op = 3
 ·subst k3
  repeat first | refine X0 ?_ | (refine JR ?_; (repeat first | refine Z1 ?_ | refine Z0 ?_ | refine Zu ?_ | refine Zk ?_ | refine Zl ?_); refine JD ?_)
  first | exact X1 ⟨_, St.le_refl _, ⟨rfl, trivial⟩, X2 _⟩ | exact X1 ⟨_, X9 2 (y := ab true) (AVal.le_of_eq (by refine Eq.trans (b := ab (decide _)) rfl ?_; exact congrArg ab (by simp; omega))), ⟨rfl, trivial⟩, X2 _⟩ | fail
 by_cases k4 : op = 4
 ·subst k4
  repeat first | refine X0 ?_ | (refine JR ?_; (repeat first | refine Z1 ?_ | refine Z0 ?_ | refine Zu ?_ | refine Zk ?_ | refine Zn ?_ | refine Zl ?_); refine JD ?_)
  first | exact X1 ⟨_, St.le_refl _, ⟨rfl, trivial⟩, X2 _⟩ | exact X1 ⟨_, X9 2 (y := ab true) (AVal.le_of_eq (by refine Eq.trans (b := ab (decide _)) rfl ?_; exact congrArg ab (by simp; omega))), ⟨rfl, trivial⟩, X2 _⟩ | fail
 by_cases k5 : op = 5
 ·subst k5
  repeat first | refine X0 ?_ | (refine JR ?_; (repeat first | refine Z1 ?_ | refine Z0 ?_ | refine Zu ?_ | refine Zk ?_ | refine Zn ?_ | refine Zl ?_); refine JD ?_)
  first | exact X1 ⟨_, St.le_refl _, ⟨rfl, trivial⟩, X2 _⟩ | exact X1 ⟨_, X9 2 (y := ab true) (AVal.le_of_eq (by refine Eq.trans (b := ab (decide _)) rfl ?_; exact congrArg ab (by simp; omega))), ⟨rfl, trivial⟩, X2 _⟩ | fail
 by_cases k6 : op = 6
 ·subst k6
  repeat first | refine X0 ?_ | (refine JR ?_; (repeat first | refine Z1 ?_ | refine Z0 ?_ | refine Zu ?_ | refine Zk ?_ | refine Zn ?_ | refine Zl ?_); refine JD ?_)
  first | exact X1 ⟨_, St.le_refl _, ⟨rfl, trivial⟩, X2 _⟩ | exact X1 ⟨_, X9 2 (y := ab true) (AVal.le_of_eq (by refine Eq.trans (b := ab (decide _)) rfl ?_; exact congrArg ab (by simp; omega))), ⟨rfl, trivial⟩, X2 _⟩ | fail
 by_cases k8 : op = 8
 ·subst k8
  repeat first | refine X0 ?_ | (refine JR ?_; (repeat first | refine Z1 ?_ | refine Z0 ?_ | refine Zu ?_ | refine Zn ?_); refine JD ?_)
  first | exact X1 ⟨_, St.le_refl _, ⟨rfl, trivial⟩, X2 _⟩ | exact X1 ⟨_, X9 2 (y := ab true) (AVal.le_of_eq (by refine Eq.trans (b := ab (decide _)) rfl ?_; exact congrArg ab (by simp; omega))), ⟨rfl, trivial⟩, X2 _⟩ | fail
 rw [show XC op = false by unfold XC; exact decide_eq_false (by omega)]
 repeat first | refine X0 ?_ | (refine JR ?_; (repeat first | refine Z1 ?_ | refine Z0 ?_ | refine Zu ?_ | refine Zn ?_); refine JD ?_)
 first | exact X1 ⟨_, St.le_refl _, ⟨rfl, trivial⟩, X2 _⟩ | exact X1 ⟨_, X9 2 (y := ab false) (AVal.le_of_eq (by refine Eq.trans (b := ab (decide _)) rfl ?_; exact congrArg ab (by simp; omega))), ⟨rfl, trivial⟩, X2 _⟩ | fail
theorem Xa7 (op : Int) : Con Tryz.prog 61 [] [ai op] [] (ab (Xz op)) := by
 refine X8 (xs := [ab (Xz op)]) Tryz.func61 rfl Tryz.ntmps61 rfl rfl rfl (fun E => ?_)
 by_cases k5 : op = 5
 ·subst k5
  refine X0 ?_; refine JR ?_; refine Z0 ?_; refine JD ?_; refine X0 ?_; refine JR ?_; refine Z1 ?_; refine Zu ?_; refine Z1 ?_; refine Zl ?_; refine Zl ?_; refine Zk ?_; refine Z0 ?_; refine JD ?_
  first | exact X1 ⟨_, St.le_refl _, ⟨rfl, trivial⟩, X2 _⟩ | exact X1 ⟨_, X9 2 (y := ab true) (AVal.le_of_eq (by refine Eq.trans (b := ab (decide _)) rfl ?_; exact congrArg ab (by simp; omega))), ⟨rfl, trivial⟩, X2 _⟩ | fail
 by_cases k8 : op = 8
 ·subst k8
  refine X0 ?_; refine JR ?_; refine Z0 ?_; refine JD ?_; refine X0 ?_; refine JR ?_; refine Z1 ?_; refine Zu ?_; refine Z1 ?_; refine Z1 ?_; refine Zu ?_; refine Zn ?_; refine Z0 ?_; refine JD ?_
  first | exact X1 ⟨_, St.le_refl _, ⟨rfl, trivial⟩, X2 _⟩ | exact X1 ⟨_, X9 2 (y := ab true) (AVal.le_of_eq (by refine Eq.trans (b := ab (decide _)) rfl ?_; exact congrArg ab (by simp; omega))), ⟨rfl, trivial⟩, X2 _⟩ | fail
 rw [show Xz op = false by unfold Xz; exact decide_eq_false (by omega)]
 refine X0 ?_; refine JR ?_; refine Z0 ?_; refine JD ?_; refine X0 ?_; refine JR ?_; refine Z1 ?_; refine Zu ?_; refine Z1 ?_; refine Z1 ?_; refine Zu ?_; refine Zn ?_; refine Z0 ?_; refine JD ?_
 first | exact X1 ⟨_, St.le_refl _, ⟨rfl, trivial⟩, X2 _⟩ | exact X1 ⟨_, X9 2 (y := ab false) (AVal.le_of_eq (by refine Eq.trans (b := ab (decide _)) rfl ?_; exact congrArg ab (by simp; omega))), ⟨rfl, trivial⟩, X2 _⟩ | fail
theorem X7g (op : Int) : Con Tryz.prog 31 [] [ai op] [] (ab (XC op)) := by
 refine X8 (xs := [ab (XC op)]) Tryz.func31 rfl Tryz.ntmps31 rfl rfl rfl (fun E => ?_)
 by_cases k3 : op = 3
 ·subst k3
  repeat first | refine X0 ?_ | (refine JR ?_; (repeat first | refine Z1 ?_ | refine Z0 ?_ | refine Zu ?_ | refine Zk ?_ | refine Zl ?_); refine JD ?_)
  first | exact X1 ⟨_, St.le_refl _, ⟨rfl, trivial⟩, X2 _⟩ | exact X1 ⟨_, X9 2 (y := ab true) (AVal.le_of_eq (by refine Eq.trans (b := ab (decide _)) rfl ?_; exact congrArg ab (by simp; omega))), ⟨rfl, trivial⟩, X2 _⟩ | fail
 by_cases k4 : op = 4
 ·subst k4
  repeat first | refine X0 ?_ | (refine JR ?_; (repeat first | refine Z1 ?_ | refine Z0 ?_ | refine Zu ?_ | refine Zk ?_ | refine Zn ?_ | refine Zl ?_); refine JD ?_)
  first | exact X1 ⟨_, St.le_refl _, ⟨rfl, trivial⟩, X2 _⟩ | exact X1 ⟨_, X9 2 (y := ab true) (AVal.le_of_eq (by refine Eq.trans (b := ab (decide _)) rfl ?_; exact congrArg ab (by simp; omega))), ⟨rfl, trivial⟩, X2 _⟩ | fail
 by_cases k5 : op = 5
 ·subst k5
  repeat first | refine X0 ?_ | (refine JR ?_; (repeat first | refine Z1 ?_ | refine Z0 ?_ | refine Zu ?_ | refine Zk ?_ | refine Zn ?_ | refine Zl ?_); refine JD ?_)
  first | exact X1 ⟨_, St.le_refl _, ⟨rfl, trivial⟩, X2 _⟩ | exact X1 ⟨_, X9 2 (y := ab true) (AVal.le_of_eq (by refine Eq.trans (b := ab (decide _)) rfl ?_; exact congrArg ab (by simp; omega))), ⟨rfl, trivial⟩, X2 _⟩ | fail
 by_cases k6 : op = 6
 ·subst k6
  repeat first | refine X0 ?_ | (refine JR ?_; (repeat first | refine Z1 ?_ | refine Z0 ?_ | refine Zu ?_ | refine Zk ?_ | refine Zn ?_ | refine Zl ?_); refine JD ?_)
  first | exact X1 ⟨_, St.le_refl _, ⟨rfl, trivial⟩, X2 _⟩ | exact X1 ⟨_, X9 2 (y := ab true) (AVal.le_of_eq (by refine Eq.trans (b := ab (decide _)) rfl ?_; exact congrArg ab (by simp; omega))), ⟨rfl, trivial⟩, X2 _⟩ | fail
 by_cases k8 : op = 8
 ·subst k8
  repeat first | refine X0 ?_ | (refine JR ?_; (repeat first | refine Z1 ?_ | refine Z0 ?_ | refine Zu ?_ | refine Zn ?_); refine JD ?_)
  first | exact X1 ⟨_, St.le_refl _, ⟨rfl, trivial⟩, X2 _⟩ | exact X1 ⟨_, X9 2 (y := ab true) (AVal.le_of_eq (by refine Eq.trans (b := ab (decide _)) rfl ?_; exact congrArg ab (by simp; omega))), ⟨rfl, trivial⟩, X2 _⟩ | fail
 rw [show XC op = false by unfold XC; exact decide_eq_false (by omega)]
 repeat first | refine X0 ?_ | (refine JR ?_; (repeat first | refine Z1 ?_ | refine Z0 ?_ | refine Zu ?_ | refine Zn ?_); refine JD ?_)
 first | exact X1 ⟨_, St.le_refl _, ⟨rfl, trivial⟩, X2 _⟩ | exact X1 ⟨_, X9 2 (y := ab false) (AVal.le_of_eq (by refine Eq.trans (b := ab (decide _)) rfl ?_; exact congrArg ab (by simp; omega))), ⟨rfl, trivial⟩, X2 _⟩ | fail
theorem X5s (op : Int) : Con Tryz.prog 33 [] [ai op] [] (ab (Xz op)) := by
 refine X8 (xs := [ab (Xz op)]) Tryz.func33 rfl Tryz.ntmps33 rfl rfl rfl (fun E => ?_)
 by_cases k5 : op = 5
 ·subst k5
  refine X0 ?_; refine JR ?_; refine Z0 ?_; refine JD ?_; refine X0 ?_; refine JR ?_; refine Z1 ?_; refine Zu ?_; refine Z1 ?_; refine Zl ?_; refine Zl ?_; refine Zk ?_; refine Z0 ?_; refine JD ?_
  first | exact X1 ⟨_, St.le_refl _, ⟨rfl, trivial⟩, X2 _⟩ | exact X1 ⟨_, X9 2 (y := ab true) (AVal.le_of_eq (by refine Eq.trans (b := ab (decide _)) rfl ?_; exact congrArg ab (by simp; omega))), ⟨rfl, trivial⟩, X2 _⟩ | fail
 by_cases k8 : op = 8
 ·subst k8
  refine X0 ?_; refine JR ?_; refine Z0 ?_; refine JD ?_; refine X0 ?_; refine JR ?_; refine Z1 ?_; refine Zu ?_; refine Z1 ?_; refine Z1 ?_; refine Zu ?_; refine Zn ?_; refine Z0 ?_; refine JD ?_
  first | exact X1 ⟨_, St.le_refl _, ⟨rfl, trivial⟩, X2 _⟩ | exact X1 ⟨_, X9 2 (y := ab true) (AVal.le_of_eq (by refine Eq.trans (b := ab (decide _)) rfl ?_; exact congrArg ab (by simp; omega))), ⟨rfl, trivial⟩, X2 _⟩ | fail
 rw [show Xz op = false by unfold Xz; exact decide_eq_false (by omega)]
 refine X0 ?_; refine JR ?_; refine Z0 ?_; refine JD ?_; refine X0 ?_; refine JR ?_; refine Z1 ?_; refine Zu ?_; refine Z1 ?_; refine Z1 ?_; refine Zu ?_; refine Zn ?_; refine Z0 ?_; refine JD ?_
 first | exact X1 ⟨_, St.le_refl _, ⟨rfl, trivial⟩, X2 _⟩ | exact X1 ⟨_, X9 2 (y := ab false) (AVal.le_of_eq (by refine Eq.trans (b := ab (decide _)) rfl ?_; exact congrArg ab (by simp; omega))), ⟨rfl, trivial⟩, X2 _⟩ | fail
end Go.Fw
namespace Go.Fw
open Go Go.Proofs
set_option maxRecDepth 100000
set_option linter.unusedVariables false
set_option linter.unusedSimpArgs false
theorem X9X (s : List UInt8) : Con Tryz.prog 63 [] [.d (.v (.string (X4 s)))] [] (ab (XW s)) := by
 refine X8 (xs := [ab (XW s)]) Tryz.func63 rfl Tryz.ntmps63 rfl rfl rfl (fun E => ?_)
 have hsz : (X4 s).size = s.length := rfl
 by_cases h0 : s.length < 1
 ·rw [X49 (List.eq_nil_of_length_eq_zero (by omega))]
  have h0' : ((X4 s).size : Int) < 1 := by omega
  repeat first | refine X0 ?_ | (refine JR ?_; (repeat first | refine Z1 ?_ | refine Z0 ?_ | refine Zc ?_ | refine Z8 ?_ | refine Zk ?_ | refine Zl ?_); refine JD ?_) | refine JT ?_
  exact X1 ⟨_, St.le_refl _, ⟨rfl, trivial⟩, X2 _⟩
 have h0' : ¬ ((X4 s).size : Int) < 1 := by omega
 by_cases h20 : 20 < s.length
 ·rw [X3e h20]
  have h20' : (20 : Int) < (X4 s).size := by omega
  refine X0 ?_; refine JR ?_; refine Z0 ?_; refine JD ?_; refine X0 ?_; refine X0 ?_; refine JR ?_; refine Z1 ?_; refine Zc ?_; refine Z8 ?_; refine Z1 ?_; refine Z1 ?_; refine Zc ?_; refine Zp ?_
  refine Zn ?_; refine Z1 ?_; refine Zl ?_; refine Zl ?_; refine Zl ?_; refine Zl ?_; refine Zk ?_; refine JD ?_; refine JT ?_; refine X0 ?_; refine JR ?_; refine Z0 ?_; refine JD ?_
  exact X1 ⟨_, St.le_refl _, ⟨rfl, trivial⟩, X2 _⟩
 have h20' : ¬ (20 : Int) < (X4 s).size := by omega
 obtain ⟨c, hc⟩ := XT (l := s) (k := 0) (by omega)
 have hl := X5B c
 cases hlc : Yv c with
 | false =>
  rw [X1h hc hlc]
  rw [hlc] at hl
  refine X0 ?_; refine JR ?_; refine Z0 ?_; refine JD ?_; refine X0 ?_; refine X0 ?_; refine JR ?_; refine Z1 ?_; refine Zc ?_; refine Z8 ?_; refine Z1 ?_; refine Z1 ?_; refine Zc ?_; refine Zp ?_
  refine Zn ?_; refine Z1 ?_; refine Z1 ?_; refine Zq ?_; refine Z9 (hcon := hl) ?_; refine Zr ?_; refine Zn ?_; refine JD ?_; refine JT ?_; refine X0 ?_; refine JR ?_; refine Z0 ?_; refine JD ?_
  exact X1 ⟨_, St.le_refl _, ⟨rfl, trivial⟩, X2 _⟩
 | true =>
  rw [hlc] at hl
  refine X0 ?_; refine JR ?_; refine Z0 ?_; refine JD ?_; refine X0 ?_; refine X0 ?_; refine JR ?_; refine Z1 ?_; refine Zc ?_; refine Z8 ?_; refine Z1 ?_; refine Z1 ?_; refine Zc ?_; refine Zp ?_
  refine Zn ?_; refine Z1 ?_; refine Z1 ?_; refine Zq ?_; refine Z9 (hcon := hl) ?_; refine Zr ?_; refine Zn ?_; refine JD ?_; refine JF ?_; refine X3 ?_; refine X0 ?_; refine X0 ?_; refine JR ?_
  refine Z0 ?_; refine JD ?_; refine X5 ?_
  refine XR (fun i : Nat => 1 ≤ i ∧ i ≤ s.length ∧ ∀ j, j < i → ∃ b, s[j]? = some b ∧ XJ b = true) (fun i => ⟨47, [(0, .d (.v (.string (X4 s)))), (3, ai i)], []⟩) (fun i => s.length - i) 1
   ⟨by omega, by omega, fun j hj => ⟨c, by rw [show j = 0 by omega]; exact hc, by unfold XJ; rw [hlc]; rfl⟩⟩
   (Xc rfl ⟨JL, JL, trivial⟩ trivial) ?_
  rintro i ⟨hi1, hi, hall⟩
  by_cases hil : i < s.length
  case neg =>
   obtain rfl : i = s.length := by omega
   rw [X3i hc hlc h20 hall]
   have hn : ¬ ((s.length : Nat) : Int) < (X4 s).size := by omega
   refine X0 ?_; refine X0 ?_; refine JR ?_; refine Z1 ?_; refine Z1 ?_; refine Zc ?_; refine Z8 ?_; refine JD ?_; refine JF ?_; refine Xv ?_; refine X0 ?_; refine JR ?_; refine Z0 ?_; refine JD ?_
   exact X1 ⟨_, St.le_refl _, ⟨rfl, trivial⟩, X2 _⟩
  have hn : (i : Int) < (X4 s).size := by omega
  clear hl hlc hc
  obtain ⟨c, hc⟩ := XT (l := s) hil
  have hl := X5B c
  cases hlc : Yv c with
  | true =>
   rw [hlc] at hl
   have hnx := UN hc (show XJ c = true by unfold XJ; rw [hlc]; rfl) hall
   repeat first | refine X0 ?_ | (refine JR ?_; (repeat first | refine Z1 ?_ | refine Z0 ?_ | refine Zc ?_ | refine Z8 ?_ | refine Zb ?_ | refine Zr ?_ | refine Zn ?_ | refine Zq ?_ | refine Zl ?_ | refine Zm ?_ | refine Z9 (hcon := hl) ?_); refine JD ?_) | refine JT ?_ | refine JF ?_ | refine X5 ?_ | refine X3 ?_
   exact ⟨i + 1, ⟨by omega, by omega, hnx⟩, by omega, Xc rfl ⟨JL, JL, trivial⟩ trivial⟩
  | false =>
   rw [hlc] at hl
   by_cases g3 : c.toNat = 95
   ·have hnx := UN hc (show XJ c = true by unfold XJ; rw [decide_eq_true (by omega)]; simp) hall
    refine X0 ?_; refine X0 ?_; refine JR ?_; refine Z1 ?_; refine Z1 ?_; refine Zc ?_; refine Z8 ?_; refine JD ?_; refine JT ?_; refine X3 ?_; refine X0 ?_; refine X5 ?_; refine X0 ?_
    refine JR ?_; refine Z1 ?_; refine Z1 ?_; refine Zq ?_; refine Z9 (hcon := hl) ?_; refine Zr ?_; refine Z1 ?_; refine Z1 ?_; refine Z1 ?_; refine Zq ?_; refine Zs ?_; refine Zk ?_; refine Z1 ?_; refine Zl ?_
    refine Zl ?_; refine Zl ?_; refine Zl ?_; refine Zl ?_; refine Zm ?_; refine Zm ?_; refine Zm ?_; refine Zm ?_; refine Zl ?_; refine Zn ?_; refine JD ?_; refine JF ?_; refine X3 ?_; refine JR ?_; refine Z1 ?_
    refine Zb ?_; refine Z0 ?_; refine JD ?_
    exact ⟨i + 1, ⟨by omega, by omega, hnx⟩, by omega, Xc rfl ⟨JL, JL, trivial⟩ trivial⟩
   by_cases g1 : 48 ≤ c.toNat
   ·by_cases g2 : c.toNat ≤ 57
    ·have hnx := UN hc (show XJ c = true by unfold XJ; rw [decide_eq_true (by omega)]; simp) hall
     refine X0 ?_; refine X0 ?_; refine JR ?_; refine Z1 ?_; refine Z1 ?_; refine Zc ?_; refine Z8 ?_; refine JD ?_; refine JT ?_; refine X3 ?_; refine X0 ?_; refine X5 ?_; refine X0 ?_
     refine JR ?_; refine Z1 ?_; refine Z1 ?_; refine Zq ?_; refine Z9 (hcon := hl) ?_; refine Zr ?_; refine Z1 ?_; refine Z1 ?_; refine Z1 ?_; refine Zq ?_; refine Zs ?_; refine Zk ?_; refine Z1 ?_; refine Z1 ?_
     refine Z1 ?_; refine Zq ?_; refine Z8 ?_; refine Z1 ?_; refine Z1 ?_; refine Z1 ?_; refine Zq ?_; refine Zp ?_; refine Zn ?_; refine Zk ?_; refine JD ?_; refine JF ?_; refine X3 ?_; refine JR ?_; refine Z1 ?_
     refine Zb ?_; refine Z0 ?_; refine JD ?_
     exact ⟨i + 1, ⟨by omega, by omega, hnx⟩, by omega, Xc rfl ⟨JL, JL, trivial⟩ trivial⟩
    ·rw [VI hc (show XJ c = false by unfold XJ; rw [hlc, decide_eq_false (by omega)]; rfl)]
     repeat first | refine X0 ?_ | (refine JR ?_; (repeat first | refine Z1 ?_ | refine Z0 ?_ | refine Zc ?_ | refine Z8 ?_ | refine Zp ?_ | refine Zs ?_ | refine Zr ?_ | refine Zk ?_ | refine Zn ?_ | refine Zq ?_ | refine Z9 (hcon := hl) ?_); refine JD ?_) | refine JT ?_ | refine X5 ?_ | refine X3 ?_
     exact X1 ⟨_, St.le_refl _, ⟨rfl, trivial⟩, X2 _⟩
   ·rw [VI hc (show XJ c = false by unfold XJ; rw [hlc, decide_eq_false (by omega)]; rfl)]
    repeat first | refine X0 ?_ | (refine JR ?_; (repeat first | refine Z1 ?_ | refine Z0 ?_ | refine Zc ?_ | refine Z8 ?_ | refine Zs ?_ | refine Zr ?_ | refine Zk ?_ | refine Zq ?_ | refine Zl ?_ | refine Z9 (hcon := hl) ?_); refine JD ?_) | refine JT ?_ | refine X5 ?_ | refine X3 ?_
    exact X1 ⟨_, St.le_refl _, ⟨rfl, trivial⟩, X2 _⟩
theorem X2a (s : List UInt8) : Con Tryz.prog 72 [] [.d (.v (.string (X4 s)))] [] (ab (XW s)) := by
 refine X8 (xs := [ab (XW s)]) Tryz.func72 rfl Tryz.ntmps72 rfl rfl rfl (fun E => ?_)
 have hsz : (X4 s).size = s.length := rfl
 by_cases h0 : s.length < 1
 ·rw [X49 (List.eq_nil_of_length_eq_zero (by omega))]
  have h0' : ((X4 s).size : Int) < 1 := by omega
  refine X0 ?_; refine JR ?_; refine Z0 ?_; refine JD ?_; refine X0 ?_; refine X0 ?_; refine JR ?_; refine Z1 ?_; refine Zc ?_; refine Z8 ?_; refine Z1 ?_; refine Zl ?_; refine Zl ?_; refine Zl ?_
  refine Zk ?_; refine JD ?_; refine JT ?_; refine X0 ?_; refine JR ?_; refine Z0 ?_; refine JD ?_
  exact X1 ⟨_, St.le_refl _, ⟨rfl, trivial⟩, X2 _⟩
 have h0' : ¬ ((X4 s).size : Int) < 1 := by omega
 by_cases h20 : 20 < s.length
 ·rw [X3e h20]
  have h20' : (20 : Int) < (X4 s).size := by omega
  refine X0 ?_; refine JR ?_; refine Z0 ?_; refine JD ?_; refine X0 ?_; refine X0 ?_; refine JR ?_; refine Z1 ?_; refine Zc ?_; refine Z8 ?_; refine Z1 ?_; refine Z1 ?_; refine Zc ?_; refine Zp ?_
  refine Zn ?_; refine JD ?_; refine JT ?_; refine X0 ?_; refine JR ?_; refine Z0 ?_; refine JD ?_
  exact X1 ⟨_, St.le_refl _, ⟨rfl, trivial⟩, X2 _⟩
 have h20' : ¬ (20 : Int) < (X4 s).size := by omega
 obtain ⟨c, hc⟩ := XT (l := s) (k := 0) (by omega)
 refine X0 ?_; refine JR ?_; refine Z0 ?_; refine JD ?_; refine X0 ?_; refine X0 ?_; refine JR ?_; refine Z1 ?_; refine Zc ?_; refine Z8 ?_; refine Z1 ?_; refine Z1 ?_; refine Zc ?_; refine Zp ?_
 refine Zn ?_; refine JD ?_; refine JF ?_; refine X3 ?_; refine X0 ?_; refine X0 ?_; refine JR ?_; refine Z0 ?_; refine JD ?_; refine X5 ?_
 refine XR (fun i : Nat => i ≤ s.length ∧ (0 < i → Yv c = true) ∧ ∀ j, j < i → ∃ b, s[j]? = some b ∧ XJ b = true) (fun i => ⟨65, [(0, .d (.v (.string (X4 s)))), (3, ai i)], []⟩) (fun i => s.length - i) 0
  ⟨by omega, fun h => absurd h (by omega), fun j hj => absurd hj (by omega)⟩
  (Xc rfl ⟨JL, JL, trivial⟩ trivial) ?_
 rintro i ⟨hi, hh, hall⟩
 by_cases hil : i < s.length
 case neg =>
  obtain rfl : i = s.length := by omega
  rw [X3i hc (hh (by omega)) h20 hall]
  have hn : ¬ ((s.length : Nat) : Int) < (X4 s).size := by omega
  refine X0 ?_; refine X0 ?_; refine JR ?_; refine Z1 ?_; refine Z1 ?_; refine Zc ?_; refine Z8 ?_; refine JD ?_; refine JF ?_; refine Xv ?_; refine X0 ?_; refine JR ?_; refine Z0 ?_; refine JD ?_
  exact X1 ⟨_, St.le_refl _, ⟨rfl, trivial⟩, X2 _⟩
 have hn : (i : Int) < (X4 s).size := by omega
 obtain ⟨x, hx⟩ := XT (l := s) hil
 by_cases hi0 : i = 0
 ·subst hi0
  have hcx : c = x := by rw [hc] at hx; exact Option.some.inj hx
  clear hc hh
  by_cases a1 : 97 ≤ x.toNat
  ·by_cases a2 : x.toNat ≤ 122
   ·have hlx : Yv x = true := VH (by omega)
    have hh := hlx
    have hnx : ∀ j, j < 0 + 1 → ∃ b, s[j]? = some b ∧ XJ b = true := UN hx (show XJ x = true by unfold XJ; rw [hlx]; rfl) hall
    repeat first | refine X0 ?_ | (refine JR ?_; (repeat first | refine Z1 ?_ | refine Z0 ?_ | refine Zc ?_ | refine Z8 ?_ | refine Zj ?_ | refine Z2 ?_ | refine Zb ?_ | refine Zr ?_ | refine Zk ?_ | refine Zn ?_ | refine Zq ?_ | refine Zl ?_ | refine Zm ?_); refine JD ?_) | refine JT ?_ | refine JF ?_ | refine X5 ?_ | refine X3 ?_
    exact ⟨0 + 1, ⟨by omega, fun _ => by rw [hcx]; exact hh, hnx⟩, by omega, Xc rfl ⟨JL, JL, trivial⟩ trivial⟩
   ·have hlx : Yv x = false := UR (by omega)
    have a3 : 65 ≤ x.toNat := by omega
    have a4 : ¬ x.toNat ≤ 90 := by omega
    rw [X1h hx hlx]
    repeat first | refine X0 ?_ | (refine JR ?_; (repeat first | refine Z1 ?_ | refine Z0 ?_ | refine Zc ?_ | refine Z8 ?_ | refine Zj ?_ | refine Z2 ?_ | refine Zu ?_ | refine Zr ?_ | refine Zk ?_ | refine Zn ?_ | refine Zq ?_ | refine Zl ?_ | refine Zm ?_); refine JD ?_) | refine JT ?_ | refine X5 ?_ | refine X3 ?_
    exact X1 ⟨_, St.le_refl _, ⟨rfl, trivial⟩, X2 _⟩
  by_cases a3 : 65 ≤ x.toNat
  ·by_cases a4 : x.toNat ≤ 90
   ·have hlx : Yv x = true := VH (by omega)
    have hh := hlx
    have hnx : ∀ j, j < 0 + 1 → ∃ b, s[j]? = some b ∧ XJ b = true := UN hx (show XJ x = true by unfold XJ; rw [hlx]; rfl) hall
    repeat first | refine X0 ?_ | (refine JR ?_; (repeat first | refine Z1 ?_ | refine Z0 ?_ | refine Zc ?_ | refine Z8 ?_ | refine Zj ?_ | refine Z2 ?_ | refine Zb ?_ | refine Zr ?_ | refine Zk ?_ | refine Zn ?_ | refine Zq ?_ | refine Zl ?_ | refine Zm ?_); refine JD ?_) | refine JT ?_ | refine JF ?_ | refine X5 ?_ | refine X3 ?_
    exact ⟨0 + 1, ⟨by omega, fun _ => by rw [hcx]; exact hh, hnx⟩, by omega, Xc rfl ⟨JL, JL, trivial⟩ trivial⟩
   ·have hlx : Yv x = false := UR (by omega)
    rw [X1h hx hlx]
    repeat first | refine X0 ?_ | (refine JR ?_; (repeat first | refine Z1 ?_ | refine Z0 ?_ | refine Zc ?_ | refine Z8 ?_ | refine Zj ?_ | refine Z2 ?_ | refine Zu ?_ | refine Zr ?_ | refine Zk ?_ | refine Zn ?_ | refine Zq ?_ | refine Zl ?_ | refine Zm ?_); refine JD ?_) | refine JT ?_ | refine X5 ?_ | refine X3 ?_
    exact X1 ⟨_, St.le_refl _, ⟨rfl, trivial⟩, X2 _⟩
  have hlx : Yv x = false := UR (by omega)
  rw [X1h hx hlx]
  repeat first | refine X0 ?_ | (refine JR ?_; (repeat first | refine Z1 ?_ | refine Z0 ?_ | refine Zc ?_ | refine Z8 ?_ | refine Z2 ?_ | refine Zu ?_ | refine Zr ?_ | refine Zk ?_ | refine Zn ?_ | refine Zq ?_ | refine Zl ?_ | refine Zm ?_); refine JD ?_) | refine JT ?_ | refine X5 ?_ | refine X3 ?_
  exact X1 ⟨_, St.le_refl _, ⟨rfl, trivial⟩, X2 _⟩
 replace hh := hh (by omega)
 have hi0' : ¬ (i : Int) = 0 := by omega
 clear hc
 by_cases a1 : 97 ≤ x.toNat
 ·by_cases a2 : x.toNat ≤ 122
  ·have hlx : Yv x = true := VH (by omega)
   have hnx := UN hx (show XJ x = true by unfold XJ; rw [hlx]; rfl) hall
   repeat first | refine X0 ?_ | (refine JR ?_; (repeat first | refine Z1 ?_ | refine Z0 ?_ | refine Zc ?_ | refine Z8 ?_ | refine Zj ?_ | refine Z2 ?_ | refine Zb ?_ | refine Zr ?_ | refine Zk ?_ | refine Zn ?_ | refine Zq ?_ | refine Zl ?_ | refine Zm ?_); refine JD ?_) | refine JT ?_ | refine JF ?_ | refine X5 ?_ | refine X3 ?_
   exact ⟨i + 1, ⟨by omega, fun _ => hh, hnx⟩, by omega, Xc rfl ⟨JL, JL, trivial⟩ trivial⟩
  ·have hlx : Yv x = false := UR (by omega)
   have a3 : 65 ≤ x.toNat := by omega
   have a4 : ¬ x.toNat ≤ 90 := by omega
   ·rw [VI hx (show XJ x = false by unfold XJ; rw [hlx, decide_eq_false (by omega)]; rfl)]
    repeat first | refine X0 ?_ | (refine JR ?_; (repeat first | refine Z1 ?_ | refine Z0 ?_ | refine Zc ?_ | refine Z8 ?_ | refine Zj ?_ | refine Zp ?_ | refine Z2 ?_ | refine Zu ?_ | refine Zs ?_ | refine Zr ?_ | refine Zk ?_ | refine Zn ?_ | refine Zq ?_); refine JD ?_) | refine JT ?_ | refine X5 ?_ | refine X3 ?_
    exact X1 ⟨_, St.le_refl _, ⟨rfl, trivial⟩, X2 _⟩
 by_cases a3 : 65 ≤ x.toNat
 ·by_cases a4 : x.toNat ≤ 90
  ·have hlx : Yv x = true := VH (by omega)
   have hnx := UN hx (show XJ x = true by unfold XJ; rw [hlx]; rfl) hall
   repeat first | refine X0 ?_ | (refine JR ?_; (repeat first | refine Z1 ?_ | refine Z0 ?_ | refine Zc ?_ | refine Z8 ?_ | refine Zj ?_ | refine Z2 ?_ | refine Zb ?_ | refine Zr ?_ | refine Zk ?_ | refine Zn ?_ | refine Zq ?_ | refine Zl ?_ | refine Zm ?_); refine JD ?_) | refine JT ?_ | refine JF ?_ | refine X5 ?_ | refine X3 ?_
   exact ⟨i + 1, ⟨by omega, fun _ => hh, hnx⟩, by omega, Xc rfl ⟨JL, JL, trivial⟩ trivial⟩
  ·have hlx : Yv x = false := UR (by omega)
   by_cases g3 : x.toNat = 95
   ·have hnx := UN hx (show XJ x = true by unfold XJ; rw [decide_eq_true (by omega)]; simp) hall
    repeat first | refine X0 ?_ | (refine JR ?_; (repeat first | refine Z1 ?_ | refine Z0 ?_ | refine Zc ?_ | refine Z8 ?_ | refine Zj ?_ | refine Z2 ?_ | refine Zu ?_ | refine Zs ?_ | refine Zb ?_ | refine Zr ?_ | refine Zk ?_ | refine Zn ?_ | refine Zq ?_ | refine Zl ?_ | refine Zm ?_); refine JD ?_) | refine JT ?_ | refine JF ?_ | refine X5 ?_ | refine X3 ?_
    exact ⟨i + 1, ⟨by omega, fun _ => hh, hnx⟩, by omega, Xc rfl ⟨JL, JL, trivial⟩ trivial⟩
   ·rw [VI hx (show XJ x = false by unfold XJ; rw [hlx, decide_eq_false (by omega)]; rfl)]
    repeat first | refine X0 ?_ | (refine JR ?_; (repeat first | refine Z1 ?_ | refine Z0 ?_ | refine Zc ?_ | refine Z8 ?_ | refine Zj ?_ | refine Zp ?_ | refine Z2 ?_ | refine Zu ?_ | refine Zs ?_ | refine Zr ?_ | refine Zk ?_ | refine Zn ?_ | refine Zq ?_ | refine Zl ?_); refine JD ?_) | refine JT ?_ | refine X5 ?_ | refine X3 ?_
    exact X1 ⟨_, St.le_refl _, ⟨rfl, trivial⟩, X2 _⟩
 have hlx : Yv x = false := UR (by omega)
 by_cases g1 : 48 ≤ x.toNat
 ·by_cases g2 : x.toNat ≤ 57
  ·have hnx := UN hx (show XJ x = true by unfold XJ; rw [decide_eq_true (by omega)]; simp) hall
   repeat first | refine X0 ?_ | (refine JR ?_; (repeat first | refine Z1 ?_ | refine Z0 ?_ | refine Zc ?_ | refine Z8 ?_ | refine Zp ?_ | refine Z2 ?_ | refine Zu ?_ | refine Zs ?_ | refine Zb ?_ | refine Zr ?_ | refine Zk ?_ | refine Zn ?_ | refine Zq ?_ | refine Zl ?_); refine JD ?_) | refine JT ?_ | refine JF ?_ | refine X5 ?_ | refine X3 ?_
   exact ⟨i + 1, ⟨by omega, fun _ => hh, hnx⟩, by omega, Xc rfl ⟨JL, JL, trivial⟩ trivial⟩
  ·rw [VI hx (show XJ x = false by unfold XJ; rw [hlx, decide_eq_false (by omega)]; rfl)]
   repeat first | refine X0 ?_ | (refine JR ?_; (repeat first | refine Z1 ?_ | refine Z0 ?_ | refine Zc ?_ | refine Z8 ?_ | refine Zp ?_ | refine Z2 ?_ | refine Zu ?_ | refine Zs ?_ | refine Zr ?_ | refine Zk ?_ | refine Zn ?_ | refine Zq ?_ | refine Zl ?_); refine JD ?_) | refine JT ?_ | refine X5 ?_ | refine X3 ?_
   exact X1 ⟨_, St.le_refl _, ⟨rfl, trivial⟩, X2 _⟩
 ·rw [VI hx (show XJ x = false by unfold XJ; rw [hlx, decide_eq_false (by omega)]; rfl)]
  repeat first | refine X0 ?_ | (refine JR ?_; (repeat first | refine Z1 ?_ | refine Z0 ?_ | refine Zc ?_ | refine Z8 ?_ | refine Z2 ?_ | refine Zu ?_ | refine Zs ?_ | refine Zr ?_ | refine Zk ?_ | refine Zn ?_ | refine Zq ?_ | refine Zl ?_); refine JD ?_) | refine JT ?_ | refine X5 ?_ | refine X3 ?_
  exact X1 ⟨_, St.le_refl _, ⟨rfl, trivial⟩, X2 _⟩
end Go.Fw

/- The check of a rule: the reference's. -/
import Derived.Test.YtbhleedlnaakkaaGreatK14
set_option maxHeartbeats 32000000
namespace Go.Fw
open Go Go.Proofs
set_option maxRecDepth 100000
set_option linter.unusedVariables false
set_option linter.unusedSimpArgs false
theorem X8O (n : Int) : Con Tryz.prog 85 [] [ai n] [] (ab (YV n)) := by
 refine Xa (xs := [ab (YV n)]) Tryz.func85 rfl Tryz.ntmps85 rfl rfl rfl (fun E => ?_)
 by_cases h1 : 1 ≤ n
 ·by_cases h2 : n ≤ 5
  ·rw [show YV n = true by unfold YV; exact decide_eq_true ⟨h1, h2⟩]
   refine X0 ?_; refine JR ?_; refine Z0 ?_; refine JD ?_; refine X0 ?_; refine JR ?_; refine Z1 ?_; refine Z2 ?_; refine Z1 ?_; refine Z1 ?_; refine Zm ?_; refine Zn ?_; refine Z0 ?_; refine JD ?_
   first | exact X1 ⟨_, St.le_refl _, ⟨rfl, trivial⟩, X2 _⟩ | exact X1 ⟨_, Xi 2 (y := ab true) (AVal.le_of_eq (by refine Eq.trans (b := ab (decide _)) rfl ?_; exact congrArg ab (by simp; omega))), ⟨rfl, trivial⟩, X2 _⟩ | fail
  ·rw [show YV n = false by unfold YV; exact decide_eq_false (by omega)]
   refine X0 ?_; refine JR ?_; refine Z0 ?_; refine JD ?_; refine X0 ?_; refine JR ?_; refine Z1 ?_; refine Z2 ?_; refine Z1 ?_; refine Z1 ?_; refine Zm ?_; refine Zn ?_; refine Z0 ?_; refine JD ?_
   first | exact X1 ⟨_, St.le_refl _, ⟨rfl, trivial⟩, X2 _⟩ | exact X1 ⟨_, Xi 2 (y := ab false) (AVal.le_of_eq (by refine Eq.trans (b := ab (decide _)) rfl ?_; exact congrArg ab (by simp; omega))), ⟨rfl, trivial⟩, X2 _⟩ | fail
 ·rw [show YV n = false by unfold YV; exact decide_eq_false (by omega)]
  refine X0 ?_; refine JR ?_; refine Z0 ?_; refine JD ?_; refine X0 ?_; refine JR ?_; refine Z1 ?_; refine Z2 ?_; refine Z1 ?_; refine Zo ?_; refine Zo ?_; refine Zq ?_; refine Z0 ?_; refine JD ?_
  first | exact X1 ⟨_, St.le_refl _, ⟨rfl, trivial⟩, X2 _⟩ | exact X1 ⟨_, Xi 2 (y := ab false) (AVal.le_of_eq (by refine Eq.trans (b := ab (decide _)) rfl ?_; exact congrArg ab (by simp; omega))), ⟨rfl, trivial⟩, X2 _⟩ | fail
theorem X87 (k n : Int) (name key src dst : List UInt8) : Con Tryz.prog 84 [] [X6e k n name key src dst] [] (ab (U9 k n)) := by
 refine Xa (xs := [ab (U9 k n)]) Tryz.func84 rfl Tryz.ntmps84 rfl rfl rfl (fun E => ?_)
 by_cases k3 : k = 3
 ·subst k3
  rw [show U9 3 n = decide (n = 1 ∨ n = 2 ∨ n = 4) from rfl]
  by_cases n1 : n = 1
  ·subst n1
   repeat first | refine X0 ?_ | (refine JR ?_; (repeat first | refine Z1 ?_ | refine Z0 ?_ | refine ZB ?_ | refine ZC ?_ | refine Zl ?_ | refine ZA (γ := 100) ?_ | refine Zn ?_ | refine Zo ?_); refine JD ?_) | refine JT ?_
   first | exact X1 ⟨_, St.le_refl _, ⟨rfl, trivial⟩, X2 _⟩ | exact X1 ⟨_, Xi 2 (y := ab true) (AVal.le_of_eq (by refine Eq.trans (b := ab (decide _)) rfl ?_; exact congrArg ab (by simp; omega))), ⟨rfl, trivial⟩, X2 _⟩ | fail
  by_cases n2 : n = 2
  ·subst n2
   repeat first | refine X0 ?_ | (refine JR ?_; (repeat first | refine Z1 ?_ | refine Z0 ?_ | refine ZB ?_ | refine ZC ?_ | refine Zl ?_ | refine ZA (γ := 100) ?_ | refine Zn ?_ | refine Zq ?_ | refine Zo ?_); refine JD ?_) | refine JT ?_
   first | exact X1 ⟨_, St.le_refl _, ⟨rfl, trivial⟩, X2 _⟩ | exact X1 ⟨_, Xi 2 (y := ab true) (AVal.le_of_eq (by refine Eq.trans (b := ab (decide _)) rfl ?_; exact congrArg ab (by simp; omega))), ⟨rfl, trivial⟩, X2 _⟩ | fail
  by_cases n4 : n = 4
  ·subst n4
   repeat first | refine X0 ?_ | (refine JR ?_; (repeat first | refine Z1 ?_ | refine Z0 ?_ | refine ZB ?_ | refine ZC ?_ | refine Zl ?_ | refine ZA (γ := 100) ?_ | refine Zn ?_ | refine Zq ?_ | refine Zo ?_); refine JD ?_) | refine JT ?_
   first | exact X1 ⟨_, St.le_refl _, ⟨rfl, trivial⟩, X2 _⟩ | exact X1 ⟨_, Xi 2 (y := ab true) (AVal.le_of_eq (by refine Eq.trans (b := ab (decide _)) rfl ?_; exact congrArg ab (by simp; omega))), ⟨rfl, trivial⟩, X2 _⟩ | fail
  rw [decide_eq_false (show ¬ (n = 1 ∨ n = 2 ∨ n = 4) by omega)]
  repeat first | refine X0 ?_ | (refine JR ?_; (repeat first | refine Z1 ?_ | refine Z0 ?_ | refine ZB ?_ | refine ZC ?_ | refine Zl ?_ | refine ZA (γ := 100) ?_ | refine Zn ?_ | refine Zq ?_ | refine Zo ?_); refine JD ?_) | refine JT ?_
  first | exact X1 ⟨_, St.le_refl _, ⟨rfl, trivial⟩, X2 _⟩ | exact X1 ⟨_, Xi 2 (y := ab false) (AVal.le_of_eq (by refine Eq.trans (b := ab (decide _)) rfl ?_; exact congrArg ab (by simp; omega))), ⟨rfl, trivial⟩, X2 _⟩ | fail
 by_cases k5 : k = 5
 ·subst k5
  rw [show U9 5 n = decide (n = 1 ∨ n = 2 ∨ n = 4) from rfl]
  by_cases n1 : n = 1
  ·subst n1
   repeat first | refine X0 ?_ | (refine JR ?_; (repeat first | refine Z1 ?_ | refine Z0 ?_ | refine ZB ?_ | refine ZC ?_ | refine Zl ?_ | refine ZA (γ := 100) ?_ | refine Zn ?_ | refine Zq ?_ | refine Zo ?_); refine JD ?_) | refine JT ?_
   first | exact X1 ⟨_, St.le_refl _, ⟨rfl, trivial⟩, X2 _⟩ | exact X1 ⟨_, Xi 2 (y := ab true) (AVal.le_of_eq (by refine Eq.trans (b := ab (decide _)) rfl ?_; exact congrArg ab (by simp; omega))), ⟨rfl, trivial⟩, X2 _⟩ | fail
  by_cases n2 : n = 2
  ·subst n2
   repeat first | refine X0 ?_ | (refine JR ?_; (repeat first | refine Z1 ?_ | refine Z0 ?_ | refine ZB ?_ | refine ZC ?_ | refine Zl ?_ | refine ZA (γ := 100) ?_ | refine Zn ?_ | refine Zq ?_ | refine Zo ?_); refine JD ?_) | refine JT ?_
   first | exact X1 ⟨_, St.le_refl _, ⟨rfl, trivial⟩, X2 _⟩ | exact X1 ⟨_, Xi 2 (y := ab true) (AVal.le_of_eq (by refine Eq.trans (b := ab (decide _)) rfl ?_; exact congrArg ab (by simp; omega))), ⟨rfl, trivial⟩, X2 _⟩ | fail
  by_cases n4 : n = 4
  ·subst n4
   repeat first | refine X0 ?_ | (refine JR ?_; (repeat first | refine Z1 ?_ | refine Z0 ?_ | refine ZB ?_ | refine ZC ?_ | refine Zl ?_ | refine ZA (γ := 100) ?_ | refine Zq ?_); refine JD ?_) | refine JT ?_
   first | exact X1 ⟨_, St.le_refl _, ⟨rfl, trivial⟩, X2 _⟩ | exact X1 ⟨_, Xi 2 (y := ab true) (AVal.le_of_eq (by refine Eq.trans (b := ab (decide _)) rfl ?_; exact congrArg ab (by simp; omega))), ⟨rfl, trivial⟩, X2 _⟩ | fail
  rw [decide_eq_false (show ¬ (n = 1 ∨ n = 2 ∨ n = 4) by omega)]
  repeat first | refine X0 ?_ | (refine JR ?_; (repeat first | refine Z1 ?_ | refine Z0 ?_ | refine ZB ?_ | refine ZC ?_ | refine Zl ?_ | refine ZA (γ := 100) ?_ | refine Zq ?_); refine JD ?_) | refine JT ?_
  first | exact X1 ⟨_, St.le_refl _, ⟨rfl, trivial⟩, X2 _⟩ | exact X1 ⟨_, Xi 2 (y := ab false) (AVal.le_of_eq (by refine Eq.trans (b := ab (decide _)) rfl ?_; exact congrArg ab (by simp; omega))), ⟨rfl, trivial⟩, X2 _⟩ | fail
 by_cases k7 : k = 7
 ·subst k7
  rw [show U9 7 n = decide (0 ≤ n ∧ n ≤ 4000) from rfl]
  by_cases h1 : 0 ≤ n
  ·by_cases h2 : n ≤ 4000
   ·rw [decide_eq_true (show 0 ≤ n ∧ n ≤ 4000 by omega)]
    repeat first | refine X0 ?_ | (refine JR ?_; (repeat first | refine Z1 ?_ | refine Z0 ?_ | refine ZB ?_ | refine ZC ?_ | refine Zm ?_ | refine Z2 ?_ | refine Zl ?_ | refine ZA (γ := 100) ?_ | refine Zn ?_ | refine Zq ?_); refine JD ?_) | refine JT ?_ | refine JF ?_ | refine X3 ?_
    first | exact X1 ⟨_, St.le_refl _, ⟨rfl, trivial⟩, X2 _⟩ | exact X1 ⟨_, Xi 2 (y := ab true) (AVal.le_of_eq (by refine Eq.trans (b := ab (decide _)) rfl ?_; exact congrArg ab (by simp; omega))), ⟨rfl, trivial⟩, X2 _⟩ | fail
   ·rw [decide_eq_false (show ¬ (0 ≤ n ∧ n ≤ 4000) by omega)]
    repeat first | refine X0 ?_ | (refine JR ?_; (repeat first | refine Z1 ?_ | refine Z0 ?_ | refine ZB ?_ | refine ZC ?_ | refine Zm ?_ | refine Z2 ?_ | refine Zl ?_ | refine ZA (γ := 100) ?_ | refine Zn ?_ | refine Zq ?_); refine JD ?_) | refine JT ?_ | refine JF ?_ | refine X3 ?_
    first | exact X1 ⟨_, St.le_refl _, ⟨rfl, trivial⟩, X2 _⟩ | exact X1 ⟨_, Xi 2 (y := ab false) (AVal.le_of_eq (by refine Eq.trans (b := ab (decide _)) rfl ?_; exact congrArg ab (by simp; omega))), ⟨rfl, trivial⟩, X2 _⟩ | fail
  ·rw [decide_eq_false (show ¬ (0 ≤ n ∧ n ≤ 4000) by omega)]
   repeat first | refine X0 ?_ | (refine JR ?_; (repeat first | refine Z1 ?_ | refine Z0 ?_ | refine ZB ?_ | refine ZC ?_ | refine Z2 ?_ | refine Zl ?_ | refine ZA (γ := 100) ?_ | refine Zq ?_ | refine Zo ?_); refine JD ?_) | refine JT ?_ | refine JF ?_ | refine X3 ?_
   first | exact X1 ⟨_, St.le_refl _, ⟨rfl, trivial⟩, X2 _⟩ | exact X1 ⟨_, Xi 2 (y := ab false) (AVal.le_of_eq (by refine Eq.trans (b := ab (decide _)) rfl ?_; exact congrArg ab (by simp; omega))), ⟨rfl, trivial⟩, X2 _⟩ | fail
 rw [show U9 k n = decide (n = 0) by unfold U9; rw [if_neg (by omega), if_neg k7]]
 repeat first | refine X0 ?_ | (refine JR ?_; (repeat first | refine Z1 ?_ | refine Z0 ?_ | refine ZB ?_ | refine ZC ?_ | refine Zl ?_ | refine ZA (γ := 100) ?_ | refine Zq ?_); refine JD ?_) | refine JF ?_ | refine X3 ?_
 first | exact X1 ⟨_, St.le_refl _, ⟨rfl, trivial⟩, X2 _⟩ | exact X1 ⟨_, Xi 2 (y := ab (decide (n = 0))) (AVal.le_of_eq rfl), ⟨rfl, trivial⟩, X2 _⟩ | fail
theorem X5n (r : Rul) : Con Tryz.prog 32 [] [Xv r] [] (ai (Yr r)) := by
 rw [X1R]
 obtain ⟨k, n, name, key, src, dst⟩ := r
 simp only [Xv]
 have hn := X1F name
 have hk := X1F key
 have hs := X1F src
 have hd := X1F dst
 have ht := X87 k n name key src dst
 have hf := X8O k
 generalize Xl name = vn at *
 generalize Xl key = vk at *
 generalize Xl src = vs at *
 generalize Xl dst = vd at *
 refine Xa (xs := [ai (Ve k (U9 k n) key src dst vn vk vs vd)]) Tryz.func32 rfl Tryz.ntmps32 rfl rfl rfl (fun E => ?_)
 generalize U9 k n = nb at *
 generalize hkd : YV k = kd at *
 have hkd1 : 1 ≤ k → k ≤ 5 → kd = true := fun h1 h2 => by rw [← hkd]; exact decide_eq_true (by omega)
 have hkd2 : 5 < k → kd = false := fun h1 => by rw [← hkd]; exact decide_eq_false (by omega)
 obtain ⟨r, hr⟩ : ∃ r, r = Ve k nb key src dst vn vk vs vd := ⟨_, rfl⟩
 rw [← hr]
 unfold Ve at hr
 rw [hkd] at hr
 by_cases hkk : 1 ≤ k ∧ k ≤ 7
 case neg =>
  rw [decide_eq_false hkk, if_pos (.inl rfl)] at hr
  subst hr
  clear hkd hkd1 hkd2
  refine X0 ?_; refine JR ?_; refine ZA (γ := 100) ?_; refine Z0 ?_; refine JD ?_; refine X0 ?_; refine X0 ?_; refine JR ?_; refine ZB ?_; refine ZC ?_; refine Z8 ?_; refine Z1 ?_
  refine XM rfl rfl (fun hq => ?_) (fun hq => ?_); refine Zo ?_; refine Zo ?_; refine Zo ?_; refine Zn ?_; refine Z1 ?_; refine Zo ?_; refine Zo ?_; refine Zo ?_; refine Zn ?_; refine JD ?_; refine JT ?_
  refine X0 ?_; refine JR ?_; refine Z0 ?_; refine JD ?_; exact X1 ⟨_, St.le_refl _, ⟨rfl, trivial⟩, X2 _⟩; refine ZB ?_; refine ZC ?_; refine Zs ?_; refine Zq ?_; refine Z1 ?_; refine Zo ?_; refine Zo ?_
  refine Zo ?_; refine Zn ?_; refine JD ?_; refine JT ?_; refine X0 ?_; refine JR ?_; refine Z0 ?_; refine JD ?_; exact X1 ⟨_, St.le_refl _, ⟨rfl, trivial⟩, X2 _⟩
 rw [decide_eq_true hkk] at hr
 clear hkd hkd1 hkd2
 refine X0 ?_; refine JR ?_; refine ZA (γ := 100) ?_; refine Z0 ?_; refine JD ?_; refine X0 ?_; refine X0 ?_; refine JR ?_; refine ZB ?_; refine ZC ?_; refine Z8 ?_; refine Z1 ?_; refine ZB ?_; refine ZC ?_
 refine Zs ?_; refine Zq ?_; refine Z1 ?_; refine ZL ?_; refine Z9 (hcon := ht) ?_; refine Zu ?_; refine Zq ?_; refine JD ?_; refine XN rfl (fun hq => ?_) (fun hq => ?_); refine X0 ?_; refine JR ?_
 refine Z0 ?_; refine JD ?_; (clear hf ht hn hk hs hd; simp [*] at hr; subst hr; exact X1 ⟨_, St.le_refl _, ⟨rfl, trivial⟩, X2 _⟩); refine X3 ?_; refine X0 ?_; refine X0 ?_; refine JR ?_
 refine ZB ?_; refine ZC ?_; refine Z9 (hcon := hf) ?_; refine Zu ?_; refine Z1 ?_; refine U3 rfl rfl (fun hq => ?_) (fun hq => ?_); refine Zo ?_; refine Zo ?_; refine Zo ?_; refine Zq ?_; refine Z1 ?_
 refine ZB ?_; refine ZC ?_; refine Zv ?_; refine Z1 ?_; refine XM rfl rfl (fun hq => ?_) (fun hq => ?_); refine ZB ?_; refine ZC ?_; refine ZM ?_; refine Z1 ?_; refine XM rfl rfl (fun hq => ?_) (fun hq => ?_)
 refine Zo ?_; refine Zo ?_; refine Zo ?_; refine Zn ?_; refine Zn ?_; refine Zq ?_; refine JD ?_; refine JT ?_; refine X0 ?_; refine JR ?_; refine Z0 ?_; refine JD ?_
 (clear hf ht hn hk hs hd; simp [*] at hr; subst hr; exact X1 ⟨_, St.le_refl _, ⟨rfl, trivial⟩, X2 _⟩); refine ZB ?_; refine ZC ?_; refine ZM ?_; refine Zq ?_; refine Zn ?_; refine Zq ?_; refine JD ?_
 refine Vm rfl (fun hq => ?_) (fun hq => ?_); refine X0 ?_; refine JR ?_; refine Z0 ?_; refine JD ?_
 (clear hf ht hn hk hs hd; simp [*] at hr; subst hr; exact X1 ⟨_, St.le_refl _, ⟨rfl, trivial⟩, X2 _⟩); refine X3 ?_; refine X0 ?_; refine X0 ?_; refine JR ?_; refine ZB ?_; refine ZC ?_
 refine Z9 (hcon := hn) ?_; refine Zu ?_; refine Z1 ?_; refine U3 rfl rfl (fun hq => ?_) (fun hq => ?_); refine ZB ?_; refine ZC ?_; refine Z9 (hcon := hf) ?_; refine Z1 ?_; refine ZB ?_; refine ZC ?_
 refine Z9 (hcon := hk) ?_; refine Zu ?_; refine Zn ?_; refine Zq ?_; refine Z1 ?_; refine U3 rfl rfl (fun hq => ?_) (fun hq => ?_); refine ZB ?_; refine ZC ?_; refine ZM ?_; refine Z1 ?_; refine Zo ?_
 refine Zo ?_; refine Zo ?_; refine Zo ?_; refine Zq ?_; refine Zq ?_; refine Z1 ?_; refine ZB ?_; refine ZC ?_; refine ZM ?_; refine Z1 ?_; refine Zo ?_; refine Zo ?_; refine Zo ?_; refine Zo ?_; refine Zq ?_
 refine Zq ?_; refine JD ?_; refine JF ?_; refine X3 ?_; refine X0 ?_; refine JR ?_; refine Z0 ?_; refine JD ?_
 (clear hf ht hn hk hs hd; simp [*] at hr; subst hr; exact X1 ⟨_, St.le_refl _, ⟨rfl, trivial⟩, X2 _⟩); refine Zo ?_; refine Zo ?_; refine Zo ?_; refine Zo ?_; refine Zp ?_; refine Zp ?_; refine Zp ?_
 refine Zp ?_; refine Zo ?_; refine Zn ?_; refine Z1 ?_; refine Zo ?_; refine Zo ?_; refine Zo ?_; refine Zo ?_; refine Zp ?_; refine Zp ?_; refine Zp ?_; refine Zp ?_; refine Zo ?_; refine Zn ?_; refine JD ?_
 refine JT ?_; refine X0 ?_; refine JR ?_; refine Z0 ?_; refine JD ?_; (clear hf ht hn hk hs hd; simp [*] at hr; subst hr; exact X1 ⟨_, St.le_refl _, ⟨rfl, trivial⟩, X2 _⟩); refine Zo ?_; refine Zo ?_
 refine Zo ?_; refine Zo ?_; refine Zp ?_; refine Zp ?_; refine Zp ?_; refine Zp ?_; refine Zo ?_; refine Zn ?_; refine Z1 ?_; refine Zo ?_; refine Zo ?_; refine Zo ?_; refine Zo ?_; refine Zp ?_; refine Zp ?_
 refine Zp ?_; refine Zp ?_; refine Zo ?_; refine Zn ?_; refine Z1 ?_; refine Zo ?_; refine Zo ?_; refine Zo ?_; refine Zo ?_; refine Zp ?_; refine Zp ?_; refine Zp ?_; refine Zp ?_; refine Zo ?_; refine Zn ?_
 refine JD ?_; refine JT ?_; refine X0 ?_; refine JR ?_; refine Z0 ?_; refine JD ?_; (clear hf ht hn hk hs hd; simp [*] at hr; subst hr; exact X1 ⟨_, St.le_refl _, ⟨rfl, trivial⟩, X2 _⟩); refine Zo ?_
 refine Zo ?_; refine Zo ?_; refine Zo ?_; refine Zp ?_; refine Zp ?_; refine Zp ?_; refine Zo ?_; refine Zq ?_; refine Zq ?_; refine JD ?_; refine JF ?_; refine X3 ?_; refine X0 ?_; refine X0 ?_
 refine JR ?_; refine ZB ?_; refine ZC ?_; refine Z9 (hcon := hn) ?_; refine Zu ?_; refine Z1 ?_; refine U3 rfl rfl (fun hq => ?_) (fun hq => ?_); refine ZB ?_; refine ZC ?_; refine Z9 (hcon := hf) ?_
 refine Z1 ?_; refine ZB ?_; refine ZC ?_; refine Z9 (hcon := hk) ?_; refine Zu ?_; refine Zn ?_; refine Zq ?_; refine Z1 ?_; refine U3 rfl rfl (fun hq => ?_) (fun hq => ?_); refine ZB ?_; refine ZC ?_
 refine ZM ?_; refine Z1 ?_; refine XM rfl rfl (fun hq => ?_) (fun hq => ?_); refine ZB ?_; refine ZC ?_; refine Z9 (hcon := hs) ?_; refine Zu ?_; refine Zn ?_; refine Zq ?_; refine Z1 ?_
 refine U3 rfl rfl (fun hq => ?_) (fun hq => ?_); refine ZB ?_; refine ZC ?_; refine ZM ?_; refine Z1 ?_; refine XM rfl rfl (fun hq => ?_) (fun hq => ?_); refine ZB ?_; refine ZC ?_; refine Z9 (hcon := hd) ?_
 refine Zu ?_; refine Zn ?_; refine Zq ?_; refine JD ?_; refine XN rfl (fun hq => ?_) (fun hq => ?_); refine X0 ?_; refine JR ?_; refine Z0 ?_; refine JD ?_
 (clear hf ht hn hk hs hd; simp [*] at hr; subst hr; exact X1 ⟨_, St.le_refl _, ⟨rfl, trivial⟩, X2 _⟩); refine X3 ?_; refine X0 ?_; refine JR ?_; refine Z0 ?_; refine JD ?_
 (clear hf ht hn hk hs hd; simp [*] at hr; subst hr; exact X1 ⟨_, St.le_refl _, ⟨rfl, trivial⟩, X2 _⟩); refine Zo ?_; refine Zo ?_; refine Zo ?_; refine Zo ?_; refine Zq ?_; refine Zq ?_; refine JD ?_
 refine JF ?_; refine X3 ?_; refine X0 ?_; refine JR ?_; refine Z0 ?_; refine JD ?_; (clear hf ht hn hk hs hd; simp [*] at hr; subst hr; exact X1 ⟨_, St.le_refl _, ⟨rfl, trivial⟩, X2 _⟩)
 refine Zo ?_; refine Zo ?_; refine Zo ?_; refine Zo ?_; refine Zp ?_; refine Zp ?_; refine Zp ?_; refine Zp ?_; refine Zo ?_; refine Zn ?_; refine JD ?_; refine JT ?_; refine X0 ?_; refine JR ?_; refine Z0 ?_
 refine JD ?_; (clear hf ht hn hk hs hd; simp [*] at hr; subst hr; exact X1 ⟨_, St.le_refl _, ⟨rfl, trivial⟩, X2 _⟩); refine Zo ?_; refine Zo ?_; refine Zo ?_; refine Zo ?_; refine Zq ?_; refine Zq ?_
 refine Z1 ?_; refine ZB ?_; refine ZC ?_; refine ZM ?_; refine Z1 ?_; refine XM rfl rfl (fun hq => ?_) (fun hq => ?_); refine ZB ?_; refine ZC ?_; refine Z9 (hcon := hd) ?_; refine Zu ?_; refine Zn ?_; refine Zq ?_
 refine JD ?_; refine XN rfl (fun hq => ?_) (fun hq => ?_); refine X0 ?_; refine JR ?_; refine Z0 ?_; refine JD ?_
 (clear hf ht hn hk hs hd; simp [*] at hr; subst hr; exact X1 ⟨_, St.le_refl _, ⟨rfl, trivial⟩, X2 _⟩); refine X3 ?_; refine X0 ?_; refine JR ?_; refine Z0 ?_; refine JD ?_
 (clear hf ht hn hk hs hd; simp [*] at hr; subst hr; exact X1 ⟨_, St.le_refl _, ⟨rfl, trivial⟩, X2 _⟩); refine Zo ?_; refine Zo ?_; refine Zo ?_; refine Zo ?_; refine Zq ?_; refine Zq ?_; refine JD ?_
 refine JF ?_; refine X3 ?_; refine X0 ?_; refine JR ?_; refine Z0 ?_; refine JD ?_; (clear hf ht hn hk hs hd; simp [*] at hr; subst hr; exact X1 ⟨_, St.le_refl _, ⟨rfl, trivial⟩, X2 _⟩)
 refine Zo ?_; refine Zo ?_; refine Zo ?_; refine Zo ?_; refine Zp ?_; refine Zp ?_; refine Zp ?_; refine Zp ?_; refine Zo ?_; refine Zn ?_; refine Z1 ?_; refine Zo ?_; refine Zo ?_; refine Zo ?_; refine Zo ?_
 refine Zp ?_; refine Zp ?_; refine Zp ?_; refine Zp ?_; refine Zo ?_; refine Zn ?_; refine JD ?_; refine JT ?_; refine X0 ?_; refine JR ?_; refine Z0 ?_; refine JD ?_
 (clear hf ht hn hk hs hd; simp [*] at hr; subst hr; exact X1 ⟨_, St.le_refl _, ⟨rfl, trivial⟩, X2 _⟩); refine Zo ?_; refine Zo ?_; refine Zo ?_; refine Zo ?_; refine Zp ?_; refine Zp ?_; refine Zp ?_
 refine Zp ?_; refine Zo ?_; refine Zn ?_; refine Z1 ?_; refine Zo ?_; refine Zo ?_; refine Zo ?_; refine Zo ?_; refine Zp ?_; refine Zp ?_; refine Zp ?_; refine Zp ?_; refine Zo ?_; refine Zn ?_; refine Z1 ?_
 refine Zo ?_; refine Zo ?_; refine Zo ?_; refine Zo ?_; refine Zp ?_; refine Zp ?_; refine Zp ?_; refine Zp ?_; refine Zo ?_; refine Zn ?_; refine JD ?_; refine JT ?_; refine X0 ?_; refine JR ?_; refine Z0 ?_
 refine JD ?_; (clear hf ht hn hk hs hd; simp [*] at hr; subst hr; exact X1 ⟨_, St.le_refl _, ⟨rfl, trivial⟩, X2 _⟩); refine ZB ?_; refine ZC ?_; refine ZM ?_; refine Zn ?_; refine Z1 ?_
 refine XM rfl rfl (fun hq => ?_) (fun hq => ?_); refine Zo ?_; refine Zo ?_; refine Zo ?_; refine Zo ?_; refine Zp ?_; refine Zp ?_; refine Zp ?_; refine Zp ?_; refine Zp ?_; refine Zp ?_; refine Zp ?_; refine Zp ?_
 refine Zo ?_; refine Zn ?_; refine JD ?_; refine JT ?_; refine X0 ?_; refine JR ?_; refine Z0 ?_; refine JD ?_
 (clear hf ht hn hk hs hd; simp [*] at hr; subst hr; exact X1 ⟨_, St.le_refl _, ⟨rfl, trivial⟩, X2 _⟩); refine ZB ?_; refine ZC ?_; refine Zv ?_; refine Z1 ?_
 refine XM rfl rfl (fun hq => ?_) (fun hq => ?_); refine ZB ?_; refine ZC ?_; refine ZM ?_; refine Z1 ?_; refine XM rfl rfl (fun hq => ?_) (fun hq => ?_); refine Zo ?_; refine Zo ?_; refine Zo ?_; refine Zn ?_
 refine Zn ?_; refine Zq ?_; refine JD ?_; refine JT ?_; refine X0 ?_; refine JR ?_; refine Z0 ?_; refine JD ?_
 (clear hf ht hn hk hs hd; simp [*] at hr; subst hr; exact X1 ⟨_, St.le_refl _, ⟨rfl, trivial⟩, X2 _⟩); refine ZB ?_; refine ZC ?_; refine ZM ?_; refine Zq ?_; refine Zn ?_; refine Zq ?_; refine JD ?_
 refine Vm rfl (fun hq => ?_) (fun hq => ?_); refine X0 ?_; refine JR ?_; refine Z0 ?_; refine JD ?_
 (clear hf ht hn hk hs hd; simp [*] at hr; subst hr; exact X1 ⟨_, St.le_refl _, ⟨rfl, trivial⟩, X2 _⟩); refine X3 ?_; refine X0 ?_; refine X0 ?_; refine JR ?_; refine ZB ?_; refine ZC ?_
 refine Z9 (hcon := hn) ?_; refine Zu ?_; refine Z1 ?_; refine U3 rfl rfl (fun hq => ?_) (fun hq => ?_); refine ZB ?_; refine ZC ?_; refine Z9 (hcon := hf) ?_; refine Z1 ?_; refine Zo ?_; refine Zo ?_
 refine Zo ?_; refine Zo ?_; refine Zq ?_; refine Zq ?_; refine Z1 ?_; refine ZB ?_; refine ZC ?_; refine ZM ?_; refine Z1 ?_; refine Zo ?_; refine Zo ?_; refine Zo ?_; refine Zo ?_; refine Zq ?_; refine Zq ?_
 refine Z1 ?_; refine ZB ?_; refine ZC ?_; refine ZM ?_; refine Z1 ?_; refine Zo ?_; refine Zo ?_; refine Zo ?_; refine Zo ?_; refine Zq ?_; refine Zq ?_; refine JD ?_; refine JF ?_; refine X3 ?_; refine X0 ?_
 refine JR ?_; refine Z0 ?_; refine JD ?_; (clear hf ht hn hk hs hd; simp [*] at hr; subst hr; exact X1 ⟨_, St.le_refl _, ⟨rfl, trivial⟩, X2 _⟩); refine Zo ?_; refine Zo ?_; refine Zo ?_; refine Zo ?_
 refine Zp ?_; refine Zp ?_; refine Zp ?_; refine Zp ?_; refine Zo ?_; refine Zn ?_; refine Z1 ?_; refine Zo ?_; refine Zo ?_; refine Zo ?_; refine Zo ?_; refine Zp ?_; refine Zp ?_; refine Zp ?_; refine Zp ?_
 refine Zo ?_; refine Zn ?_; refine Z1 ?_; refine Zo ?_; refine Zo ?_; refine Zo ?_; refine Zo ?_; refine Zp ?_; refine Zp ?_; refine Zp ?_; refine Zp ?_; refine Zo ?_; refine Zn ?_; refine JD ?_; refine JT ?_
 refine X0 ?_; refine JR ?_; refine Z0 ?_; refine JD ?_; (clear hf ht hn hk hs hd; simp [*] at hr; subst hr; exact X1 ⟨_, St.le_refl _, ⟨rfl, trivial⟩, X2 _⟩); refine Zo ?_; refine Zo ?_; refine Zo ?_
 refine Zo ?_; refine Zp ?_; refine Zp ?_; refine Zp ?_; refine Zo ?_; refine Zq ?_; refine Zq ?_; refine JD ?_; refine JF ?_; refine X3 ?_; refine X0 ?_; refine X0 ?_; refine JR ?_; refine ZB ?_
 refine ZC ?_; refine Z9 (hcon := hn) ?_; refine Zu ?_; refine Z1 ?_; refine U3 rfl rfl (fun hq => ?_) (fun hq => ?_); refine ZB ?_; refine ZC ?_; refine Z9 (hcon := hf) ?_; refine Z1 ?_; refine Zo ?_
 refine Zo ?_; refine Zo ?_; refine Zo ?_; refine Zq ?_; refine Zq ?_; refine Z1 ?_; refine ZB ?_; refine ZC ?_; refine ZM ?_; refine Z1 ?_; refine XM rfl rfl (fun hq => ?_) (fun hq => ?_); refine ZB ?_; refine ZC ?_
 refine Z9 (hcon := hs) ?_; refine Zu ?_; refine Zn ?_; refine Zq ?_; refine Z1 ?_; refine U3 rfl rfl (fun hq => ?_) (fun hq => ?_); refine ZB ?_; refine ZC ?_; refine ZM ?_; refine Z1 ?_
 refine XM rfl rfl (fun hq => ?_) (fun hq => ?_); refine ZB ?_; refine ZC ?_; refine Z9 (hcon := hd) ?_; refine Zu ?_; refine Zn ?_; refine Zq ?_; refine JD ?_; refine XN rfl (fun hq => ?_) (fun hq => ?_)
 refine X0 ?_; refine JR ?_; refine Z0 ?_; refine JD ?_; (clear hf ht hn hk hs hd; simp [*] at hr; subst hr; exact X1 ⟨_, St.le_refl _, ⟨rfl, trivial⟩, X2 _⟩); refine X3 ?_; refine X0 ?_
 refine JR ?_; refine Z0 ?_; refine JD ?_; (clear hf ht hn hk hs hd; simp [*] at hr; subst hr; exact X1 ⟨_, St.le_refl _, ⟨rfl, trivial⟩, X2 _⟩); refine Zo ?_; refine Zo ?_; refine Zo ?_; refine Zo ?_
 refine Zq ?_; refine Zq ?_; refine JD ?_; refine JF ?_; refine X3 ?_; refine X0 ?_; refine JR ?_; refine Z0 ?_; refine JD ?_
 (clear hf ht hn hk hs hd; simp [*] at hr; subst hr; exact X1 ⟨_, St.le_refl _, ⟨rfl, trivial⟩, X2 _⟩); refine Zo ?_; refine Zo ?_; refine Zo ?_; refine Zo ?_; refine Zp ?_; refine Zp ?_; refine Zp ?_
 refine Zp ?_; refine Zo ?_; refine Zn ?_; refine JD ?_; refine JT ?_; refine X0 ?_; refine JR ?_; refine Z0 ?_; refine JD ?_
 (clear hf ht hn hk hs hd; simp [*] at hr; subst hr; exact X1 ⟨_, St.le_refl _, ⟨rfl, trivial⟩, X2 _⟩); refine Zo ?_; refine Zo ?_; refine Zo ?_; refine Zo ?_; refine Zq ?_; refine Zq ?_; refine Z1 ?_
 refine ZB ?_; refine ZC ?_; refine ZM ?_; refine Z1 ?_; refine XM rfl rfl (fun hq => ?_) (fun hq => ?_); refine ZB ?_; refine ZC ?_; refine Z9 (hcon := hd) ?_; refine Zu ?_; refine Zn ?_; refine Zq ?_; refine JD ?_
 refine XN rfl (fun hq => ?_) (fun hq => ?_); refine X0 ?_; refine JR ?_; refine Z0 ?_; refine JD ?_
 (clear hf ht hn hk hs hd; simp [*] at hr; subst hr; exact X1 ⟨_, St.le_refl _, ⟨rfl, trivial⟩, X2 _⟩); refine X3 ?_; refine X0 ?_; refine JR ?_; refine Z0 ?_; refine JD ?_
 (clear hf ht hn hk hs hd; simp [*] at hr; subst hr; exact X1 ⟨_, St.le_refl _, ⟨rfl, trivial⟩, X2 _⟩); refine Zo ?_; refine Zo ?_; refine Zo ?_; refine Zo ?_; refine Zq ?_; refine Zq ?_; refine JD ?_
 refine JF ?_; refine X3 ?_; refine X0 ?_; refine JR ?_; refine Z0 ?_; refine JD ?_; (clear hf ht hn hk hs hd; simp [*] at hr; subst hr; exact X1 ⟨_, St.le_refl _, ⟨rfl, trivial⟩, X2 _⟩)
 refine Zo ?_; refine Zo ?_; refine Zo ?_; refine Zo ?_; refine Zp ?_; refine Zp ?_; refine Zp ?_; refine Zp ?_; refine Zo ?_; refine Zn ?_; refine Z1 ?_; refine Zo ?_; refine Zo ?_; refine Zo ?_; refine Zo ?_
 refine Zp ?_; refine Zp ?_; refine Zp ?_; refine Zp ?_; refine Zo ?_; refine Zn ?_; refine Z1 ?_; refine Zo ?_; refine Zo ?_; refine Zo ?_; refine Zo ?_; refine Zp ?_; refine Zp ?_; refine Zp ?_; refine Zp ?_
 refine Zo ?_; refine Zn ?_; refine JD ?_; refine JT ?_; refine X0 ?_; refine JR ?_; refine Z0 ?_; refine JD ?_
 (clear hf ht hn hk hs hd; simp [*] at hr; subst hr; exact X1 ⟨_, St.le_refl _, ⟨rfl, trivial⟩, X2 _⟩)
end Go.Fw
namespace Go.Fw
open Go Go.Proofs
set_option maxRecDepth 100000
set_option linter.unusedVariables false
set_option linter.unusedSimpArgs false
theorem X01 {n : Int} (h : 0 ≤ n ∧ n ≤ 9223372036854775807) : (UK n).length ≤ 10 := by
 rw [X5D h.1]
 exact X2A (by omega)
theorem X6K {r : Rul} (h : Yr r = 0) : (X2O r).length ≤ 200 := by
 obtain ⟨h1, ⟨l1, l2, l3, l4⟩, h3⟩ := Xav h
 have := VI l1
 have := VI l2
 have := VI l3
 have := VI l4
 have := X1a h1
 unfold X2O
 simp only [List.length_cons, List.length_append]
 omega
end Go.Fw
namespace Go.Fw
open Go
set_option linter.unusedVariables false
def X0F (p : Prp) : List UInt8 := Up p.key ++ X2G p.v
def VD {α : Type} (w : α → List UInt8) (l : List α) : List UInt8 := UK l.length ++ (l.map w).flatten
def X5w (n : Nod) : List UInt8 := UK n.id ++ (VD Up n.labels ++ VD X0F n.props)
def X5F (e : Edg) : List UInt8 := UK e.id ++ (UK e.src ++ (UK e.dst ++ (Up e.typ ++ VD X0F e.props)))
structure Rd where
 k : Nat
 c : List UInt8
 a : Int
 e : Int
def Rd.put (s : Rd) (a e : Int) : Rd := ⟨s.k, s.c, a, e⟩
end Go.Fw
namespace Go.Fw
open Go
set_option linter.unusedVariables false
set_option linter.unusedSimpArgs false
structure At (b : List UInt8) (q : Nat) (w : List UInt8) : Prop where
 le : q ≤ b.length
 eq : b.drop q = w
theorem At.step {b : List UInt8} {q : Nat} {u w : List UInt8} (h : At b q (u ++ w)) : At b (q + u.length) w := by
 have h1 := congrArg List.length h.eq
 simp only [List.length_drop, List.length_append] at h1
 refine ⟨by have := h.le; omega, ?_⟩
 rw [← List.drop_drop, h.eq, List.drop_left]
theorem At.split {b : List UInt8} {q : Nat} {u w : List UInt8} (h : At b q (u ++ w)) : b = b.take q ++ u ++ w ∧ (b.take q).length = q := by
 refine ⟨?_, by have := h.le; simp; omega⟩
 rw [List.append_assoc, ← h.eq, List.take_append_drop]
theorem At.cons {b : List UInt8} {q : Nat} {c : UInt8} {w : List UInt8} (h : At b q (c :: w)) : b[q]? = some c ∧ At b (q + 1) w := by
 refine ⟨?_, At.step (u := [c]) h⟩
 have := congrArg (·[0]?) h.eq
 simpa using this
theorem At.eqv {b : List UInt8} {q q' : Nat} {w w' : List UInt8} (h : At b q w) (hq : q = q') (hw : w = w') : At b q' w' := hq ▸ hw ▸ h
end Go.Fw
namespace Go.Fw
open Go
set_option linter.unusedVariables false
set_option linter.unusedSimpArgs false
def okN (n : Int) : Prop := 0 ≤ n ∧ n ≤ 9223372036854775807
def okP (p : Prp) : Prop := p.key.length ≤ 20 ∧ X5 8 p.v = true
def okL {α : Type} (ok : α → Prop) (l : List α) : Prop := (∀ x ∈ l, ok x) ∧ l.length ≤ 9223372036854775807
def X9p (n : Nod) : Prop := okN n.id ∧ okL (fun s => s.length ≤ 20) n.labels ∧ okL okP n.props
def X8M (e : Edg) : Prop := okN e.id ∧ okN e.src ∧ okN e.dst ∧ e.typ.length ≤ 20 ∧ okL okP e.props
end Go.Fw
namespace Go.Fw
open Go
set_option linter.unusedVariables false
set_option linter.unusedSimpArgs false
theorem X2i {α : Type} {w : α → List UInt8} {k : Nat} : ∀ {l : List α}, (∀ x ∈ l, (w x).length ≤ k) → (l.map w).flatten.length ≤ k * l.length
 | [], _ => by simp
 | x :: r, h => by
  have h1 := h x (by simp)
  have h2 := X2i (l := r) fun y hy => h y (by simp [hy])
  simp only [List.map_cons, List.flatten_cons, List.length_append, List.length_cons, Nat.mul_add, Nat.mul_one]
  omega
theorem X1f {s : List UInt8} (h : Xl s = true) : s.length ≤ 20 := by
 unfold Xl at h
 simp only [Bool.and_eq_true, decide_eq_true_eq] at h
 exact h.1.1.2
theorem X2W {v : Val} (h : XC v = true) : X5 8 v = true ∧ (v.kind = 1 ∨ v.kind = 2 ∨ v.kind = 4) := by
 unfold XC X0W at h
 simp only [Bool.and_eq_true, decide_eq_true_eq] at h
 exact ⟨h.2, h.1⟩
theorem X9y {v : Val} (h : XC v = true) : (X2G v).length ≤ 111 := by
 obtain ⟨h1, h2⟩ := X2W h
 unfold X2G
 rw [if_pos h1]
 obtain ⟨k, n, d, s, l⟩ := v
 simp only [Val.kind] at h2
 exact X8C h1 (by omega) (by omega)
theorem X1D {ls : List (List UInt8)} {ps : List Prp} (h : Y4 ls ps = 0) : (ls.length ≤ 8 ∧ ∀ s ∈ ls, s.length ≤ 20) ∧ ps.length ≤ 16 ∧ ∀ p ∈ ps, p.key.length ≤ 20 ∧ XC p.v = true := by
 unfold Y4 at h
 by_cases c1 : 8 < ls.length ∨ 16 < ps.length
 ·rw [if_pos c1] at h; simp at h
 rw [if_neg c1] at h
 by_cases c2 : ls.all Xl = false ∨ (ps.map Prp.key).all Xl = false
 ·rw [if_pos c2] at h; simp at h
 rw [if_neg c2] at h
 by_cases c3 : Yh ls = false ∨ Yh (ps.map Prp.key) = false
 ·rw [if_pos c3] at h; simp at h
 rw [if_neg c3] at h
 by_cases c4 : (ps.map Prp.v).all XC = false
 ·rw [if_pos c4] at h; simp at h
 have e1 : ls.all Xl = true := by cases q : ls.all Xl <;> simp_all
 have e2 : (ps.map Prp.key).all Xl = true := by cases q : (ps.map Prp.key).all Xl <;> simp_all
 have e4 : (ps.map Prp.v).all XC = true := by cases q : (ps.map Prp.v).all XC <;> simp_all
 rw [List.all_eq_true] at e1 e2 e4
 refine ⟨⟨by omega, fun s hs => X1f (e1 s hs)⟩, by omega, fun p hp => ⟨X1f (e2 p.key (List.mem_map.2 ⟨p, hp, rfl⟩)), e4 p.v (List.mem_map.2 ⟨p, hp, rfl⟩)⟩⟩
theorem X4b {ps : List Prp} (hl : ps.length ≤ 16) (h : ∀ p ∈ ps, p.key.length ≤ 20 ∧ XC p.v = true) : okL okP ps ∧ (VD X0F ps).length ≤ 2266 := by
 refine ⟨⟨fun p hp => ⟨(h p hp).1, (X2W (h p hp).2).1⟩, by omega⟩, ?_⟩
 unfold VD
 have h1 := X01 (n := (ps.length : Nat)) (by omega)
 have h2 := X2i (w := X0F) (k := 141) (l := ps) fun p hp => by
  unfold X0F
  have a := VI (h p hp).1
  have b := X9y (h p hp).2
  simp only [List.length_append]
  omega
 simp only [List.length_append]
 omega
theorem Xam {ls : List (List UInt8)} (hl : ls.length ≤ 8) (h : ∀ s ∈ ls, s.length ≤ 20) : okL (fun s : List UInt8 => s.length ≤ 20) ls ∧ (VD Up ls).length ≤ 250 := by
 refine ⟨⟨h, by omega⟩, ?_⟩
 unfold VD
 have h1 := X01 (n := (ls.length : Nat)) (by omega)
 have h2 := X2i (w := Up) (k := 30) (l := ls) fun s hs => by have := VI (h s hs); omega
 simp only [List.length_append]
 omega
theorem X9h {nn : Int} {p : Option Nod} {n : Nod} (h : YF nn p n = 0) : 1 ≤ n.id ∧ n.id < nn ∧ Y4 n.labels n.props = 0 := by
 unfold YF at h
 by_cases c1 : ∃ q, p = some q ∧ n.id ≤ q.id
 ·rw [if_pos c1] at h; simp at h
 rw [if_neg c1] at h
 by_cases c2 : n.id < 1 ∨ nn ≤ n.id
 ·rw [if_pos c2] at h; simp at h
 rw [if_neg c2] at h
 exact ⟨by omega, by omega, h⟩
theorem X23 {nn : Int} : ∀ (l : List Nod) (p : Option Nod), Yl nn p l = 0 → ∀ n ∈ l, 1 ≤ n.id ∧ n.id < nn ∧ Y4 n.labels n.props = 0
 | [], _, _, n, h => by simp at h
 | x :: r, p, h, n, hn => by
  rw [Yl] at h
  have h0 : YF nn p x = 0 := by
   by_cases h0 : YF nn p x = 0
   ·exact h0
   ·rw [if_pos h0] at h; exact absurd h h0
  rw [h0, if_neg (by simp)] at h
  rcases List.mem_cons.1 hn with rfl | hn
  ·exact X9h h0
  ·exact X23 r _ h n hn
theorem X7o {ns : List Nod} {ne : Int} {p : Option Edg} {e : Edg} (h : U8 ns ne p e = 0) : 1 ≤ e.id ∧ e.id < ne ∧ XP ns e.src = true ∧ XP ns e.dst = true ∧ Xl e.typ = true ∧ Y4 [] e.props = 0 := by
 unfold U8 at h
 by_cases c1 : ∃ q, p = some q ∧ e.id ≤ q.id
 ·rw [if_pos c1] at h; simp at h
 rw [if_neg c1] at h
 by_cases c2 : e.id < 1 ∨ ne ≤ e.id
 ·rw [if_pos c2] at h; simp at h
 rw [if_neg c2] at h
 by_cases c3 : XP ns e.src = false ∨ XP ns e.dst = false
 ·rw [if_pos c3] at h; simp at h
 rw [if_neg c3] at h
 by_cases c4 : Xl e.typ = false
 ·rw [if_pos c4] at h; simp at h
 rw [if_neg c4] at h
 simp only [not_or, Bool.not_eq_false] at c3 c4
 exact ⟨by omega, by omega, c3.1, c3.2, c4, h⟩
theorem X2c {ns : List Nod} {ne : Int} : ∀ (l : List Edg) (p : Option Edg), Ua ns ne p l = 0 → ∀ e ∈ l, 1 ≤ e.id ∧ e.id < ne ∧ XP ns e.src = true ∧ XP ns e.dst = true ∧ Xl e.typ = true ∧ Y4 [] e.props = 0
 | [], _, _, n, h => by simp at h
 | x :: r, p, h, n, hn => by
  rw [Ua] at h
  have h0 : U8 ns ne p x = 0 := by
   by_cases h0 : U8 ns ne p x = 0
   ·exact h0
   ·rw [if_pos h0] at h; exact absurd h h0
  rw [h0, if_neg (by simp)] at h
  rcases List.mem_cons.1 hn with rfl | hn
  ·exact X7o h0
  ·exact X2c r _ h n hn
structure GraOk (g : Gra) : Prop where
 nl : g.nodes.length ≤ 2000
 el : g.edges.length ≤ 4000
 nn : 1 ≤ g.nn ∧ g.nn ≤ 1000001
 ne : 1 ≤ g.ne ∧ g.ne ≤ 1000001
 nodes : ∀ n ∈ g.nodes, X9p n ∧ (X5w n).length ≤ 2526
 edges : ∀ e ∈ g.edges, X8M e ∧ (X5F e).length ≤ 2326
theorem X8q {g : Gra} (h : Yc g = 0) : GraOk g := by
 unfold Yc at h
 by_cases c1 : 2000 < g.nodes.length ∨ 4000 < g.edges.length
 ·rw [if_pos c1] at h; simp at h
 rw [if_neg c1] at h
 by_cases c2 : g.nn < 1 ∨ 1000001 < g.nn ∨ g.ne < 1 ∨ 1000001 < g.ne
 ·rw [if_pos c2] at h; simp at h
 rw [if_neg c2] at h
 by_cases c3 : Yl g.nn none g.nodes ≠ 0
 ·rw [if_pos c3] at h; exact absurd h c3
 rw [if_neg c3] at h
 have c3 : Yl g.nn none g.nodes = 0 := by simpa using c3
 have hn := X23 _ _ c3
 have he := X2c _ _ h
 have hid : ∀ i, XP g.nodes i = true → 1 ≤ i ∧ i < g.nn := by
  intro i hi
  unfold XP at hi
  rw [List.any_eq_true] at hi
  obtain ⟨x, hx, e⟩ := hi
  have := hn x hx
  simp only [decide_eq_true_eq] at e
  omega
 refine ⟨by omega, by omega, by omega, by omega, fun n q => ?_, fun e q => ?_⟩
 ·obtain ⟨h1, h2, h3⟩ := hn n q
  obtain ⟨⟨p1, p2⟩, p3, p4⟩ := X1D h3
  obtain ⟨a1, a2⟩ := X4b p3 p4
  obtain ⟨b1, b2⟩ := Xam p1 p2
  refine ⟨⟨⟨by omega, by omega⟩, b1, a1⟩, ?_⟩
  have := X01 (n := n.id) (by omega)
  unfold X5w
  simp only [List.length_append]
  omega
 ·obtain ⟨h1, h2, h3, h4, h5, h6⟩ := he e q
  obtain ⟨_, p3, p4⟩ := X1D h6
  obtain ⟨a1, a2⟩ := X4b p3 p4
  have s1 := hid _ h3
  have s2 := hid _ h4
  refine ⟨⟨⟨by omega, by omega⟩, ⟨by omega, by omega⟩, ⟨by omega, by omega⟩, X1f h5, a1⟩, ?_⟩
  have := X01 (n := e.id) (by omega)
  have := X01 (n := e.src) (by omega)
  have := X01 (n := e.dst) (by omega)
  have := VI (X1f h5)
  unfold X5F
  simp only [List.length_append]
  omega
theorem X3z : ∀ (l : List Rul) (p : Option Rul), Ul p l = true → ∀ r ∈ l, Yr r = 0
 | [], _, _, r, h => by simp at h
 | x :: l, p, h, r, hr => by
  rw [Ul] at h
  simp only [Bool.and_eq_true, decide_eq_true_eq] at h
  rcases List.mem_cons.1 hr with rfl | hr
  ·exact h.1.1
  ·exact X3z l _ h.2 r hr
theorem X17 {l : List Rul} (h : YY l = true) : l.length ≤ 40 ∧ ∀ r ∈ l, Yr r = 0 ∧ (X4n r).length ≤ 200 := by
 unfold YY at h
 simp only [Bool.and_eq_true, decide_eq_true_eq] at h
 refine ⟨h.2, fun r hr => ?_⟩
 have := X3z _ _ h.1 r hr
 refine ⟨this, ?_⟩
 unfold X4n
 rw [if_pos this]
 exact X6K this
end Go.Fw
namespace Go.Fw
open Go Go.Proofs
set_option maxRecDepth 100000
set_option linter.unusedVariables false
set_option linter.unusedSimpArgs false
theorem X5a {l : List (List UInt8)} {i : Nat} {a b : List UInt8} (ha : l[i]? = some a) (hb : l[i + 1]? = some b) : Yh (l.drop i) = (!(Op.bytesLess b a || decide (b = a)) && Yh (l.drop (i + 1))) := by
 obtain ⟨hi, rfl⟩ := List.getElem?_eq_some_iff.1 ha
 obtain ⟨hi', rfl⟩ := List.getElem?_eq_some_iff.1 hb
 rw [List.drop_eq_getElem_cons hi, List.drop_eq_getElem_cons hi', Yh]
theorem X4d {l : List (List UInt8)} {i : Nat} (h : l.length ≤ i + 1) : Yh (l.drop i) = true := by
 match hd : l.drop i with
 | [] => rfl
 | [a] => rfl
 | a :: b :: r =>
  have := congrArg List.length hd
  simp only [List.length_drop, List.length_cons] at this
  omega
theorem X5E (l : List (List UInt8)) (hl : l.length ≤ 9223372036854775807) : Con Tryz.prog 150 [] [.d (.sl 1 (l.map Xk))] [] (ab (Yh l)) := by
 refine Xa (xs := [ab (Yh l)]) Tryz.func150 rfl Tryz.ntmps150 rfl rfl rfl (fun E => ?_)
 have hlm : (l.map Xk).length = l.length := by simp
 generalize hG : Yh l = G
 refine X0 ?_; refine JR ?_; refine Z0 ?_; refine JD ?_; refine X0 ?_; refine X0 ?_; refine JR ?_; refine Z0 ?_; refine JD ?_; refine X4 ?_
 refine Xt (fun i : Nat => 1 ≤ i ∧ i ≤ l.length + 1 ∧ Yh (l.drop (i - 1)) = G) (fun i => ⟨20, [(0, .d (.sl 1 (l.map Xk))), (3, ai i)], []⟩) (fun i => l.length - i) 1 ⟨by omega, by omega, by simpa using hG⟩
  (X6 rfl ⟨JL, JL, trivial⟩ trivial) ?_
 rintro i ⟨hi, hi2, hg⟩
 by_cases hil : i < l.length
 case neg =>
  have hn : ¬ (i : Int) < (l.map Xk).length := by omega
  have hT : G = true := by rw [← hg, X4d (by omega)]
  subst hT
  refine X0 ?_; refine X0 ?_; refine JR ?_; refine Z1 ?_; refine Z1 ?_; refine Zd ?_; refine Z8 ?_; refine JD ?_; refine JF ?_; refine Xp ?_; refine X0 ?_; refine JR ?_; refine Z0 ?_; refine JD ?_
  exact X1 ⟨_, St.le_refl _, ⟨rfl, trivial⟩, X2 _⟩
 have hn : (i : Int) < (l.map Xk).length := by omega
 obtain ⟨j, rfl⟩ : ∃ j, i = j + 1 := ⟨i - 1, by omega⟩
 rw [Nat.add_sub_cancel] at hg
 obtain ⟨x, hx⟩ := Xm (l := l) hil
 obtain ⟨y, hy⟩ := Xm (l := l) (k := j) (by omega)
 have hxc : (l.map Xk)[j + 1]? = some (Xk x) := Xq hx
 have hyc : (l.map Xk)[j]? = some (Xk y) := Xq hy
 rw [X5a hy hx] at hg
 cases hq : (Op.bytesLess x y || decide (x = y)) with
 | false =>
  rw [hq] at hg
  simp only [Bool.not_false, Bool.true_and] at hg
  refine X0 ?_; refine X0 ?_; refine JR ?_; refine Z1 ?_; refine Z1 ?_; refine Zd ?_; refine Z8 ?_; refine JD ?_; refine JT ?_; refine X3 ?_; refine X0 ?_; refine X4 ?_; refine X0 ?_
  refine JR ?_; refine Z1 ?_; refine Z1 ?_; refine Zj ?_; refine Zk ?_; refine Z1 ?_; refine Z1 ?_
  refine Z4 (op := .sub) (r' := .int .i64 ((j : Nat) : Int)) (u := .int .i64 ((j + 1 : Nat) : Int)) (v := .int .i64 1) ?_ (hr' := by exact congrArg (Value.int .i64) (show (((j + 1 : Nat) : Int) - 1) = (j : Int) by omega)) (hr := by exact XJ (by unfold XB; omega))
  refine Zj ?_; refine Zk ?_; refine Z06 ?_; refine JD ?_; refine JF ?_; refine X3 ?_; refine JR ?_; refine Z1 ?_; refine Zb ?_; refine Z0 ?_; refine JD ?_
  exact ⟨j + 1 + 1, ⟨by omega, by omega, by rw [Nat.add_sub_cancel]; exact hg⟩, by omega, X6 rfl ⟨JL, JL, trivial⟩ trivial⟩
 | true =>
  rw [hq] at hg
  simp only [Bool.not_true, Bool.false_and] at hg
  subst hg
  refine X0 ?_; refine X0 ?_; refine JR ?_; refine Z1 ?_; refine Z1 ?_; refine Zd ?_; refine Z8 ?_; refine JD ?_; refine JT ?_; refine X3 ?_; refine X0 ?_; refine X4 ?_; refine X0 ?_
  refine JR ?_; refine Z1 ?_; refine Z1 ?_; refine Zj ?_; refine Zk ?_; refine Z1 ?_; refine Z1 ?_
  refine Z4 (op := .sub) (r' := .int .i64 ((j : Nat) : Int)) (u := .int .i64 ((j + 1 : Nat) : Int)) (v := .int .i64 1) ?_ (hr' := by exact congrArg (Value.int .i64) (show (((j + 1 : Nat) : Int) - 1) = (j : Int) by omega)) (hr := by exact XJ (by unfold XB; omega))
  refine Zj ?_; refine Zk ?_; refine Z06 ?_; refine JD ?_; refine JT ?_; refine X0 ?_; refine JR ?_; refine Z0 ?_; refine JD ?_
  exact X1 ⟨_, St.le_refl _, ⟨rfl, trivial⟩, X2 _⟩
theorem X5i (l : List (List UInt8)) (hl : l.length ≤ 9223372036854775807) : Con Tryz.prog 188 [] [.d (.sl 1 (l.map Xk))] [] (ab (Yh l)) := by
 refine Xa (xs := [ab (Yh l)]) Tryz.func188 rfl Tryz.ntmps188 rfl rfl rfl (fun E => ?_)
 have hlm : (l.map Xk).length = l.length := by simp
 generalize hG : Yh l = G
 refine X0 ?_; refine JR ?_; refine Z0 ?_; refine JD ?_; refine X0 ?_; refine X0 ?_; refine JR ?_; refine Z0 ?_; refine JD ?_; refine X4 ?_
 refine Xt (fun i : Nat => 1 ≤ i ∧ i ≤ l.length + 1 ∧ Yh (l.drop (i - 1)) = G) (fun i => ⟨20, [(0, .d (.sl 1 (l.map Xk))), (3, ai i)], []⟩) (fun i => l.length - i) 1 ⟨by omega, by omega, by simpa using hG⟩
  (X6 rfl ⟨JL, JL, trivial⟩ trivial) ?_
 rintro i ⟨hi, hi2, hg⟩
 by_cases hil : i < l.length
 case neg =>
  have hn : ¬ (i : Int) < (l.map Xk).length := by omega
  have hT : G = true := by rw [← hg, X4d (by omega)]
  subst hT
  refine X0 ?_; refine X0 ?_; refine JR ?_; refine Z1 ?_; refine Z1 ?_; refine Zd ?_; refine Z8 ?_; refine JD ?_; refine JF ?_; refine Xp ?_; refine X0 ?_; refine JR ?_; refine Z0 ?_; refine JD ?_
  exact X1 ⟨_, St.le_refl _, ⟨rfl, trivial⟩, X2 _⟩
 have hn : (i : Int) < (l.map Xk).length := by omega
 obtain ⟨j, rfl⟩ : ∃ j, i = j + 1 := ⟨i - 1, by omega⟩
 rw [Nat.add_sub_cancel] at hg
 obtain ⟨x, hx⟩ := Xm (l := l) hil
 obtain ⟨y, hy⟩ := Xm (l := l) (k := j) (by omega)
 have hxc : (l.map Xk)[j + 1]? = some (Xk x) := Xq hx
 have hyc : (l.map Xk)[j]? = some (Xk y) := Xq hy
 rw [X5a hy hx] at hg
 cases hq : (Op.bytesLess x y || decide (x = y)) with
 | false =>
  rw [hq] at hg
  simp only [Bool.not_false, Bool.true_and] at hg
  refine X0 ?_; refine X0 ?_; refine JR ?_; refine Z1 ?_; refine Z1 ?_; refine Zd ?_; refine Z8 ?_; refine JD ?_; refine JT ?_; refine X3 ?_; refine X0 ?_; refine X4 ?_; refine X0 ?_
  refine JR ?_; refine Z1 ?_; refine Z1 ?_; refine Zj ?_; refine Zk ?_; refine Z1 ?_; refine Z1 ?_
  refine Z4 (op := .sub) (r' := .int .i64 ((j : Nat) : Int)) (u := .int .i64 ((j + 1 : Nat) : Int)) (v := .int .i64 1) ?_ (hr' := by exact congrArg (Value.int .i64) (show (((j + 1 : Nat) : Int) - 1) = (j : Int) by omega)) (hr := by exact XJ (by unfold XB; omega))
  refine Zj ?_; refine Zk ?_; refine Z06 ?_; refine JD ?_; refine JF ?_; refine X3 ?_; refine JR ?_; refine Z1 ?_; refine Zb ?_; refine Z0 ?_; refine JD ?_
  exact ⟨j + 1 + 1, ⟨by omega, by omega, by rw [Nat.add_sub_cancel]; exact hg⟩, by omega, X6 rfl ⟨JL, JL, trivial⟩ trivial⟩
 | true =>
  rw [hq] at hg
  simp only [Bool.not_true, Bool.false_and] at hg
  subst hg
  refine X0 ?_; refine X0 ?_; refine JR ?_; refine Z1 ?_; refine Z1 ?_; refine Zd ?_; refine Z8 ?_; refine JD ?_; refine JT ?_; refine X3 ?_; refine X0 ?_; refine X4 ?_; refine X0 ?_
  refine JR ?_; refine Z1 ?_; refine Z1 ?_; refine Zj ?_; refine Zk ?_; refine Z1 ?_; refine Z1 ?_
  refine Z4 (op := .sub) (r' := .int .i64 ((j : Nat) : Int)) (u := .int .i64 ((j + 1 : Nat) : Int)) (v := .int .i64 1) ?_ (hr' := by exact congrArg (Value.int .i64) (show (((j + 1 : Nat) : Int) - 1) = (j : Int) by omega)) (hr := by exact XJ (by unfold XB; omega))
  refine Zj ?_; refine Zk ?_; refine Z06 ?_; refine JD ?_; refine JT ?_; refine X0 ?_; refine JR ?_; refine Z0 ?_; refine JD ?_
  exact X1 ⟨_, St.le_refl _, ⟨rfl, trivial⟩, X2 _⟩
theorem X8P (s : List UInt8) : Con Tryz.prog 149 [] [.d (.v (.string (X7 s)))] [] (ab (!Xl s)) := by
 refine Xa (xs := [ab (!Xl s)]) Tryz.func149 rfl Tryz.ntmps149 rfl rfl rfl (fun E => ?_)
 have hn := X0d s
 refine X0 ?_; refine JR ?_; refine Z0 ?_; refine JD ?_; refine X0 ?_; refine JR ?_; refine Z1 ?_; refine Z9 (hcon := hn) ?_; refine Zu ?_; refine Z0 ?_; refine JD ?_
 exact X1 ⟨_, St.le_refl _, ⟨rfl, trivial⟩, X2 _⟩
def Ui : List (List UInt8) → Nat → Int
 | [], _ => -1
 | s :: r, i => if Xl s = false then (i : Int) else Ui r (i + 1)
theorem X8E {l : List (List UInt8)} {i : Nat} {x : List UInt8} (h : l[i]? = some x) : Ui (l.drop i) i = if Xl x = false then (i : Int) else Ui (l.drop (i + 1)) (i + 1) := by
 obtain ⟨hi, rfl⟩ := List.getElem?_eq_some_iff.1 h
 rw [List.drop_eq_getElem_cons hi, Ui]
theorem X3M : ∀ (l : List (List UInt8)) (i : Nat), decide (Ui l i ≥ 0) = !l.all Xl
 | [], i => by simp [Ui]
 | s :: r, i => by
  rw [Ui, List.all_cons]
  cases h : Xl s with
  | false => simp
  | true => simp [X3M r (i + 1)]
theorem X8c (l : List (List UInt8)) (hl : l.length ≤ 9223372036854775807) : Con Tryz.prog 208 [] [.d (.sl 1 (l.map Xk)), .fn 149 []] [] (ai (Ui l 0)) := by
 refine Xa (xs := [ai (Ui l 0)]) Tryz.func208 rfl Tryz.ntmps208 rfl rfl rfl (fun E => ?_)
 have hlm : (l.map Xk).length = l.length := by simp
 generalize hG : Ui l 0 = G
 refine X0 ?_; refine JR ?_; refine Z0 ?_; refine JD ?_; refine X0 ?_; refine X0 ?_; refine JR ?_; refine Z1 ?_; refine Zd ?_; refine Z1 ?_; refine JD ?_; refine X4 ?_
 refine Xt (fun i : Nat => i ≤ l.length ∧ Ui (l.drop i) i = G) (fun i => ⟨19, [(0, .d (.sl 1 (l.map Xk))), (1, .fn 149 []), (7, ai (l.map Xk).length), (8, ai i)], []⟩) (fun i => l.length - i) 0 ⟨by omega, by simpa using hG⟩
  (X6 rfl ⟨JL, JL, JL, JL, trivial⟩ trivial) ?_
 rintro i ⟨hi, hg⟩
 by_cases hil : i < l.length
 case neg =>
  have hn : ¬ (i : Int) < (l.map Xk).length := by omega
  rw [List.drop_of_length_le (by omega), Ui] at hg
  subst hg
  refine X0 ?_; refine JR ?_; refine Z8 ?_; refine JD ?_; refine X0 ?_; refine JF ?_; refine Xp ?_; refine X0 ?_; refine JR ?_; refine Z0 ?_; refine JD ?_
  exact X1 ⟨_, St.le_refl _, ⟨rfl, trivial⟩, X2 _⟩
 have hn : (i : Int) < (l.map Xk).length := by omega
 obtain ⟨x, hx⟩ := Xm (l := l) hil
 have hxc : (l.map Xk)[i]? = some (Xk x) := Xq hx
 have hu := X8P x
 rw [X8E hx] at hg
 cases hq : Xl x with
 | true =>
  rw [hq] at hg hu
  simp only [Bool.true_eq_false, if_false] at hg
  refine X0 ?_; refine JR ?_; refine Z8 ?_; refine JD ?_; refine X0 ?_; refine JT ?_; refine X3 ?_; refine X0 ?_; refine X4 ?_; refine X0 ?_; refine JR ?_; refine Z1 ?_; refine Z0 ?_
  refine JD ?_; refine X0 ?_; refine JR ?_; refine Z1 ?_; refine Z1 ?_; refine Z1 ?_; refine Zj ?_; refine Zk ?_; refine ZG (hcon := hu) ?_; refine JD ?_; refine JF ?_; refine X3 ?_; refine JR ?_; refine Zb ?_
  refine Z1 ?_; refine JD ?_
  exact ⟨i + 1, ⟨by omega, hg⟩, by omega, X6 rfl ⟨JL, JL, JL, JL, trivial⟩ trivial⟩
 | false =>
  rw [hq] at hg hu
  simp only [if_true] at hg
  subst hg
  refine X0 ?_; refine JR ?_; refine Z8 ?_; refine JD ?_; refine X0 ?_; refine JT ?_; refine X3 ?_; refine X0 ?_; refine X4 ?_; refine X0 ?_; refine JR ?_; refine Z1 ?_; refine Z0 ?_
  refine JD ?_; refine X0 ?_; refine JR ?_; refine Z1 ?_; refine Z1 ?_; refine Z1 ?_; refine Zj ?_; refine Zk ?_; refine ZG (hcon := hu) ?_; refine JD ?_; refine JT ?_; refine X0 ?_; refine JR ?_; refine Z1 ?_
  refine Z0 ?_; refine JD ?_
  exact X1 ⟨_, St.le_refl _, ⟨rfl, trivial⟩, X2 _⟩
theorem X43 (l : List (List UInt8)) (hl : l.length ≤ 9223372036854775807) : Con Tryz.prog 148 [] [.d (.sl 1 (l.map Xk)), .fn 149 []] [] (ab (!l.all Xl)) := by
 refine Xa (xs := [ab (!l.all Xl)]) Tryz.func148 rfl Tryz.ntmps148 rfl rfl rfl (fun E => ?_)
 have hi := X8c l hl
 rw [← X3M l 0]
 generalize Ui l 0 = q at *
 refine X0 ?_; refine JR ?_; refine Z0 ?_; refine JD ?_; refine X0 ?_; refine JR ?_; refine Z1 ?_; refine Z1 ?_; refine Z9 (hcon := hi) ?_; refine Z2 ?_; refine Z0 ?_; refine JD ?_
 exact X1 ⟨_, St.le_refl _, ⟨rfl, trivial⟩, X2 _⟩
theorem X2U {α : Type} {p : α → Bool} {l : List α} {i : Nat} {x : α} (h : l[i]? = some x) : (l.drop i).all p = (p x && (l.drop (i + 1)).all p) := by
 obtain ⟨hi, rfl⟩ := List.getElem?_eq_some_iff.1 h
 rw [List.drop_eq_getElem_cons hi, List.all_cons]
theorem X5U (l : List (List UInt8)) (hl : l.length ≤ 9223372036854775807) : Con Tryz.prog 187 [] [.d (.sl 1 (l.map Xk))] [] (ab (l.all Xl)) := by
 refine Xa (xs := [ab (l.all Xl)]) Tryz.func187 rfl Tryz.ntmps187 rfl rfl rfl (fun E => ?_)
 have hlm : (l.map Xk).length = l.length := by simp
 generalize hG : l.all Xl = G
 refine X0 ?_; refine JR ?_; refine Z0 ?_; refine JD ?_; refine X0 ?_; refine X0 ?_; refine JR ?_; refine Z0 ?_; refine JD ?_; refine X4 ?_
 refine Xt (fun i : Nat => i ≤ l.length ∧ (l.drop i).all Xl = G) (fun i => ⟨16, [(0, .d (.sl 1 (l.map Xk))), (3, ai i)], []⟩) (fun i => l.length - i) 0 ⟨by omega, by simpa using hG⟩
  (X6 rfl ⟨JL, JL, trivial⟩ trivial) ?_
 rintro i ⟨hi, hg⟩
 by_cases hil : i < l.length
 case neg =>
  have hn : ¬ (i : Int) < (l.map Xk).length := by omega
  rw [List.drop_of_length_le (by omega), List.all_nil] at hg
  subst hg
  refine X0 ?_; refine X0 ?_; refine JR ?_; refine Z1 ?_; refine Z1 ?_; refine Zd ?_; refine Z8 ?_; refine JD ?_; refine JF ?_; refine Xp ?_; refine X0 ?_; refine JR ?_; refine Z0 ?_; refine JD ?_
  exact X1 ⟨_, St.le_refl _, ⟨rfl, trivial⟩, X2 _⟩
 have hn : (i : Int) < (l.map Xk).length := by omega
 obtain ⟨x, hx⟩ := Xm (l := l) hil
 have hxc : (l.map Xk)[i]? = some (Xk x) := Xq hx
 have hu := X5T x
 rw [X2U hx] at hg
 cases hq : Xl x with
 | true =>
  rw [hq] at hg hu
  rw [Bool.true_and] at hg
  refine X0 ?_; refine X0 ?_; refine JR ?_; refine Z1 ?_; refine Z1 ?_; refine Zd ?_; refine Z8 ?_; refine JD ?_; refine JT ?_; refine X3 ?_; refine X0 ?_; refine X4 ?_; refine X0 ?_
  refine JR ?_; refine Z1 ?_; refine Z1 ?_; refine Zj ?_; refine Zk ?_; refine Z9 (hcon := hu) ?_; refine Zu ?_; refine JD ?_; refine JF ?_; refine X3 ?_; refine JR ?_; refine Z1 ?_; refine Zb ?_; refine Z0 ?_
  refine JD ?_
  exact ⟨i + 1, ⟨by omega, hg⟩, by omega, X6 rfl ⟨JL, JL, trivial⟩ trivial⟩
 | false =>
  rw [hq] at hg hu
  rw [Bool.false_and] at hg
  subst hg
  refine X0 ?_; refine X0 ?_; refine JR ?_; refine Z1 ?_; refine Z1 ?_; refine Zd ?_; refine Z8 ?_; refine JD ?_; refine JT ?_; refine X3 ?_; refine X0 ?_; refine X4 ?_; refine X0 ?_
  refine JR ?_; refine Z1 ?_; refine Z1 ?_; refine Zj ?_; refine Zk ?_; refine Z9 (hcon := hu) ?_; refine Zu ?_; refine JD ?_; refine JT ?_; refine X0 ?_; refine JR ?_; refine Z0 ?_; refine JD ?_
  exact X1 ⟨_, St.le_refl _, ⟨rfl, trivial⟩, X2 _⟩
end Go.Fw

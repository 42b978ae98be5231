/- The check of a rule: the reference's. -/
import Derived.Test.YtbhleedlnaakkaaK11
set_option maxHeartbeats 32000000
namespace Go.Fw
open Go Go.Proofs
set_option maxRecDepth 100000
set_option linter.unusedVariables false
set_option linter.unusedSimpArgs false
theorem X7u (n : Int) : Con Try.prog 19 [] [ai n] [] (ab (Ys n)) := by
 refine Xf (xs := [ab (Ys n)]) Try.func19 rfl Try.ntmps19 rfl rfl rfl (fun E => ?_)
 by_cases h1 : 1 ≤ n
 ·by_cases h2 : n ≤ 5
  ·rw [show Ys n = true by unfold Ys; exact decide_eq_true ⟨h1, h2⟩]
   refine X0 ?_; refine JR ?_; refine Z0 ?_; refine JD ?_; refine X0 ?_; refine JR ?_; refine Z1 ?_; refine Z2 ?_; refine Z1 ?_; refine Z1 ?_; refine Z3 ?_; refine Z4 ?_; refine Z0 ?_; refine JD ?_
   first | exact X1 ⟨_, St.le_refl _, ⟨rfl, trivial⟩, X2 _⟩ | exact X1 ⟨_, Xn 2 (y := ab true) (AVal.le_of_eq (by refine Eq.trans (b := ab (decide _)) rfl ?_; exact congrArg ab (by simp; omega))), ⟨rfl, trivial⟩, X2 _⟩ | fail
  ·rw [show Ys n = false by unfold Ys; exact decide_eq_false (by omega)]
   refine X0 ?_; refine JR ?_; refine Z0 ?_; refine JD ?_; refine X0 ?_; refine JR ?_; refine Z1 ?_; refine Z2 ?_; refine Z1 ?_; refine Z1 ?_; refine Z3 ?_; refine Z4 ?_; refine Z0 ?_; refine JD ?_
   first | exact X1 ⟨_, St.le_refl _, ⟨rfl, trivial⟩, X2 _⟩ | exact X1 ⟨_, Xn 2 (y := ab false) (AVal.le_of_eq (by refine Eq.trans (b := ab (decide _)) rfl ?_; exact congrArg ab (by simp; omega))), ⟨rfl, trivial⟩, X2 _⟩ | fail
 ·rw [show Ys n = false by unfold Ys; exact decide_eq_false (by omega)]
  refine X0 ?_; refine JR ?_; refine Z0 ?_; refine JD ?_; refine X0 ?_; refine JR ?_; refine Z1 ?_; refine Z2 ?_; refine Z1 ?_; refine Z5 ?_; refine Z5 ?_; refine Z7 ?_; refine Z0 ?_; refine JD ?_
  first | exact X1 ⟨_, St.le_refl _, ⟨rfl, trivial⟩, X2 _⟩ | exact X1 ⟨_, Xn 2 (y := ab false) (AVal.le_of_eq (by refine Eq.trans (b := ab (decide _)) rfl ?_; exact congrArg ab (by simp; omega))), ⟨rfl, trivial⟩, X2 _⟩ | fail
theorem X4Z (k n : Int) (name key src dst : List UInt8) : Con Try.prog 18 [] [X1c k n name key src dst] [] (ab (YJ k n)) := by
 refine Xf (xs := [ab (YJ k n)]) Try.func18 rfl Try.ntmps18 rfl rfl rfl (fun E => ?_)
 by_cases k3 : k = 3
 ·subst k3
  rw [show YJ 3 n = decide (n = 1 ∨ n = 2 ∨ n = 4) from rfl]
  by_cases n1 : n = 1
  ·subst n1
   repeat first | refine X0 ?_ | (refine JR ?_; (repeat first | refine Z1 ?_ | refine Z0 ?_ | refine Zo ?_ | refine Zp ?_ | refine Zi ?_ | refine Zn (γ := 100) ?_ | refine Z4 ?_ | refine Z5 ?_); refine JD ?_) | refine JT ?_
   first | exact X1 ⟨_, St.le_refl _, ⟨rfl, trivial⟩, X2 _⟩ | exact X1 ⟨_, Xn 2 (y := ab true) (AVal.le_of_eq (by refine Eq.trans (b := ab (decide _)) rfl ?_; exact congrArg ab (by simp; omega))), ⟨rfl, trivial⟩, X2 _⟩ | fail
  by_cases n2 : n = 2
  ·subst n2
   repeat first | refine X0 ?_ | (refine JR ?_; (repeat first | refine Z1 ?_ | refine Z0 ?_ | refine Zo ?_ | refine Zp ?_ | refine Zi ?_ | refine Zn (γ := 100) ?_ | refine Z4 ?_ | refine Z7 ?_ | refine Z5 ?_); refine JD ?_) | refine JT ?_
   first | exact X1 ⟨_, St.le_refl _, ⟨rfl, trivial⟩, X2 _⟩ | exact X1 ⟨_, Xn 2 (y := ab true) (AVal.le_of_eq (by refine Eq.trans (b := ab (decide _)) rfl ?_; exact congrArg ab (by simp; omega))), ⟨rfl, trivial⟩, X2 _⟩ | fail
  by_cases n4 : n = 4
  ·subst n4
   repeat first | refine X0 ?_ | (refine JR ?_; (repeat first | refine Z1 ?_ | refine Z0 ?_ | refine Zo ?_ | refine Zp ?_ | refine Zi ?_ | refine Zn (γ := 100) ?_ | refine Z4 ?_ | refine Z7 ?_ | refine Z5 ?_); refine JD ?_) | refine JT ?_
   first | exact X1 ⟨_, St.le_refl _, ⟨rfl, trivial⟩, X2 _⟩ | exact X1 ⟨_, Xn 2 (y := ab true) (AVal.le_of_eq (by refine Eq.trans (b := ab (decide _)) rfl ?_; exact congrArg ab (by simp; omega))), ⟨rfl, trivial⟩, X2 _⟩ | fail
  rw [decide_eq_false (show ¬ (n = 1 ∨ n = 2 ∨ n = 4) by omega)]
  repeat first | refine X0 ?_ | (refine JR ?_; (repeat first | refine Z1 ?_ | refine Z0 ?_ | refine Zo ?_ | refine Zp ?_ | refine Zi ?_ | refine Zn (γ := 100) ?_ | refine Z4 ?_ | refine Z7 ?_ | refine Z5 ?_); refine JD ?_) | refine JT ?_
  first | exact X1 ⟨_, St.le_refl _, ⟨rfl, trivial⟩, X2 _⟩ | exact X1 ⟨_, Xn 2 (y := ab false) (AVal.le_of_eq (by refine Eq.trans (b := ab (decide _)) rfl ?_; exact congrArg ab (by simp; omega))), ⟨rfl, trivial⟩, X2 _⟩ | fail
 by_cases k5 : k = 5
 ·subst k5
  rw [show YJ 5 n = decide (n = 1 ∨ n = 2 ∨ n = 4) from rfl]
  by_cases n1 : n = 1
  ·subst n1
   repeat first | refine X0 ?_ | (refine JR ?_; (repeat first | refine Z1 ?_ | refine Z0 ?_ | refine Zo ?_ | refine Zp ?_ | refine Zi ?_ | refine Zn (γ := 100) ?_ | refine Z4 ?_ | refine Z7 ?_ | refine Z5 ?_); refine JD ?_) | refine JT ?_
   first | exact X1 ⟨_, St.le_refl _, ⟨rfl, trivial⟩, X2 _⟩ | exact X1 ⟨_, Xn 2 (y := ab true) (AVal.le_of_eq (by refine Eq.trans (b := ab (decide _)) rfl ?_; exact congrArg ab (by simp; omega))), ⟨rfl, trivial⟩, X2 _⟩ | fail
  by_cases n2 : n = 2
  ·subst n2
   repeat first | refine X0 ?_ | (refine JR ?_; (repeat first | refine Z1 ?_ | refine Z0 ?_ | refine Zo ?_ | refine Zp ?_ | refine Zi ?_ | refine Zn (γ := 100) ?_ | refine Z4 ?_ | refine Z7 ?_ | refine Z5 ?_); refine JD ?_) | refine JT ?_
   first | exact X1 ⟨_, St.le_refl _, ⟨rfl, trivial⟩, X2 _⟩ | exact X1 ⟨_, Xn 2 (y := ab true) (AVal.le_of_eq (by refine Eq.trans (b := ab (decide _)) rfl ?_; exact congrArg ab (by simp; omega))), ⟨rfl, trivial⟩, X2 _⟩ | fail
  by_cases n4 : n = 4
  ·subst n4
   repeat first | refine X0 ?_ | (refine JR ?_; (repeat first | refine Z1 ?_ | refine Z0 ?_ | refine Zo ?_ | refine Zp ?_ | refine Zi ?_ | refine Zn (γ := 100) ?_ | refine Z7 ?_); refine JD ?_) | refine JT ?_
   first | exact X1 ⟨_, St.le_refl _, ⟨rfl, trivial⟩, X2 _⟩ | exact X1 ⟨_, Xn 2 (y := ab true) (AVal.le_of_eq (by refine Eq.trans (b := ab (decide _)) rfl ?_; exact congrArg ab (by simp; omega))), ⟨rfl, trivial⟩, X2 _⟩ | fail
  rw [decide_eq_false (show ¬ (n = 1 ∨ n = 2 ∨ n = 4) by omega)]
  repeat first | refine X0 ?_ | (refine JR ?_; (repeat first | refine Z1 ?_ | refine Z0 ?_ | refine Zo ?_ | refine Zp ?_ | refine Zi ?_ | refine Zn (γ := 100) ?_ | refine Z7 ?_); refine JD ?_) | refine JT ?_
  first | exact X1 ⟨_, St.le_refl _, ⟨rfl, trivial⟩, X2 _⟩ | exact X1 ⟨_, Xn 2 (y := ab false) (AVal.le_of_eq (by refine Eq.trans (b := ab (decide _)) rfl ?_; exact congrArg ab (by simp; omega))), ⟨rfl, trivial⟩, X2 _⟩ | fail
 by_cases k7 : k = 7
 ·subst k7
  rw [show YJ 7 n = decide (0 ≤ n ∧ n ≤ 4000) from rfl]
  by_cases h1 : 0 ≤ n
  ·by_cases h2 : n ≤ 4000
   ·rw [decide_eq_true (show 0 ≤ n ∧ n ≤ 4000 by omega)]
    repeat first | refine X0 ?_ | (refine JR ?_; (repeat first | refine Z1 ?_ | refine Z0 ?_ | refine Zo ?_ | refine Zp ?_ | refine Z3 ?_ | refine Z2 ?_ | refine Zi ?_ | refine Zn (γ := 100) ?_ | refine Z4 ?_ | refine Z7 ?_); refine JD ?_) | refine JT ?_ | refine JF ?_ | refine X3 ?_
    first | exact X1 ⟨_, St.le_refl _, ⟨rfl, trivial⟩, X2 _⟩ | exact X1 ⟨_, Xn 2 (y := ab true) (AVal.le_of_eq (by refine Eq.trans (b := ab (decide _)) rfl ?_; exact congrArg ab (by simp; omega))), ⟨rfl, trivial⟩, X2 _⟩ | fail
   ·rw [decide_eq_false (show ¬ (0 ≤ n ∧ n ≤ 4000) by omega)]
    repeat first | refine X0 ?_ | (refine JR ?_; (repeat first | refine Z1 ?_ | refine Z0 ?_ | refine Zo ?_ | refine Zp ?_ | refine Z3 ?_ | refine Z2 ?_ | refine Zi ?_ | refine Zn (γ := 100) ?_ | refine Z4 ?_ | refine Z7 ?_); refine JD ?_) | refine JT ?_ | refine JF ?_ | refine X3 ?_
    first | exact X1 ⟨_, St.le_refl _, ⟨rfl, trivial⟩, X2 _⟩ | exact X1 ⟨_, Xn 2 (y := ab false) (AVal.le_of_eq (by refine Eq.trans (b := ab (decide _)) rfl ?_; exact congrArg ab (by simp; omega))), ⟨rfl, trivial⟩, X2 _⟩ | fail
  ·rw [decide_eq_false (show ¬ (0 ≤ n ∧ n ≤ 4000) by omega)]
   repeat first | refine X0 ?_ | (refine JR ?_; (repeat first | refine Z1 ?_ | refine Z0 ?_ | refine Zo ?_ | refine Zp ?_ | refine Z2 ?_ | refine Zi ?_ | refine Zn (γ := 100) ?_ | refine Z7 ?_ | refine Z5 ?_); refine JD ?_) | refine JT ?_ | refine JF ?_ | refine X3 ?_
   first | exact X1 ⟨_, St.le_refl _, ⟨rfl, trivial⟩, X2 _⟩ | exact X1 ⟨_, Xn 2 (y := ab false) (AVal.le_of_eq (by refine Eq.trans (b := ab (decide _)) rfl ?_; exact congrArg ab (by simp; omega))), ⟨rfl, trivial⟩, X2 _⟩ | fail
 rw [show YJ k n = decide (n = 0) by unfold YJ; rw [if_neg (by omega), if_neg k7]]
 repeat first | refine X0 ?_ | (refine JR ?_; (repeat first | refine Z1 ?_ | refine Z0 ?_ | refine Zo ?_ | refine Zp ?_ | refine Zi ?_ | refine Zn (γ := 100) ?_ | refine Z7 ?_); refine JD ?_) | refine JF ?_ | refine X3 ?_
 first | exact X1 ⟨_, St.le_refl _, ⟨rfl, trivial⟩, X2 _⟩ | exact X1 ⟨_, Xn 2 (y := ab (decide (n = 0))) (AVal.le_of_eq rfl), ⟨rfl, trivial⟩, X2 _⟩ | fail
theorem X7B (r : Rul) : Con Try.prog 10 [] [XA r] [] (ai (Yy r)) := by
 rw [X1l]
 obtain ⟨k, n, name, key, src, dst⟩ := r
 simp only [XA]
 have hn := X0A name
 have hk := X0A key
 have hs := X0A src
 have hd := X0A dst
 have ht := X4Z k n name key src dst
 have hf := X7u k
 generalize Xg name = vn at *
 generalize Xg key = vk at *
 generalize Xg src = vs at *
 generalize Xg dst = vd at *
 refine Xf (xs := [ai (UN k (YJ k n) key src dst vn vk vs vd)]) Try.func10 rfl Try.ntmps10 rfl rfl rfl (fun E => ?_)
 generalize YJ k n = nb at *
 generalize hkd : Ys k = kd at *
 have hkd1 : 1 ≤ k → k ≤ 5 → kd = true := fun h1 h2 => by rw [← hkd]; exact decide_eq_true (by omega)
 have hkd2 : 5 < k → kd = false := fun h1 => by rw [← hkd]; exact decide_eq_false (by omega)
 obtain ⟨r, hr⟩ : ∃ r, r = UN k nb key src dst vn vk vs vd := ⟨_, rfl⟩
 rw [← hr]
 unfold UN at hr
 rw [hkd] at hr
 by_cases hkk : 1 ≤ k ∧ k ≤ 7
 case neg =>
  rw [decide_eq_false hkk, if_pos (.inl rfl)] at hr
  subst hr
  clear hkd hkd1 hkd2
  refine X0 ?_; refine JR ?_; refine Zn (γ := 100) ?_; refine Z0 ?_; refine JD ?_; refine X0 ?_; refine X0 ?_; refine JR ?_; refine Zo ?_; refine Zp ?_; refine Ze ?_; refine Z1 ?_
  refine XB rfl rfl (fun hq => ?_) (fun hq => ?_); refine Z5 ?_; refine Z5 ?_; refine Z5 ?_; refine Z4 ?_; refine Z1 ?_; refine Z5 ?_; refine Z5 ?_; refine Z5 ?_; refine Z4 ?_; refine JD ?_; refine JT ?_
  refine X0 ?_; refine JR ?_; refine Z0 ?_; refine JD ?_; exact X1 ⟨_, St.le_refl _, ⟨rfl, trivial⟩, X2 _⟩; refine Zo ?_; refine Zp ?_; refine Za ?_; refine Z7 ?_; refine Z1 ?_; refine Z5 ?_; refine Z5 ?_
  refine Z5 ?_; refine Z4 ?_; refine JD ?_; refine JT ?_; refine X0 ?_; refine JR ?_; refine Z0 ?_; refine JD ?_; exact X1 ⟨_, St.le_refl _, ⟨rfl, trivial⟩, X2 _⟩
 rw [decide_eq_true hkk] at hr
 clear hkd hkd1 hkd2
 refine X0 ?_; refine JR ?_; refine Zn (γ := 100) ?_; refine Z0 ?_; refine JD ?_; refine X0 ?_; refine X0 ?_; refine JR ?_; refine Zo ?_; refine Zp ?_; refine Ze ?_; refine Z1 ?_; refine Zo ?_; refine Zp ?_
 refine Za ?_; refine Z7 ?_; refine Z1 ?_; refine ZD ?_; refine Zc (hcon := ht) ?_; refine Zd ?_; refine Z7 ?_; refine JD ?_; refine XC rfl (fun hq => ?_) (fun hq => ?_); refine X0 ?_; refine JR ?_
 refine Z0 ?_; refine JD ?_; (clear hf ht hn hk hs hd; simp [*] at hr; subst hr; exact X1 ⟨_, St.le_refl _, ⟨rfl, trivial⟩, X2 _⟩); refine X3 ?_; refine X0 ?_; refine X0 ?_; refine JR ?_
 refine Zo ?_; refine Zp ?_; refine Zc (hcon := hf) ?_; refine Zd ?_; refine Z1 ?_; refine YE rfl rfl (fun hq => ?_) (fun hq => ?_); refine Z5 ?_; refine Z5 ?_; refine Z5 ?_; refine Z7 ?_; refine Z1 ?_
 refine Zo ?_; refine Zp ?_; refine Zg ?_; refine Z1 ?_; refine XB rfl rfl (fun hq => ?_) (fun hq => ?_); refine Zo ?_; refine Zp ?_; refine ZE ?_; refine Z1 ?_; refine XB rfl rfl (fun hq => ?_) (fun hq => ?_)
 refine Z5 ?_; refine Z5 ?_; refine Z5 ?_; refine Z4 ?_; refine Z4 ?_; refine Z7 ?_; refine JD ?_; refine JT ?_; refine X0 ?_; refine JR ?_; refine Z0 ?_; refine JD ?_
 (clear hf ht hn hk hs hd; simp [*] at hr; subst hr; exact X1 ⟨_, St.le_refl _, ⟨rfl, trivial⟩, X2 _⟩); refine Zo ?_; refine Zp ?_; refine ZE ?_; refine Z7 ?_; refine Z4 ?_; refine Z7 ?_; refine JD ?_
 refine UK rfl (fun hq => ?_) (fun hq => ?_); refine X0 ?_; refine JR ?_; refine Z0 ?_; refine JD ?_
 (clear hf ht hn hk hs hd; simp [*] at hr; subst hr; exact X1 ⟨_, St.le_refl _, ⟨rfl, trivial⟩, X2 _⟩); refine X3 ?_; refine X0 ?_; refine X0 ?_; refine JR ?_; refine Zo ?_; refine Zp ?_
 refine Zc (hcon := hn) ?_; refine Zd ?_; refine Z1 ?_; refine YE rfl rfl (fun hq => ?_) (fun hq => ?_); refine Zo ?_; refine Zp ?_; refine Zc (hcon := hf) ?_; refine Z1 ?_; refine Zo ?_; refine Zp ?_
 refine Zc (hcon := hk) ?_; refine Zd ?_; refine Z4 ?_; refine Z7 ?_; refine Z1 ?_; refine YE rfl rfl (fun hq => ?_) (fun hq => ?_); refine Zo ?_; refine Zp ?_; refine ZE ?_; refine Z1 ?_; refine Z5 ?_
 refine Z5 ?_; refine Z5 ?_; refine Z5 ?_; refine Z7 ?_; refine Z7 ?_; refine Z1 ?_; refine Zo ?_; refine Zp ?_; refine ZE ?_; refine Z1 ?_; refine Z5 ?_; refine Z5 ?_; refine Z5 ?_; refine Z5 ?_; refine Z7 ?_
 refine Z7 ?_; refine JD ?_; refine JF ?_; refine X3 ?_; refine X0 ?_; refine JR ?_; refine Z0 ?_; refine JD ?_
 (clear hf ht hn hk hs hd; simp [*] at hr; subst hr; exact X1 ⟨_, St.le_refl _, ⟨rfl, trivial⟩, X2 _⟩); refine Z5 ?_; refine Z5 ?_; refine Z5 ?_; refine Z5 ?_; refine Z6 ?_; refine Z6 ?_; refine Z6 ?_
 refine Z6 ?_; refine Z5 ?_; refine Z4 ?_; refine Z1 ?_; refine Z5 ?_; refine Z5 ?_; refine Z5 ?_; refine Z5 ?_; refine Z6 ?_; refine Z6 ?_; refine Z6 ?_; refine Z6 ?_; refine Z5 ?_; refine Z4 ?_; refine JD ?_
 refine JT ?_; refine X0 ?_; refine JR ?_; refine Z0 ?_; refine JD ?_; (clear hf ht hn hk hs hd; simp [*] at hr; subst hr; exact X1 ⟨_, St.le_refl _, ⟨rfl, trivial⟩, X2 _⟩); refine Z5 ?_; refine Z5 ?_
 refine Z5 ?_; refine Z5 ?_; refine Z6 ?_; refine Z6 ?_; refine Z6 ?_; refine Z6 ?_; refine Z5 ?_; refine Z4 ?_; refine Z1 ?_; refine Z5 ?_; refine Z5 ?_; refine Z5 ?_; refine Z5 ?_; refine Z6 ?_; refine Z6 ?_
 refine Z6 ?_; refine Z6 ?_; refine Z5 ?_; refine Z4 ?_; refine Z1 ?_; refine Z5 ?_; refine Z5 ?_; refine Z5 ?_; refine Z5 ?_; refine Z6 ?_; refine Z6 ?_; refine Z6 ?_; refine Z6 ?_; refine Z5 ?_; refine Z4 ?_
 refine JD ?_; refine JT ?_; refine X0 ?_; refine JR ?_; refine Z0 ?_; refine JD ?_; (clear hf ht hn hk hs hd; simp [*] at hr; subst hr; exact X1 ⟨_, St.le_refl _, ⟨rfl, trivial⟩, X2 _⟩); refine Z5 ?_
 refine Z5 ?_; refine Z5 ?_; refine Z5 ?_; refine Z6 ?_; refine Z6 ?_; refine Z6 ?_; refine Z5 ?_; refine Z7 ?_; refine Z7 ?_; refine JD ?_; refine JF ?_; refine X3 ?_; refine X0 ?_; refine X0 ?_
 refine JR ?_; refine Zo ?_; refine Zp ?_; refine Zc (hcon := hn) ?_; refine Zd ?_; refine Z1 ?_; refine YE rfl rfl (fun hq => ?_) (fun hq => ?_); refine Zo ?_; refine Zp ?_; refine Zc (hcon := hf) ?_
 refine Z1 ?_; refine Zo ?_; refine Zp ?_; refine Zc (hcon := hk) ?_; refine Zd ?_; refine Z4 ?_; refine Z7 ?_; refine Z1 ?_; refine YE rfl rfl (fun hq => ?_) (fun hq => ?_); refine Zo ?_; refine Zp ?_
 refine ZE ?_; refine Z1 ?_; refine XB rfl rfl (fun hq => ?_) (fun hq => ?_); refine Zo ?_; refine Zp ?_; refine Zc (hcon := hs) ?_; refine Zd ?_; refine Z4 ?_; refine Z7 ?_; refine Z1 ?_
 refine YE rfl rfl (fun hq => ?_) (fun hq => ?_); refine Zo ?_; refine Zp ?_; refine ZE ?_; refine Z1 ?_; refine XB rfl rfl (fun hq => ?_) (fun hq => ?_); refine Zo ?_; refine Zp ?_; refine Zc (hcon := hd) ?_
 refine Zd ?_; refine Z4 ?_; refine Z7 ?_; refine JD ?_; refine XC rfl (fun hq => ?_) (fun hq => ?_); refine X0 ?_; refine JR ?_; refine Z0 ?_; refine JD ?_
 (clear hf ht hn hk hs hd; simp [*] at hr; subst hr; exact X1 ⟨_, St.le_refl _, ⟨rfl, trivial⟩, X2 _⟩); refine X3 ?_; refine X0 ?_; refine JR ?_; refine Z0 ?_; refine JD ?_
 (clear hf ht hn hk hs hd; simp [*] at hr; subst hr; exact X1 ⟨_, St.le_refl _, ⟨rfl, trivial⟩, X2 _⟩); refine Z5 ?_; refine Z5 ?_; refine Z5 ?_; refine Z5 ?_; refine Z7 ?_; refine Z7 ?_; refine JD ?_
 refine JF ?_; refine X3 ?_; refine X0 ?_; refine JR ?_; refine Z0 ?_; refine JD ?_; (clear hf ht hn hk hs hd; simp [*] at hr; subst hr; exact X1 ⟨_, St.le_refl _, ⟨rfl, trivial⟩, X2 _⟩)
 refine Z5 ?_; refine Z5 ?_; refine Z5 ?_; refine Z5 ?_; refine Z6 ?_; refine Z6 ?_; refine Z6 ?_; refine Z6 ?_; refine Z5 ?_; refine Z4 ?_; refine JD ?_; refine JT ?_; refine X0 ?_; refine JR ?_; refine Z0 ?_
 refine JD ?_; (clear hf ht hn hk hs hd; simp [*] at hr; subst hr; exact X1 ⟨_, St.le_refl _, ⟨rfl, trivial⟩, X2 _⟩); refine Z5 ?_; refine Z5 ?_; refine Z5 ?_; refine Z5 ?_; refine Z7 ?_; refine Z7 ?_
 refine Z1 ?_; refine Zo ?_; refine Zp ?_; refine ZE ?_; refine Z1 ?_; refine XB rfl rfl (fun hq => ?_) (fun hq => ?_); refine Zo ?_; refine Zp ?_; refine Zc (hcon := hd) ?_; refine Zd ?_; refine Z4 ?_; refine Z7 ?_
 refine JD ?_; refine XC rfl (fun hq => ?_) (fun hq => ?_); refine X0 ?_; refine JR ?_; refine Z0 ?_; refine JD ?_
 (clear hf ht hn hk hs hd; simp [*] at hr; subst hr; exact X1 ⟨_, St.le_refl _, ⟨rfl, trivial⟩, X2 _⟩); refine X3 ?_; refine X0 ?_; refine JR ?_; refine Z0 ?_; refine JD ?_
 (clear hf ht hn hk hs hd; simp [*] at hr; subst hr; exact X1 ⟨_, St.le_refl _, ⟨rfl, trivial⟩, X2 _⟩); refine Z5 ?_; refine Z5 ?_; refine Z5 ?_; refine Z5 ?_; refine Z7 ?_; refine Z7 ?_; refine JD ?_
 refine JF ?_; refine X3 ?_; refine X0 ?_; refine JR ?_; refine Z0 ?_; refine JD ?_; (clear hf ht hn hk hs hd; simp [*] at hr; subst hr; exact X1 ⟨_, St.le_refl _, ⟨rfl, trivial⟩, X2 _⟩)
 refine Z5 ?_; refine Z5 ?_; refine Z5 ?_; refine Z5 ?_; refine Z6 ?_; refine Z6 ?_; refine Z6 ?_; refine Z6 ?_; refine Z5 ?_; refine Z4 ?_; refine Z1 ?_; refine Z5 ?_; refine Z5 ?_; refine Z5 ?_; refine Z5 ?_
 refine Z6 ?_; refine Z6 ?_; refine Z6 ?_; refine Z6 ?_; refine Z5 ?_; refine Z4 ?_; refine JD ?_; refine JT ?_; refine X0 ?_; refine JR ?_; refine Z0 ?_; refine JD ?_
 (clear hf ht hn hk hs hd; simp [*] at hr; subst hr; exact X1 ⟨_, St.le_refl _, ⟨rfl, trivial⟩, X2 _⟩); refine Z5 ?_; refine Z5 ?_; refine Z5 ?_; refine Z5 ?_; refine Z6 ?_; refine Z6 ?_; refine Z6 ?_
 refine Z6 ?_; refine Z5 ?_; refine Z4 ?_; refine Z1 ?_; refine Z5 ?_; refine Z5 ?_; refine Z5 ?_; refine Z5 ?_; refine Z6 ?_; refine Z6 ?_; refine Z6 ?_; refine Z6 ?_; refine Z5 ?_; refine Z4 ?_; refine Z1 ?_
 refine Z5 ?_; refine Z5 ?_; refine Z5 ?_; refine Z5 ?_; refine Z6 ?_; refine Z6 ?_; refine Z6 ?_; refine Z6 ?_; refine Z5 ?_; refine Z4 ?_; refine JD ?_; refine JT ?_; refine X0 ?_; refine JR ?_; refine Z0 ?_
 refine JD ?_; (clear hf ht hn hk hs hd; simp [*] at hr; subst hr; exact X1 ⟨_, St.le_refl _, ⟨rfl, trivial⟩, X2 _⟩); refine Zo ?_; refine Zp ?_; refine ZE ?_; refine Z4 ?_; refine Z1 ?_
 refine XB rfl rfl (fun hq => ?_) (fun hq => ?_); refine Z5 ?_; refine Z5 ?_; refine Z5 ?_; refine Z5 ?_; refine Z6 ?_; refine Z6 ?_; refine Z6 ?_; refine Z6 ?_; refine Z6 ?_; refine Z6 ?_; refine Z6 ?_; refine Z6 ?_
 refine Z5 ?_; refine Z4 ?_; refine JD ?_; refine JT ?_; refine X0 ?_; refine JR ?_; refine Z0 ?_; refine JD ?_
 (clear hf ht hn hk hs hd; simp [*] at hr; subst hr; exact X1 ⟨_, St.le_refl _, ⟨rfl, trivial⟩, X2 _⟩); refine Zo ?_; refine Zp ?_; refine Zg ?_; refine Z1 ?_
 refine XB rfl rfl (fun hq => ?_) (fun hq => ?_); refine Zo ?_; refine Zp ?_; refine ZE ?_; refine Z1 ?_; refine XB rfl rfl (fun hq => ?_) (fun hq => ?_); refine Z5 ?_; refine Z5 ?_; refine Z5 ?_; refine Z4 ?_
 refine Z4 ?_; refine Z7 ?_; refine JD ?_; refine JT ?_; refine X0 ?_; refine JR ?_; refine Z0 ?_; refine JD ?_
 (clear hf ht hn hk hs hd; simp [*] at hr; subst hr; exact X1 ⟨_, St.le_refl _, ⟨rfl, trivial⟩, X2 _⟩); refine Zo ?_; refine Zp ?_; refine ZE ?_; refine Z7 ?_; refine Z4 ?_; refine Z7 ?_; refine JD ?_
 refine UK rfl (fun hq => ?_) (fun hq => ?_); refine X0 ?_; refine JR ?_; refine Z0 ?_; refine JD ?_
 (clear hf ht hn hk hs hd; simp [*] at hr; subst hr; exact X1 ⟨_, St.le_refl _, ⟨rfl, trivial⟩, X2 _⟩); refine X3 ?_; refine X0 ?_; refine X0 ?_; refine JR ?_; refine Zo ?_; refine Zp ?_
 refine Zc (hcon := hn) ?_; refine Zd ?_; refine Z1 ?_; refine YE rfl rfl (fun hq => ?_) (fun hq => ?_); refine Zo ?_; refine Zp ?_; refine Zc (hcon := hf) ?_; refine Z1 ?_; refine Z5 ?_; refine Z5 ?_
 refine Z5 ?_; refine Z5 ?_; refine Z7 ?_; refine Z7 ?_; refine Z1 ?_; refine Zo ?_; refine Zp ?_; refine ZE ?_; refine Z1 ?_; refine Z5 ?_; refine Z5 ?_; refine Z5 ?_; refine Z5 ?_; refine Z7 ?_; refine Z7 ?_
 refine Z1 ?_; refine Zo ?_; refine Zp ?_; refine ZE ?_; refine Z1 ?_; refine Z5 ?_; refine Z5 ?_; refine Z5 ?_; refine Z5 ?_; refine Z7 ?_; refine Z7 ?_; refine JD ?_; refine JF ?_; refine X3 ?_; refine X0 ?_
 refine JR ?_; refine Z0 ?_; refine JD ?_; (clear hf ht hn hk hs hd; simp [*] at hr; subst hr; exact X1 ⟨_, St.le_refl _, ⟨rfl, trivial⟩, X2 _⟩); refine Z5 ?_; refine Z5 ?_; refine Z5 ?_; refine Z5 ?_
 refine Z6 ?_; refine Z6 ?_; refine Z6 ?_; refine Z6 ?_; refine Z5 ?_; refine Z4 ?_; refine Z1 ?_; refine Z5 ?_; refine Z5 ?_; refine Z5 ?_; refine Z5 ?_; refine Z6 ?_; refine Z6 ?_; refine Z6 ?_; refine Z6 ?_
 refine Z5 ?_; refine Z4 ?_; refine Z1 ?_; refine Z5 ?_; refine Z5 ?_; refine Z5 ?_; refine Z5 ?_; refine Z6 ?_; refine Z6 ?_; refine Z6 ?_; refine Z6 ?_; refine Z5 ?_; refine Z4 ?_; refine JD ?_; refine JT ?_
 refine X0 ?_; refine JR ?_; refine Z0 ?_; refine JD ?_; (clear hf ht hn hk hs hd; simp [*] at hr; subst hr; exact X1 ⟨_, St.le_refl _, ⟨rfl, trivial⟩, X2 _⟩); refine Z5 ?_; refine Z5 ?_; refine Z5 ?_
 refine Z5 ?_; refine Z6 ?_; refine Z6 ?_; refine Z6 ?_; refine Z5 ?_; refine Z7 ?_; refine Z7 ?_; refine JD ?_; refine JF ?_; refine X3 ?_; refine X0 ?_; refine X0 ?_; refine JR ?_; refine Zo ?_
 refine Zp ?_; refine Zc (hcon := hn) ?_; refine Zd ?_; refine Z1 ?_; refine YE rfl rfl (fun hq => ?_) (fun hq => ?_); refine Zo ?_; refine Zp ?_; refine Zc (hcon := hf) ?_; refine Z1 ?_; refine Z5 ?_
 refine Z5 ?_; refine Z5 ?_; refine Z5 ?_; refine Z7 ?_; refine Z7 ?_; refine Z1 ?_; refine Zo ?_; refine Zp ?_; refine ZE ?_; refine Z1 ?_; refine XB rfl rfl (fun hq => ?_) (fun hq => ?_); refine Zo ?_; refine Zp ?_
 refine Zc (hcon := hs) ?_; refine Zd ?_; refine Z4 ?_; refine Z7 ?_; refine Z1 ?_; refine YE rfl rfl (fun hq => ?_) (fun hq => ?_); refine Zo ?_; refine Zp ?_; refine ZE ?_; refine Z1 ?_
 refine XB rfl rfl (fun hq => ?_) (fun hq => ?_); refine Zo ?_; refine Zp ?_; refine Zc (hcon := hd) ?_; refine Zd ?_; refine Z4 ?_; refine Z7 ?_; refine JD ?_; refine XC rfl (fun hq => ?_) (fun hq => ?_)
 refine X0 ?_; refine JR ?_; refine Z0 ?_; refine JD ?_; (clear hf ht hn hk hs hd; simp [*] at hr; subst hr; exact X1 ⟨_, St.le_refl _, ⟨rfl, trivial⟩, X2 _⟩); refine X3 ?_; refine X0 ?_
 refine JR ?_; refine Z0 ?_; refine JD ?_; (clear hf ht hn hk hs hd; simp [*] at hr; subst hr; exact X1 ⟨_, St.le_refl _, ⟨rfl, trivial⟩, X2 _⟩); refine Z5 ?_; refine Z5 ?_; refine Z5 ?_; refine Z5 ?_
 refine Z7 ?_; refine Z7 ?_; refine JD ?_; refine JF ?_; refine X3 ?_; refine X0 ?_; refine JR ?_; refine Z0 ?_; refine JD ?_
 (clear hf ht hn hk hs hd; simp [*] at hr; subst hr; exact X1 ⟨_, St.le_refl _, ⟨rfl, trivial⟩, X2 _⟩); refine Z5 ?_; refine Z5 ?_; refine Z5 ?_; refine Z5 ?_; refine Z6 ?_; refine Z6 ?_; refine Z6 ?_
 refine Z6 ?_; refine Z5 ?_; refine Z4 ?_; refine JD ?_; refine JT ?_; refine X0 ?_; refine JR ?_; refine Z0 ?_; refine JD ?_
 (clear hf ht hn hk hs hd; simp [*] at hr; subst hr; exact X1 ⟨_, St.le_refl _, ⟨rfl, trivial⟩, X2 _⟩); refine Z5 ?_; refine Z5 ?_; refine Z5 ?_; refine Z5 ?_; refine Z7 ?_; refine Z7 ?_; refine Z1 ?_
 refine Zo ?_; refine Zp ?_; refine ZE ?_; refine Z1 ?_; refine XB rfl rfl (fun hq => ?_) (fun hq => ?_); refine Zo ?_; refine Zp ?_; refine Zc (hcon := hd) ?_; refine Zd ?_; refine Z4 ?_; refine Z7 ?_; refine JD ?_
 refine XC rfl (fun hq => ?_) (fun hq => ?_); refine X0 ?_; refine JR ?_; refine Z0 ?_; refine JD ?_
 (clear hf ht hn hk hs hd; simp [*] at hr; subst hr; exact X1 ⟨_, St.le_refl _, ⟨rfl, trivial⟩, X2 _⟩); refine X3 ?_; refine X0 ?_; refine JR ?_; refine Z0 ?_; refine JD ?_
 (clear hf ht hn hk hs hd; simp [*] at hr; subst hr; exact X1 ⟨_, St.le_refl _, ⟨rfl, trivial⟩, X2 _⟩); refine Z5 ?_; refine Z5 ?_; refine Z5 ?_; refine Z5 ?_; refine Z7 ?_; refine Z7 ?_; refine JD ?_
 refine JF ?_; refine X3 ?_; refine X0 ?_; refine JR ?_; refine Z0 ?_; refine JD ?_; (clear hf ht hn hk hs hd; simp [*] at hr; subst hr; exact X1 ⟨_, St.le_refl _, ⟨rfl, trivial⟩, X2 _⟩)
 refine Z5 ?_; refine Z5 ?_; refine Z5 ?_; refine Z5 ?_; refine Z6 ?_; refine Z6 ?_; refine Z6 ?_; refine Z6 ?_; refine Z5 ?_; refine Z4 ?_; refine Z1 ?_; refine Z5 ?_; refine Z5 ?_; refine Z5 ?_; refine Z5 ?_
 refine Z6 ?_; refine Z6 ?_; refine Z6 ?_; refine Z6 ?_; refine Z5 ?_; refine Z4 ?_; refine Z1 ?_; refine Z5 ?_; refine Z5 ?_; refine Z5 ?_; refine Z5 ?_; refine Z6 ?_; refine Z6 ?_; refine Z6 ?_; refine Z6 ?_
 refine Z5 ?_; refine Z4 ?_; refine JD ?_; refine JT ?_; refine X0 ?_; refine JR ?_; refine Z0 ?_; refine JD ?_
 (clear hf ht hn hk hs hd; simp [*] at hr; subst hr; exact X1 ⟨_, St.le_refl _, ⟨rfl, trivial⟩, X2 _⟩)
end Go.Fw
namespace Go.Fw
open Go Go.Proofs
set_option maxRecDepth 100000
set_option linter.unusedVariables false
set_option linter.unusedSimpArgs false
theorem VH {n : Int} (h : 0 ≤ n ∧ n ≤ 9223372036854775807) : (Ub n).length ≤ 10 := by
 rw [X4s h.1]
 exact X1m (by omega)
theorem X7I {r : Rul} (h : Yy r = 0) : (X2f r).length ≤ 200 := by
 obtain ⟨h1, ⟨l1, l2, l3, l4⟩, h3⟩ := X8P h
 have := UW l1
 have := UW l2
 have := UW l3
 have := UW l4
 have := X0J h1
 unfold X2f
 simp only [List.length_cons, List.length_append]
 omega
end Go.Fw
namespace Go.Fw
open Go
set_option linter.unusedVariables false
def X0c (p : Prp) : List UInt8 := YU p.key ++ X1Z p.v
def Va {α : Type} (w : α → List UInt8) (l : List α) : List UInt8 := Ub l.length ++ (l.map w).flatten
def X3b (n : Nod) : List UInt8 := Ub n.id ++ (Va YU n.labels ++ Va X0c n.props)
def X2r (e : Edg) : List UInt8 := Ub e.id ++ (Ub e.src ++ (Ub e.dst ++ (YU e.typ ++ Va X0c e.props)))
structure Rd where
 k : Nat
 c : List UInt8
 a : Int
 e : Int
def Rd.put (s : Rd) (a e : Int) : Rd := ⟨s.k, s.c, a, e⟩
end Go.Fw
namespace Go.Fw
open Go
set_option linter.unusedVariables false
set_option linter.unusedSimpArgs false
structure At (b : List UInt8) (q : Nat) (w : List UInt8) : Prop where
 le : q ≤ b.length
 eq : b.drop q = w
theorem At.step {b : List UInt8} {q : Nat} {u w : List UInt8} (h : At b q (u ++ w)) : At b (q + u.length) w := by
 have h1 := congrArg List.length h.eq
 simp only [List.length_drop, List.length_append] at h1
 refine ⟨by have := h.le; omega, ?_⟩
 rw [← List.drop_drop, h.eq, List.drop_left]
theorem At.split {b : List UInt8} {q : Nat} {u w : List UInt8} (h : At b q (u ++ w)) : b = b.take q ++ u ++ w ∧ (b.take q).length = q := by
 refine ⟨?_, by have := h.le; simp; omega⟩
 rw [List.append_assoc, ← h.eq, List.take_append_drop]
theorem At.cons {b : List UInt8} {q : Nat} {c : UInt8} {w : List UInt8} (h : At b q (c :: w)) : b[q]? = some c ∧ At b (q + 1) w := by
 refine ⟨?_, At.step (u := [c]) h⟩
 have := congrArg (·[0]?) h.eq
 simpa using this
theorem At.eqv {b : List UInt8} {q q' : Nat} {w w' : List UInt8} (h : At b q w) (hq : q = q') (hw : w = w') : At b q' w' := hq ▸ hw ▸ h
end Go.Fw
namespace Go.Fw
open Go
set_option linter.unusedVariables false
set_option linter.unusedSimpArgs false
def okN (n : Int) : Prop := 0 ≤ n ∧ n ≤ 9223372036854775807
def okP (p : Prp) : Prop := p.key.length ≤ 20 ∧ X6 8 p.v = true
def okL {α : Type} (ok : α → Prop) (l : List α) : Prop := (∀ x ∈ l, ok x) ∧ l.length ≤ 9223372036854775807
def X8j (n : Nod) : Prop := okN n.id ∧ okL (fun s => s.length ≤ 20) n.labels ∧ okL okP n.props
def X6U (e : Edg) : Prop := okN e.id ∧ okN e.src ∧ okN e.dst ∧ e.typ.length ≤ 20 ∧ okL okP e.props
end Go.Fw
namespace Go.Fw
open Go
set_option linter.unusedVariables false
set_option linter.unusedSimpArgs false
theorem X1L {α : Type} {w : α → List UInt8} {k : Nat} : ∀ {l : List α}, (∀ x ∈ l, (w x).length ≤ k) → (l.map w).flatten.length ≤ k * l.length
 | [], _ => by simp
 | x :: r, h => by
  have h1 := h x (by simp)
  have h2 := X1L (l := r) fun y hy => h y (by simp [hy])
  simp only [List.map_cons, List.flatten_cons, List.length_append, List.length_cons, Nat.mul_add, Nat.mul_one]
  omega
theorem X0W {s : List UInt8} (h : Xg s = true) : s.length ≤ 20 := by
 unfold Xg at h
 simp only [Bool.and_eq_true, decide_eq_true_eq] at h
 exact h.1.1.2
theorem X1Q {v : Val} (h : XJ v = true) : X6 8 v = true ∧ (v.kind = 1 ∨ v.kind = 2 ∨ v.kind = 4) := by
 unfold XJ X23 at h
 simp only [Bool.and_eq_true, decide_eq_true_eq] at h
 exact ⟨h.2, h.1⟩
theorem X7X {v : Val} (h : XJ v = true) : (X1Z v).length ≤ 111 := by
 obtain ⟨h1, h2⟩ := X1Q h
 unfold X1Z
 rw [if_pos h1]
 obtain ⟨k, n, d, s, l⟩ := v
 simp only [Val.kind] at h2
 exact X5F h1 (by omega) (by omega)
theorem X0M {ls : List (List UInt8)} {ps : List Prp} (h : Yf ls ps = 0) : (ls.length ≤ 8 ∧ ∀ s ∈ ls, s.length ≤ 20) ∧ ps.length ≤ 16 ∧ ∀ p ∈ ps, p.key.length ≤ 20 ∧ XJ p.v = true := by
 unfold Yf at h
 by_cases c1 : 8 < ls.length ∨ 16 < ps.length
 ·rw [if_pos c1] at h; simp at h
 rw [if_neg c1] at h
 by_cases c2 : ls.all Xg = false ∨ (ps.map Prp.key).all Xg = false
 ·rw [if_pos c2] at h; simp at h
 rw [if_neg c2] at h
 by_cases c3 : Yv ls = false ∨ Yv (ps.map Prp.key) = false
 ·rw [if_pos c3] at h; simp at h
 rw [if_neg c3] at h
 by_cases c4 : (ps.map Prp.v).all XJ = false
 ·rw [if_pos c4] at h; simp at h
 have e1 : ls.all Xg = true := by cases q : ls.all Xg <;> simp_all
 have e2 : (ps.map Prp.key).all Xg = true := by cases q : (ps.map Prp.key).all Xg <;> simp_all
 have e4 : (ps.map Prp.v).all XJ = true := by cases q : (ps.map Prp.v).all XJ <;> simp_all
 rw [List.all_eq_true] at e1 e2 e4
 refine ⟨⟨by omega, fun s hs => X0W (e1 s hs)⟩, by omega, fun p hp => ⟨X0W (e2 p.key (List.mem_map.2 ⟨p, hp, rfl⟩)), e4 p.v (List.mem_map.2 ⟨p, hp, rfl⟩)⟩⟩
theorem X3D {ps : List Prp} (hl : ps.length ≤ 16) (h : ∀ p ∈ ps, p.key.length ≤ 20 ∧ XJ p.v = true) : okL okP ps ∧ (Va X0c ps).length ≤ 2266 := by
 refine ⟨⟨fun p hp => ⟨(h p hp).1, (X1Q (h p hp).2).1⟩, by omega⟩, ?_⟩
 unfold Va
 have h1 := VH (n := (ps.length : Nat)) (by omega)
 have h2 := X1L (w := X0c) (k := 141) (l := ps) fun p hp => by
  unfold X0c
  have a := UW (h p hp).1
  have b := X7X (h p hp).2
  simp only [List.length_append]
  omega
 simp only [List.length_append]
 omega
theorem X7j {ls : List (List UInt8)} (hl : ls.length ≤ 8) (h : ∀ s ∈ ls, s.length ≤ 20) : okL (fun s : List UInt8 => s.length ≤ 20) ls ∧ (Va YU ls).length ≤ 250 := by
 refine ⟨⟨h, by omega⟩, ?_⟩
 unfold Va
 have h1 := VH (n := (ls.length : Nat)) (by omega)
 have h2 := X1L (w := YU) (k := 30) (l := ls) fun s hs => by have := UW (h s hs); omega
 simp only [List.length_append]
 omega
theorem X5G {nn : Int} {p : Option Nod} {n : Nod} (h : YK nn p n = 0) : 1 ≤ n.id ∧ n.id < nn ∧ Yf n.labels n.props = 0 := by
 unfold YK at h
 by_cases c1 : ∃ q, p = some q ∧ n.id ≤ q.id
 ·rw [if_pos c1] at h; simp at h
 rw [if_neg c1] at h
 by_cases c2 : n.id < 1 ∨ nn ≤ n.id
 ·rw [if_pos c2] at h; simp at h
 rw [if_neg c2] at h
 exact ⟨by omega, by omega, h⟩
theorem X1B {nn : Int} : ∀ (l : List Nod) (p : Option Nod), Yl nn p l = 0 → ∀ n ∈ l, 1 ≤ n.id ∧ n.id < nn ∧ Yf n.labels n.props = 0
 | [], _, _, n, h => by simp at h
 | x :: r, p, h, n, hn => by
  rw [Yl] at h
  have h0 : YK nn p x = 0 := by
   by_cases h0 : YK nn p x = 0
   ·exact h0
   ·rw [if_pos h0] at h; exact absurd h h0
  rw [h0, if_neg (by simp)] at h
  rcases List.mem_cons.1 hn with rfl | hn
  ·exact X5G h0
  ·exact X1B r _ h n hn
theorem X8F {ns : List Nod} {ne : Int} {p : Option Edg} {e : Edg} (h : U4 ns ne p e = 0) : 1 ≤ e.id ∧ e.id < ne ∧ XO ns e.src = true ∧ XO ns e.dst = true ∧ Xg e.typ = true ∧ Yf [] e.props = 0 := by
 unfold U4 at h
 by_cases c1 : ∃ q, p = some q ∧ e.id ≤ q.id
 ·rw [if_pos c1] at h; simp at h
 rw [if_neg c1] at h
 by_cases c2 : e.id < 1 ∨ ne ≤ e.id
 ·rw [if_pos c2] at h; simp at h
 rw [if_neg c2] at h
 by_cases c3 : XO ns e.src = false ∨ XO ns e.dst = false
 ·rw [if_pos c3] at h; simp at h
 rw [if_neg c3] at h
 by_cases c4 : Xg e.typ = false
 ·rw [if_pos c4] at h; simp at h
 rw [if_neg c4] at h
 simp only [not_or, Bool.not_eq_false] at c3 c4
 exact ⟨by omega, by omega, c3.1, c3.2, c4, h⟩
theorem X1a {ns : List Nod} {ne : Int} : ∀ (l : List Edg) (p : Option Edg), U8 ns ne p l = 0 → ∀ e ∈ l, 1 ≤ e.id ∧ e.id < ne ∧ XO ns e.src = true ∧ XO ns e.dst = true ∧ Xg e.typ = true ∧ Yf [] e.props = 0
 | [], _, _, n, h => by simp at h
 | x :: r, p, h, n, hn => by
  rw [U8] at h
  have h0 : U4 ns ne p x = 0 := by
   by_cases h0 : U4 ns ne p x = 0
   ·exact h0
   ·rw [if_pos h0] at h; exact absurd h h0
  rw [h0, if_neg (by simp)] at h
  rcases List.mem_cons.1 hn with rfl | hn
  ·exact X8F h0
  ·exact X1a r _ h n hn
structure GraOk (g : Gra) : Prop where
 nl : g.nodes.length ≤ 2000
 el : g.edges.length ≤ 4000
 nn : 1 ≤ g.nn ∧ g.nn ≤ 1000001
 ne : 1 ≤ g.ne ∧ g.ne ≤ 1000001
 nodes : ∀ n ∈ g.nodes, X8j n ∧ (X3b n).length ≤ 2526
 edges : ∀ e ∈ g.edges, X6U e ∧ (X2r e).length ≤ 2326
theorem X5H {g : Gra} (h : Ya g = 0) : GraOk g := by
 unfold Ya at h
 by_cases c1 : 2000 < g.nodes.length ∨ 4000 < g.edges.length
 ·rw [if_pos c1] at h; simp at h
 rw [if_neg c1] at h
 by_cases c2 : g.nn < 1 ∨ 1000001 < g.nn ∨ g.ne < 1 ∨ 1000001 < g.ne
 ·rw [if_pos c2] at h; simp at h
 rw [if_neg c2] at h
 by_cases c3 : Yl g.nn none g.nodes ≠ 0
 ·rw [if_pos c3] at h; exact absurd h c3
 rw [if_neg c3] at h
 have c3 : Yl g.nn none g.nodes = 0 := by simpa using c3
 have hn := X1B _ _ c3
 have he := X1a _ _ h
 have hid : ∀ i, XO g.nodes i = true → 1 ≤ i ∧ i < g.nn := by
  intro i hi
  unfold XO at hi
  rw [List.any_eq_true] at hi
  obtain ⟨x, hx, e⟩ := hi
  have := hn x hx
  simp only [decide_eq_true_eq] at e
  omega
 refine ⟨by omega, by omega, by omega, by omega, fun n q => ?_, fun e q => ?_⟩
 ·obtain ⟨h1, h2, h3⟩ := hn n q
  obtain ⟨⟨p1, p2⟩, p3, p4⟩ := X0M h3
  obtain ⟨a1, a2⟩ := X3D p3 p4
  obtain ⟨b1, b2⟩ := X7j p1 p2
  refine ⟨⟨⟨by omega, by omega⟩, b1, a1⟩, ?_⟩
  have := VH (n := n.id) (by omega)
  unfold X3b
  simp only [List.length_append]
  omega
 ·obtain ⟨h1, h2, h3, h4, h5, h6⟩ := he e q
  obtain ⟨_, p3, p4⟩ := X0M h6
  obtain ⟨a1, a2⟩ := X3D p3 p4
  have s1 := hid _ h3
  have s2 := hid _ h4
  refine ⟨⟨⟨by omega, by omega⟩, ⟨by omega, by omega⟩, ⟨by omega, by omega⟩, X0W h5, a1⟩, ?_⟩
  have := VH (n := e.id) (by omega)
  have := VH (n := e.src) (by omega)
  have := VH (n := e.dst) (by omega)
  have := UW (X0W h5)
  unfold X2r
  simp only [List.length_append]
  omega
theorem X2M : ∀ (l : List Rul) (p : Option Rul), Ym p l = true → ∀ r ∈ l, Yy r = 0
 | [], _, _, r, h => by simp at h
 | x :: l, p, h, r, hr => by
  rw [Ym] at h
  simp only [Bool.and_eq_true, decide_eq_true_eq] at h
  rcases List.mem_cons.1 hr with rfl | hr
  ·exact h.1.1
  ·exact X2M l _ h.2 r hr
theorem X29 {l : List Rul} (h : Y1 l = true) : l.length ≤ 40 ∧ ∀ r ∈ l, Yy r = 0 ∧ (X3A r).length ≤ 200 := by
 unfold Y1 at h
 simp only [Bool.and_eq_true, decide_eq_true_eq] at h
 refine ⟨h.2, fun r hr => ?_⟩
 have := X2M _ _ h.1 r hr
 refine ⟨this, ?_⟩
 unfold X3A
 rw [if_pos this]
 exact X7I this
end Go.Fw
namespace Go.Fw
open Go Go.Proofs
set_option maxRecDepth 100000
set_option linter.unusedVariables false
set_option linter.unusedSimpArgs false
theorem X6d {l : List (List UInt8)} {i : Nat} {a b : List UInt8} (ha : l[i]? = some a) (hb : l[i + 1]? = some b) : Yv (l.drop i) = (!(Op.bytesLess b a || decide (b = a)) && Yv (l.drop (i + 1))) := by
 obtain ⟨hi, rfl⟩ := List.getElem?_eq_some_iff.1 ha
 obtain ⟨hi', rfl⟩ := List.getElem?_eq_some_iff.1 hb
 rw [List.drop_eq_getElem_cons hi, List.drop_eq_getElem_cons hi', Yv]
theorem X7z {l : List (List UInt8)} {i : Nat} (h : l.length ≤ i + 1) : Yv (l.drop i) = true := by
 match hd : l.drop i with
 | [] => rfl
 | [a] => rfl
 | a :: b :: r =>
  have := congrArg List.length hd
  simp only [List.length_drop, List.length_cons] at this
  omega
theorem X4x (l : List (List UInt8)) (hl : l.length ≤ 9223372036854775807) : Con Try.prog 38 [] [.d (.sl 1 (l.map Xo))] [] (ab (Yv l)) := by
 refine Xf (xs := [ab (Yv l)]) Try.func38 rfl Try.ntmps38 rfl rfl rfl (fun E => ?_)
 have hlm : (l.map Xo).length = l.length := by simp
 generalize hG : Yv l = G
 refine X0 ?_; refine JR ?_; refine Z0 ?_; refine JD ?_; refine X0 ?_; refine X0 ?_; refine JR ?_; refine Z0 ?_; refine JD ?_; refine X4 ?_
 refine XD (fun i : Nat => 1 ≤ i ∧ i ≤ l.length + 1 ∧ Yv (l.drop (i - 1)) = G) (fun i => ⟨20, [(0, .d (.sl 1 (l.map Xo))), (3, ai i)], []⟩) (fun i => l.length - i) 1 ⟨by omega, by omega, by simpa using hG⟩
  (X8 rfl ⟨JL, JL, trivial⟩ trivial) ?_
 rintro i ⟨hi, hi2, hg⟩
 by_cases hil : i < l.length
 case neg =>
  have hn : ¬ (i : Int) < (l.map Xo).length := by omega
  have hT : G = true := by rw [← hg, X7z (by omega)]
  subst hT
  refine X0 ?_; refine X0 ?_; refine JR ?_; refine Z1 ?_; refine Z1 ?_; refine Zw ?_; refine Ze ?_; refine JD ?_; refine JF ?_; refine Xz ?_; refine X0 ?_; refine JR ?_; refine Z0 ?_; refine JD ?_
  exact X1 ⟨_, St.le_refl _, ⟨rfl, trivial⟩, X2 _⟩
 have hn : (i : Int) < (l.map Xo).length := by omega
 obtain ⟨j, rfl⟩ : ∃ j, i = j + 1 := ⟨i - 1, by omega⟩
 rw [Nat.add_sub_cancel] at hg
 obtain ⟨x, hx⟩ := Xs (l := l) hil
 obtain ⟨y, hy⟩ := Xs (l := l) (k := j) (by omega)
 have hxc : (l.map Xo)[j + 1]? = some (Xo x) := Xw hx
 have hyc : (l.map Xo)[j]? = some (Xo y) := Xw hy
 rw [X6d hy hx] at hg
 cases hq : (Op.bytesLess x y || decide (x = y)) with
 | false =>
  rw [hq] at hg
  simp only [Bool.not_false, Bool.true_and] at hg
  refine X0 ?_; refine X0 ?_; refine JR ?_; refine Z1 ?_; refine Z1 ?_; refine Zw ?_; refine Ze ?_; refine JD ?_; refine JT ?_; refine X3 ?_; refine X0 ?_; refine X4 ?_; refine X0 ?_
  refine JR ?_; refine Z1 ?_; refine Z1 ?_; refine Zy ?_; refine ZC ?_; refine Z1 ?_; refine Z1 ?_
  refine ZB (op := .sub) (r' := .int .i64 ((j : Nat) : Int)) (u := .int .i64 ((j + 1 : Nat) : Int)) (v := .int .i64 1) ?_ (hr' := by exact congrArg (Value.int .i64) (show (((j + 1 : Nat) : Int) - 1) = (j : Int) by omega)) (hr := by exact Yb (by unfold XV; omega))
  refine Zy ?_; refine ZC ?_; refine ZF ?_; refine JD ?_; refine JF ?_; refine X3 ?_; refine JR ?_; refine Z1 ?_; refine Zf ?_; refine Z0 ?_; refine JD ?_
  exact ⟨j + 1 + 1, ⟨by omega, by omega, by rw [Nat.add_sub_cancel]; exact hg⟩, by omega, X8 rfl ⟨JL, JL, trivial⟩ trivial⟩
 | true =>
  rw [hq] at hg
  simp only [Bool.not_true, Bool.false_and] at hg
  subst hg
  refine X0 ?_; refine X0 ?_; refine JR ?_; refine Z1 ?_; refine Z1 ?_; refine Zw ?_; refine Ze ?_; refine JD ?_; refine JT ?_; refine X3 ?_; refine X0 ?_; refine X4 ?_; refine X0 ?_
  refine JR ?_; refine Z1 ?_; refine Z1 ?_; refine Zy ?_; refine ZC ?_; refine Z1 ?_; refine Z1 ?_
  refine ZB (op := .sub) (r' := .int .i64 ((j : Nat) : Int)) (u := .int .i64 ((j + 1 : Nat) : Int)) (v := .int .i64 1) ?_ (hr' := by exact congrArg (Value.int .i64) (show (((j + 1 : Nat) : Int) - 1) = (j : Int) by omega)) (hr := by exact Yb (by unfold XV; omega))
  refine Zy ?_; refine ZC ?_; refine ZF ?_; refine JD ?_; refine JT ?_; refine X0 ?_; refine JR ?_; refine Z0 ?_; refine JD ?_
  exact X1 ⟨_, St.le_refl _, ⟨rfl, trivial⟩, X2 _⟩
theorem X5Y (s : List UInt8) : Con Try.prog 37 [] [.d (.v (.string (X5 s)))] [] (ab (!Xg s)) := by
 refine Xf (xs := [ab (!Xg s)]) Try.func37 rfl Try.ntmps37 rfl rfl rfl (fun E => ?_)
 have hn := Vm s
 refine X0 ?_; refine JR ?_; refine Z0 ?_; refine JD ?_; refine X0 ?_; refine JR ?_; refine Z1 ?_; refine Zc (hcon := hn) ?_; refine Zd ?_; refine Z0 ?_; refine JD ?_
 exact X1 ⟨_, St.le_refl _, ⟨rfl, trivial⟩, X2 _⟩
def YR : List (List UInt8) → Nat → Int
 | [], _ => -1
 | s :: r, i => if Xg s = false then (i : Int) else YR r (i + 1)
theorem X6M {l : List (List UInt8)} {i : Nat} {x : List UInt8} (h : l[i]? = some x) : YR (l.drop i) i = if Xg x = false then (i : Int) else YR (l.drop (i + 1)) (i + 1) := by
 obtain ⟨hi, rfl⟩ := List.getElem?_eq_some_iff.1 h
 rw [List.drop_eq_getElem_cons hi, YR]
theorem X4p : ∀ (l : List (List UInt8)) (i : Nat), decide (YR l i ≥ 0) = !l.all Xg
 | [], i => by simp [YR]
 | s :: r, i => by
  rw [YR, List.all_cons]
  cases h : Xg s with
  | false => simp
  | true => simp [X4p r (i + 1)]
theorem X8d (l : List (List UInt8)) (hl : l.length ≤ 9223372036854775807) : Con Try.prog 50 [] [.d (.sl 1 (l.map Xo)), .fn 37 []] [] (ai (YR l 0)) := by
 refine Xf (xs := [ai (YR l 0)]) Try.func50 rfl Try.ntmps50 rfl rfl rfl (fun E => ?_)
 have hlm : (l.map Xo).length = l.length := by simp
 generalize hG : YR l 0 = G
 refine X0 ?_; refine JR ?_; refine Z0 ?_; refine JD ?_; refine X0 ?_; refine X0 ?_; refine JR ?_; refine Z1 ?_; refine Zw ?_; refine Z1 ?_; refine JD ?_; refine X4 ?_
 refine XD (fun i : Nat => i ≤ l.length ∧ YR (l.drop i) i = G) (fun i => ⟨19, [(0, .d (.sl 1 (l.map Xo))), (1, .fn 37 []), (7, ai (l.map Xo).length), (8, ai i)], []⟩) (fun i => l.length - i) 0 ⟨by omega, by simpa using hG⟩
  (X8 rfl ⟨JL, JL, JL, JL, trivial⟩ trivial) ?_
 rintro i ⟨hi, hg⟩
 by_cases hil : i < l.length
 case neg =>
  have hn : ¬ (i : Int) < (l.map Xo).length := by omega
  rw [List.drop_of_length_le (by omega), YR] at hg
  subst hg
  refine X0 ?_; refine JR ?_; refine Ze ?_; refine JD ?_; refine X0 ?_; refine JF ?_; refine Xz ?_; refine X0 ?_; refine JR ?_; refine Z0 ?_; refine JD ?_
  exact X1 ⟨_, St.le_refl _, ⟨rfl, trivial⟩, X2 _⟩
 have hn : (i : Int) < (l.map Xo).length := by omega
 obtain ⟨x, hx⟩ := Xs (l := l) hil
 have hxc : (l.map Xo)[i]? = some (Xo x) := Xw hx
 have hu := X5Y x
 rw [X6M hx] at hg
 cases hq : Xg x with
 | true =>
  rw [hq] at hg hu
  simp only [Bool.true_eq_false, if_false] at hg
  refine X0 ?_; refine JR ?_; refine Ze ?_; refine JD ?_; refine X0 ?_; refine JT ?_; refine X3 ?_; refine X0 ?_; refine X4 ?_; refine X0 ?_; refine JR ?_; refine Z1 ?_; refine Z0 ?_
  refine JD ?_; refine X0 ?_; refine JR ?_; refine Z1 ?_; refine Z1 ?_; refine Z1 ?_; refine Zy ?_; refine ZC ?_; refine Zt (hcon := hu) ?_; refine JD ?_; refine JF ?_; refine X3 ?_; refine JR ?_; refine Zf ?_
  refine Z1 ?_; refine JD ?_
  exact ⟨i + 1, ⟨by omega, hg⟩, by omega, X8 rfl ⟨JL, JL, JL, JL, trivial⟩ trivial⟩
 | false =>
  rw [hq] at hg hu
  simp only [if_true] at hg
  subst hg
  refine X0 ?_; refine JR ?_; refine Ze ?_; refine JD ?_; refine X0 ?_; refine JT ?_; refine X3 ?_; refine X0 ?_; refine X4 ?_; refine X0 ?_; refine JR ?_; refine Z1 ?_; refine Z0 ?_
  refine JD ?_; refine X0 ?_; refine JR ?_; refine Z1 ?_; refine Z1 ?_; refine Z1 ?_; refine Zy ?_; refine ZC ?_; refine Zt (hcon := hu) ?_; refine JD ?_; refine JT ?_; refine X0 ?_; refine JR ?_; refine Z1 ?_
  refine Z0 ?_; refine JD ?_
  exact X1 ⟨_, St.le_refl _, ⟨rfl, trivial⟩, X2 _⟩
theorem X2t (l : List (List UInt8)) (hl : l.length ≤ 9223372036854775807) : Con Try.prog 36 [] [.d (.sl 1 (l.map Xo)), .fn 37 []] [] (ab (!l.all Xg)) := by
 refine Xf (xs := [ab (!l.all Xg)]) Try.func36 rfl Try.ntmps36 rfl rfl rfl (fun E => ?_)
 have hi := X8d l hl
 rw [← X4p l 0]
 generalize YR l 0 = q at *
 refine X0 ?_; refine JR ?_; refine Z0 ?_; refine JD ?_; refine X0 ?_; refine JR ?_; refine Z1 ?_; refine Z1 ?_; refine Zc (hcon := hi) ?_; refine Z2 ?_; refine Z0 ?_; refine JD ?_
 exact X1 ⟨_, St.le_refl _, ⟨rfl, trivial⟩, X2 _⟩
theorem X37 {α : Type} {p : α → Bool} {l : List α} {i : Nat} {x : α} (h : l[i]? = some x) : (l.drop i).all p = (p x && (l.drop (i + 1)).all p) := by
 obtain ⟨hi, rfl⟩ := List.getElem?_eq_some_iff.1 h
 rw [List.drop_eq_getElem_cons hi, List.all_cons]
end Go.Fw

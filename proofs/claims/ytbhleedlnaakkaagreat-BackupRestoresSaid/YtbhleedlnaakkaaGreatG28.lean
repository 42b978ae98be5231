/- The check of a rule: the reference's. -/
import Derived.Test.YtbhleedlnaakkaaGreatG20
import Derived.Test.YtbhleedlnaakkaaGreatG27
set_option maxHeartbeats 32000000
namespace Go.Fw
open Go Go.Proofs
set_option maxRecDepth 100000
set_option linter.unusedVariables false
set_option linter.unusedSimpArgs false
theorem Xeh (n : Int) : Con Tryz.prog 85 [] [ai n] [] (ab (V2 n)) := by
 refine X9 (xs := [ab (V2 n)]) Tryz.func85 rfl Tryz.ntmps85 rfl rfl rfl (fun E => ?_)
 by_cases h1 : 1 ≤ n
 ·by_cases h2 : n ≤ 5
  ·rw [show V2 n = true by unfold V2; exact decide_eq_true ⟨h1, h2⟩]
   refine X0 ?_; refine JR ?_; refine Z0 ?_; refine JD ?_; refine X0 ?_; refine JR ?_; refine Z1 ?_; refine Z2 ?_; refine Z1 ?_; refine Z1 ?_; refine Zm ?_; refine Zn ?_; refine Z0 ?_; refine JD ?_
   first | exact X1 ⟨_, St.le_refl _, ⟨rfl, trivial⟩, X3 _⟩ | exact X1 ⟨_, Xh 2 (y := ab true) (AVal.le_of_eq (by refine Eq.trans (b := ab (decide _)) rfl ?_; exact congrArg ab (by simp; omega))), ⟨rfl, trivial⟩, X3 _⟩ | fail
  ·rw [show V2 n = false by unfold V2; exact decide_eq_false (by omega)]
   refine X0 ?_; refine JR ?_; refine Z0 ?_; refine JD ?_; refine X0 ?_; refine JR ?_; refine Z1 ?_; refine Z2 ?_; refine Z1 ?_; refine Z1 ?_; refine Zm ?_; refine Zn ?_; refine Z0 ?_; refine JD ?_
   first | exact X1 ⟨_, St.le_refl _, ⟨rfl, trivial⟩, X3 _⟩ | exact X1 ⟨_, Xh 2 (y := ab false) (AVal.le_of_eq (by refine Eq.trans (b := ab (decide _)) rfl ?_; exact congrArg ab (by simp; omega))), ⟨rfl, trivial⟩, X3 _⟩ | fail
 ·rw [show V2 n = false by unfold V2; exact decide_eq_false (by omega)]
  refine X0 ?_; refine JR ?_; refine Z0 ?_; refine JD ?_; refine X0 ?_; refine JR ?_; refine Z1 ?_; refine Z2 ?_; refine Z1 ?_; refine Zo ?_; refine Zo ?_; refine Zq ?_; refine Z0 ?_; refine JD ?_
  first | exact X1 ⟨_, St.le_refl _, ⟨rfl, trivial⟩, X3 _⟩ | exact X1 ⟨_, Xh 2 (y := ab false) (AVal.le_of_eq (by refine Eq.trans (b := ab (decide _)) rfl ?_; exact congrArg ab (by simp; omega))), ⟨rfl, trivial⟩, X3 _⟩ | fail
theorem XfR (k n : Int) (name key src dst : List UInt8) : Con Tryz.prog 84 [] [X8Z k n name key src dst] [] (ab (Vf k n)) := by
 refine X9 (xs := [ab (Vf k n)]) Tryz.func84 rfl Tryz.ntmps84 rfl rfl rfl (fun E => ?_)
 by_cases k3 : k = 3
 ·subst k3
  rw [show Vf 3 n = decide (n = 1 ∨ n = 2 ∨ n = 4) from rfl]
  by_cases n1 : n = 1
  ·subst n1
   repeat first | refine X0 ?_ | (refine JR ?_; (repeat first | refine Z1 ?_ | refine Z0 ?_ | refine ZB ?_ | refine ZC ?_ | refine Zl ?_ | refine ZA (γ := 100) ?_ | refine Zn ?_ | refine Zo ?_); refine JD ?_) | refine JT ?_
   first | exact X1 ⟨_, St.le_refl _, ⟨rfl, trivial⟩, X3 _⟩ | exact X1 ⟨_, Xh 2 (y := ab true) (AVal.le_of_eq (by refine Eq.trans (b := ab (decide _)) rfl ?_; exact congrArg ab (by simp; omega))), ⟨rfl, trivial⟩, X3 _⟩ | fail
  by_cases n2 : n = 2
  ·subst n2
   repeat first | refine X0 ?_ | (refine JR ?_; (repeat first | refine Z1 ?_ | refine Z0 ?_ | refine ZB ?_ | refine ZC ?_ | refine Zl ?_ | refine ZA (γ := 100) ?_ | refine Zn ?_ | refine Zq ?_ | refine Zo ?_); refine JD ?_) | refine JT ?_
   first | exact X1 ⟨_, St.le_refl _, ⟨rfl, trivial⟩, X3 _⟩ | exact X1 ⟨_, Xh 2 (y := ab true) (AVal.le_of_eq (by refine Eq.trans (b := ab (decide _)) rfl ?_; exact congrArg ab (by simp; omega))), ⟨rfl, trivial⟩, X3 _⟩ | fail
  by_cases n4 : n = 4
  ·subst n4
   repeat first | refine X0 ?_ | (refine JR ?_; (repeat first | refine Z1 ?_ | refine Z0 ?_ | refine ZB ?_ | refine ZC ?_ | refine Zl ?_ | refine ZA (γ := 100) ?_ | refine Zn ?_ | refine Zq ?_ | refine Zo ?_); refine JD ?_) | refine JT ?_
   first | exact X1 ⟨_, St.le_refl _, ⟨rfl, trivial⟩, X3 _⟩ | exact X1 ⟨_, Xh 2 (y := ab true) (AVal.le_of_eq (by refine Eq.trans (b := ab (decide _)) rfl ?_; exact congrArg ab (by simp; omega))), ⟨rfl, trivial⟩, X3 _⟩ | fail
  rw [decide_eq_false (show ¬ (n = 1 ∨ n = 2 ∨ n = 4) by omega)]
  repeat first | refine X0 ?_ | (refine JR ?_; (repeat first | refine Z1 ?_ | refine Z0 ?_ | refine ZB ?_ | refine ZC ?_ | refine Zl ?_ | refine ZA (γ := 100) ?_ | refine Zn ?_ | refine Zq ?_ | refine Zo ?_); refine JD ?_) | refine JT ?_
  first | exact X1 ⟨_, St.le_refl _, ⟨rfl, trivial⟩, X3 _⟩ | exact X1 ⟨_, Xh 2 (y := ab false) (AVal.le_of_eq (by refine Eq.trans (b := ab (decide _)) rfl ?_; exact congrArg ab (by simp; omega))), ⟨rfl, trivial⟩, X3 _⟩ | fail
 by_cases k5 : k = 5
 ·subst k5
  rw [show Vf 5 n = decide (n = 1 ∨ n = 2 ∨ n = 4) from rfl]
  by_cases n1 : n = 1
  ·subst n1
   repeat first | refine X0 ?_ | (refine JR ?_; (repeat first | refine Z1 ?_ | refine Z0 ?_ | refine ZB ?_ | refine ZC ?_ | refine Zl ?_ | refine ZA (γ := 100) ?_ | refine Zn ?_ | refine Zq ?_ | refine Zo ?_); refine JD ?_) | refine JT ?_
   first | exact X1 ⟨_, St.le_refl _, ⟨rfl, trivial⟩, X3 _⟩ | exact X1 ⟨_, Xh 2 (y := ab true) (AVal.le_of_eq (by refine Eq.trans (b := ab (decide _)) rfl ?_; exact congrArg ab (by simp; omega))), ⟨rfl, trivial⟩, X3 _⟩ | fail
  by_cases n2 : n = 2
  ·subst n2
   repeat first | refine X0 ?_ | (refine JR ?_; (repeat first | refine Z1 ?_ | refine Z0 ?_ | refine ZB ?_ | refine ZC ?_ | refine Zl ?_ | refine ZA (γ := 100) ?_ | refine Zn ?_ | refine Zq ?_ | refine Zo ?_); refine JD ?_) | refine JT ?_
   first | exact X1 ⟨_, St.le_refl _, ⟨rfl, trivial⟩, X3 _⟩ | exact X1 ⟨_, Xh 2 (y := ab true) (AVal.le_of_eq (by refine Eq.trans (b := ab (decide _)) rfl ?_; exact congrArg ab (by simp; omega))), ⟨rfl, trivial⟩, X3 _⟩ | fail
  by_cases n4 : n = 4
  ·subst n4
   repeat first | refine X0 ?_ | (refine JR ?_; (repeat first | refine Z1 ?_ | refine Z0 ?_ | refine ZB ?_ | refine ZC ?_ | refine Zl ?_ | refine ZA (γ := 100) ?_ | refine Zq ?_); refine JD ?_) | refine JT ?_
   first | exact X1 ⟨_, St.le_refl _, ⟨rfl, trivial⟩, X3 _⟩ | exact X1 ⟨_, Xh 2 (y := ab true) (AVal.le_of_eq (by refine Eq.trans (b := ab (decide _)) rfl ?_; exact congrArg ab (by simp; omega))), ⟨rfl, trivial⟩, X3 _⟩ | fail
  rw [decide_eq_false (show ¬ (n = 1 ∨ n = 2 ∨ n = 4) by omega)]
  repeat first | refine X0 ?_ | (refine JR ?_; (repeat first | refine Z1 ?_ | refine Z0 ?_ | refine ZB ?_ | refine ZC ?_ | refine Zl ?_ | refine ZA (γ := 100) ?_ | refine Zq ?_); refine JD ?_) | refine JT ?_
  first | exact X1 ⟨_, St.le_refl _, ⟨rfl, trivial⟩, X3 _⟩ | exact X1 ⟨_, Xh 2 (y := ab false) (AVal.le_of_eq (by refine Eq.trans (b := ab (decide _)) rfl ?_; exact congrArg ab (by simp; omega))), ⟨rfl, trivial⟩, X3 _⟩ | fail
 by_cases k7 : k = 7
 ·subst k7
  rw [show Vf 7 n = decide (0 ≤ n ∧ n ≤ 4000) from rfl]
  by_cases h1 : 0 ≤ n
  ·by_cases h2 : n ≤ 4000
   ·rw [decide_eq_true (show 0 ≤ n ∧ n ≤ 4000 by omega)]
    repeat first | refine X0 ?_ | (refine JR ?_; (repeat first | refine Z1 ?_ | refine Z0 ?_ | refine ZB ?_ | refine ZC ?_ | refine Zm ?_ | refine Z2 ?_ | refine Zl ?_ | refine ZA (γ := 100) ?_ | refine Zn ?_ | refine Zq ?_); refine JD ?_) | refine JT ?_ | refine JF ?_ | refine X2 ?_
    first | exact X1 ⟨_, St.le_refl _, ⟨rfl, trivial⟩, X3 _⟩ | exact X1 ⟨_, Xh 2 (y := ab true) (AVal.le_of_eq (by refine Eq.trans (b := ab (decide _)) rfl ?_; exact congrArg ab (by simp; omega))), ⟨rfl, trivial⟩, X3 _⟩ | fail
   ·rw [decide_eq_false (show ¬ (0 ≤ n ∧ n ≤ 4000) by omega)]
    repeat first | refine X0 ?_ | (refine JR ?_; (repeat first | refine Z1 ?_ | refine Z0 ?_ | refine ZB ?_ | refine ZC ?_ | refine Zm ?_ | refine Z2 ?_ | refine Zl ?_ | refine ZA (γ := 100) ?_ | refine Zn ?_ | refine Zq ?_); refine JD ?_) | refine JT ?_ | refine JF ?_ | refine X2 ?_
    first | exact X1 ⟨_, St.le_refl _, ⟨rfl, trivial⟩, X3 _⟩ | exact X1 ⟨_, Xh 2 (y := ab false) (AVal.le_of_eq (by refine Eq.trans (b := ab (decide _)) rfl ?_; exact congrArg ab (by simp; omega))), ⟨rfl, trivial⟩, X3 _⟩ | fail
  ·rw [decide_eq_false (show ¬ (0 ≤ n ∧ n ≤ 4000) by omega)]
   repeat first | refine X0 ?_ | (refine JR ?_; (repeat first | refine Z1 ?_ | refine Z0 ?_ | refine ZB ?_ | refine ZC ?_ | refine Z2 ?_ | refine Zl ?_ | refine ZA (γ := 100) ?_ | refine Zq ?_ | refine Zo ?_); refine JD ?_) | refine JT ?_ | refine JF ?_ | refine X2 ?_
   first | exact X1 ⟨_, St.le_refl _, ⟨rfl, trivial⟩, X3 _⟩ | exact X1 ⟨_, Xh 2 (y := ab false) (AVal.le_of_eq (by refine Eq.trans (b := ab (decide _)) rfl ?_; exact congrArg ab (by simp; omega))), ⟨rfl, trivial⟩, X3 _⟩ | fail
 rw [show Vf k n = decide (n = 0) by unfold Vf; rw [if_neg (by omega), if_neg k7]]
 repeat first | refine X0 ?_ | (refine JR ?_; (repeat first | refine Z1 ?_ | refine Z0 ?_ | refine ZB ?_ | refine ZC ?_ | refine Zl ?_ | refine ZA (γ := 100) ?_ | refine Zq ?_); refine JD ?_) | refine JF ?_ | refine X2 ?_
 first | exact X1 ⟨_, St.le_refl _, ⟨rfl, trivial⟩, X3 _⟩ | exact X1 ⟨_, Xh 2 (y := ab (decide (n = 0))) (AVal.le_of_eq rfl), ⟨rfl, trivial⟩, X3 _⟩ | fail
theorem X78 (r : Rul) : Con Tryz.prog 32 [] [XW r] [] (ai (YW r)) := by
 rw [X5G]
 obtain ⟨k, n, name, key, src, dst⟩ := r
 simp only [XW]
 have hn := X3P name
 have hk := X3P key
 have hs := X3P src
 have hd := X3P dst
 have ht := XfR k n name key src dst
 have hf := Xeh k
 generalize XG name = vn at *
 generalize XG key = vk at *
 generalize XG src = vs at *
 generalize XG dst = vd at *
 refine X9 (xs := [ai (X17 k (Vf k n) key src dst vn vk vs vd)]) Tryz.func32 rfl Tryz.ntmps32 rfl rfl rfl (fun E => ?_)
 generalize Vf k n = nb at *
 generalize hkd : V2 k = kd at *
 have hkd1 : 1 ≤ k → k ≤ 5 → kd = true := fun h1 h2 => by rw [← hkd]; exact decide_eq_true (by omega)
 have hkd2 : 5 < k → kd = false := fun h1 => by rw [← hkd]; exact decide_eq_false (by omega)
 obtain ⟨r, hr⟩ : ∃ r, r = X17 k nb key src dst vn vk vs vd := ⟨_, rfl⟩
 rw [← hr]
 unfold X17 at hr
 rw [hkd] at hr
 by_cases hkk : 1 ≤ k ∧ k ≤ 7
 case neg =>
  rw [decide_eq_false hkk, if_pos (.inl rfl)] at hr
  subst hr
  clear hkd hkd1 hkd2
  refine X0 ?_; refine JR ?_; refine ZA (γ := 100) ?_; refine Z0 ?_; refine JD ?_; refine X0 ?_; refine X0 ?_; refine JR ?_; refine ZB ?_; refine ZC ?_; refine Z8 ?_; refine Z1 ?_
  refine Yq rfl rfl (fun hq => ?_) (fun hq => ?_); refine Zo ?_; refine Zo ?_; refine Zo ?_; refine Zn ?_; refine Z1 ?_; refine Zo ?_; refine Zo ?_; refine Zo ?_; refine Zn ?_; refine JD ?_; refine JT ?_
  refine X0 ?_; refine JR ?_; refine Z0 ?_; refine JD ?_; exact X1 ⟨_, St.le_refl _, ⟨rfl, trivial⟩, X3 _⟩; refine ZB ?_; refine ZC ?_; refine Zs ?_; refine Zq ?_; refine Z1 ?_; refine Zo ?_; refine Zo ?_
  refine Zo ?_; refine Zn ?_; refine JD ?_; refine JT ?_; refine X0 ?_; refine JR ?_; refine Z0 ?_; refine JD ?_; exact X1 ⟨_, St.le_refl _, ⟨rfl, trivial⟩, X3 _⟩
 rw [decide_eq_true hkk] at hr
 clear hkd hkd1 hkd2
 refine X0 ?_; refine JR ?_; refine ZA (γ := 100) ?_; refine Z0 ?_; refine JD ?_; refine X0 ?_; refine X0 ?_; refine JR ?_; refine ZB ?_; refine ZC ?_; refine Z8 ?_; refine Z1 ?_; refine ZB ?_; refine ZC ?_
 refine Zs ?_; refine Zq ?_; refine Z1 ?_; refine ZL ?_; refine Z9 (hcon := ht) ?_; refine Zu ?_; refine Zq ?_; refine JD ?_; refine Yw rfl (fun hq => ?_) (fun hq => ?_); refine X0 ?_; refine JR ?_
 refine Z0 ?_; refine JD ?_; (clear hf ht hn hk hs hd; simp [*] at hr; subst hr; exact X1 ⟨_, St.le_refl _, ⟨rfl, trivial⟩, X3 _⟩); refine X2 ?_; refine X0 ?_; refine X0 ?_; refine JR ?_
 refine ZB ?_; refine ZC ?_; refine Z9 (hcon := hf) ?_; refine Zu ?_; refine Z1 ?_; refine Va rfl rfl (fun hq => ?_) (fun hq => ?_); refine Zo ?_; refine Zo ?_; refine Zo ?_; refine Zq ?_; refine Z1 ?_
 refine ZB ?_; refine ZC ?_; refine Zv ?_; refine Z1 ?_; refine Yq rfl rfl (fun hq => ?_) (fun hq => ?_); refine ZB ?_; refine ZC ?_; refine ZM ?_; refine Z1 ?_; refine Yq rfl rfl (fun hq => ?_) (fun hq => ?_)
 refine Zo ?_; refine Zo ?_; refine Zo ?_; refine Zn ?_; refine Zn ?_; refine Zq ?_; refine JD ?_; refine JT ?_; refine X0 ?_; refine JR ?_; refine Z0 ?_; refine JD ?_
 (clear hf ht hn hk hs hd; simp [*] at hr; subst hr; exact X1 ⟨_, St.le_refl _, ⟨rfl, trivial⟩, X3 _⟩); refine ZB ?_; refine ZC ?_; refine ZM ?_; refine Zq ?_; refine Zn ?_; refine Zq ?_; refine JD ?_
 refine X0L rfl (fun hq => ?_) (fun hq => ?_); refine X0 ?_; refine JR ?_; refine Z0 ?_; refine JD ?_
 (clear hf ht hn hk hs hd; simp [*] at hr; subst hr; exact X1 ⟨_, St.le_refl _, ⟨rfl, trivial⟩, X3 _⟩); refine X2 ?_; refine X0 ?_; refine X0 ?_; refine JR ?_; refine ZB ?_; refine ZC ?_
 refine Z9 (hcon := hn) ?_; refine Zu ?_; refine Z1 ?_; refine Va rfl rfl (fun hq => ?_) (fun hq => ?_); refine ZB ?_; refine ZC ?_; refine Z9 (hcon := hf) ?_; refine Z1 ?_; refine ZB ?_; refine ZC ?_
 refine Z9 (hcon := hk) ?_; refine Zu ?_; refine Zn ?_; refine Zq ?_; refine Z1 ?_; refine Va rfl rfl (fun hq => ?_) (fun hq => ?_); refine ZB ?_; refine ZC ?_; refine ZM ?_; refine Z1 ?_; refine Zo ?_
 refine Zo ?_; refine Zo ?_; refine Zo ?_; refine Zq ?_; refine Zq ?_; refine Z1 ?_; refine ZB ?_; refine ZC ?_; refine ZM ?_; refine Z1 ?_; refine Zo ?_; refine Zo ?_; refine Zo ?_; refine Zo ?_; refine Zq ?_
 refine Zq ?_; refine JD ?_; refine JF ?_; refine X2 ?_; refine X0 ?_; refine JR ?_; refine Z0 ?_; refine JD ?_
 (clear hf ht hn hk hs hd; simp [*] at hr; subst hr; exact X1 ⟨_, St.le_refl _, ⟨rfl, trivial⟩, X3 _⟩); refine Zo ?_; refine Zo ?_; refine Zo ?_; refine Zo ?_; refine Zp ?_; refine Zp ?_; refine Zp ?_
 refine Zp ?_; refine Zo ?_; refine Zn ?_; refine Z1 ?_; refine Zo ?_; refine Zo ?_; refine Zo ?_; refine Zo ?_; refine Zp ?_; refine Zp ?_; refine Zp ?_; refine Zp ?_; refine Zo ?_; refine Zn ?_; refine JD ?_
 refine JT ?_; refine X0 ?_; refine JR ?_; refine Z0 ?_; refine JD ?_; (clear hf ht hn hk hs hd; simp [*] at hr; subst hr; exact X1 ⟨_, St.le_refl _, ⟨rfl, trivial⟩, X3 _⟩); refine Zo ?_; refine Zo ?_
 refine Zo ?_; refine Zo ?_; refine Zp ?_; refine Zp ?_; refine Zp ?_; refine Zp ?_; refine Zo ?_; refine Zn ?_; refine Z1 ?_; refine Zo ?_; refine Zo ?_; refine Zo ?_; refine Zo ?_; refine Zp ?_; refine Zp ?_
 refine Zp ?_; refine Zp ?_; refine Zo ?_; refine Zn ?_; refine Z1 ?_; refine Zo ?_; refine Zo ?_; refine Zo ?_; refine Zo ?_; refine Zp ?_; refine Zp ?_; refine Zp ?_; refine Zp ?_; refine Zo ?_; refine Zn ?_
 refine JD ?_; refine JT ?_; refine X0 ?_; refine JR ?_; refine Z0 ?_; refine JD ?_; (clear hf ht hn hk hs hd; simp [*] at hr; subst hr; exact X1 ⟨_, St.le_refl _, ⟨rfl, trivial⟩, X3 _⟩); refine Zo ?_
 refine Zo ?_; refine Zo ?_; refine Zo ?_; refine Zp ?_; refine Zp ?_; refine Zp ?_; refine Zo ?_; refine Zq ?_; refine Zq ?_; refine JD ?_; refine JF ?_; refine X2 ?_; refine X0 ?_; refine X0 ?_
 refine JR ?_; refine ZB ?_; refine ZC ?_; refine Z9 (hcon := hn) ?_; refine Zu ?_; refine Z1 ?_; refine Va rfl rfl (fun hq => ?_) (fun hq => ?_); refine ZB ?_; refine ZC ?_; refine Z9 (hcon := hf) ?_
 refine Z1 ?_; refine ZB ?_; refine ZC ?_; refine Z9 (hcon := hk) ?_; refine Zu ?_; refine Zn ?_; refine Zq ?_; refine Z1 ?_; refine Va rfl rfl (fun hq => ?_) (fun hq => ?_); refine ZB ?_; refine ZC ?_
 refine ZM ?_; refine Z1 ?_; refine Yq rfl rfl (fun hq => ?_) (fun hq => ?_); refine ZB ?_; refine ZC ?_; refine Z9 (hcon := hs) ?_; refine Zu ?_; refine Zn ?_; refine Zq ?_; refine Z1 ?_
 refine Va rfl rfl (fun hq => ?_) (fun hq => ?_); refine ZB ?_; refine ZC ?_; refine ZM ?_; refine Z1 ?_; refine Yq rfl rfl (fun hq => ?_) (fun hq => ?_); refine ZB ?_; refine ZC ?_; refine Z9 (hcon := hd) ?_
 refine Zu ?_; refine Zn ?_; refine Zq ?_; refine JD ?_; refine Yw rfl (fun hq => ?_) (fun hq => ?_); refine X0 ?_; refine JR ?_; refine Z0 ?_; refine JD ?_
 (clear hf ht hn hk hs hd; simp [*] at hr; subst hr; exact X1 ⟨_, St.le_refl _, ⟨rfl, trivial⟩, X3 _⟩); refine X2 ?_; refine X0 ?_; refine JR ?_; refine Z0 ?_; refine JD ?_
 (clear hf ht hn hk hs hd; simp [*] at hr; subst hr; exact X1 ⟨_, St.le_refl _, ⟨rfl, trivial⟩, X3 _⟩); refine Zo ?_; refine Zo ?_; refine Zo ?_; refine Zo ?_; refine Zq ?_; refine Zq ?_; refine JD ?_
 refine JF ?_; refine X2 ?_; refine X0 ?_; refine JR ?_; refine Z0 ?_; refine JD ?_; (clear hf ht hn hk hs hd; simp [*] at hr; subst hr; exact X1 ⟨_, St.le_refl _, ⟨rfl, trivial⟩, X3 _⟩)
 refine Zo ?_; refine Zo ?_; refine Zo ?_; refine Zo ?_; refine Zp ?_; refine Zp ?_; refine Zp ?_; refine Zp ?_; refine Zo ?_; refine Zn ?_; refine JD ?_; refine JT ?_; refine X0 ?_; refine JR ?_; refine Z0 ?_
 refine JD ?_; (clear hf ht hn hk hs hd; simp [*] at hr; subst hr; exact X1 ⟨_, St.le_refl _, ⟨rfl, trivial⟩, X3 _⟩); refine Zo ?_; refine Zo ?_; refine Zo ?_; refine Zo ?_; refine Zq ?_; refine Zq ?_
 refine Z1 ?_; refine ZB ?_; refine ZC ?_; refine ZM ?_; refine Z1 ?_; refine Yq rfl rfl (fun hq => ?_) (fun hq => ?_); refine ZB ?_; refine ZC ?_; refine Z9 (hcon := hd) ?_; refine Zu ?_; refine Zn ?_; refine Zq ?_
 refine JD ?_; refine Yw rfl (fun hq => ?_) (fun hq => ?_); refine X0 ?_; refine JR ?_; refine Z0 ?_; refine JD ?_
 (clear hf ht hn hk hs hd; simp [*] at hr; subst hr; exact X1 ⟨_, St.le_refl _, ⟨rfl, trivial⟩, X3 _⟩); refine X2 ?_; refine X0 ?_; refine JR ?_; refine Z0 ?_; refine JD ?_
 (clear hf ht hn hk hs hd; simp [*] at hr; subst hr; exact X1 ⟨_, St.le_refl _, ⟨rfl, trivial⟩, X3 _⟩); refine Zo ?_; refine Zo ?_; refine Zo ?_; refine Zo ?_; refine Zq ?_; refine Zq ?_; refine JD ?_
 refine JF ?_; refine X2 ?_; refine X0 ?_; refine JR ?_; refine Z0 ?_; refine JD ?_; (clear hf ht hn hk hs hd; simp [*] at hr; subst hr; exact X1 ⟨_, St.le_refl _, ⟨rfl, trivial⟩, X3 _⟩)
 refine Zo ?_; refine Zo ?_; refine Zo ?_; refine Zo ?_; refine Zp ?_; refine Zp ?_; refine Zp ?_; refine Zp ?_; refine Zo ?_; refine Zn ?_; refine Z1 ?_; refine Zo ?_; refine Zo ?_; refine Zo ?_; refine Zo ?_
 refine Zp ?_; refine Zp ?_; refine Zp ?_; refine Zp ?_; refine Zo ?_; refine Zn ?_; refine JD ?_; refine JT ?_; refine X0 ?_; refine JR ?_; refine Z0 ?_; refine JD ?_
 (clear hf ht hn hk hs hd; simp [*] at hr; subst hr; exact X1 ⟨_, St.le_refl _, ⟨rfl, trivial⟩, X3 _⟩); refine Zo ?_; refine Zo ?_; refine Zo ?_; refine Zo ?_; refine Zp ?_; refine Zp ?_; refine Zp ?_
 refine Zp ?_; refine Zo ?_; refine Zn ?_; refine Z1 ?_; refine Zo ?_; refine Zo ?_; refine Zo ?_; refine Zo ?_; refine Zp ?_; refine Zp ?_; refine Zp ?_; refine Zp ?_; refine Zo ?_; refine Zn ?_; refine Z1 ?_
 refine Zo ?_; refine Zo ?_; refine Zo ?_; refine Zo ?_; refine Zp ?_; refine Zp ?_; refine Zp ?_; refine Zp ?_; refine Zo ?_; refine Zn ?_; refine JD ?_; refine JT ?_; refine X0 ?_; refine JR ?_; refine Z0 ?_
 refine JD ?_; (clear hf ht hn hk hs hd; simp [*] at hr; subst hr; exact X1 ⟨_, St.le_refl _, ⟨rfl, trivial⟩, X3 _⟩); refine ZB ?_; refine ZC ?_; refine ZM ?_; refine Zn ?_; refine Z1 ?_
 refine Yq rfl rfl (fun hq => ?_) (fun hq => ?_); refine Zo ?_; refine Zo ?_; refine Zo ?_; refine Zo ?_; refine Zp ?_; refine Zp ?_; refine Zp ?_; refine Zp ?_; refine Zp ?_; refine Zp ?_; refine Zp ?_; refine Zp ?_
 refine Zo ?_; refine Zn ?_; refine JD ?_; refine JT ?_; refine X0 ?_; refine JR ?_; refine Z0 ?_; refine JD ?_
 (clear hf ht hn hk hs hd; simp [*] at hr; subst hr; exact X1 ⟨_, St.le_refl _, ⟨rfl, trivial⟩, X3 _⟩); refine ZB ?_; refine ZC ?_; refine Zv ?_; refine Z1 ?_
 refine Yq rfl rfl (fun hq => ?_) (fun hq => ?_); refine ZB ?_; refine ZC ?_; refine ZM ?_; refine Z1 ?_; refine Yq rfl rfl (fun hq => ?_) (fun hq => ?_); refine Zo ?_; refine Zo ?_; refine Zo ?_; refine Zn ?_
 refine Zn ?_; refine Zq ?_; refine JD ?_; refine JT ?_; refine X0 ?_; refine JR ?_; refine Z0 ?_; refine JD ?_
 (clear hf ht hn hk hs hd; simp [*] at hr; subst hr; exact X1 ⟨_, St.le_refl _, ⟨rfl, trivial⟩, X3 _⟩); refine ZB ?_; refine ZC ?_; refine ZM ?_; refine Zq ?_; refine Zn ?_; refine Zq ?_; refine JD ?_
 refine X0L rfl (fun hq => ?_) (fun hq => ?_); refine X0 ?_; refine JR ?_; refine Z0 ?_; refine JD ?_
 (clear hf ht hn hk hs hd; simp [*] at hr; subst hr; exact X1 ⟨_, St.le_refl _, ⟨rfl, trivial⟩, X3 _⟩); refine X2 ?_; refine X0 ?_; refine X0 ?_; refine JR ?_; refine ZB ?_; refine ZC ?_
 refine Z9 (hcon := hn) ?_; refine Zu ?_; refine Z1 ?_; refine Va rfl rfl (fun hq => ?_) (fun hq => ?_); refine ZB ?_; refine ZC ?_; refine Z9 (hcon := hf) ?_; refine Z1 ?_; refine Zo ?_; refine Zo ?_
 refine Zo ?_; refine Zo ?_; refine Zq ?_; refine Zq ?_; refine Z1 ?_; refine ZB ?_; refine ZC ?_; refine ZM ?_; refine Z1 ?_; refine Zo ?_; refine Zo ?_; refine Zo ?_; refine Zo ?_; refine Zq ?_; refine Zq ?_
 refine Z1 ?_; refine ZB ?_; refine ZC ?_; refine ZM ?_; refine Z1 ?_; refine Zo ?_; refine Zo ?_; refine Zo ?_; refine Zo ?_; refine Zq ?_; refine Zq ?_; refine JD ?_; refine JF ?_; refine X2 ?_; refine X0 ?_
 refine JR ?_; refine Z0 ?_; refine JD ?_; (clear hf ht hn hk hs hd; simp [*] at hr; subst hr; exact X1 ⟨_, St.le_refl _, ⟨rfl, trivial⟩, X3 _⟩); refine Zo ?_; refine Zo ?_; refine Zo ?_; refine Zo ?_
 refine Zp ?_; refine Zp ?_; refine Zp ?_; refine Zp ?_; refine Zo ?_; refine Zn ?_; refine Z1 ?_; refine Zo ?_; refine Zo ?_; refine Zo ?_; refine Zo ?_; refine Zp ?_; refine Zp ?_; refine Zp ?_; refine Zp ?_
 refine Zo ?_; refine Zn ?_; refine Z1 ?_; refine Zo ?_; refine Zo ?_; refine Zo ?_; refine Zo ?_; refine Zp ?_; refine Zp ?_; refine Zp ?_; refine Zp ?_; refine Zo ?_; refine Zn ?_; refine JD ?_; refine JT ?_
 refine X0 ?_; refine JR ?_; refine Z0 ?_; refine JD ?_; (clear hf ht hn hk hs hd; simp [*] at hr; subst hr; exact X1 ⟨_, St.le_refl _, ⟨rfl, trivial⟩, X3 _⟩); refine Zo ?_; refine Zo ?_; refine Zo ?_
 refine Zo ?_; refine Zp ?_; refine Zp ?_; refine Zp ?_; refine Zo ?_; refine Zq ?_; refine Zq ?_; refine JD ?_; refine JF ?_; refine X2 ?_; refine X0 ?_; refine X0 ?_; refine JR ?_; refine ZB ?_
 refine ZC ?_; refine Z9 (hcon := hn) ?_; refine Zu ?_; refine Z1 ?_; refine Va rfl rfl (fun hq => ?_) (fun hq => ?_); refine ZB ?_; refine ZC ?_; refine Z9 (hcon := hf) ?_; refine Z1 ?_; refine Zo ?_
 refine Zo ?_; refine Zo ?_; refine Zo ?_; refine Zq ?_; refine Zq ?_; refine Z1 ?_; refine ZB ?_; refine ZC ?_; refine ZM ?_; refine Z1 ?_; refine Yq rfl rfl (fun hq => ?_) (fun hq => ?_); refine ZB ?_; refine ZC ?_
 refine Z9 (hcon := hs) ?_; refine Zu ?_; refine Zn ?_; refine Zq ?_; refine Z1 ?_; refine Va rfl rfl (fun hq => ?_) (fun hq => ?_); refine ZB ?_; refine ZC ?_; refine ZM ?_; refine Z1 ?_
 refine Yq rfl rfl (fun hq => ?_) (fun hq => ?_); refine ZB ?_; refine ZC ?_; refine Z9 (hcon := hd) ?_; refine Zu ?_; refine Zn ?_; refine Zq ?_; refine JD ?_; refine Yw rfl (fun hq => ?_) (fun hq => ?_)
 refine X0 ?_; refine JR ?_; refine Z0 ?_; refine JD ?_; (clear hf ht hn hk hs hd; simp [*] at hr; subst hr; exact X1 ⟨_, St.le_refl _, ⟨rfl, trivial⟩, X3 _⟩); refine X2 ?_; refine X0 ?_
 refine JR ?_; refine Z0 ?_; refine JD ?_; (clear hf ht hn hk hs hd; simp [*] at hr; subst hr; exact X1 ⟨_, St.le_refl _, ⟨rfl, trivial⟩, X3 _⟩); refine Zo ?_; refine Zo ?_; refine Zo ?_; refine Zo ?_
 refine Zq ?_; refine Zq ?_; refine JD ?_; refine JF ?_; refine X2 ?_; refine X0 ?_; refine JR ?_; refine Z0 ?_; refine JD ?_
 (clear hf ht hn hk hs hd; simp [*] at hr; subst hr; exact X1 ⟨_, St.le_refl _, ⟨rfl, trivial⟩, X3 _⟩); refine Zo ?_; refine Zo ?_; refine Zo ?_; refine Zo ?_; refine Zp ?_; refine Zp ?_; refine Zp ?_
 refine Zp ?_; refine Zo ?_; refine Zn ?_; refine JD ?_; refine JT ?_; refine X0 ?_; refine JR ?_; refine Z0 ?_; refine JD ?_
 (clear hf ht hn hk hs hd; simp [*] at hr; subst hr; exact X1 ⟨_, St.le_refl _, ⟨rfl, trivial⟩, X3 _⟩); refine Zo ?_; refine Zo ?_; refine Zo ?_; refine Zo ?_; refine Zq ?_; refine Zq ?_; refine Z1 ?_
 refine ZB ?_; refine ZC ?_; refine ZM ?_; refine Z1 ?_; refine Yq rfl rfl (fun hq => ?_) (fun hq => ?_); refine ZB ?_; refine ZC ?_; refine Z9 (hcon := hd) ?_; refine Zu ?_; refine Zn ?_; refine Zq ?_; refine JD ?_
 refine Yw rfl (fun hq => ?_) (fun hq => ?_); refine X0 ?_; refine JR ?_; refine Z0 ?_; refine JD ?_
 (clear hf ht hn hk hs hd; simp [*] at hr; subst hr; exact X1 ⟨_, St.le_refl _, ⟨rfl, trivial⟩, X3 _⟩); refine X2 ?_; refine X0 ?_; refine JR ?_; refine Z0 ?_; refine JD ?_
 (clear hf ht hn hk hs hd; simp [*] at hr; subst hr; exact X1 ⟨_, St.le_refl _, ⟨rfl, trivial⟩, X3 _⟩); refine Zo ?_; refine Zo ?_; refine Zo ?_; refine Zo ?_; refine Zq ?_; refine Zq ?_; refine JD ?_
 refine JF ?_; refine X2 ?_; refine X0 ?_; refine JR ?_; refine Z0 ?_; refine JD ?_; (clear hf ht hn hk hs hd; simp [*] at hr; subst hr; exact X1 ⟨_, St.le_refl _, ⟨rfl, trivial⟩, X3 _⟩)
 refine Zo ?_; refine Zo ?_; refine Zo ?_; refine Zo ?_; refine Zp ?_; refine Zp ?_; refine Zp ?_; refine Zp ?_; refine Zo ?_; refine Zn ?_; refine Z1 ?_; refine Zo ?_; refine Zo ?_; refine Zo ?_; refine Zo ?_
 refine Zp ?_; refine Zp ?_; refine Zp ?_; refine Zp ?_; refine Zo ?_; refine Zn ?_; refine Z1 ?_; refine Zo ?_; refine Zo ?_; refine Zo ?_; refine Zo ?_; refine Zp ?_; refine Zp ?_; refine Zp ?_; refine Zp ?_
 refine Zo ?_; refine Zn ?_; refine JD ?_; refine JT ?_; refine X0 ?_; refine JR ?_; refine Z0 ?_; refine JD ?_
 (clear hf ht hn hk hs hd; simp [*] at hr; subst hr; exact X1 ⟨_, St.le_refl _, ⟨rfl, trivial⟩, X3 _⟩)
end Go.Fw
namespace Go.Fw
open Go Go.Proofs
set_option maxRecDepth 100000
set_option linter.unusedVariables false
set_option linter.unusedSimpArgs false
theorem X8y (l : List (List UInt8)) (hl : l.length ≤ 9223372036854775807) : Con Tryz.prog 188 [] [.d (.sl 1 (l.map Xn))] [] (ab (Uh l)) := by
 refine X9 (xs := [ab (Uh l)]) Tryz.func188 rfl Tryz.ntmps188 rfl rfl rfl (fun E => ?_)
 have hlm : (l.map Xn).length = l.length := by simp
 generalize hG : Uh l = G
 refine X0 ?_; refine JR ?_; refine Z0 ?_; refine JD ?_; refine X0 ?_; refine X0 ?_; refine JR ?_; refine Z0 ?_; refine JD ?_; refine X4 ?_
 refine Xy (fun i : Nat => 1 ≤ i ∧ i ≤ l.length + 1 ∧ Uh (l.drop (i - 1)) = G) (fun i => ⟨20, [(0, .d (.sl 1 (l.map Xn))), (3, ai i)], []⟩) (fun i => l.length - i) 1 ⟨by omega, by omega, by simpa using hG⟩
  (X8 rfl ⟨JL, JL, trivial⟩ trivial) ?_
 rintro i ⟨hi, hi2, hg⟩
 by_cases hil : i < l.length
 case neg =>
  have hn : ¬ (i : Int) < (l.map Xn).length := by omega
  have hT : G = true := by rw [← hg, Xaq (by omega)]
  subst hT
  refine X0 ?_; refine X0 ?_; refine JR ?_; refine Z1 ?_; refine Z1 ?_; refine Zd ?_; refine Z8 ?_; refine JD ?_; refine JF ?_; refine Xj ?_; refine X0 ?_; refine JR ?_; refine Z0 ?_; refine JD ?_
  exact X1 ⟨_, St.le_refl _, ⟨rfl, trivial⟩, X3 _⟩
 have hn : (i : Int) < (l.map Xn).length := by omega
 obtain ⟨j, rfl⟩ : ∃ j, i = j + 1 := ⟨i - 1, by omega⟩
 rw [Nat.add_sub_cancel] at hg
 obtain ⟨x, hx⟩ := Xu (l := l) hil
 obtain ⟨y, hy⟩ := Xu (l := l) (k := j) (by omega)
 have hxc : (l.map Xn)[j + 1]? = some (Xn x) := XS hx
 have hyc : (l.map Xn)[j]? = some (Xn y) := XS hy
 rw [Xb3 hy hx] at hg
 cases hq : (Op.bytesLess x y || decide (x = y)) with
 | false =>
  rw [hq] at hg
  simp only [Bool.not_false, Bool.true_and] at hg
  refine X0 ?_; refine X0 ?_; refine JR ?_; refine Z1 ?_; refine Z1 ?_; refine Zd ?_; refine Z8 ?_; refine JD ?_; refine JT ?_; refine X2 ?_; refine X0 ?_; refine X4 ?_; refine X0 ?_
  refine JR ?_; refine Z1 ?_; refine Z1 ?_; refine Zj ?_; refine Zk ?_; refine Z1 ?_; refine Z1 ?_
  refine Z4 (op := .sub) (r' := .int .i64 ((j : Nat) : Int)) (u := .int .i64 ((j + 1 : Nat) : Int)) (v := .int .i64 1) ?_ (hr' := by exact congrArg (Value.int .i64) (show (((j + 1 : Nat) : Int) - 1) = (j : Int) by omega)) (hr := by exact Ya (by unfold Y7; omega))
  refine Zj ?_; refine Zk ?_; refine Z06 ?_; refine JD ?_; refine JF ?_; refine X2 ?_; refine JR ?_; refine Z1 ?_; refine Zb ?_; refine Z0 ?_; refine JD ?_
  exact ⟨j + 1 + 1, ⟨by omega, by omega, by rw [Nat.add_sub_cancel]; exact hg⟩, by omega, X8 rfl ⟨JL, JL, trivial⟩ trivial⟩
 | true =>
  rw [hq] at hg
  simp only [Bool.not_true, Bool.false_and] at hg
  subst hg
  refine X0 ?_; refine X0 ?_; refine JR ?_; refine Z1 ?_; refine Z1 ?_; refine Zd ?_; refine Z8 ?_; refine JD ?_; refine JT ?_; refine X2 ?_; refine X0 ?_; refine X4 ?_; refine X0 ?_
  refine JR ?_; refine Z1 ?_; refine Z1 ?_; refine Zj ?_; refine Zk ?_; refine Z1 ?_; refine Z1 ?_
  refine Z4 (op := .sub) (r' := .int .i64 ((j : Nat) : Int)) (u := .int .i64 ((j + 1 : Nat) : Int)) (v := .int .i64 1) ?_ (hr' := by exact congrArg (Value.int .i64) (show (((j + 1 : Nat) : Int) - 1) = (j : Int) by omega)) (hr := by exact Ya (by unfold Y7; omega))
  refine Zj ?_; refine Zk ?_; refine Z06 ?_; refine JD ?_; refine JT ?_; refine X0 ?_; refine JR ?_; refine Z0 ?_; refine JD ?_
  exact X1 ⟨_, St.le_refl _, ⟨rfl, trivial⟩, X3 _⟩
theorem Xdh {α : Type} {p : α → Bool} {l : List α} {i : Nat} {x : α} (h : l[i]? = some x) : (l.drop i).all p = (p x && (l.drop (i + 1)).all p) := by
 obtain ⟨hi, rfl⟩ := List.getElem?_eq_some_iff.1 h
 rw [List.drop_eq_getElem_cons hi, List.all_cons]
theorem X8h (l : List (List UInt8)) (hl : l.length ≤ 9223372036854775807) : Con Tryz.prog 187 [] [.d (.sl 1 (l.map Xn))] [] (ab (l.all XG)) := by
 refine X9 (xs := [ab (l.all XG)]) Tryz.func187 rfl Tryz.ntmps187 rfl rfl rfl (fun E => ?_)
 have hlm : (l.map Xn).length = l.length := by simp
 generalize hG : l.all XG = G
 refine X0 ?_; refine JR ?_; refine Z0 ?_; refine JD ?_; refine X0 ?_; refine X0 ?_; refine JR ?_; refine Z0 ?_; refine JD ?_; refine X4 ?_
 refine Xy (fun i : Nat => i ≤ l.length ∧ (l.drop i).all XG = G) (fun i => ⟨16, [(0, .d (.sl 1 (l.map Xn))), (3, ai i)], []⟩) (fun i => l.length - i) 0 ⟨by omega, by simpa using hG⟩
  (X8 rfl ⟨JL, JL, trivial⟩ trivial) ?_
 rintro i ⟨hi, hg⟩
 by_cases hil : i < l.length
 case neg =>
  have hn : ¬ (i : Int) < (l.map Xn).length := by omega
  rw [List.drop_of_length_le (by omega), List.all_nil] at hg
  subst hg
  refine X0 ?_; refine X0 ?_; refine JR ?_; refine Z1 ?_; refine Z1 ?_; refine Zd ?_; refine Z8 ?_; refine JD ?_; refine JF ?_; refine Xj ?_; refine X0 ?_; refine JR ?_; refine Z0 ?_; refine JD ?_
  exact X1 ⟨_, St.le_refl _, ⟨rfl, trivial⟩, X3 _⟩
 have hn : (i : Int) < (l.map Xn).length := by omega
 obtain ⟨x, hx⟩ := Xu (l := l) hil
 have hxc : (l.map Xn)[i]? = some (Xn x) := XS hx
 have hu := XaL x
 rw [Xdh hx] at hg
 cases hq : XG x with
 | true =>
  rw [hq] at hg hu
  rw [Bool.true_and] at hg
  refine X0 ?_; refine X0 ?_; refine JR ?_; refine Z1 ?_; refine Z1 ?_; refine Zd ?_; refine Z8 ?_; refine JD ?_; refine JT ?_; refine X2 ?_; refine X0 ?_; refine X4 ?_; refine X0 ?_
  refine JR ?_; refine Z1 ?_; refine Z1 ?_; refine Zj ?_; refine Zk ?_; refine Z9 (hcon := hu) ?_; refine Zu ?_; refine JD ?_; refine JF ?_; refine X2 ?_; refine JR ?_; refine Z1 ?_; refine Zb ?_; refine Z0 ?_
  refine JD ?_
  exact ⟨i + 1, ⟨by omega, hg⟩, by omega, X8 rfl ⟨JL, JL, trivial⟩ trivial⟩
 | false =>
  rw [hq] at hg hu
  rw [Bool.false_and] at hg
  subst hg
  refine X0 ?_; refine X0 ?_; refine JR ?_; refine Z1 ?_; refine Z1 ?_; refine Zd ?_; refine Z8 ?_; refine JD ?_; refine JT ?_; refine X2 ?_; refine X0 ?_; refine X4 ?_; refine X0 ?_
  refine JR ?_; refine Z1 ?_; refine Z1 ?_; refine Zj ?_; refine Zk ?_; refine Z9 (hcon := hu) ?_; refine Zu ?_; refine JD ?_; refine JT ?_; refine X0 ?_; refine JR ?_; refine Z0 ?_; refine JD ?_
  exact X1 ⟨_, St.le_refl _, ⟨rfl, trivial⟩, X3 _⟩
end Go.Fw
namespace Go.Fw
open Go Go.Proofs
set_option maxRecDepth 100000
set_option linter.unusedVariables false
set_option linter.unusedSimpArgs false
theorem Xfj (ps : List Prp) (hl : ps.length ≤ 4294967296) : Con Tryz.prog 186 [] [.d (.sl 6 (ps.map Xk))] [] (.d (.sl 1 ((ps.map Prp.key).map Xn))) := by
 refine X9 (xs := [.d (.sl 1 ((ps.map Prp.key).map Xn))]) Tryz.func186 rfl Tryz.ntmps186 rfl rfl rfl (fun E => ?_)
 have hlm : (ps.map Xk).length = ps.length := by simp
 refine X0 ?_; refine JR ?_; refine Z0 ?_; refine JD ?_; refine X0 ?_; refine JR ?_; refine Z0 ?_; refine JD ?_; refine X0 ?_; refine X0 ?_; refine JR ?_; refine Z0 ?_; refine JD ?_
 refine X4 ?_
 refine Xm (VR 3 130 1 rfl rfl rfl) ?_
 refine Xy (fun i : Nat => i ≤ ps.length) (fun i => ⟨20, [(0, .d (.sl 6 (ps.map Xk))), (3, .own 130 (((ps.take i).map Prp.key).map Xn).length), (4, ai i)], [(130, .row 1 (((ps.take i).map Prp.key).map Xn))]⟩) (fun i => ps.length - i) 0 (Nat.zero_le _)
  (X8 rfl ⟨JL, JL, JL, trivial⟩ ⟨rfl, trivial⟩) ?_
 intro i hi
 by_cases hil : i < ps.length
 case neg =>
  obtain rfl : i = ps.length := by omega
  have hn : ¬ ((ps.length : Nat) : Int) < (ps.map Xk).length := by omega
  rw [List.take_length]
  refine X0 ?_; refine X0 ?_; refine JR ?_; refine Z1 ?_; refine Z1 ?_; refine Zd ?_; refine Z8 ?_; refine JD ?_; refine JF ?_; refine Xj ?_; refine X0 ?_; refine JR ?_; refine Z1 ?_; refine Z0 ?_
  refine JD ?_
  refine Xm (Y0 130 rfl) ?_
  refine Xm (YC 2 130 rfl rfl rfl) ?_
  exact X1 ⟨_, St.le_refl _, ⟨rfl, trivial⟩, X3 _⟩
 have hn : (i : Int) < (ps.map Xk).length := by omega
 obtain ⟨x, hx⟩ := Xu (l := ps) hil
 have hxc : (ps.map Xk)[i]? = some (Xk x) := XS hx
 have hroom : (((ps.take i).map Prp.key).map Xn).length ≤ 4294967296 := by simp only [List.length_map, List.length_take]; omega
 refine X0 ?_; refine X0 ?_; refine JR ?_; refine Z1 ?_; refine Z1 ?_; refine Zd ?_; refine Z8 ?_; refine JD ?_; refine JT ?_; refine X2 ?_; refine X0 ?_; refine X4 ?_; refine JR ?_
 refine Z1 ?_; refine Z1 ?_; refine Z1 ?_; refine Zj ?_; refine ZN ?_; refine Zk ?_; refine Z5 ?_; refine Z6 ?_; refine Z0 ?_; refine JD ?_; refine JR ?_; refine Z1 ?_; refine Zb ?_; refine Z0 ?_; refine JD ?_
 refine ⟨i + 1, hil, by omega, ?_⟩
 rw [Xba hx]
 exact X8 rfl ⟨JL, AVal.le_of_eq (by refine Eq.trans (b := AVal.own 130 (_ + _)) rfl ?_; simp only [List.length_append, List.length_map, List.length_cons, List.length_nil]), JL, trivial⟩ ⟨rfl, trivial⟩
theorem X7o (ls : List (List UInt8)) (ps : List Prp) (hls : ls.length ≤ 9223372036854775807) (hok : ∀ p ∈ ps, X07 p) : Con Tryz.prog 132 [] [.d (.sl 1 (ls.map Xn)), .d (.sl 6 (ps.map Xk))] [] (ai (U1 ls ps)) := by
 refine X9 (xs := [ai (U1 ls ps)]) Tryz.func132 rfl Tryz.ntmps132 rfl rfl rfl (fun E => ?_)
 have hlm : (ps.map Xk).length = ps.length := by simp
 have hlm2 : (ls.map Xn).length = ls.length := by simp
 by_cases h1 : 8 < ls.length
 ·rw [X3L (.inl h1)]
  have h1' : (8 : Int) < (ls.map Xn).length := by omega
  refine X0 ?_; refine JR ?_; refine Z0 ?_; refine JD ?_; refine X0 ?_; refine X0 ?_; refine JR ?_; refine Z1 ?_; refine Zd ?_; refine Zs ?_; refine Z1 ?_; refine Zo ?_; refine Zo ?_; refine Zo ?_
  refine Zn ?_; refine JD ?_; refine JT ?_; refine X0 ?_; refine JR ?_; refine Z0 ?_; refine JD ?_
  exact X1 ⟨_, St.le_refl _, ⟨rfl, trivial⟩, X3 _⟩
 have h1' : ¬ (8 : Int) < (ls.map Xn).length := by omega
 by_cases h2 : 16 < ps.length
 ·rw [X3L (.inr h2)]
  have h2' : (16 : Int) < (ps.map Xk).length := by omega
  refine X0 ?_; refine JR ?_; refine Z0 ?_; refine JD ?_; refine X0 ?_; refine X0 ?_; refine JR ?_; refine Z1 ?_; refine Zd ?_; refine Zs ?_; refine Z1 ?_; refine Z1 ?_; refine Zd ?_; refine Zs ?_
  refine Zq ?_; refine JD ?_; refine JT ?_; refine X0 ?_; refine JR ?_; refine Z0 ?_; refine JD ?_
  exact X1 ⟨_, St.le_refl _, ⟨rfl, trivial⟩, X3 _⟩
 have h2' : ¬ (16 : Int) < (ps.map Xk).length := by omega
 rw [X8E h1 h2]
 have hk := Xfj ps (by omega)
 have hc1 := X8h ls hls
 have hc2 := X8h (ps.map Prp.key) (by simp only [List.length_map]; omega)
 have hr1 := X8y ls hls
 have hr2 := X8y (ps.map Prp.key) (by simp only [List.length_map]; omega)
 generalize ls.all XG = n1 at *
 generalize Uh ls = r1 at *
 generalize (ps.map Prp.key).all XG = n2 at *
 generalize Uh (ps.map Prp.key) = r2 at *
 generalize hG : (ps.map Prp.v).all YN = G
 by_cases b1 : n1 = false ∨ n2 = false
 ·rw [if_pos b1]
  cases n1 <;> cases n2 <;> first | (simp at b1; done) | skip
  ·refine X0 ?_; refine JR ?_; refine Z0 ?_; refine JD ?_; refine X0 ?_; refine X0 ?_; refine JR ?_; refine Z1 ?_; refine Zd ?_; refine Zs ?_; refine Z1 ?_; refine Z1 ?_; refine Zd ?_; refine Zs ?_
   refine Zq ?_; refine JD ?_; refine JF ?_; refine X2 ?_; refine X0 ?_; refine JR ?_; refine Z1 ?_; refine Z9 (hcon := hk) ?_; refine Z0 ?_; refine JD ?_; refine X0 ?_; refine X0 ?_; refine JR ?_
   refine Z1 ?_; refine Z9 (hcon := hc1) ?_; refine Zu ?_; refine Z1 ?_; refine Zo ?_; refine Zo ?_; refine Zo ?_; refine Zn ?_; refine JD ?_; refine JT ?_; refine X0 ?_; refine JR ?_; refine Z0 ?_; refine JD ?_
   exact X1 ⟨_, St.le_refl _, ⟨rfl, trivial⟩, X3 _⟩
  ·refine X0 ?_; refine JR ?_; refine Z0 ?_; refine JD ?_; refine X0 ?_; refine X0 ?_; refine JR ?_; refine Z1 ?_; refine Zd ?_; refine Zs ?_; refine Z1 ?_; refine Z1 ?_; refine Zd ?_; refine Zs ?_
   refine Zq ?_; refine JD ?_; refine JF ?_; refine X2 ?_; refine X0 ?_; refine JR ?_; refine Z1 ?_; refine Z9 (hcon := hk) ?_; refine Z0 ?_; refine JD ?_; refine X0 ?_; refine X0 ?_; refine JR ?_
   refine Z1 ?_; refine Z9 (hcon := hc1) ?_; refine Zu ?_; refine Z1 ?_; refine Zo ?_; refine Zo ?_; refine Zo ?_; refine Zn ?_; refine JD ?_; refine JT ?_; refine X0 ?_; refine JR ?_; refine Z0 ?_; refine JD ?_
   exact X1 ⟨_, St.le_refl _, ⟨rfl, trivial⟩, X3 _⟩
  ·refine X0 ?_; refine JR ?_; refine Z0 ?_; refine JD ?_; refine X0 ?_; refine X0 ?_; refine JR ?_; refine Z1 ?_; refine Zd ?_; refine Zs ?_; refine Z1 ?_; refine Z1 ?_; refine Zd ?_; refine Zs ?_
   refine Zq ?_; refine JD ?_; refine JF ?_; refine X2 ?_; refine X0 ?_; refine JR ?_; refine Z1 ?_; refine Z9 (hcon := hk) ?_; refine Z0 ?_; refine JD ?_; refine X0 ?_; refine X0 ?_; refine JR ?_
   refine Z1 ?_; refine Z9 (hcon := hc1) ?_; refine Zu ?_; refine Z1 ?_; refine Z1 ?_; refine Z9 (hcon := hc2) ?_; refine Zu ?_; refine Zq ?_; refine JD ?_; refine JT ?_; refine X0 ?_; refine JR ?_; refine Z0 ?_
   refine JD ?_
   exact X1 ⟨_, St.le_refl _, ⟨rfl, trivial⟩, X3 _⟩
 rw [if_neg b1]
 obtain ⟨rfl, rfl⟩ : n1 = true ∧ n2 = true := by cases n1 <;> cases n2 <;> simp_all
 by_cases b2 : r1 = false ∨ r2 = false
 ·rw [if_pos b2]
  cases r1 <;> cases r2 <;> first | (simp at b2; done) | skip
  ·refine X0 ?_; refine JR ?_; refine Z0 ?_; refine JD ?_; refine X0 ?_; refine X0 ?_; refine JR ?_; refine Z1 ?_; refine Zd ?_; refine Zs ?_; refine Z1 ?_; refine Z1 ?_; refine Zd ?_; refine Zs ?_
   refine Zq ?_; refine JD ?_; refine JF ?_; refine X2 ?_; refine X0 ?_; refine JR ?_; refine Z1 ?_; refine Z9 (hcon := hk) ?_; refine Z0 ?_; refine JD ?_; refine X0 ?_; refine X0 ?_; refine JR ?_
   refine Z1 ?_; refine Z9 (hcon := hc1) ?_; refine Zu ?_; refine Z1 ?_; refine Z1 ?_; refine Z9 (hcon := hc2) ?_; refine Zu ?_; refine Zq ?_; refine JD ?_; refine JF ?_; refine X2 ?_; refine X0 ?_
   refine X0 ?_; refine JR ?_; refine Z1 ?_; refine Z9 (hcon := hr1) ?_; refine Zu ?_; refine Z1 ?_; refine Zo ?_; refine Zo ?_; refine Zo ?_; refine Zn ?_; refine JD ?_; refine JT ?_; refine X0 ?_; refine JR ?_
   refine Z0 ?_; refine JD ?_
   exact X1 ⟨_, St.le_refl _, ⟨rfl, trivial⟩, X3 _⟩
  ·refine X0 ?_; refine JR ?_; refine Z0 ?_; refine JD ?_; refine X0 ?_; refine X0 ?_; refine JR ?_; refine Z1 ?_; refine Zd ?_; refine Zs ?_; refine Z1 ?_; refine Z1 ?_; refine Zd ?_; refine Zs ?_
   refine Zq ?_; refine JD ?_; refine JF ?_; refine X2 ?_; refine X0 ?_; refine JR ?_; refine Z1 ?_; refine Z9 (hcon := hk) ?_; refine Z0 ?_; refine JD ?_; refine X0 ?_; refine X0 ?_; refine JR ?_
   refine Z1 ?_; refine Z9 (hcon := hc1) ?_; refine Zu ?_; refine Z1 ?_; refine Z1 ?_; refine Z9 (hcon := hc2) ?_; refine Zu ?_; refine Zq ?_; refine JD ?_; refine JF ?_; refine X2 ?_; refine X0 ?_
   refine X0 ?_; refine JR ?_; refine Z1 ?_; refine Z9 (hcon := hr1) ?_; refine Zu ?_; refine Z1 ?_; refine Zo ?_; refine Zo ?_; refine Zo ?_; refine Zn ?_; refine JD ?_; refine JT ?_; refine X0 ?_; refine JR ?_
   refine Z0 ?_; refine JD ?_
   exact X1 ⟨_, St.le_refl _, ⟨rfl, trivial⟩, X3 _⟩
  ·refine X0 ?_; refine JR ?_; refine Z0 ?_; refine JD ?_; refine X0 ?_; refine X0 ?_; refine JR ?_; refine Z1 ?_; refine Zd ?_; refine Zs ?_; refine Z1 ?_; refine Z1 ?_; refine Zd ?_; refine Zs ?_
   refine Zq ?_; refine JD ?_; refine JF ?_; refine X2 ?_; refine X0 ?_; refine JR ?_; refine Z1 ?_; refine Z9 (hcon := hk) ?_; refine Z0 ?_; refine JD ?_; refine X0 ?_; refine X0 ?_; refine JR ?_
   refine Z1 ?_; refine Z9 (hcon := hc1) ?_; refine Zu ?_; refine Z1 ?_; refine Z1 ?_; refine Z9 (hcon := hc2) ?_; refine Zu ?_; refine Zq ?_; refine JD ?_; refine JF ?_; refine X2 ?_; refine X0 ?_
   refine X0 ?_; refine JR ?_; refine Z1 ?_; refine Z9 (hcon := hr1) ?_; refine Zu ?_; refine Z1 ?_; refine Z1 ?_; refine Z9 (hcon := hr2) ?_; refine Zu ?_; refine Zq ?_; refine JD ?_; refine JT ?_; refine X0 ?_
   refine JR ?_; refine Z0 ?_; refine JD ?_
   exact X1 ⟨_, St.le_refl _, ⟨rfl, trivial⟩, X3 _⟩
 rw [if_neg b2]
 obtain ⟨rfl, rfl⟩ : r1 = true ∧ r2 = true := by cases r1 <;> cases r2 <;> simp_all
 refine X0 ?_; refine JR ?_; refine Z0 ?_; refine JD ?_; refine X0 ?_; refine X0 ?_; refine JR ?_; refine Z1 ?_; refine Zd ?_; refine Zs ?_; refine Z1 ?_; refine Z1 ?_; refine Zd ?_; refine Zs ?_
 refine Zq ?_; refine JD ?_; refine JF ?_; refine X2 ?_; refine X0 ?_; refine JR ?_; refine Z1 ?_; refine Z9 (hcon := hk) ?_; refine Z0 ?_; refine JD ?_; refine X0 ?_; refine X0 ?_; refine JR ?_
 refine Z1 ?_; refine Z9 (hcon := hc1) ?_; refine Zu ?_; refine Z1 ?_; refine Z1 ?_; refine Z9 (hcon := hc2) ?_; refine Zu ?_; refine Zq ?_; refine JD ?_; refine JF ?_; refine X2 ?_; refine X0 ?_
 refine X0 ?_; refine JR ?_; refine Z1 ?_; refine Z9 (hcon := hr1) ?_; refine Zu ?_; refine Z1 ?_; refine Z1 ?_; refine Z9 (hcon := hr2) ?_; refine Zu ?_; refine Zq ?_; refine JD ?_; refine JF ?_; refine X2 ?_
 refine X0 ?_; refine X0 ?_; refine JR ?_; refine Z0 ?_; refine JD ?_; refine X4 ?_
 clear b1 b2 h1 h2
 refine Xy (fun i : Nat => i ≤ ps.length ∧ ((ps.drop i).map Prp.v).all YN = G) (fun i => ⟨46, [(1, .d (.sl 6 (ps.map Xk))), (6, ai i)], []⟩) (fun i => ps.length - i) 0 ⟨by omega, by simpa using hG⟩
  (X8 rfl JM trivial) ?_
 rintro i ⟨hi, hg⟩
 by_cases hil : i < ps.length
 case neg =>
  have hn' : ¬ (i : Int) < (ps.map Xk).length := by omega
  rw [List.drop_of_length_le (by omega), List.map_nil, List.all_nil] at hg
  subst hg
  rw [if_neg (by simp)]
  refine X0 ?_; refine X0 ?_; refine JR ?_; refine Z1 ?_; refine Z1 ?_; refine Zd ?_; refine Z8 ?_; refine JD ?_; refine JF ?_; refine Xj ?_; refine X0 ?_; refine JR ?_; refine Z0 ?_; refine JD ?_
  exact X1 ⟨_, St.le_refl _, ⟨rfl, trivial⟩, X3 _⟩
 have hn' : (i : Int) < (ps.map Xk).length := by omega
 obtain ⟨x, hx⟩ := Xu (l := ps) hil
 have hxc : (ps.map Xk)[i]? = some (Xk x) := XS hx
 have hxo := hok x (List.mem_of_getElem? hx)
 have hu := XbH x.v hxo.2
 rw [X8c hx] at hg
 generalize YN x.v = pv at *
 obtain ⟨key, ⟨vk, vn, vd, vs, vl⟩⟩ := x
 simp only [Xv, Xk, YO] at hu hxc
 cases pv with
 | true =>
  rw [Bool.true_and] at hg
  refine X0 ?_; refine X0 ?_; refine JR ?_; refine Z1 ?_; refine Z1 ?_; refine Zd ?_; refine Z8 ?_; refine JD ?_; refine JT ?_; refine X2 ?_; refine X0 ?_; refine X4 ?_; refine X0 ?_
  refine JR ?_; refine Z1 ?_; refine Z1 ?_; refine Zj ?_; refine ZN ?_; refine ZK ?_; refine Z9 (hcon := hu) ?_; refine Zu ?_; refine JD ?_; refine JF ?_; refine X2 ?_; refine JR ?_; refine Z1 ?_; refine Zb ?_
  refine Z0 ?_; refine JD ?_
  exact ⟨i + 1, ⟨by omega, hg⟩, by omega, X8 rfl JM trivial⟩
 | false =>
  rw [Bool.false_and] at hg
  subst hg
  rw [if_pos rfl]
  refine X0 ?_; refine X0 ?_; refine JR ?_; refine Z1 ?_; refine Z1 ?_; refine Zd ?_; refine Z8 ?_; refine JD ?_; refine JT ?_; refine X2 ?_; refine X0 ?_; refine X4 ?_; refine X0 ?_
  refine JR ?_; refine Z1 ?_; refine Z1 ?_; refine Zj ?_; refine ZN ?_; refine ZK ?_; refine Z9 (hcon := hu) ?_; refine Zu ?_; refine JD ?_; refine JT ?_; refine X0 ?_; refine JR ?_; refine Z0 ?_; refine JD ?_
  exact X1 ⟨_, St.le_refl _, ⟨rfl, trivial⟩, X3 _⟩
end Go.Fw

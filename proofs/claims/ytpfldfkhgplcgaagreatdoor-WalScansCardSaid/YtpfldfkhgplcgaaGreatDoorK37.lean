/- The check of a rule: the reference's. -/
import Derived.Test.YtpfldfkhgplcgaaGreatDoorK21
import Derived.Test.YtpfldfkhgplcgaaGreatDoorK35
set_option maxHeartbeats 32000000
namespace Go.Fw
open Go Go.Proofs
set_option maxRecDepth 100000
set_option linter.unusedVariables false
set_option linter.unusedSimpArgs false
theorem Xdg (n : Int) : Con Tryz.prog 119 [] [ai n] [] (ab (UZ n)) := by
 refine Xb (xs := [ab (UZ n)]) Tryz.func119 rfl Tryz.ntmps119 rfl rfl rfl (fun E => ?_)
 by_cases h1 : 1 ≤ n
 ·by_cases h2 : n ≤ 5
  ·rw [show UZ n = true by unfold UZ; exact decide_eq_true ⟨h1, h2⟩]
   exact Qra
  ·rw [show UZ n = false by unfold UZ; exact decide_eq_false (by omega)]
   exact Qta
 ·rw [show UZ n = false by unfold UZ; exact decide_eq_false (by omega)]
  refine QX ?_; exact QV
theorem XeM (k n : Int) (name key src dst : List UInt8) : Con Tryz.prog 118 [] [X92 k n name key src dst] [] (ab (Vm k n)) := by
 refine Xb (xs := [ab (Vm k n)]) Tryz.func118 rfl Tryz.ntmps118 rfl rfl rfl (fun E => ?_)
 by_cases k3 : k = 3
 ·subst k3
  rw [show Vm 3 n = decide (n = 1 ∨ n = 2 ∨ n = 4) from rfl]
  by_cases n1 : n = 1
  ·subst n1
   repeat first | refine X0 ?_ | (refine JR ?_; (repeat first | refine Z1 ?_ | refine Z0 ?_ | refine ZB ?_ | refine ZC ?_ | refine Zl ?_ | refine ZA (γ := 100) ?_ | refine Zn ?_ | refine Zo ?_); refine JD ?_) | refine JT ?_
   exact QR
  by_cases n2 : n = 2
  ·subst n2
   repeat first | refine X0 ?_ | (refine JR ?_; (repeat first | refine Z1 ?_ | refine Z0 ?_ | refine ZB ?_ | refine ZC ?_ | refine Zl ?_ | refine ZA (γ := 100) ?_ | refine Zn ?_ | refine Zq ?_ | refine Zo ?_); refine JD ?_) | refine JT ?_
   exact QR
  by_cases n4 : n = 4
  ·subst n4
   repeat first | refine X0 ?_ | (refine JR ?_; (repeat first | refine Z1 ?_ | refine Z0 ?_ | refine ZB ?_ | refine ZC ?_ | refine Zl ?_ | refine ZA (γ := 100) ?_ | refine Zn ?_ | refine Zq ?_ | refine Zo ?_); refine JD ?_) | refine JT ?_
   exact QR
  rw [decide_eq_false (show ¬ (n = 1 ∨ n = 2 ∨ n = 4) by omega)]
  repeat first | refine X0 ?_ | (refine JR ?_; (repeat first | refine Z1 ?_ | refine Z0 ?_ | refine ZB ?_ | refine ZC ?_ | refine Zl ?_ | refine ZA (γ := 100) ?_ | refine Zn ?_ | refine Zq ?_ | refine Zo ?_); refine JD ?_) | refine JT ?_
  exact QU
 by_cases k5 : k = 5
 ·subst k5
  rw [show Vm 5 n = decide (n = 1 ∨ n = 2 ∨ n = 4) from rfl]
  by_cases n1 : n = 1
  ·subst n1
   repeat first | refine X0 ?_ | (refine JR ?_; (repeat first | refine Z1 ?_ | refine Z0 ?_ | refine ZB ?_ | refine ZC ?_ | refine Zl ?_ | refine ZA (γ := 100) ?_ | refine Zn ?_ | refine Zq ?_ | refine Zo ?_); refine JD ?_) | refine JT ?_
   exact QR
  by_cases n2 : n = 2
  ·subst n2
   repeat first | refine X0 ?_ | (refine JR ?_; (repeat first | refine Z1 ?_ | refine Z0 ?_ | refine ZB ?_ | refine ZC ?_ | refine Zl ?_ | refine ZA (γ := 100) ?_ | refine Zn ?_ | refine Zq ?_ | refine Zo ?_); refine JD ?_) | refine JT ?_
   exact QR
  by_cases n4 : n = 4
  ·subst n4
   repeat first | refine X0 ?_ | (refine JR ?_; (repeat first | refine Z1 ?_ | refine Z0 ?_ | refine ZB ?_ | refine ZC ?_ | refine Zl ?_ | refine ZA (γ := 100) ?_ | refine Zq ?_); refine JD ?_) | refine JT ?_
   exact QR
  rw [decide_eq_false (show ¬ (n = 1 ∨ n = 2 ∨ n = 4) by omega)]
  repeat first | refine X0 ?_ | (refine JR ?_; (repeat first | refine Z1 ?_ | refine Z0 ?_ | refine ZB ?_ | refine ZC ?_ | refine Zl ?_ | refine ZA (γ := 100) ?_ | refine Zq ?_); refine JD ?_) | refine JT ?_
  exact QU
 by_cases k7 : k = 7
 ·subst k7
  rw [show Vm 7 n = decide (0 ≤ n ∧ n ≤ 4000) from rfl]
  by_cases h1 : 0 ≤ n
  ·by_cases h2 : n ≤ 4000
   ·rw [decide_eq_true (show 0 ≤ n ∧ n ≤ 4000 by omega)]
    repeat first | refine X0 ?_ | (refine JR ?_; (repeat first | refine Z1 ?_ | refine Z0 ?_ | refine ZB ?_ | refine ZC ?_ | refine Zm ?_ | refine Z2 ?_ | refine Zl ?_ | refine ZA (γ := 100) ?_ | refine Zn ?_ | refine Zq ?_); refine JD ?_) | refine JT ?_ | refine JF ?_ | refine X4 ?_
    exact QR
   ·rw [decide_eq_false (show ¬ (0 ≤ n ∧ n ≤ 4000) by omega)]
    repeat first | refine X0 ?_ | (refine JR ?_; (repeat first | refine Z1 ?_ | refine Z0 ?_ | refine ZB ?_ | refine ZC ?_ | refine Zm ?_ | refine Z2 ?_ | refine Zl ?_ | refine ZA (γ := 100) ?_ | refine Zn ?_ | refine Zq ?_); refine JD ?_) | refine JT ?_ | refine JF ?_ | refine X4 ?_
    exact QU
  ·rw [decide_eq_false (show ¬ (0 ≤ n ∧ n ≤ 4000) by omega)]
   repeat first | refine X0 ?_ | (refine JR ?_; (repeat first | refine Z1 ?_ | refine Z0 ?_ | refine ZB ?_ | refine ZC ?_ | refine Z2 ?_ | refine Zl ?_ | refine ZA (γ := 100) ?_ | refine Zq ?_ | refine Zo ?_); refine JD ?_) | refine JT ?_ | refine JF ?_ | refine X4 ?_
   exact QU
 rw [show Vm k n = decide (n = 0) by unfold Vm; rw [if_neg (by omega), if_neg k7]]
 repeat first | refine X0 ?_ | (refine JR ?_; (repeat first | refine Z1 ?_ | refine Z0 ?_ | refine ZB ?_ | refine ZC ?_ | refine Zl ?_ | refine ZA (γ := 100) ?_ | refine Zq ?_); refine JD ?_) | refine JF ?_ | refine X4 ?_
 first | exact X1 ⟨_, St.le_refl _, ⟨rfl, trivial⟩, X3 _⟩ | exact X1 ⟨_, Xc 2 (y := ab (decide (n = 0))) (AVal.le_of_eq rfl), ⟨rfl, trivial⟩, X3 _⟩ | fail
theorem Xft (r : Rul) : Con Tryz.prog 87 [] [Uw r] [] (ai (VS r)) := by
 rw [X5L]
 obtain ⟨k, n, name, key, src, dst⟩ := r
 simp only [Uw]
 have hn := X41 name
 have hk := X41 key
 have hs := X41 src
 have hd := X41 dst
 have ht := XeM k n name key src dst
 have hf := Xdg k
 generalize Y2 name = vn at *
 generalize Y2 key = vk at *
 generalize Y2 src = vs at *
 generalize Y2 dst = vd at *
 refine Xb (xs := [ai (X1a k (Vm k n) key src dst vn vk vs vd)]) Tryz.func87 rfl Tryz.ntmps87 rfl rfl rfl (fun E => ?_)
 generalize Vm k n = nb at *
 generalize hkd : UZ k = kd at *
 have hkd1 : 1 ≤ k → k ≤ 5 → kd = true := fun h1 h2 => by rw [← hkd]; exact decide_eq_true (by omega)
 have hkd2 : 5 < k → kd = false := fun h1 => by rw [← hkd]; exact decide_eq_false (by omega)
 obtain ⟨r, hr⟩ : ∃ r, r = X1a k nb key src dst vn vk vs vd := ⟨_, rfl⟩
 rw [← hr]
 unfold X1a at hr
 rw [hkd] at hr
 by_cases hkk : 1 ≤ k ∧ k ≤ 7
 case neg =>
  rw [decide_eq_false hkk, if_pos (.inl rfl)] at hr
  subst hr
  clear hkd hkd1 hkd2
  refine Qzb ?_; refine Z8 ?_; refine Z1 ?_; refine XI rfl rfl (fun hq => ?_) (fun hq => ?_); refine QUc ?_; exact QPa; refine QFa ?_; refine Qaa ?_; exact QPa
 rw [decide_eq_true hkk] at hr
 clear hkd hkd1 hkd2
 refine Qzb ?_; refine Z8 ?_; refine QIa ?_; refine Qaa ?_; refine Z1 ?_; refine ZL ?_; refine Z9 (hcon := ht) ?_; refine Zu ?_; refine Zq ?_; refine JD ?_; refine XL rfl (fun hq => ?_) (fun hq => ?_); refine Qd ?_; (clear hf ht hn hk hs hd; simp [*] at hr; subst hr; exact X1 ⟨_, St.le_refl _, ⟨rfl, trivial⟩, X3 _⟩); refine QLf ?_; refine QDc ?_; refine XW rfl rfl (fun hq => ?_) (fun hq => ?_); refine QO ?_; refine Zo ?_; refine QAc ?_; refine Zv ?_; refine Z1 ?_; refine XI rfl rfl (fun hq => ?_) (fun hq => ?_); refine QYc ?_; refine XI rfl rfl (fun hq => ?_) (fun hq => ?_); refine QKf ?_; (clear hf ht hn hk hs hd; simp [*] at hr; subst hr; exact X1 ⟨_, St.le_refl _, ⟨rfl, trivial⟩, X3 _⟩); refine QRc ?_; refine QTd ?_; refine Vt rfl (fun hq => ?_) (fun hq => ?_); refine Qd ?_; (clear hf ht hn hk hs hd; simp [*] at hr; subst hr; exact X1 ⟨_, St.le_refl _, ⟨rfl, trivial⟩, X3 _⟩); refine QUd ?_; refine Z9 (hcon := hn) ?_; refine QDc ?_; refine XW rfl rfl (fun hq => ?_) (fun hq => ?_); refine QBf ?_; refine QIa ?_; refine Z9 (hcon := hk) ?_; refine Zu ?_; refine QQd ?_; refine Z1 ?_; refine XW rfl rfl (fun hq => ?_) (fun hq => ?_); refine QRc ?_; refine Qwc ?_; refine QAc ?_; refine ZM ?_; refine Qwc ?_; refine QFf ?_; (clear hf ht hn hk hs hd; simp [*] at hr; subst hr; exact X1 ⟨_, St.le_refl _, ⟨rfl, trivial⟩, X3 _⟩); refine QHc ?_; refine QPd ?_; refine Qba ?_; refine Qge ?_; (clear hf ht hn hk hs hd; simp [*] at hr; subst hr; exact X1 ⟨_, St.le_refl _, ⟨rfl, trivial⟩, X3 _⟩); refine QNf ?_; (clear hf ht hn hk hs hd; simp [*] at hr; subst hr; exact X1 ⟨_, St.le_refl _, ⟨rfl, trivial⟩, X3 _⟩); refine QHc ?_; refine QBb ?_; refine QJa ?_; refine Qfa ?_; refine Qyb ?_; refine Z9 (hcon := hn) ?_; refine QDc ?_; refine XW rfl rfl (fun hq => ?_) (fun hq => ?_); refine QBf ?_; refine QIa ?_; refine Z9 (hcon := hk) ?_; refine Zu ?_; refine QQd ?_; refine Z1 ?_; refine XW rfl rfl (fun hq => ?_) (fun hq => ?_); refine QYc ?_; refine XI rfl rfl (fun hq => ?_) (fun hq => ?_); refine QFa ?_; refine Z9 (hcon := hs) ?_; refine Zu ?_; refine QQd ?_; refine Z1 ?_; refine XW rfl rfl (fun hq => ?_) (fun hq => ?_); refine QYc ?_; refine XI rfl rfl (fun hq => ?_) (fun hq => ?_); refine QOf ?_; refine XL rfl (fun hq => ?_) (fun hq => ?_); refine Qd ?_; (clear hf ht hn hk hs hd; simp [*] at hr; subst hr; exact X1 ⟨_, St.le_refl _, ⟨rfl, trivial⟩, X3 _⟩); refine QMc ?_; (clear hf ht hn hk hs hd; simp [*] at hr; subst hr; exact X1 ⟨_, St.le_refl _, ⟨rfl, trivial⟩, X3 _⟩); refine QIc ?_; refine QFf ?_; (clear hf ht hn hk hs hd; simp [*] at hr; subst hr; exact X1 ⟨_, St.le_refl _, ⟨rfl, trivial⟩, X3 _⟩); refine QHc ?_; refine Qge ?_; (clear hf ht hn hk hs hd; simp [*] at hr; subst hr; exact X1 ⟨_, St.le_refl _, ⟨rfl, trivial⟩, X3 _⟩); refine QIc ?_; refine QAc ?_; refine ZM ?_; refine Z1 ?_; refine XI rfl rfl (fun hq => ?_) (fun hq => ?_); refine QOf ?_; refine XL rfl (fun hq => ?_) (fun hq => ?_); refine Qd ?_
 (clear hf ht hn hk hs hd; simp [*] at hr; subst hr; exact X1 ⟨_, St.le_refl _, ⟨rfl, trivial⟩, X3 _⟩); refine QMc ?_; (clear hf ht hn hk hs hd; simp [*] at hr; subst hr; exact X1 ⟨_, St.le_refl _, ⟨rfl, trivial⟩, X3 _⟩); refine QIc ?_; refine QFf ?_; (clear hf ht hn hk hs hd; simp [*] at hr; subst hr; exact X1 ⟨_, St.le_refl _, ⟨rfl, trivial⟩, X3 _⟩); refine QHc ?_; refine QPd ?_; refine Qba ?_; refine Qge ?_; (clear hf ht hn hk hs hd; simp [*] at hr; subst hr; exact X1 ⟨_, St.le_refl _, ⟨rfl, trivial⟩, X3 _⟩); refine QNf ?_; (clear hf ht hn hk hs hd; simp [*] at hr; subst hr; exact X1 ⟨_, St.le_refl _, ⟨rfl, trivial⟩, X3 _⟩); refine QRc ?_; refine QFc ?_; refine XI rfl rfl (fun hq => ?_) (fun hq => ?_); refine QHf ?_; (clear hf ht hn hk hs hd; simp [*] at hr; subst hr; exact X1 ⟨_, St.le_refl _, ⟨rfl, trivial⟩, X3 _⟩); refine QVc ?_; refine Z1 ?_; refine XI rfl rfl (fun hq => ?_) (fun hq => ?_); refine QYc ?_; refine XI rfl rfl (fun hq => ?_) (fun hq => ?_); refine QKf ?_; (clear hf ht hn hk hs hd; simp [*] at hr; subst hr; exact X1 ⟨_, St.le_refl _, ⟨rfl, trivial⟩, X3 _⟩); refine QRc ?_; refine QTd ?_; refine Vt rfl (fun hq => ?_) (fun hq => ?_); refine Qd ?_; (clear hf ht hn hk hs hd; simp [*] at hr; subst hr; exact X1 ⟨_, St.le_refl _, ⟨rfl, trivial⟩, X3 _⟩); refine QUd ?_; refine Z9 (hcon := hn) ?_; refine QDc ?_; refine XW rfl rfl (fun hq => ?_) (fun hq => ?_); refine QBf ?_; refine Qwc ?_; refine QAc ?_; refine ZM ?_; refine Qwc ?_; refine QAc ?_; refine ZM ?_; refine Qwc ?_; refine QFf ?_; (clear hf ht hn hk hs hd; simp [*] at hr; subst hr; exact X1 ⟨_, St.le_refl _, ⟨rfl, trivial⟩, X3 _⟩); refine QNf ?_; (clear hf ht hn hk hs hd; simp [*] at hr; subst hr; exact X1 ⟨_, St.le_refl _, ⟨rfl, trivial⟩, X3 _⟩); refine QHc ?_; refine QBb ?_; refine QJa ?_; refine Qfa ?_; refine Qyb ?_; refine Z9 (hcon := hn) ?_; refine QDc ?_; refine XW rfl rfl (fun hq => ?_) (fun hq => ?_); refine QBf ?_; refine Qwc ?_; refine QAc ?_; refine ZM ?_; refine Z1 ?_; refine XI rfl rfl (fun hq => ?_) (fun hq => ?_); refine QFa ?_; refine Z9 (hcon := hs) ?_; refine Zu ?_; refine QQd ?_; refine Z1 ?_; refine XW rfl rfl (fun hq => ?_) (fun hq => ?_); refine QYc ?_; refine XI rfl rfl (fun hq => ?_) (fun hq => ?_); refine QOf ?_; refine XL rfl (fun hq => ?_) (fun hq => ?_); refine Qd ?_; (clear hf ht hn hk hs hd; simp [*] at hr; subst hr; exact X1 ⟨_, St.le_refl _, ⟨rfl, trivial⟩, X3 _⟩); refine QMc ?_; (clear hf ht hn hk hs hd; simp [*] at hr; subst hr; exact X1 ⟨_, St.le_refl _, ⟨rfl, trivial⟩, X3 _⟩); refine QIc ?_; refine QFf ?_; (clear hf ht hn hk hs hd; simp [*] at hr; subst hr; exact X1 ⟨_, St.le_refl _, ⟨rfl, trivial⟩, X3 _⟩); refine QHc ?_; refine Qge ?_; (clear hf ht hn hk hs hd; simp [*] at hr; subst hr; exact X1 ⟨_, St.le_refl _, ⟨rfl, trivial⟩, X3 _⟩); refine QIc ?_; refine QAc ?_; refine ZM ?_; refine Z1 ?_; refine XI rfl rfl (fun hq => ?_) (fun hq => ?_); refine QOf ?_; refine XL rfl (fun hq => ?_) (fun hq => ?_); refine Qd ?_
 (clear hf ht hn hk hs hd; simp [*] at hr; subst hr; exact X1 ⟨_, St.le_refl _, ⟨rfl, trivial⟩, X3 _⟩); refine QMc ?_; (clear hf ht hn hk hs hd; simp [*] at hr; subst hr; exact X1 ⟨_, St.le_refl _, ⟨rfl, trivial⟩, X3 _⟩); refine QIc ?_; refine QFf ?_; (clear hf ht hn hk hs hd; simp [*] at hr; subst hr; exact X1 ⟨_, St.le_refl _, ⟨rfl, trivial⟩, X3 _⟩); refine QNf ?_
 (clear hf ht hn hk hs hd; simp [*] at hr; subst hr; exact X1 ⟨_, St.le_refl _, ⟨rfl, trivial⟩, X3 _⟩)
end Go.Fw

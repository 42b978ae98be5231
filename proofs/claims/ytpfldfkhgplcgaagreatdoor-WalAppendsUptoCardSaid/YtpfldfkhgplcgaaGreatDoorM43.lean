/- The check of a rule: the reference's. -/
import Derived.Test.YtpfldfkhgplcgaaGreatDoorM21
import Derived.Test.YtpfldfkhgplcgaaGreatDoorM41
set_option maxHeartbeats 32000000
namespace Go.Fw
open Go Go.Proofs
set_option maxRecDepth 100000
set_option linter.unusedVariables false
set_option linter.unusedSimpArgs false
theorem Xfa (n : Int) : Con Tryz.prog 119 [] [ai n] [] (ab (V9 n)) := by
 refine Xa (xs := [ab (V9 n)]) Tryz.func119 rfl Tryz.ntmps119 rfl rfl rfl (fun E => ?_)
 by_cases h1 : 1 ≤ n
 ·by_cases h2 : n ≤ 5
  ·rw [show V9 n = true by unfold V9; exact decide_eq_true ⟨h1, h2⟩]
   exact Qua
  ·rw [show V9 n = false by unfold V9; exact decide_eq_false (by omega)]
   exact Qwa
 ·rw [show V9 n = false by unfold V9; exact decide_eq_false (by omega)]
  refine QY ?_; exact QW
theorem Xeb (k n : Int) (name key src dst : List UInt8) : Con Tryz.prog 118 [] [X84 k n name key src dst] [] (ab (Vy k n)) := by
 refine Xa (xs := [ab (Vy k n)]) Tryz.func118 rfl Tryz.ntmps118 rfl rfl rfl (fun E => ?_)
 by_cases k3 : k = 3
 ·subst k3
  rw [show Vy 3 n = decide (n = 1 ∨ n = 2 ∨ n = 4) from rfl]
  by_cases n1 : n = 1
  ·subst n1
   repeat first | refine X0 ?_ | (refine JR ?_; (repeat first | refine Z1 ?_ | refine Z0 ?_ | refine ZB ?_ | refine ZC ?_ | refine Zl ?_ | refine ZA (γ := 100) ?_ | refine Zn ?_ | refine Zo ?_); refine JD ?_) | refine JT ?_
   exact QT
  by_cases n2 : n = 2
  ·subst n2
   repeat first | refine X0 ?_ | (refine JR ?_; (repeat first | refine Z1 ?_ | refine Z0 ?_ | refine ZB ?_ | refine ZC ?_ | refine Zl ?_ | refine ZA (γ := 100) ?_ | refine Zn ?_ | refine Zq ?_ | refine Zo ?_); refine JD ?_) | refine JT ?_
   exact QT
  by_cases n4 : n = 4
  ·subst n4
   repeat first | refine X0 ?_ | (refine JR ?_; (repeat first | refine Z1 ?_ | refine Z0 ?_ | refine ZB ?_ | refine ZC ?_ | refine Zl ?_ | refine ZA (γ := 100) ?_ | refine Zn ?_ | refine Zq ?_ | refine Zo ?_); refine JD ?_) | refine JT ?_
   exact QT
  rw [decide_eq_false (show ¬ (n = 1 ∨ n = 2 ∨ n = 4) by omega)]
  repeat first | refine X0 ?_ | (refine JR ?_; (repeat first | refine Z1 ?_ | refine Z0 ?_ | refine ZB ?_ | refine ZC ?_ | refine Zl ?_ | refine ZA (γ := 100) ?_ | refine Zn ?_ | refine Zq ?_ | refine Zo ?_); refine JD ?_) | refine JT ?_
  exact QV
 by_cases k5 : k = 5
 ·subst k5
  rw [show Vy 5 n = decide (n = 1 ∨ n = 2 ∨ n = 4) from rfl]
  by_cases n1 : n = 1
  ·subst n1
   repeat first | refine X0 ?_ | (refine JR ?_; (repeat first | refine Z1 ?_ | refine Z0 ?_ | refine ZB ?_ | refine ZC ?_ | refine Zl ?_ | refine ZA (γ := 100) ?_ | refine Zn ?_ | refine Zq ?_ | refine Zo ?_); refine JD ?_) | refine JT ?_
   exact QT
  by_cases n2 : n = 2
  ·subst n2
   repeat first | refine X0 ?_ | (refine JR ?_; (repeat first | refine Z1 ?_ | refine Z0 ?_ | refine ZB ?_ | refine ZC ?_ | refine Zl ?_ | refine ZA (γ := 100) ?_ | refine Zn ?_ | refine Zq ?_ | refine Zo ?_); refine JD ?_) | refine JT ?_
   exact QT
  by_cases n4 : n = 4
  ·subst n4
   repeat first | refine X0 ?_ | (refine JR ?_; (repeat first | refine Z1 ?_ | refine Z0 ?_ | refine ZB ?_ | refine ZC ?_ | refine Zl ?_ | refine ZA (γ := 100) ?_ | refine Zq ?_); refine JD ?_) | refine JT ?_
   exact QT
  rw [decide_eq_false (show ¬ (n = 1 ∨ n = 2 ∨ n = 4) by omega)]
  repeat first | refine X0 ?_ | (refine JR ?_; (repeat first | refine Z1 ?_ | refine Z0 ?_ | refine ZB ?_ | refine ZC ?_ | refine Zl ?_ | refine ZA (γ := 100) ?_ | refine Zq ?_); refine JD ?_) | refine JT ?_
  exact QV
 by_cases k7 : k = 7
 ·subst k7
  rw [show Vy 7 n = decide (0 ≤ n ∧ n ≤ 4000) from rfl]
  by_cases h1 : 0 ≤ n
  ·by_cases h2 : n ≤ 4000
   ·rw [decide_eq_true (show 0 ≤ n ∧ n ≤ 4000 by omega)]
    repeat first | refine X0 ?_ | (refine JR ?_; (repeat first | refine Z1 ?_ | refine Z0 ?_ | refine ZB ?_ | refine ZC ?_ | refine Zm ?_ | refine Z2 ?_ | refine Zl ?_ | refine ZA (γ := 100) ?_ | refine Zn ?_ | refine Zq ?_); refine JD ?_) | refine JT ?_ | refine JF ?_ | refine X4 ?_
    exact QT
   ·rw [decide_eq_false (show ¬ (0 ≤ n ∧ n ≤ 4000) by omega)]
    repeat first | refine X0 ?_ | (refine JR ?_; (repeat first | refine Z1 ?_ | refine Z0 ?_ | refine ZB ?_ | refine ZC ?_ | refine Zm ?_ | refine Z2 ?_ | refine Zl ?_ | refine ZA (γ := 100) ?_ | refine Zn ?_ | refine Zq ?_); refine JD ?_) | refine JT ?_ | refine JF ?_ | refine X4 ?_
    exact QV
  ·rw [decide_eq_false (show ¬ (0 ≤ n ∧ n ≤ 4000) by omega)]
   repeat first | refine X0 ?_ | (refine JR ?_; (repeat first | refine Z1 ?_ | refine Z0 ?_ | refine ZB ?_ | refine ZC ?_ | refine Z2 ?_ | refine Zl ?_ | refine ZA (γ := 100) ?_ | refine Zq ?_ | refine Zo ?_); refine JD ?_) | refine JT ?_ | refine JF ?_ | refine X4 ?_
   exact QV
 rw [show Vy k n = decide (n = 0) by unfold Vy; rw [if_neg (by omega), if_neg k7]]
 repeat first | refine X0 ?_ | (refine JR ?_; (repeat first | refine Z1 ?_ | refine Z0 ?_ | refine ZB ?_ | refine ZC ?_ | refine Zl ?_ | refine ZA (γ := 100) ?_ | refine Zq ?_); refine JD ?_) | refine JF ?_ | refine X4 ?_
 first | exact X1 ⟨_, St.le_refl _, ⟨rfl, trivial⟩, X3 _⟩ | exact X1 ⟨_, Xb 2 (y := ab (decide (n = 0))) (AVal.le_of_eq rfl), ⟨rfl, trivial⟩, X3 _⟩ | fail
theorem Xa5 (r : Rul) : Con Tryz.prog 87 [] [Uv r] [] (ai (V2 r)) := by
 rw [X7j]
 obtain ⟨k, n, name, key, src, dst⟩ := r
 simp only [Uv]
 have hn := X4w name
 have hk := X4w key
 have hs := X4w src
 have hd := X4w dst
 have ht := Xeb k n name key src dst
 have hf := Xfa k
 generalize Yl name = vn at *
 generalize Yl key = vk at *
 generalize Yl src = vs at *
 generalize Yl dst = vd at *
 refine Xa (xs := [ai (X1s k (Vy k n) key src dst vn vk vs vd)]) Tryz.func87 rfl Tryz.ntmps87 rfl rfl rfl (fun E => ?_)
 generalize Vy k n = nb at *
 generalize hkd : V9 k = kd at *
 have hkd1 : 1 ≤ k → k ≤ 5 → kd = true := fun h1 h2 => by rw [← hkd]; exact decide_eq_true (by omega)
 have hkd2 : 5 < k → kd = false := fun h1 => by rw [← hkd]; exact decide_eq_false (by omega)
 obtain ⟨r, hr⟩ : ∃ r, r = X1s k nb key src dst vn vk vs vd := ⟨_, rfl⟩
 rw [← hr]
 unfold X1s at hr
 rw [hkd] at hr
 by_cases hkk : 1 ≤ k ∧ k ≤ 7
 case neg =>
  rw [decide_eq_false hkk, if_pos (.inl rfl)] at hr
  subst hr
  clear hkd hkd1 hkd2
  refine QAb ?_; refine Z8 ?_; refine Z1 ?_; refine XR rfl rfl (fun hq => ?_) (fun hq => ?_); refine QSc ?_; exact QRa; refine QHa ?_; refine Qba ?_; exact QRa
 rw [decide_eq_true hkk] at hr
 clear hkd hkd1 hkd2
 refine QAb ?_; refine Z8 ?_; refine QKa ?_; refine Qba ?_; refine Z1 ?_; refine ZL ?_; refine Z9 (hcon := ht) ?_; refine Zu ?_; refine Zq ?_; refine JD ?_; refine XU rfl (fun hq => ?_) (fun hq => ?_); refine Qd ?_; (clear hf ht hn hk hs hd; simp [*] at hr; subst hr; exact X1 ⟨_, St.le_refl _, ⟨rfl, trivial⟩, X3 _⟩); refine Qpf ?_; refine QCc ?_; refine Yg rfl rfl (fun hq => ?_) (fun hq => ?_); refine QQ ?_; refine Zo ?_; refine QAc ?_; refine Zv ?_; refine Z1 ?_; refine XR rfl rfl (fun hq => ?_) (fun hq => ?_); refine QWc ?_; refine XR rfl rfl (fun hq => ?_) (fun hq => ?_); refine Qof ?_; (clear hf ht hn hk hs hd; simp [*] at hr; subst hr; exact X1 ⟨_, St.le_refl _, ⟨rfl, trivial⟩, X3 _⟩); refine QPc ?_; refine QKd ?_; refine VP rfl (fun hq => ?_) (fun hq => ?_); refine Qd ?_; (clear hf ht hn hk hs hd; simp [*] at hr; subst hr; exact X1 ⟨_, St.le_refl _, ⟨rfl, trivial⟩, X3 _⟩); refine QLd ?_; refine Z9 (hcon := hn) ?_; refine QCc ?_; refine Yg rfl rfl (fun hq => ?_) (fun hq => ?_); refine Qgf ?_; refine QKa ?_; refine Z9 (hcon := hk) ?_; refine Zu ?_; refine Zn ?_; refine Zq ?_; refine Z1 ?_; refine Yg rfl rfl (fun hq => ?_) (fun hq => ?_); refine QPc ?_; refine Qvc ?_; refine QAc ?_; refine ZM ?_; refine Qvc ?_; refine Qjf ?_; (clear hf ht hn hk hs hd; simp [*] at hr; subst hr; exact X1 ⟨_, St.le_refl _, ⟨rfl, trivial⟩, X3 _⟩); refine QGc ?_; refine QRc ?_; refine Qca ?_; refine QZd ?_; (clear hf ht hn hk hs hd; simp [*] at hr; subst hr; exact X1 ⟨_, St.le_refl _, ⟨rfl, trivial⟩, X3 _⟩); refine Qrf ?_; (clear hf ht hn hk hs hd; simp [*] at hr; subst hr; exact X1 ⟨_, St.le_refl _, ⟨rfl, trivial⟩, X3 _⟩); refine QGc ?_; refine QCb ?_; refine QLa ?_; refine QGd ?_; refine Z9 (hcon := hn) ?_; refine QCc ?_; refine Yg rfl rfl (fun hq => ?_) (fun hq => ?_); refine Qgf ?_; refine QKa ?_; refine Z9 (hcon := hk) ?_; refine Zu ?_; refine Zn ?_; refine Zq ?_; refine Z1 ?_; refine Yg rfl rfl (fun hq => ?_) (fun hq => ?_); refine QWc ?_; refine XR rfl rfl (fun hq => ?_) (fun hq => ?_); refine QHa ?_; refine Z9 (hcon := hs) ?_; refine Zu ?_; refine Zn ?_; refine Zq ?_; refine Z1 ?_; refine Yg rfl rfl (fun hq => ?_) (fun hq => ?_); refine QWc ?_; refine XR rfl rfl (fun hq => ?_) (fun hq => ?_); refine Qsf ?_; refine XU rfl (fun hq => ?_) (fun hq => ?_); refine Qd ?_; (clear hf ht hn hk hs hd; simp [*] at hr; subst hr; exact X1 ⟨_, St.le_refl _, ⟨rfl, trivial⟩, X3 _⟩); refine QKc ?_; (clear hf ht hn hk hs hd; simp [*] at hr; subst hr; exact X1 ⟨_, St.le_refl _, ⟨rfl, trivial⟩, X3 _⟩); refine QHc ?_; refine Qjf ?_; (clear hf ht hn hk hs hd; simp [*] at hr; subst hr; exact X1 ⟨_, St.le_refl _, ⟨rfl, trivial⟩, X3 _⟩); refine QGc ?_; refine QZd ?_; (clear hf ht hn hk hs hd; simp [*] at hr; subst hr; exact X1 ⟨_, St.le_refl _, ⟨rfl, trivial⟩, X3 _⟩); refine QHc ?_; refine QAc ?_; refine ZM ?_; refine Z1 ?_; refine XR rfl rfl (fun hq => ?_) (fun hq => ?_); refine Qsf ?_; refine XU rfl (fun hq => ?_) (fun hq => ?_); refine Qd ?_
 (clear hf ht hn hk hs hd; simp [*] at hr; subst hr; exact X1 ⟨_, St.le_refl _, ⟨rfl, trivial⟩, X3 _⟩); refine QKc ?_; (clear hf ht hn hk hs hd; simp [*] at hr; subst hr; exact X1 ⟨_, St.le_refl _, ⟨rfl, trivial⟩, X3 _⟩); refine QHc ?_; refine Qjf ?_; (clear hf ht hn hk hs hd; simp [*] at hr; subst hr; exact X1 ⟨_, St.le_refl _, ⟨rfl, trivial⟩, X3 _⟩); refine QGc ?_; refine QRc ?_; refine Qca ?_; refine QZd ?_; (clear hf ht hn hk hs hd; simp [*] at hr; subst hr; exact X1 ⟨_, St.le_refl _, ⟨rfl, trivial⟩, X3 _⟩); refine Qrf ?_; (clear hf ht hn hk hs hd; simp [*] at hr; subst hr; exact X1 ⟨_, St.le_refl _, ⟨rfl, trivial⟩, X3 _⟩); refine QPc ?_; refine QEc ?_; refine XR rfl rfl (fun hq => ?_) (fun hq => ?_); refine Qlf ?_; (clear hf ht hn hk hs hd; simp [*] at hr; subst hr; exact X1 ⟨_, St.le_refl _, ⟨rfl, trivial⟩, X3 _⟩); refine QTc ?_; refine Z1 ?_; refine XR rfl rfl (fun hq => ?_) (fun hq => ?_); refine QWc ?_; refine XR rfl rfl (fun hq => ?_) (fun hq => ?_); refine Qof ?_; (clear hf ht hn hk hs hd; simp [*] at hr; subst hr; exact X1 ⟨_, St.le_refl _, ⟨rfl, trivial⟩, X3 _⟩); refine QPc ?_; refine QKd ?_; refine VP rfl (fun hq => ?_) (fun hq => ?_); refine Qd ?_; (clear hf ht hn hk hs hd; simp [*] at hr; subst hr; exact X1 ⟨_, St.le_refl _, ⟨rfl, trivial⟩, X3 _⟩); refine QLd ?_; refine Z9 (hcon := hn) ?_; refine QCc ?_; refine Yg rfl rfl (fun hq => ?_) (fun hq => ?_); refine Qgf ?_; refine Qvc ?_; refine QAc ?_; refine ZM ?_; refine Qvc ?_; refine QAc ?_; refine ZM ?_; refine Qvc ?_; refine Qjf ?_; (clear hf ht hn hk hs hd; simp [*] at hr; subst hr; exact X1 ⟨_, St.le_refl _, ⟨rfl, trivial⟩, X3 _⟩); refine Qrf ?_; (clear hf ht hn hk hs hd; simp [*] at hr; subst hr; exact X1 ⟨_, St.le_refl _, ⟨rfl, trivial⟩, X3 _⟩); refine QGc ?_; refine QCb ?_; refine QLa ?_; refine QGd ?_; refine Z9 (hcon := hn) ?_; refine QCc ?_; refine Yg rfl rfl (fun hq => ?_) (fun hq => ?_); refine Qgf ?_; refine Qvc ?_; refine QAc ?_; refine ZM ?_; refine Z1 ?_; refine XR rfl rfl (fun hq => ?_) (fun hq => ?_); refine QHa ?_; refine Z9 (hcon := hs) ?_; refine Zu ?_; refine Zn ?_; refine Zq ?_; refine Z1 ?_; refine Yg rfl rfl (fun hq => ?_) (fun hq => ?_); refine QWc ?_; refine XR rfl rfl (fun hq => ?_) (fun hq => ?_); refine Qsf ?_; refine XU rfl (fun hq => ?_) (fun hq => ?_); refine Qd ?_; (clear hf ht hn hk hs hd; simp [*] at hr; subst hr; exact X1 ⟨_, St.le_refl _, ⟨rfl, trivial⟩, X3 _⟩); refine QKc ?_; (clear hf ht hn hk hs hd; simp [*] at hr; subst hr; exact X1 ⟨_, St.le_refl _, ⟨rfl, trivial⟩, X3 _⟩); refine QHc ?_; refine Qjf ?_; (clear hf ht hn hk hs hd; simp [*] at hr; subst hr; exact X1 ⟨_, St.le_refl _, ⟨rfl, trivial⟩, X3 _⟩); refine QGc ?_; refine QZd ?_; (clear hf ht hn hk hs hd; simp [*] at hr; subst hr; exact X1 ⟨_, St.le_refl _, ⟨rfl, trivial⟩, X3 _⟩); refine QHc ?_; refine QAc ?_; refine ZM ?_; refine Z1 ?_; refine XR rfl rfl (fun hq => ?_) (fun hq => ?_); refine Qsf ?_; refine XU rfl (fun hq => ?_) (fun hq => ?_); refine Qd ?_
 (clear hf ht hn hk hs hd; simp [*] at hr; subst hr; exact X1 ⟨_, St.le_refl _, ⟨rfl, trivial⟩, X3 _⟩); refine QKc ?_; (clear hf ht hn hk hs hd; simp [*] at hr; subst hr; exact X1 ⟨_, St.le_refl _, ⟨rfl, trivial⟩, X3 _⟩); refine QHc ?_; refine Qjf ?_; (clear hf ht hn hk hs hd; simp [*] at hr; subst hr; exact X1 ⟨_, St.le_refl _, ⟨rfl, trivial⟩, X3 _⟩); refine Qrf ?_
 (clear hf ht hn hk hs hd; simp [*] at hr; subst hr; exact X1 ⟨_, St.le_refl _, ⟨rfl, trivial⟩, X3 _⟩)
end Go.Fw

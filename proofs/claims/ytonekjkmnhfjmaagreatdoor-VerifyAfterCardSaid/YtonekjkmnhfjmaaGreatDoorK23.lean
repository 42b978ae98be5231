/- The check of a rule: the reference's. -/
import Derived.Test.YtonekjkmnhfjmaaGreatDoorK22
set_option maxHeartbeats 32000000
namespace Go.Fw
open Go Go.Proofs
set_option maxRecDepth 100000
set_option linter.unusedVariables false
set_option linter.unusedSimpArgs false
theorem XeU (n : Int) : Con Tryz.prog 257 [] [ai n] [] (ab (Vb n)) := by
 refine Xc (xs := [ab (Vb n)]) Tryz.func257 rfl Tryz.ntmps257 rfl rfl rfl (fun E => ?_)
 by_cases h1 : 1 ≤ n
 ·by_cases h2 : n ≤ 5
  ·rw [show Vb n = true by unfold Vb; exact decide_eq_true ⟨h1, h2⟩]
   exact QRa
  ·rw [show Vb n = false by unfold Vb; exact decide_eq_false (by omega)]
   exact QSa
 ·rw [show Vb n = false by unfold Vb; exact decide_eq_false (by omega)]
  refine QR ?_; exact QP
theorem Xev (k n : Int) (name key src dst : List UInt8) : Con Tryz.prog 256 [] [X8Q k n name key src dst] [] (ab (Vq k n)) := by
 refine Xc (xs := [ab (Vq k n)]) Tryz.func256 rfl Tryz.ntmps256 rfl rfl rfl (fun E => ?_)
 by_cases k3 : k = 3
 ·subst k3
  rw [show Vq 3 n = decide (n = 1 ∨ n = 2 ∨ n = 4) from rfl]
  by_cases n1 : n = 1
  ·subst n1
   refine QZe ?_; refine QV ?_; refine Qm ?_; refine QCc ?_; refine QBe ?_; exact QM
  by_cases n2 : n = 2
  ·subst n2
   refine QZe ?_; refine QV ?_; refine Qm ?_; refine QCc ?_; refine Qkd ?_; refine QV ?_; exact QM
  by_cases n4 : n = 4
  ·subst n4
   refine QZe ?_; refine QV ?_; refine Qaf ?_; exact QT
  rw [decide_eq_false (show ¬ (n = 1 ∨ n = 2 ∨ n = 4) by omega)]
  refine QZe ?_; refine QV ?_; refine Qaf ?_; exact QP
 by_cases k5 : k = 5
 ·subst k5
  rw [show Vq 5 n = decide (n = 1 ∨ n = 2 ∨ n = 4) from rfl]
  by_cases n1 : n = 1
  ·subst n1
   refine QZe ?_; refine Qkd ?_; refine Qm ?_; refine QCc ?_; refine QBe ?_; exact QM
  by_cases n2 : n = 2
  ·subst n2
   refine QZe ?_; refine Qkd ?_; refine Qm ?_; refine QCc ?_; refine Qkd ?_; refine QV ?_; exact QM
  by_cases n4 : n = 4
  ·subst n4
   refine QZe ?_; refine Qkd ?_; refine Qaf ?_; exact QT
  rw [decide_eq_false (show ¬ (n = 1 ∨ n = 2 ∨ n = 4) by omega)]
  refine QZe ?_; refine Qkd ?_; refine Qaf ?_; exact QP
 by_cases k7 : k = 7
 ·subst k7
  rw [show Vq 7 n = decide (0 ≤ n ∧ n ≤ 4000) from rfl]
  by_cases h1 : 0 ≤ n
  ·by_cases h2 : n ≤ 4000
   ·rw [decide_eq_true (show 0 ≤ n ∧ n ≤ 4000 by omega)]
    refine QZe ?_; refine QDc ?_; refine Qxc ?_; refine Z4 ?_; refine Qm ?_; refine QNc ?_; exact QL
   ·rw [decide_eq_false (show ¬ (0 ≤ n ∧ n ≤ 4000) by omega)]
    refine QZe ?_; refine QDc ?_; refine Qxc ?_; refine Z4 ?_; refine Qm ?_; refine QNc ?_; exact QO
  ·rw [decide_eq_false (show ¬ (0 ≤ n ∧ n ≤ 4000) by omega)]
   refine QZe ?_; refine QDc ?_; refine Qxc ?_; refine Z4 ?_; refine Qm ?_; refine QKb ?_; refine QJ ?_; refine QSb ?_; exact QO
 rw [show Vq k n = decide (n = 0) by unfold Vq; rw [if_neg (by omega), if_neg k7]]
 refine QZe ?_; refine QDc ?_; refine Qxc ?_; refine Qk ?_; refine QJb ?_; refine Qya ?_; first | exact X1 ⟨_, St.le_refl _, ⟨rfl, trivial⟩, X3 _⟩ | exact X1 ⟨_, Xr 2 (y := ab (decide (n = 0))) (AVal.le_of_eq rfl), ⟨rfl, trivial⟩, X3 _⟩ | fail
theorem Xb8 (r : Rul) : Con Tryz.prog 194 [] [XU r] [] (ai (Ut r)) := by
 rw [X5X]
 obtain ⟨k, n, name, key, src, dst⟩ := r
 simp only [XU]
 have hn := X5g name
 have hk := X5g key
 have hs := X5g src
 have hd := X5g dst
 have ht := Xev k n name key src dst
 have hf := XeU k
 generalize Xt name = vn at *
 generalize Xt key = vk at *
 generalize Xt src = vs at *
 generalize Xt dst = vd at *
 refine Xc (xs := [ai (X1c k (Vq k n) key src dst vn vk vs vd)]) Tryz.func194 rfl Tryz.ntmps194 rfl rfl rfl (fun E => ?_)
 generalize Vq k n = nb at *
 generalize hkd : Vb k = kd at *
 have hkd1 : 1 ≤ k → k ≤ 5 → kd = true := fun h1 h2 => by rw [← hkd]; exact decide_eq_true (by omega)
 have hkd2 : 5 < k → kd = false := fun h1 => by rw [← hkd]; exact decide_eq_false (by omega)
 obtain ⟨r, hr⟩ : ∃ r, r = X1c k nb key src dst vn vk vs vd := ⟨_, rfl⟩
 rw [← hr]
 unfold X1c at hr
 rw [hkd] at hr
 by_cases hkk : 1 ≤ k ∧ k ≤ 7
 case neg =>
  rw [decide_eq_false hkk, if_pos (.inl rfl)] at hr
  subst hr
  clear hkd hkd1 hkd2
  refine Qnc ?_; refine Zq ?_; refine Z1 ?_; refine XY rfl rfl (fun hq => ?_) (fun hq => ?_); refine QNe ?_; exact Qlb; refine QIb ?_; refine Qca ?_; exact Qlb
 rw [decide_eq_true hkk] at hr
 clear hkd hkd1 hkd2
 refine Qnc ?_; refine Zq ?_; refine QPb ?_; refine Qca ?_; refine Qjc ?_; refine Zr (hcon := ht) ?_; refine Zd ?_; refine ZE ?_; refine JD ?_; refine XO rfl (fun hq => ?_) (fun hq => ?_); refine Qc ?_; (clear hf ht hn hk hs hd; simp [*] at hr; subst hr; exact X1 ⟨_, St.le_refl _, ⟨rfl, trivial⟩, X3 _⟩); refine Qbf ?_; refine QIe ?_; refine Y4 rfl rfl (fun hq => ?_) (fun hq => ?_); refine QI ?_; refine Qra ?_; refine Qoc ?_; refine Z1 ?_; refine XY rfl rfl (fun hq => ?_) (fun hq => ?_); refine QMe ?_; refine XY rfl rfl (fun hq => ?_) (fun hq => ?_); refine Qdf ?_; (clear hf ht hn hk hs hd; simp [*] at hr; subst hr; exact X1 ⟨_, St.le_refl _, ⟨rfl, trivial⟩, X3 _⟩); refine QLe ?_; refine ZE ?_; refine Qqb ?_; refine JD ?_; refine VH rfl (fun hq => ?_) (fun hq => ?_); refine Qc ?_; (clear hf ht hn hk hs hd; simp [*] at hr; subst hr; exact X1 ⟨_, St.le_refl _, ⟨rfl, trivial⟩, X3 _⟩); refine X2 ?_; refine Qmc ?_; refine Zr (hcon := hn) ?_; refine QIe ?_; refine Y4 rfl rfl (fun hq => ?_) (fun hq => ?_); refine Qef ?_; refine QPb ?_; refine Zr (hcon := hk) ?_; refine Zd ?_; refine Qqb ?_; refine Z1 ?_; refine Y4 rfl rfl (fun hq => ?_) (fun hq => ?_); refine QLe ?_; refine Qdb ?_; refine ZE ?_; refine QPb ?_; refine ZY ?_; refine Qdb ?_; refine Qff ?_; (clear hf ht hn hk hs hd; simp [*] at hr; subst hr; exact X1 ⟨_, St.le_refl _, ⟨rfl, trivial⟩, X3 _⟩); refine QKe ?_; refine Qnb ?_; refine QW ?_; refine Qgf ?_; (clear hf ht hn hk hs hd; simp [*] at hr; subst hr; exact X1 ⟨_, St.le_refl _, ⟨rfl, trivial⟩, X3 _⟩); refine Qhf ?_; (clear hf ht hn hk hs hd; simp [*] at hr; subst hr; exact X1 ⟨_, St.le_refl _, ⟨rfl, trivial⟩, X3 _⟩); refine QKe ?_; refine Qpc ?_; refine Qra ?_; refine Qxc ?_; refine Zr (hcon := hn) ?_; refine QIe ?_; refine Y4 rfl rfl (fun hq => ?_) (fun hq => ?_); refine Qef ?_; refine QPb ?_; refine Zr (hcon := hk) ?_; refine Zd ?_; refine Qqb ?_; refine Z1 ?_; refine Y4 rfl rfl (fun hq => ?_) (fun hq => ?_); refine QMe ?_; refine XY rfl rfl (fun hq => ?_) (fun hq => ?_); refine QIb ?_; refine Zr (hcon := hs) ?_; refine Zd ?_; refine Qqb ?_; refine Z1 ?_; refine Y4 rfl rfl (fun hq => ?_) (fun hq => ?_); refine QMe ?_; refine XY rfl rfl (fun hq => ?_) (fun hq => ?_); refine Qif ?_; refine XO rfl (fun hq => ?_) (fun hq => ?_); refine Qc ?_; (clear hf ht hn hk hs hd; simp [*] at hr; subst hr; exact X1 ⟨_, St.le_refl _, ⟨rfl, trivial⟩, X3 _⟩); refine QUe ?_; (clear hf ht hn hk hs hd; simp [*] at hr; subst hr; exact X1 ⟨_, St.le_refl _, ⟨rfl, trivial⟩, X3 _⟩); refine Qjf ?_; refine Qff ?_; (clear hf ht hn hk hs hd; simp [*] at hr; subst hr; exact X1 ⟨_, St.le_refl _, ⟨rfl, trivial⟩, X3 _⟩); refine QKe ?_; refine Qgf ?_; (clear hf ht hn hk hs hd; simp [*] at hr; subst hr; exact X1 ⟨_, St.le_refl _, ⟨rfl, trivial⟩, X3 _⟩); refine Qjf ?_; refine ZE ?_; refine QPb ?_; refine ZY ?_; refine Z1 ?_; refine XY rfl rfl (fun hq => ?_) (fun hq => ?_); refine Qif ?_; refine XO rfl (fun hq => ?_) (fun hq => ?_); refine Qc ?_
 (clear hf ht hn hk hs hd; simp [*] at hr; subst hr; exact X1 ⟨_, St.le_refl _, ⟨rfl, trivial⟩, X3 _⟩); refine QUe ?_; (clear hf ht hn hk hs hd; simp [*] at hr; subst hr; exact X1 ⟨_, St.le_refl _, ⟨rfl, trivial⟩, X3 _⟩); refine Qjf ?_; refine Qff ?_; (clear hf ht hn hk hs hd; simp [*] at hr; subst hr; exact X1 ⟨_, St.le_refl _, ⟨rfl, trivial⟩, X3 _⟩); refine QKe ?_; refine Qnb ?_; refine QW ?_; refine Qgf ?_; (clear hf ht hn hk hs hd; simp [*] at hr; subst hr; exact X1 ⟨_, St.le_refl _, ⟨rfl, trivial⟩, X3 _⟩); refine Qhf ?_; (clear hf ht hn hk hs hd; simp [*] at hr; subst hr; exact X1 ⟨_, St.le_refl _, ⟨rfl, trivial⟩, X3 _⟩); refine QLe ?_; refine ZB ?_; refine Z1 ?_; refine XY rfl rfl (fun hq => ?_) (fun hq => ?_); refine Qkf ?_; (clear hf ht hn hk hs hd; simp [*] at hr; subst hr; exact X1 ⟨_, St.le_refl _, ⟨rfl, trivial⟩, X3 _⟩); refine QIb ?_; refine ZH ?_; refine Z1 ?_; refine XY rfl rfl (fun hq => ?_) (fun hq => ?_); refine QMe ?_; refine XY rfl rfl (fun hq => ?_) (fun hq => ?_); refine Qdf ?_; (clear hf ht hn hk hs hd; simp [*] at hr; subst hr; exact X1 ⟨_, St.le_refl _, ⟨rfl, trivial⟩, X3 _⟩); refine QLe ?_; refine ZE ?_; refine Qqb ?_; refine JD ?_; refine VH rfl (fun hq => ?_) (fun hq => ?_); refine Qc ?_; (clear hf ht hn hk hs hd; simp [*] at hr; subst hr; exact X1 ⟨_, St.le_refl _, ⟨rfl, trivial⟩, X3 _⟩); refine X2 ?_; refine Qmc ?_; refine Zr (hcon := hn) ?_; refine QIe ?_; refine Y4 rfl rfl (fun hq => ?_) (fun hq => ?_); refine Qef ?_; refine Qdb ?_; refine ZE ?_; refine QPb ?_; refine ZY ?_; refine Qdb ?_; refine ZE ?_; refine QPb ?_; refine ZY ?_; refine Qdb ?_; refine Qff ?_; (clear hf ht hn hk hs hd; simp [*] at hr; subst hr; exact X1 ⟨_, St.le_refl _, ⟨rfl, trivial⟩, X3 _⟩); refine Qhf ?_; (clear hf ht hn hk hs hd; simp [*] at hr; subst hr; exact X1 ⟨_, St.le_refl _, ⟨rfl, trivial⟩, X3 _⟩); refine QKe ?_; refine Qpc ?_; refine Qra ?_; refine Qxc ?_; refine Zr (hcon := hn) ?_; refine QIe ?_; refine Y4 rfl rfl (fun hq => ?_) (fun hq => ?_); refine Qef ?_; refine Qdb ?_; refine ZE ?_; refine QPb ?_; refine ZY ?_; refine Z1 ?_; refine XY rfl rfl (fun hq => ?_) (fun hq => ?_); refine QIb ?_; refine Zr (hcon := hs) ?_; refine Zd ?_; refine Qqb ?_; refine Z1 ?_; refine Y4 rfl rfl (fun hq => ?_) (fun hq => ?_); refine QMe ?_; refine XY rfl rfl (fun hq => ?_) (fun hq => ?_); refine Qif ?_; refine XO rfl (fun hq => ?_) (fun hq => ?_); refine Qc ?_; (clear hf ht hn hk hs hd; simp [*] at hr; subst hr; exact X1 ⟨_, St.le_refl _, ⟨rfl, trivial⟩, X3 _⟩); refine QUe ?_; (clear hf ht hn hk hs hd; simp [*] at hr; subst hr; exact X1 ⟨_, St.le_refl _, ⟨rfl, trivial⟩, X3 _⟩); refine Qjf ?_; refine Qff ?_; (clear hf ht hn hk hs hd; simp [*] at hr; subst hr; exact X1 ⟨_, St.le_refl _, ⟨rfl, trivial⟩, X3 _⟩); refine QKe ?_; refine Qgf ?_; (clear hf ht hn hk hs hd; simp [*] at hr; subst hr; exact X1 ⟨_, St.le_refl _, ⟨rfl, trivial⟩, X3 _⟩); refine Qjf ?_; refine ZE ?_; refine QPb ?_; refine ZY ?_; refine Z1 ?_
 refine XY rfl rfl (fun hq => ?_) (fun hq => ?_); refine Qif ?_; refine XO rfl (fun hq => ?_) (fun hq => ?_); refine Qc ?_; (clear hf ht hn hk hs hd; simp [*] at hr; subst hr; exact X1 ⟨_, St.le_refl _, ⟨rfl, trivial⟩, X3 _⟩); refine QUe ?_; (clear hf ht hn hk hs hd; simp [*] at hr; subst hr; exact X1 ⟨_, St.le_refl _, ⟨rfl, trivial⟩, X3 _⟩); refine Qjf ?_; refine Qff ?_; (clear hf ht hn hk hs hd; simp [*] at hr; subst hr; exact X1 ⟨_, St.le_refl _, ⟨rfl, trivial⟩, X3 _⟩); refine Qhf ?_
 (clear hf ht hn hk hs hd; simp [*] at hr; subst hr; exact X1 ⟨_, St.le_refl _, ⟨rfl, trivial⟩, X3 _⟩)
end Go.Fw

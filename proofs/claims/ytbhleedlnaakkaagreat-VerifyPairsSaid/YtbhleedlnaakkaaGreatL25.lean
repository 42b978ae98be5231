/- Names: the references'. -/
import Derived.Test.YtbhleedlnaakkaaGreatL14
import Derived.Test.YtbhleedlnaakkaaGreatL24
set_option maxHeartbeats 32000000
namespace Go.Fw
open Go Go.Proofs
set_option maxRecDepth 100000
set_option linter.unusedVariables false
set_option linter.unusedSimpArgs false
theorem X27 (s : List UInt8) : Con Tryz.prog 86 [] [.d (.v (.string (X6 s)))] [] (ab (Xj s)) := by
 refine X9 (xs := [ab (Xj s)]) Tryz.func86 rfl Tryz.ntmps86 rfl rfl rfl (fun E => ?_)
 have hsz : (X6 s).size = s.length := rfl
 by_cases h0 : s.length < 1
 ·rw [X32 (List.eq_nil_of_length_eq_zero (by omega))]
  have h0' : ((X6 s).size : Int) < 1 := by omega
  refine X0 ?_; refine JR ?_; refine Z0 ?_; refine JD ?_; refine X0 ?_; refine X0 ?_; refine JR ?_; refine Z1 ?_; refine Zc ?_; refine Z8 ?_; refine Z1 ?_; refine Zo ?_; refine Zo ?_; refine Zo ?_
  refine Zn ?_; refine JD ?_; refine JT ?_; refine X0 ?_; refine JR ?_; refine Z0 ?_; refine JD ?_
  exact X1 ⟨_, St.le_refl _, ⟨rfl, trivial⟩, X2 _⟩
 have h0' : ¬ ((X6 s).size : Int) < 1 := by omega
 by_cases h20 : 20 < s.length
 ·rw [X2q h20]
  have h20' : (20 : Int) < (X6 s).size := by omega
  refine X0 ?_; refine JR ?_; refine Z0 ?_; refine JD ?_; refine X0 ?_; refine X0 ?_; refine JR ?_; refine Z1 ?_; refine Zc ?_; refine Z8 ?_; refine Z1 ?_; refine Z1 ?_; refine Zc ?_; refine Zs ?_
  refine Zq ?_; refine JD ?_; refine JT ?_; refine X0 ?_; refine JR ?_; refine Z0 ?_; refine JD ?_
  exact X1 ⟨_, St.le_refl _, ⟨rfl, trivial⟩, X2 _⟩
 have h20' : ¬ (20 : Int) < (X6 s).size := by omega
 obtain ⟨c, hc⟩ := Xm (l := s) (k := 0) (by omega)
 refine X0 ?_; refine JR ?_; refine Z0 ?_; refine JD ?_; refine X0 ?_; refine X0 ?_; refine JR ?_; refine Z1 ?_; refine Zc ?_; refine Z8 ?_; refine Z1 ?_; refine Z1 ?_; refine Zc ?_; refine Zs ?_
 refine Zq ?_; refine JD ?_; refine JF ?_; refine X3 ?_; refine X0 ?_; refine X0 ?_; refine JR ?_; refine Z0 ?_; refine JD ?_; refine X4 ?_
 refine Xs (fun i : Nat => i ≤ s.length ∧ (0 < i → Yc c = true) ∧ ∀ j, j < i → ∃ b, s[j]? = some b ∧ Xu b = true) (fun i => ⟨65, [(0, .d (.v (.string (X6 s)))), (3, ai i)], []⟩) (fun i => s.length - i) 0
  ⟨by omega, fun h => absurd h (by omega), fun j hj => absurd hj (by omega)⟩
  (X7 rfl ⟨JL, JL, trivial⟩ trivial) ?_
 rintro i ⟨hi, hh, hall⟩
 by_cases hil : i < s.length
 case neg =>
  obtain rfl : i = s.length := by omega
  rw [X2I hc (hh (by omega)) h20 hall]
  have hn : ¬ ((s.length : Nat) : Int) < (X6 s).size := by omega
  refine X0 ?_; refine X0 ?_; refine JR ?_; refine Z1 ?_; refine Z1 ?_; refine Zc ?_; refine Z8 ?_; refine JD ?_; refine JF ?_; refine Xo ?_; refine X0 ?_; refine JR ?_; refine Z0 ?_; refine JD ?_
  exact X1 ⟨_, St.le_refl _, ⟨rfl, trivial⟩, X2 _⟩
 have hn : (i : Int) < (X6 s).size := by omega
 obtain ⟨x, hx⟩ := Xm (l := s) hil
 by_cases hi0 : i = 0
 ·subst hi0
  have hcx : c = x := by rw [hc] at hx; exact Option.some.inj hx
  clear hc hh
  by_cases a1 : 97 ≤ x.toNat
  ·by_cases a2 : x.toNat ≤ 122
   ·have hlx : Yc x = true := Vj (by omega)
    have hh := hlx
    have hnx : ∀ j, j < 0 + 1 → ∃ b, s[j]? = some b ∧ Xu b = true := Ux hx (show Xu x = true by unfold Xu; rw [hlx]; rfl) hall
    repeat first | refine X0 ?_ | (refine JR ?_; (repeat first | refine Z1 ?_ | refine Z0 ?_ | refine Zc ?_ | refine Z8 ?_ | refine Zm ?_ | refine Z2 ?_ | refine Zb ?_ | refine Zu ?_ | refine Zn ?_ | refine Zq ?_ | refine Zt ?_ | refine Zo ?_ | refine Zp ?_); refine JD ?_) | refine JT ?_ | refine JF ?_ | refine X4 ?_ | refine X3 ?_
    exact ⟨0 + 1, ⟨by omega, fun _ => by rw [hcx]; exact hh, hnx⟩, by omega, X7 rfl ⟨JL, JL, trivial⟩ trivial⟩
   ·have hlx : Yc x = false := Ul (by omega)
    have a3 : 65 ≤ x.toNat := by omega
    have a4 : ¬ x.toNat ≤ 90 := by omega
    rw [X0S hx hlx]
    repeat first | refine X0 ?_ | (refine JR ?_; (repeat first | refine Z1 ?_ | refine Z0 ?_ | refine Zc ?_ | refine Z8 ?_ | refine Zm ?_ | refine Z2 ?_ | refine Zl ?_ | refine Zu ?_ | refine Zn ?_ | refine Zq ?_ | refine Zt ?_ | refine Zo ?_ | refine Zp ?_); refine JD ?_) | refine JT ?_ | refine X4 ?_ | refine X3 ?_
    exact X1 ⟨_, St.le_refl _, ⟨rfl, trivial⟩, X2 _⟩
  by_cases a3 : 65 ≤ x.toNat
  ·by_cases a4 : x.toNat ≤ 90
   ·have hlx : Yc x = true := Vj (by omega)
    have hh := hlx
    have hnx : ∀ j, j < 0 + 1 → ∃ b, s[j]? = some b ∧ Xu b = true := Ux hx (show Xu x = true by unfold Xu; rw [hlx]; rfl) hall
    repeat first | refine X0 ?_ | (refine JR ?_; (repeat first | refine Z1 ?_ | refine Z0 ?_ | refine Zc ?_ | refine Z8 ?_ | refine Zm ?_ | refine Z2 ?_ | refine Zb ?_ | refine Zu ?_ | refine Zn ?_ | refine Zq ?_ | refine Zt ?_ | refine Zo ?_ | refine Zp ?_); refine JD ?_) | refine JT ?_ | refine JF ?_ | refine X4 ?_ | refine X3 ?_
    exact ⟨0 + 1, ⟨by omega, fun _ => by rw [hcx]; exact hh, hnx⟩, by omega, X7 rfl ⟨JL, JL, trivial⟩ trivial⟩
   ·have hlx : Yc x = false := Ul (by omega)
    rw [X0S hx hlx]
    repeat first | refine X0 ?_ | (refine JR ?_; (repeat first | refine Z1 ?_ | refine Z0 ?_ | refine Zc ?_ | refine Z8 ?_ | refine Zm ?_ | refine Z2 ?_ | refine Zl ?_ | refine Zu ?_ | refine Zn ?_ | refine Zq ?_ | refine Zt ?_ | refine Zo ?_ | refine Zp ?_); refine JD ?_) | refine JT ?_ | refine X4 ?_ | refine X3 ?_
    exact X1 ⟨_, St.le_refl _, ⟨rfl, trivial⟩, X2 _⟩
  have hlx : Yc x = false := Ul (by omega)
  rw [X0S hx hlx]
  repeat first | refine X0 ?_ | (refine JR ?_; (repeat first | refine Z1 ?_ | refine Z0 ?_ | refine Zc ?_ | refine Z8 ?_ | refine Z2 ?_ | refine Zl ?_ | refine Zu ?_ | refine Zn ?_ | refine Zq ?_ | refine Zt ?_ | refine Zo ?_ | refine Zp ?_); refine JD ?_) | refine JT ?_ | refine X4 ?_ | refine X3 ?_
  exact X1 ⟨_, St.le_refl _, ⟨rfl, trivial⟩, X2 _⟩
 replace hh := hh (by omega)
 have hi0' : ¬ (i : Int) = 0 := by omega
 clear hc
 by_cases a1 : 97 ≤ x.toNat
 ·by_cases a2 : x.toNat ≤ 122
  ·have hlx : Yc x = true := Vj (by omega)
   have hnx := Ux hx (show Xu x = true by unfold Xu; rw [hlx]; rfl) hall
   repeat first | refine X0 ?_ | (refine JR ?_; (repeat first | refine Z1 ?_ | refine Z0 ?_ | refine Zc ?_ | refine Z8 ?_ | refine Zm ?_ | refine Z2 ?_ | refine Zb ?_ | refine Zu ?_ | refine Zn ?_ | refine Zq ?_ | refine Zt ?_ | refine Zo ?_ | refine Zp ?_); refine JD ?_) | refine JT ?_ | refine JF ?_ | refine X4 ?_ | refine X3 ?_
   exact ⟨i + 1, ⟨by omega, fun _ => hh, hnx⟩, by omega, X7 rfl ⟨JL, JL, trivial⟩ trivial⟩
  ·have hlx : Yc x = false := Ul (by omega)
   have a3 : 65 ≤ x.toNat := by omega
   have a4 : ¬ x.toNat ≤ 90 := by omega
   ·rw [Vq hx (show Xu x = false by unfold Xu; rw [hlx, decide_eq_false (by omega)]; rfl)]
    repeat first | refine X0 ?_ | (refine JR ?_; (repeat first | refine Z1 ?_ | refine Z0 ?_ | refine Zc ?_ | refine Z8 ?_ | refine Zm ?_ | refine Zs ?_ | refine Z2 ?_ | refine Zl ?_ | refine Zv ?_ | refine Zu ?_ | refine Zn ?_ | refine Zq ?_ | refine Zt ?_); refine JD ?_) | refine JT ?_ | refine X4 ?_ | refine X3 ?_
    exact X1 ⟨_, St.le_refl _, ⟨rfl, trivial⟩, X2 _⟩
 by_cases a3 : 65 ≤ x.toNat
 ·by_cases a4 : x.toNat ≤ 90
  ·have hlx : Yc x = true := Vj (by omega)
   have hnx := Ux hx (show Xu x = true by unfold Xu; rw [hlx]; rfl) hall
   repeat first | refine X0 ?_ | (refine JR ?_; (repeat first | refine Z1 ?_ | refine Z0 ?_ | refine Zc ?_ | refine Z8 ?_ | refine Zm ?_ | refine Z2 ?_ | refine Zb ?_ | refine Zu ?_ | refine Zn ?_ | refine Zq ?_ | refine Zt ?_ | refine Zo ?_ | refine Zp ?_); refine JD ?_) | refine JT ?_ | refine JF ?_ | refine X4 ?_ | refine X3 ?_
   exact ⟨i + 1, ⟨by omega, fun _ => hh, hnx⟩, by omega, X7 rfl ⟨JL, JL, trivial⟩ trivial⟩
  ·have hlx : Yc x = false := Ul (by omega)
   by_cases g3 : x.toNat = 95
   ·have hnx := Ux hx (show Xu x = true by unfold Xu; rw [decide_eq_true (by omega)]; simp) hall
    repeat first | refine X0 ?_ | (refine JR ?_; (repeat first | refine Z1 ?_ | refine Z0 ?_ | refine Zc ?_ | refine Z8 ?_ | refine Zm ?_ | refine Z2 ?_ | refine Zl ?_ | refine Zv ?_ | refine Zb ?_ | refine Zu ?_ | refine Zn ?_ | refine Zq ?_ | refine Zt ?_ | refine Zo ?_ | refine Zp ?_); refine JD ?_) | refine JT ?_ | refine JF ?_ | refine X4 ?_ | refine X3 ?_
    exact ⟨i + 1, ⟨by omega, fun _ => hh, hnx⟩, by omega, X7 rfl ⟨JL, JL, trivial⟩ trivial⟩
   ·rw [Vq hx (show Xu x = false by unfold Xu; rw [hlx, decide_eq_false (by omega)]; rfl)]
    repeat first | refine X0 ?_ | (refine JR ?_; (repeat first | refine Z1 ?_ | refine Z0 ?_ | refine Zc ?_ | refine Z8 ?_ | refine Zm ?_ | refine Zs ?_ | refine Z2 ?_ | refine Zl ?_ | refine Zv ?_ | refine Zu ?_ | refine Zn ?_ | refine Zq ?_ | refine Zt ?_ | refine Zo ?_); refine JD ?_) | refine JT ?_ | refine X4 ?_ | refine X3 ?_
    exact X1 ⟨_, St.le_refl _, ⟨rfl, trivial⟩, X2 _⟩
 have hlx : Yc x = false := Ul (by omega)
 by_cases g1 : 48 ≤ x.toNat
 ·by_cases g2 : x.toNat ≤ 57
  ·have hnx := Ux hx (show Xu x = true by unfold Xu; rw [decide_eq_true (by omega)]; simp) hall
   repeat first | refine X0 ?_ | (refine JR ?_; (repeat first | refine Z1 ?_ | refine Z0 ?_ | refine Zc ?_ | refine Z8 ?_ | refine Zs ?_ | refine Z2 ?_ | refine Zl ?_ | refine Zv ?_ | refine Zb ?_ | refine Zu ?_ | refine Zn ?_ | refine Zq ?_ | refine Zt ?_ | refine Zo ?_); refine JD ?_) | refine JT ?_ | refine JF ?_ | refine X4 ?_ | refine X3 ?_
   exact ⟨i + 1, ⟨by omega, fun _ => hh, hnx⟩, by omega, X7 rfl ⟨JL, JL, trivial⟩ trivial⟩
  ·rw [Vq hx (show Xu x = false by unfold Xu; rw [hlx, decide_eq_false (by omega)]; rfl)]
   repeat first | refine X0 ?_ | (refine JR ?_; (repeat first | refine Z1 ?_ | refine Z0 ?_ | refine Zc ?_ | refine Z8 ?_ | refine Zs ?_ | refine Z2 ?_ | refine Zl ?_ | refine Zv ?_ | refine Zu ?_ | refine Zn ?_ | refine Zq ?_ | refine Zt ?_ | refine Zo ?_); refine JD ?_) | refine JT ?_ | refine X4 ?_ | refine X3 ?_
   exact X1 ⟨_, St.le_refl _, ⟨rfl, trivial⟩, X2 _⟩
 ·rw [Vq hx (show Xu x = false by unfold Xu; rw [hlx, decide_eq_false (by omega)]; rfl)]
  repeat first | refine X0 ?_ | (refine JR ?_; (repeat first | refine Z1 ?_ | refine Z0 ?_ | refine Zc ?_ | refine Z8 ?_ | refine Z2 ?_ | refine Zl ?_ | refine Zv ?_ | refine Zu ?_ | refine Zn ?_ | refine Zq ?_ | refine Zt ?_ | refine Zo ?_); refine JD ?_) | refine JT ?_ | refine X4 ?_ | refine X3 ?_
  exact X1 ⟨_, St.le_refl _, ⟨rfl, trivial⟩, X2 _⟩
end Go.Fw
namespace Go.Fw
open Go Go.Proofs
set_option maxRecDepth 100000
set_option linter.unusedVariables false
set_option linter.unusedSimpArgs false
theorem Xaq (n : Int) : Con Tryz.prog 85 [] [ai n] [] (ab (YW n)) := by
 refine X9 (xs := [ab (YW n)]) Tryz.func85 rfl Tryz.ntmps85 rfl rfl rfl (fun E => ?_)
 by_cases h1 : 1 ≤ n
 ·by_cases h2 : n ≤ 5
  ·rw [show YW n = true by unfold YW; exact decide_eq_true ⟨h1, h2⟩]
   refine X0 ?_; refine JR ?_; refine Z0 ?_; refine JD ?_; refine X0 ?_; refine JR ?_; refine Z1 ?_; refine Z2 ?_; refine Z1 ?_; refine Z1 ?_; refine Zm ?_; refine Zn ?_; refine Z0 ?_; refine JD ?_
   first | exact X1 ⟨_, St.le_refl _, ⟨rfl, trivial⟩, X2 _⟩ | exact X1 ⟨_, Xe 2 (y := ab true) (AVal.le_of_eq (by refine Eq.trans (b := ab (decide _)) rfl ?_; exact congrArg ab (by simp; omega))), ⟨rfl, trivial⟩, X2 _⟩ | fail
  ·rw [show YW n = false by unfold YW; exact decide_eq_false (by omega)]
   refine X0 ?_; refine JR ?_; refine Z0 ?_; refine JD ?_; refine X0 ?_; refine JR ?_; refine Z1 ?_; refine Z2 ?_; refine Z1 ?_; refine Z1 ?_; refine Zm ?_; refine Zn ?_; refine Z0 ?_; refine JD ?_
   first | exact X1 ⟨_, St.le_refl _, ⟨rfl, trivial⟩, X2 _⟩ | exact X1 ⟨_, Xe 2 (y := ab false) (AVal.le_of_eq (by refine Eq.trans (b := ab (decide _)) rfl ?_; exact congrArg ab (by simp; omega))), ⟨rfl, trivial⟩, X2 _⟩ | fail
 ·rw [show YW n = false by unfold YW; exact decide_eq_false (by omega)]
  refine X0 ?_; refine JR ?_; refine Z0 ?_; refine JD ?_; refine X0 ?_; refine JR ?_; refine Z1 ?_; refine Z2 ?_; refine Z1 ?_; refine Zo ?_; refine Zo ?_; refine Zq ?_; refine Z0 ?_; refine JD ?_
  first | exact X1 ⟨_, St.le_refl _, ⟨rfl, trivial⟩, X2 _⟩ | exact X1 ⟨_, Xe 2 (y := ab false) (AVal.le_of_eq (by refine Eq.trans (b := ab (decide _)) rfl ?_; exact congrArg ab (by simp; omega))), ⟨rfl, trivial⟩, X2 _⟩ | fail
theorem X8E (k n : Int) (name key src dst : List UInt8) : Con Tryz.prog 84 [] [X5B k n name key src dst] [] (ab (U6 k n)) := by
 refine X9 (xs := [ab (U6 k n)]) Tryz.func84 rfl Tryz.ntmps84 rfl rfl rfl (fun E => ?_)
 by_cases k3 : k = 3
 ·subst k3
  rw [show U6 3 n = decide (n = 1 ∨ n = 2 ∨ n = 4) from rfl]
  by_cases n1 : n = 1
  ·subst n1
   repeat first | refine X0 ?_ | (refine JR ?_; (repeat first | refine Z1 ?_ | refine Z0 ?_ | refine ZB ?_ | refine ZC ?_ | refine Zl ?_ | refine ZA (γ := 100) ?_ | refine Zn ?_ | refine Zo ?_); refine JD ?_) | refine JT ?_
   first | exact X1 ⟨_, St.le_refl _, ⟨rfl, trivial⟩, X2 _⟩ | exact X1 ⟨_, Xe 2 (y := ab true) (AVal.le_of_eq (by refine Eq.trans (b := ab (decide _)) rfl ?_; exact congrArg ab (by simp; omega))), ⟨rfl, trivial⟩, X2 _⟩ | fail
  by_cases n2 : n = 2
  ·subst n2
   repeat first | refine X0 ?_ | (refine JR ?_; (repeat first | refine Z1 ?_ | refine Z0 ?_ | refine ZB ?_ | refine ZC ?_ | refine Zl ?_ | refine ZA (γ := 100) ?_ | refine Zn ?_ | refine Zq ?_ | refine Zo ?_); refine JD ?_) | refine JT ?_
   first | exact X1 ⟨_, St.le_refl _, ⟨rfl, trivial⟩, X2 _⟩ | exact X1 ⟨_, Xe 2 (y := ab true) (AVal.le_of_eq (by refine Eq.trans (b := ab (decide _)) rfl ?_; exact congrArg ab (by simp; omega))), ⟨rfl, trivial⟩, X2 _⟩ | fail
  by_cases n4 : n = 4
  ·subst n4
   repeat first | refine X0 ?_ | (refine JR ?_; (repeat first | refine Z1 ?_ | refine Z0 ?_ | refine ZB ?_ | refine ZC ?_ | refine Zl ?_ | refine ZA (γ := 100) ?_ | refine Zn ?_ | refine Zq ?_ | refine Zo ?_); refine JD ?_) | refine JT ?_
   first | exact X1 ⟨_, St.le_refl _, ⟨rfl, trivial⟩, X2 _⟩ | exact X1 ⟨_, Xe 2 (y := ab true) (AVal.le_of_eq (by refine Eq.trans (b := ab (decide _)) rfl ?_; exact congrArg ab (by simp; omega))), ⟨rfl, trivial⟩, X2 _⟩ | fail
  rw [decide_eq_false (show ¬ (n = 1 ∨ n = 2 ∨ n = 4) by omega)]
  repeat first | refine X0 ?_ | (refine JR ?_; (repeat first | refine Z1 ?_ | refine Z0 ?_ | refine ZB ?_ | refine ZC ?_ | refine Zl ?_ | refine ZA (γ := 100) ?_ | refine Zn ?_ | refine Zq ?_ | refine Zo ?_); refine JD ?_) | refine JT ?_
  first | exact X1 ⟨_, St.le_refl _, ⟨rfl, trivial⟩, X2 _⟩ | exact X1 ⟨_, Xe 2 (y := ab false) (AVal.le_of_eq (by refine Eq.trans (b := ab (decide _)) rfl ?_; exact congrArg ab (by simp; omega))), ⟨rfl, trivial⟩, X2 _⟩ | fail
 by_cases k5 : k = 5
 ·subst k5
  rw [show U6 5 n = decide (n = 1 ∨ n = 2 ∨ n = 4) from rfl]
  by_cases n1 : n = 1
  ·subst n1
   repeat first | refine X0 ?_ | (refine JR ?_; (repeat first | refine Z1 ?_ | refine Z0 ?_ | refine ZB ?_ | refine ZC ?_ | refine Zl ?_ | refine ZA (γ := 100) ?_ | refine Zn ?_ | refine Zq ?_ | refine Zo ?_); refine JD ?_) | refine JT ?_
   first | exact X1 ⟨_, St.le_refl _, ⟨rfl, trivial⟩, X2 _⟩ | exact X1 ⟨_, Xe 2 (y := ab true) (AVal.le_of_eq (by refine Eq.trans (b := ab (decide _)) rfl ?_; exact congrArg ab (by simp; omega))), ⟨rfl, trivial⟩, X2 _⟩ | fail
  by_cases n2 : n = 2
  ·subst n2
   repeat first | refine X0 ?_ | (refine JR ?_; (repeat first | refine Z1 ?_ | refine Z0 ?_ | refine ZB ?_ | refine ZC ?_ | refine Zl ?_ | refine ZA (γ := 100) ?_ | refine Zn ?_ | refine Zq ?_ | refine Zo ?_); refine JD ?_) | refine JT ?_
   first | exact X1 ⟨_, St.le_refl _, ⟨rfl, trivial⟩, X2 _⟩ | exact X1 ⟨_, Xe 2 (y := ab true) (AVal.le_of_eq (by refine Eq.trans (b := ab (decide _)) rfl ?_; exact congrArg ab (by simp; omega))), ⟨rfl, trivial⟩, X2 _⟩ | fail
  by_cases n4 : n = 4
  ·subst n4
   repeat first | refine X0 ?_ | (refine JR ?_; (repeat first | refine Z1 ?_ | refine Z0 ?_ | refine ZB ?_ | refine ZC ?_ | refine Zl ?_ | refine ZA (γ := 100) ?_ | refine Zq ?_); refine JD ?_) | refine JT ?_
   first | exact X1 ⟨_, St.le_refl _, ⟨rfl, trivial⟩, X2 _⟩ | exact X1 ⟨_, Xe 2 (y := ab true) (AVal.le_of_eq (by refine Eq.trans (b := ab (decide _)) rfl ?_; exact congrArg ab (by simp; omega))), ⟨rfl, trivial⟩, X2 _⟩ | fail
  rw [decide_eq_false (show ¬ (n = 1 ∨ n = 2 ∨ n = 4) by omega)]
  repeat first | refine X0 ?_ | (refine JR ?_; (repeat first | refine Z1 ?_ | refine Z0 ?_ | refine ZB ?_ | refine ZC ?_ | refine Zl ?_ | refine ZA (γ := 100) ?_ | refine Zq ?_); refine JD ?_) | refine JT ?_
  first | exact X1 ⟨_, St.le_refl _, ⟨rfl, trivial⟩, X2 _⟩ | exact X1 ⟨_, Xe 2 (y := ab false) (AVal.le_of_eq (by refine Eq.trans (b := ab (decide _)) rfl ?_; exact congrArg ab (by simp; omega))), ⟨rfl, trivial⟩, X2 _⟩ | fail
 by_cases k7 : k = 7
 ·subst k7
  rw [show U6 7 n = decide (0 ≤ n ∧ n ≤ 4000) from rfl]
  by_cases h1 : 0 ≤ n
  ·by_cases h2 : n ≤ 4000
   ·rw [decide_eq_true (show 0 ≤ n ∧ n ≤ 4000 by omega)]
    repeat first | refine X0 ?_ | (refine JR ?_; (repeat first | refine Z1 ?_ | refine Z0 ?_ | refine ZB ?_ | refine ZC ?_ | refine Zm ?_ | refine Z2 ?_ | refine Zl ?_ | refine ZA (γ := 100) ?_ | refine Zn ?_ | refine Zq ?_); refine JD ?_) | refine JT ?_ | refine JF ?_ | refine X3 ?_
    first | exact X1 ⟨_, St.le_refl _, ⟨rfl, trivial⟩, X2 _⟩ | exact X1 ⟨_, Xe 2 (y := ab true) (AVal.le_of_eq (by refine Eq.trans (b := ab (decide _)) rfl ?_; exact congrArg ab (by simp; omega))), ⟨rfl, trivial⟩, X2 _⟩ | fail
   ·rw [decide_eq_false (show ¬ (0 ≤ n ∧ n ≤ 4000) by omega)]
    repeat first | refine X0 ?_ | (refine JR ?_; (repeat first | refine Z1 ?_ | refine Z0 ?_ | refine ZB ?_ | refine ZC ?_ | refine Zm ?_ | refine Z2 ?_ | refine Zl ?_ | refine ZA (γ := 100) ?_ | refine Zn ?_ | refine Zq ?_); refine JD ?_) | refine JT ?_ | refine JF ?_ | refine X3 ?_
    first | exact X1 ⟨_, St.le_refl _, ⟨rfl, trivial⟩, X2 _⟩ | exact X1 ⟨_, Xe 2 (y := ab false) (AVal.le_of_eq (by refine Eq.trans (b := ab (decide _)) rfl ?_; exact congrArg ab (by simp; omega))), ⟨rfl, trivial⟩, X2 _⟩ | fail
  ·rw [decide_eq_false (show ¬ (0 ≤ n ∧ n ≤ 4000) by omega)]
   repeat first | refine X0 ?_ | (refine JR ?_; (repeat first | refine Z1 ?_ | refine Z0 ?_ | refine ZB ?_ | refine ZC ?_ | refine Z2 ?_ | refine Zl ?_ | refine ZA (γ := 100) ?_ | refine Zq ?_ | refine Zo ?_); refine JD ?_) | refine JT ?_ | refine JF ?_ | refine X3 ?_
   first | exact X1 ⟨_, St.le_refl _, ⟨rfl, trivial⟩, X2 _⟩ | exact X1 ⟨_, Xe 2 (y := ab false) (AVal.le_of_eq (by refine Eq.trans (b := ab (decide _)) rfl ?_; exact congrArg ab (by simp; omega))), ⟨rfl, trivial⟩, X2 _⟩ | fail
 rw [show U6 k n = decide (n = 0) by unfold U6; rw [if_neg (by omega), if_neg k7]]
 repeat first | refine X0 ?_ | (refine JR ?_; (repeat first | refine Z1 ?_ | refine Z0 ?_ | refine ZB ?_ | refine ZC ?_ | refine Zl ?_ | refine ZA (γ := 100) ?_ | refine Zq ?_); refine JD ?_) | refine JF ?_ | refine X3 ?_
 first | exact X1 ⟨_, St.le_refl _, ⟨rfl, trivial⟩, X2 _⟩ | exact X1 ⟨_, Xe 2 (y := ab (decide (n = 0))) (AVal.le_of_eq rfl), ⟨rfl, trivial⟩, X2 _⟩ | fail
theorem X7A (r : Rul) : Con Tryz.prog 32 [] [Y0 r] [] (ai (Yq r)) := by
 rw [X2T]
 obtain ⟨k, n, name, key, src, dst⟩ := r
 simp only [Y0]
 have hn := X27 name
 have hk := X27 key
 have hs := X27 src
 have hd := X27 dst
 have ht := X8E k n name key src dst
 have hf := Xaq k
 generalize Xj name = vn at *
 generalize Xj key = vk at *
 generalize Xj src = vs at *
 generalize Xj dst = vd at *
 refine X9 (xs := [ai (Vo k (U6 k n) key src dst vn vk vs vd)]) Tryz.func32 rfl Tryz.ntmps32 rfl rfl rfl (fun E => ?_)
 generalize U6 k n = nb at *
 generalize hkd : YW k = kd at *
 have hkd1 : 1 ≤ k → k ≤ 5 → kd = true := fun h1 h2 => by rw [← hkd]; exact decide_eq_true (by omega)
 have hkd2 : 5 < k → kd = false := fun h1 => by rw [← hkd]; exact decide_eq_false (by omega)
 obtain ⟨r, hr⟩ : ∃ r, r = Vo k nb key src dst vn vk vs vd := ⟨_, rfl⟩
 rw [← hr]
 unfold Vo at hr
 rw [hkd] at hr
 by_cases hkk : 1 ≤ k ∧ k ≤ 7
 case neg =>
  rw [decide_eq_false hkk, if_pos (.inl rfl)] at hr
  subst hr
  clear hkd hkd1 hkd2
  refine X0 ?_; refine JR ?_; refine ZA (γ := 100) ?_; refine Z0 ?_; refine JD ?_; refine X0 ?_; refine X0 ?_; refine JR ?_; refine ZB ?_; refine ZC ?_; refine Z8 ?_; refine Z1 ?_
  refine Xz rfl rfl (fun hq => ?_) (fun hq => ?_); refine Zo ?_; refine Zo ?_; refine Zo ?_; refine Zn ?_; refine Z1 ?_; refine Zo ?_; refine Zo ?_; refine Zo ?_; refine Zn ?_; refine JD ?_; refine JT ?_
  refine X0 ?_; refine JR ?_; refine Z0 ?_; refine JD ?_; exact X1 ⟨_, St.le_refl _, ⟨rfl, trivial⟩, X2 _⟩; refine ZB ?_; refine ZC ?_; refine Zs ?_; refine Zq ?_; refine Z1 ?_; refine Zo ?_; refine Zo ?_
  refine Zo ?_; refine Zn ?_; refine JD ?_; refine JT ?_; refine X0 ?_; refine JR ?_; refine Z0 ?_; refine JD ?_; exact X1 ⟨_, St.le_refl _, ⟨rfl, trivial⟩, X2 _⟩
 rw [decide_eq_true hkk] at hr
 clear hkd hkd1 hkd2
 refine X0 ?_; refine JR ?_; refine ZA (γ := 100) ?_; refine Z0 ?_; refine JD ?_; refine X0 ?_; refine X0 ?_; refine JR ?_; refine ZB ?_; refine ZC ?_; refine Z8 ?_; refine Z1 ?_; refine ZB ?_; refine ZC ?_
 refine Zs ?_; refine Zq ?_; refine Z1 ?_; refine ZL ?_; refine Z9 (hcon := ht) ?_; refine Zu ?_; refine Zq ?_; refine JD ?_; refine XD rfl (fun hq => ?_) (fun hq => ?_); refine X0 ?_; refine JR ?_
 refine Z0 ?_; refine JD ?_; (clear hf ht hn hk hs hd; simp [*] at hr; subst hr; exact X1 ⟨_, St.le_refl _, ⟨rfl, trivial⟩, X2 _⟩); refine X3 ?_; refine X0 ?_; refine X0 ?_; refine JR ?_
 refine ZB ?_; refine ZC ?_; refine Z9 (hcon := hf) ?_; refine Zu ?_; refine Z1 ?_; refine XW rfl rfl (fun hq => ?_) (fun hq => ?_); refine Zo ?_; refine Zo ?_; refine Zo ?_; refine Zq ?_; refine Z1 ?_
 refine ZB ?_; refine ZC ?_; refine Zv ?_; refine Z1 ?_; refine Xz rfl rfl (fun hq => ?_) (fun hq => ?_); refine ZB ?_; refine ZC ?_; refine ZM ?_; refine Z1 ?_; refine Xz rfl rfl (fun hq => ?_) (fun hq => ?_)
 refine Zo ?_; refine Zo ?_; refine Zo ?_; refine Zn ?_; refine Zn ?_; refine Zq ?_; refine JD ?_; refine JT ?_; refine X0 ?_; refine JR ?_; refine Z0 ?_; refine JD ?_
 (clear hf ht hn hk hs hd; simp [*] at hr; subst hr; exact X1 ⟨_, St.le_refl _, ⟨rfl, trivial⟩, X2 _⟩); refine ZB ?_; refine ZC ?_; refine ZM ?_; refine Zq ?_; refine Zn ?_; refine Zq ?_; refine JD ?_
 refine Um rfl (fun hq => ?_) (fun hq => ?_); refine X0 ?_; refine JR ?_; refine Z0 ?_; refine JD ?_
 (clear hf ht hn hk hs hd; simp [*] at hr; subst hr; exact X1 ⟨_, St.le_refl _, ⟨rfl, trivial⟩, X2 _⟩); refine X3 ?_; refine X0 ?_; refine X0 ?_; refine JR ?_; refine ZB ?_; refine ZC ?_
 refine Z9 (hcon := hn) ?_; refine Zu ?_; refine Z1 ?_; refine XW rfl rfl (fun hq => ?_) (fun hq => ?_); refine ZB ?_; refine ZC ?_; refine Z9 (hcon := hf) ?_; refine Z1 ?_; refine ZB ?_; refine ZC ?_
 refine Z9 (hcon := hk) ?_; refine Zu ?_; refine Zn ?_; refine Zq ?_; refine Z1 ?_; refine XW rfl rfl (fun hq => ?_) (fun hq => ?_); refine ZB ?_; refine ZC ?_; refine ZM ?_; refine Z1 ?_; refine Zo ?_
 refine Zo ?_; refine Zo ?_; refine Zo ?_; refine Zq ?_; refine Zq ?_; refine Z1 ?_; refine ZB ?_; refine ZC ?_; refine ZM ?_; refine Z1 ?_; refine Zo ?_; refine Zo ?_; refine Zo ?_; refine Zo ?_; refine Zq ?_
 refine Zq ?_; refine JD ?_; refine JF ?_; refine X3 ?_; refine X0 ?_; refine JR ?_; refine Z0 ?_; refine JD ?_
 (clear hf ht hn hk hs hd; simp [*] at hr; subst hr; exact X1 ⟨_, St.le_refl _, ⟨rfl, trivial⟩, X2 _⟩); refine Zo ?_; refine Zo ?_; refine Zo ?_; refine Zo ?_; refine Zp ?_; refine Zp ?_; refine Zp ?_
 refine Zp ?_; refine Zo ?_; refine Zn ?_; refine Z1 ?_; refine Zo ?_; refine Zo ?_; refine Zo ?_; refine Zo ?_; refine Zp ?_; refine Zp ?_; refine Zp ?_; refine Zp ?_; refine Zo ?_; refine Zn ?_; refine JD ?_
 refine JT ?_; refine X0 ?_; refine JR ?_; refine Z0 ?_; refine JD ?_; (clear hf ht hn hk hs hd; simp [*] at hr; subst hr; exact X1 ⟨_, St.le_refl _, ⟨rfl, trivial⟩, X2 _⟩); refine Zo ?_; refine Zo ?_
 refine Zo ?_; refine Zo ?_; refine Zp ?_; refine Zp ?_; refine Zp ?_; refine Zp ?_; refine Zo ?_; refine Zn ?_; refine Z1 ?_; refine Zo ?_; refine Zo ?_; refine Zo ?_; refine Zo ?_; refine Zp ?_; refine Zp ?_
 refine Zp ?_; refine Zp ?_; refine Zo ?_; refine Zn ?_; refine Z1 ?_; refine Zo ?_; refine Zo ?_; refine Zo ?_; refine Zo ?_; refine Zp ?_; refine Zp ?_; refine Zp ?_; refine Zp ?_; refine Zo ?_; refine Zn ?_
 refine JD ?_; refine JT ?_; refine X0 ?_; refine JR ?_; refine Z0 ?_; refine JD ?_; (clear hf ht hn hk hs hd; simp [*] at hr; subst hr; exact X1 ⟨_, St.le_refl _, ⟨rfl, trivial⟩, X2 _⟩); refine Zo ?_
 refine Zo ?_; refine Zo ?_; refine Zo ?_; refine Zp ?_; refine Zp ?_; refine Zp ?_; refine Zo ?_; refine Zq ?_; refine Zq ?_; refine JD ?_; refine JF ?_; refine X3 ?_; refine X0 ?_; refine X0 ?_
 refine JR ?_; refine ZB ?_; refine ZC ?_; refine Z9 (hcon := hn) ?_; refine Zu ?_; refine Z1 ?_; refine XW rfl rfl (fun hq => ?_) (fun hq => ?_); refine ZB ?_; refine ZC ?_; refine Z9 (hcon := hf) ?_
 refine Z1 ?_; refine ZB ?_; refine ZC ?_; refine Z9 (hcon := hk) ?_; refine Zu ?_; refine Zn ?_; refine Zq ?_; refine Z1 ?_; refine XW rfl rfl (fun hq => ?_) (fun hq => ?_); refine ZB ?_; refine ZC ?_
 refine ZM ?_; refine Z1 ?_; refine Xz rfl rfl (fun hq => ?_) (fun hq => ?_); refine ZB ?_; refine ZC ?_; refine Z9 (hcon := hs) ?_; refine Zu ?_; refine Zn ?_; refine Zq ?_; refine Z1 ?_
 refine XW rfl rfl (fun hq => ?_) (fun hq => ?_); refine ZB ?_; refine ZC ?_; refine ZM ?_; refine Z1 ?_; refine Xz rfl rfl (fun hq => ?_) (fun hq => ?_); refine ZB ?_; refine ZC ?_; refine Z9 (hcon := hd) ?_
 refine Zu ?_; refine Zn ?_; refine Zq ?_; refine JD ?_; refine XD rfl (fun hq => ?_) (fun hq => ?_); refine X0 ?_; refine JR ?_; refine Z0 ?_; refine JD ?_
 (clear hf ht hn hk hs hd; simp [*] at hr; subst hr; exact X1 ⟨_, St.le_refl _, ⟨rfl, trivial⟩, X2 _⟩); refine X3 ?_; refine X0 ?_; refine JR ?_; refine Z0 ?_; refine JD ?_
 (clear hf ht hn hk hs hd; simp [*] at hr; subst hr; exact X1 ⟨_, St.le_refl _, ⟨rfl, trivial⟩, X2 _⟩); refine Zo ?_; refine Zo ?_; refine Zo ?_; refine Zo ?_; refine Zq ?_; refine Zq ?_; refine JD ?_
 refine JF ?_; refine X3 ?_; refine X0 ?_; refine JR ?_; refine Z0 ?_; refine JD ?_; (clear hf ht hn hk hs hd; simp [*] at hr; subst hr; exact X1 ⟨_, St.le_refl _, ⟨rfl, trivial⟩, X2 _⟩)
 refine Zo ?_; refine Zo ?_; refine Zo ?_; refine Zo ?_; refine Zp ?_; refine Zp ?_; refine Zp ?_; refine Zp ?_; refine Zo ?_; refine Zn ?_; refine JD ?_; refine JT ?_; refine X0 ?_; refine JR ?_; refine Z0 ?_
 refine JD ?_; (clear hf ht hn hk hs hd; simp [*] at hr; subst hr; exact X1 ⟨_, St.le_refl _, ⟨rfl, trivial⟩, X2 _⟩); refine Zo ?_; refine Zo ?_; refine Zo ?_; refine Zo ?_; refine Zq ?_; refine Zq ?_
 refine Z1 ?_; refine ZB ?_; refine ZC ?_; refine ZM ?_; refine Z1 ?_; refine Xz rfl rfl (fun hq => ?_) (fun hq => ?_); refine ZB ?_; refine ZC ?_; refine Z9 (hcon := hd) ?_; refine Zu ?_; refine Zn ?_; refine Zq ?_
 refine JD ?_; refine XD rfl (fun hq => ?_) (fun hq => ?_); refine X0 ?_; refine JR ?_; refine Z0 ?_; refine JD ?_
 (clear hf ht hn hk hs hd; simp [*] at hr; subst hr; exact X1 ⟨_, St.le_refl _, ⟨rfl, trivial⟩, X2 _⟩); refine X3 ?_; refine X0 ?_; refine JR ?_; refine Z0 ?_; refine JD ?_
 (clear hf ht hn hk hs hd; simp [*] at hr; subst hr; exact X1 ⟨_, St.le_refl _, ⟨rfl, trivial⟩, X2 _⟩); refine Zo ?_; refine Zo ?_; refine Zo ?_; refine Zo ?_; refine Zq ?_; refine Zq ?_; refine JD ?_
 refine JF ?_; refine X3 ?_; refine X0 ?_; refine JR ?_; refine Z0 ?_; refine JD ?_; (clear hf ht hn hk hs hd; simp [*] at hr; subst hr; exact X1 ⟨_, St.le_refl _, ⟨rfl, trivial⟩, X2 _⟩)
 refine Zo ?_; refine Zo ?_; refine Zo ?_; refine Zo ?_; refine Zp ?_; refine Zp ?_; refine Zp ?_; refine Zp ?_; refine Zo ?_; refine Zn ?_; refine Z1 ?_; refine Zo ?_; refine Zo ?_; refine Zo ?_; refine Zo ?_
 refine Zp ?_; refine Zp ?_; refine Zp ?_; refine Zp ?_; refine Zo ?_; refine Zn ?_; refine JD ?_; refine JT ?_; refine X0 ?_; refine JR ?_; refine Z0 ?_; refine JD ?_
 (clear hf ht hn hk hs hd; simp [*] at hr; subst hr; exact X1 ⟨_, St.le_refl _, ⟨rfl, trivial⟩, X2 _⟩); refine Zo ?_; refine Zo ?_; refine Zo ?_; refine Zo ?_; refine Zp ?_; refine Zp ?_; refine Zp ?_
 refine Zp ?_; refine Zo ?_; refine Zn ?_; refine Z1 ?_; refine Zo ?_; refine Zo ?_; refine Zo ?_; refine Zo ?_; refine Zp ?_; refine Zp ?_; refine Zp ?_; refine Zp ?_; refine Zo ?_; refine Zn ?_; refine Z1 ?_
 refine Zo ?_; refine Zo ?_; refine Zo ?_; refine Zo ?_; refine Zp ?_; refine Zp ?_; refine Zp ?_; refine Zp ?_; refine Zo ?_; refine Zn ?_; refine JD ?_; refine JT ?_; refine X0 ?_; refine JR ?_; refine Z0 ?_
 refine JD ?_; (clear hf ht hn hk hs hd; simp [*] at hr; subst hr; exact X1 ⟨_, St.le_refl _, ⟨rfl, trivial⟩, X2 _⟩); refine ZB ?_; refine ZC ?_; refine ZM ?_; refine Zn ?_; refine Z1 ?_
 refine Xz rfl rfl (fun hq => ?_) (fun hq => ?_); refine Zo ?_; refine Zo ?_; refine Zo ?_; refine Zo ?_; refine Zp ?_; refine Zp ?_; refine Zp ?_; refine Zp ?_; refine Zp ?_; refine Zp ?_; refine Zp ?_; refine Zp ?_
 refine Zo ?_; refine Zn ?_; refine JD ?_; refine JT ?_; refine X0 ?_; refine JR ?_; refine Z0 ?_; refine JD ?_
 (clear hf ht hn hk hs hd; simp [*] at hr; subst hr; exact X1 ⟨_, St.le_refl _, ⟨rfl, trivial⟩, X2 _⟩); refine ZB ?_; refine ZC ?_; refine Zv ?_; refine Z1 ?_
 refine Xz rfl rfl (fun hq => ?_) (fun hq => ?_); refine ZB ?_; refine ZC ?_; refine ZM ?_; refine Z1 ?_; refine Xz rfl rfl (fun hq => ?_) (fun hq => ?_); refine Zo ?_; refine Zo ?_; refine Zo ?_; refine Zn ?_
 refine Zn ?_; refine Zq ?_; refine JD ?_; refine JT ?_; refine X0 ?_; refine JR ?_; refine Z0 ?_; refine JD ?_
 (clear hf ht hn hk hs hd; simp [*] at hr; subst hr; exact X1 ⟨_, St.le_refl _, ⟨rfl, trivial⟩, X2 _⟩); refine ZB ?_; refine ZC ?_; refine ZM ?_; refine Zq ?_; refine Zn ?_; refine Zq ?_; refine JD ?_
 refine Um rfl (fun hq => ?_) (fun hq => ?_); refine X0 ?_; refine JR ?_; refine Z0 ?_; refine JD ?_
 (clear hf ht hn hk hs hd; simp [*] at hr; subst hr; exact X1 ⟨_, St.le_refl _, ⟨rfl, trivial⟩, X2 _⟩); refine X3 ?_; refine X0 ?_; refine X0 ?_; refine JR ?_; refine ZB ?_; refine ZC ?_
 refine Z9 (hcon := hn) ?_; refine Zu ?_; refine Z1 ?_; refine XW rfl rfl (fun hq => ?_) (fun hq => ?_); refine ZB ?_; refine ZC ?_; refine Z9 (hcon := hf) ?_; refine Z1 ?_; refine Zo ?_; refine Zo ?_
 refine Zo ?_; refine Zo ?_; refine Zq ?_; refine Zq ?_; refine Z1 ?_; refine ZB ?_; refine ZC ?_; refine ZM ?_; refine Z1 ?_; refine Zo ?_; refine Zo ?_; refine Zo ?_; refine Zo ?_; refine Zq ?_; refine Zq ?_
 refine Z1 ?_; refine ZB ?_; refine ZC ?_; refine ZM ?_; refine Z1 ?_; refine Zo ?_; refine Zo ?_; refine Zo ?_; refine Zo ?_; refine Zq ?_; refine Zq ?_; refine JD ?_; refine JF ?_; refine X3 ?_; refine X0 ?_
 refine JR ?_; refine Z0 ?_; refine JD ?_; (clear hf ht hn hk hs hd; simp [*] at hr; subst hr; exact X1 ⟨_, St.le_refl _, ⟨rfl, trivial⟩, X2 _⟩); refine Zo ?_; refine Zo ?_; refine Zo ?_; refine Zo ?_
 refine Zp ?_; refine Zp ?_; refine Zp ?_; refine Zp ?_; refine Zo ?_; refine Zn ?_; refine Z1 ?_; refine Zo ?_; refine Zo ?_; refine Zo ?_; refine Zo ?_; refine Zp ?_; refine Zp ?_; refine Zp ?_; refine Zp ?_
 refine Zo ?_; refine Zn ?_; refine Z1 ?_; refine Zo ?_; refine Zo ?_; refine Zo ?_; refine Zo ?_; refine Zp ?_; refine Zp ?_; refine Zp ?_; refine Zp ?_; refine Zo ?_; refine Zn ?_; refine JD ?_; refine JT ?_
 refine X0 ?_; refine JR ?_; refine Z0 ?_; refine JD ?_; (clear hf ht hn hk hs hd; simp [*] at hr; subst hr; exact X1 ⟨_, St.le_refl _, ⟨rfl, trivial⟩, X2 _⟩); refine Zo ?_; refine Zo ?_; refine Zo ?_
 refine Zo ?_; refine Zp ?_; refine Zp ?_; refine Zp ?_; refine Zo ?_; refine Zq ?_; refine Zq ?_; refine JD ?_; refine JF ?_; refine X3 ?_; refine X0 ?_; refine X0 ?_; refine JR ?_; refine ZB ?_
 refine ZC ?_; refine Z9 (hcon := hn) ?_; refine Zu ?_; refine Z1 ?_; refine XW rfl rfl (fun hq => ?_) (fun hq => ?_); refine ZB ?_; refine ZC ?_; refine Z9 (hcon := hf) ?_; refine Z1 ?_; refine Zo ?_
 refine Zo ?_; refine Zo ?_; refine Zo ?_; refine Zq ?_; refine Zq ?_; refine Z1 ?_; refine ZB ?_; refine ZC ?_; refine ZM ?_; refine Z1 ?_; refine Xz rfl rfl (fun hq => ?_) (fun hq => ?_); refine ZB ?_; refine ZC ?_
 refine Z9 (hcon := hs) ?_; refine Zu ?_; refine Zn ?_; refine Zq ?_; refine Z1 ?_; refine XW rfl rfl (fun hq => ?_) (fun hq => ?_); refine ZB ?_; refine ZC ?_; refine ZM ?_; refine Z1 ?_
 refine Xz rfl rfl (fun hq => ?_) (fun hq => ?_); refine ZB ?_; refine ZC ?_; refine Z9 (hcon := hd) ?_; refine Zu ?_; refine Zn ?_; refine Zq ?_; refine JD ?_; refine XD rfl (fun hq => ?_) (fun hq => ?_)
 refine X0 ?_; refine JR ?_; refine Z0 ?_; refine JD ?_; (clear hf ht hn hk hs hd; simp [*] at hr; subst hr; exact X1 ⟨_, St.le_refl _, ⟨rfl, trivial⟩, X2 _⟩); refine X3 ?_; refine X0 ?_
 refine JR ?_; refine Z0 ?_; refine JD ?_; (clear hf ht hn hk hs hd; simp [*] at hr; subst hr; exact X1 ⟨_, St.le_refl _, ⟨rfl, trivial⟩, X2 _⟩); refine Zo ?_; refine Zo ?_; refine Zo ?_; refine Zo ?_
 refine Zq ?_; refine Zq ?_; refine JD ?_; refine JF ?_; refine X3 ?_; refine X0 ?_; refine JR ?_; refine Z0 ?_; refine JD ?_
 (clear hf ht hn hk hs hd; simp [*] at hr; subst hr; exact X1 ⟨_, St.le_refl _, ⟨rfl, trivial⟩, X2 _⟩); refine Zo ?_; refine Zo ?_; refine Zo ?_; refine Zo ?_; refine Zp ?_; refine Zp ?_; refine Zp ?_
 refine Zp ?_; refine Zo ?_; refine Zn ?_; refine JD ?_; refine JT ?_; refine X0 ?_; refine JR ?_; refine Z0 ?_; refine JD ?_
 (clear hf ht hn hk hs hd; simp [*] at hr; subst hr; exact X1 ⟨_, St.le_refl _, ⟨rfl, trivial⟩, X2 _⟩); refine Zo ?_; refine Zo ?_; refine Zo ?_; refine Zo ?_; refine Zq ?_; refine Zq ?_; refine Z1 ?_
 refine ZB ?_; refine ZC ?_; refine ZM ?_; refine Z1 ?_; refine Xz rfl rfl (fun hq => ?_) (fun hq => ?_); refine ZB ?_; refine ZC ?_; refine Z9 (hcon := hd) ?_; refine Zu ?_; refine Zn ?_; refine Zq ?_; refine JD ?_
 refine XD rfl (fun hq => ?_) (fun hq => ?_); refine X0 ?_; refine JR ?_; refine Z0 ?_; refine JD ?_
 (clear hf ht hn hk hs hd; simp [*] at hr; subst hr; exact X1 ⟨_, St.le_refl _, ⟨rfl, trivial⟩, X2 _⟩); refine X3 ?_; refine X0 ?_; refine JR ?_; refine Z0 ?_; refine JD ?_
 (clear hf ht hn hk hs hd; simp [*] at hr; subst hr; exact X1 ⟨_, St.le_refl _, ⟨rfl, trivial⟩, X2 _⟩); refine Zo ?_; refine Zo ?_; refine Zo ?_; refine Zo ?_; refine Zq ?_; refine Zq ?_; refine JD ?_
 refine JF ?_; refine X3 ?_; refine X0 ?_; refine JR ?_; refine Z0 ?_; refine JD ?_; (clear hf ht hn hk hs hd; simp [*] at hr; subst hr; exact X1 ⟨_, St.le_refl _, ⟨rfl, trivial⟩, X2 _⟩)
 refine Zo ?_; refine Zo ?_; refine Zo ?_; refine Zo ?_; refine Zp ?_; refine Zp ?_; refine Zp ?_; refine Zp ?_; refine Zo ?_; refine Zn ?_; refine Z1 ?_; refine Zo ?_; refine Zo ?_; refine Zo ?_; refine Zo ?_
 refine Zp ?_; refine Zp ?_; refine Zp ?_; refine Zp ?_; refine Zo ?_; refine Zn ?_; refine Z1 ?_; refine Zo ?_; refine Zo ?_; refine Zo ?_; refine Zo ?_; refine Zp ?_; refine Zp ?_; refine Zp ?_; refine Zp ?_
 refine Zo ?_; refine Zn ?_; refine JD ?_; refine JT ?_; refine X0 ?_; refine JR ?_; refine Z0 ?_; refine JD ?_
 (clear hf ht hn hk hs hd; simp [*] at hr; subst hr; exact X1 ⟨_, St.le_refl _, ⟨rfl, trivial⟩, X2 _⟩)
end Go.Fw
namespace Go.Fw
open Go
set_option linter.unusedVariables false
set_option linter.unusedSimpArgs false
def Yn (x y : List Nat) : Nat → Int
 | 0 => 0
 | k + 1 => if (x[k]?).getD 0 < (y[k]?).getD 0 then -1 else if (y[k]?).getD 0 < (x[k]?).getD 0 then 1 else Yn x y k
theorem X6k {x y : List Nat} : ∀ {k : Nat}, Yn x y k = 0 → ∀ j, j < k → (x[j]?).getD 0 = (y[j]?).getD 0
 | 0, _, j, hj => by omega
 | k + 1, h, j, hj => by
  rw [Yn] at h
  split at h
  ·simp at h
  ·split at h
   ·simp at h
   ·by_cases q : j = k
    ·subst q; omega
    ·exact X6k h j (by omega)
theorem X4W (x : List Nat) : ∀ k, Yn x x k = 0
 | 0 => rfl
 | k + 1 => by rw [Yn, if_neg (by omega), if_neg (by omega)]; exact X4W x k
theorem X47 : ∀ {n a b : Nat}, a < 1000 ^ n → b < 1000 ^ n → XX n a = XX n b → a = b
 | 0, a, b, ha, hb, _ => by simp at ha hb; omega
 | n + 1, a, b, ha, hb, h => by
  simp only [XX, List.cons.injEq] at h
  have := X47 (n := n) (a := a / 1000) (b := b / 1000) (by rw [Nat.pow_succ] at ha; omega) (by rw [Nat.pow_succ] at hb; omega) h.2
  omega
theorem X9f {x y : List Nat} (hl : x.length = y.length) (h : Yn x y x.length = 0) : x = y := by
 apply List.ext_getElem hl
 intro i h1 h2
 have := X6k h i h1
 rw [List.getElem?_eq_getElem h1, List.getElem?_eq_getElem h2] at this
 exact this
def YL (x y : List Nat) : Nat → List Nat × Nat
 | 0 => (List.replicate x.length 0, 0)
 | k + 1 => let p := YL x y k; let a := (x[k]?).getD 0; let b := (y[k]?).getD 0 + p.2; (p.1.set k (if a < b then a + 1000 - b else a - b), if a < b then 1 else 0)
theorem X4K (x y : List Nat) : ∀ k, (YL x y k).1.length = x.length
 | 0 => by simp [YL]
 | k + 1 => by simp only [YL, List.length_set]; exact X4K x y k
theorem X9y (x y : List Nat) : ∀ k, (YL x y k).2 ≤ 1
 | 0 => by simp [YL]
 | k + 1 => by simp only [YL]; split <;> omega
def Ud (x y : List Nat) : List Nat := (YL x y x.length).1
def VS (n m : Int) : Int :=
 let a := XO n; let b := -XO m
 if a = b ∨ b = 0 then a else if a = 0 then b else
  let c := Yn (XX 14 (n.natAbs * 1)) (XX 14 (m.natAbs * 1)) 14
  if c = 0 then 0 else if 0 < c then a else b
theorem Vb (n : Int) : (n < 0 ∧ XO n = -1) ∨ (0 < n ∧ XO n = 1) ∨ (n = 0 ∧ XO n = 0) := by
 unfold XO
 split
 ·exact .inl ⟨by assumption, rfl⟩
 ·split
  ·exact .inr (.inl ⟨by assumption, rfl⟩)
  ·exact .inr (.inr ⟨by omega, rfl⟩)
theorem X9M {n m : Int} (hn : n.natAbs ≤ 1000000000000000) (hm : m.natAbs ≤ 1000000000000000) : decide (VS n m = 0) = decide (n = m) := by
 rw [decide_eq_decide]
 unfold VS
 simp only
 have e14 : (1000 : Nat) ^ 14 = 1000000000000000000000000000000000000000000 := by decide
 constructor
 ·intro h
  split at h
  ·rename_i q
   rcases Vb n with ⟨a, e⟩ | ⟨a, e⟩ | ⟨a, e⟩ <;> rcases Vb m with ⟨b, f⟩ | ⟨b, f⟩ | ⟨b, f⟩ <;> omega
  ·split at h
   ·rcases Vb n with ⟨a, e⟩ | ⟨a, e⟩ | ⟨a, e⟩ <;> rcases Vb m with ⟨b, f⟩ | ⟨b, f⟩ | ⟨b, f⟩ <;> omega
   ·split at h
    ·rename_i q1 q2 q3
     have h1 := X9f (x := XX 14 (n.natAbs * 1)) (y := XX 14 (m.natAbs * 1)) (by rw [Vg, Vg]) (by rw [Vg]; exact q3)
     have h2 := X47 (by omega) (by omega) h1
     rcases Vb n with ⟨a, e⟩ | ⟨a, e⟩ | ⟨a, e⟩ <;> rcases Vb m with ⟨b, f⟩ | ⟨b, f⟩ | ⟨b, f⟩ <;> omega
    ·split at h <;> rcases Vb n with ⟨a, e⟩ | ⟨a, e⟩ | ⟨a, e⟩ <;> rcases Vb m with ⟨b, f⟩ | ⟨b, f⟩ | ⟨b, f⟩ <;> omega
 ·rintro rfl
  rcases Vb n with ⟨a, e⟩ | ⟨a, e⟩ | ⟨a, e⟩ <;> rw [e] <;> simp [X4W]
end Go.Fw

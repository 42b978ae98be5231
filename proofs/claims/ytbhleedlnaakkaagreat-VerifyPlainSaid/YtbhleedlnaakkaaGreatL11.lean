/- Values that are valid, second part. -/
import Derived.Test.YtbhleedlnaakkaaGreatL10
set_option maxHeartbeats 8000000
namespace Go.Fw
open Go Go.Proofs
set_option maxRecDepth 100000
set_option linter.unusedVariables false
set_option linter.unusedSimpArgs false
theorem X77 (v : Val) (ih : ∀ x ∈ v.l, X1A x) : X1A v := by
 obtain ⟨k, n, d, s, l⟩ := v
 intro m hm
 refine X9 (xs := [ab (X5 m (.mk k n d s l))]) Tryz.func211 rfl Tryz.ntmps211 rfl rfl rfl (fun E => ?_)
 have hlen := UE l
 simp only [Val.l] at ih
 by_cases hk0 : k = 0
 ·subst hk0
  by_cases hd0 : d = 0
  case neg =>
   rw [show X5 m (.mk 0 n d s l) = false by rw [X5]; simp [*]]
   repeat first | refine X0 ?_ | (refine JR ?_; (repeat first | refine Z1 ?_ | refine Z0 ?_ | refine ZB ?_ | refine ZC ?_ | refine Zv ?_ | refine ZA (γ := 100) ?_ | refine Zn ?_ | refine Zo ?_ | refine Zp ?_); refine JD ?_) | refine JT ?_
   exact X1 ⟨_, St.le_refl _, ⟨rfl, trivial⟩, X2 _⟩
  by_cases hs0 : s = []
  case neg =>
   rw [show X5 m (.mk 0 n d s l) = false by rw [X5]; simp [*]]
   repeat first | refine X0 ?_ | (refine JR ?_; (repeat first | refine Z1 ?_ | refine Z0 ?_ | refine ZB ?_ | refine ZC ?_ | refine Zv ?_ | refine ZM ?_ | refine ZA (γ := 100) ?_ | refine Zn ?_ | refine Zq ?_ | refine Zo ?_ | refine Zp ?_); refine JD ?_) | refine JT ?_
   exact X1 ⟨_, St.le_refl _, ⟨rfl, trivial⟩, X2 _⟩
  by_cases hl0 : l.length = 0
  case neg =>
   have hl1 : 0 < l.length := by omega
   rw [show X5 m (.mk 0 n d s l) = false by rw [X5]; simp [*]]
   repeat first | refine X0 ?_ | (refine JR ?_; (repeat first | refine Z1 ?_ | refine Z0 ?_ | refine ZB ?_ | refine ZC ?_ | refine Zd ?_ | refine Zs ?_ | refine Zv ?_ | refine ZM ?_ | refine ZA (γ := 100) ?_ | refine Zn ?_ | refine Zq ?_); refine JD ?_) | refine JT ?_
   exact X1 ⟨_, St.le_refl _, ⟨rfl, trivial⟩, X2 _⟩
  by_cases hn : n = 0
  ·rw [show X5 m (.mk 0 n d s l) = true by rw [X5]; simp [*]]
   repeat first | refine X0 ?_ | (refine JR ?_; (repeat first | refine Z1 ?_ | refine Z0 ?_ | refine ZB ?_ | refine ZC ?_ | refine Zd ?_ | refine Zs ?_ | refine Zl ?_ | refine Zv ?_ | refine ZM ?_ | refine ZA (γ := 100) ?_ | refine Zn ?_ | refine Zq ?_); refine JD ?_) | refine JT ?_ | refine JF ?_ | refine X4 ?_ | refine X3 ?_
   exact X1 ⟨_, Xe 4 (y := ab true) (AVal.le_of_eq (by refine Eq.trans (b := ab (decide (n = 0))) rfl ?_; exact congrArg ab (decide_eq_true hn))), ⟨rfl, trivial⟩, X2 _⟩
  ·rw [show X5 m (.mk 0 n d s l) = false by rw [X5]; simp [*]]
   repeat first | refine X0 ?_ | (refine JR ?_; (repeat first | refine Z1 ?_ | refine Z0 ?_ | refine ZB ?_ | refine ZC ?_ | refine Zd ?_ | refine Zs ?_ | refine Zl ?_ | refine Zv ?_ | refine ZM ?_ | refine ZA (γ := 100) ?_ | refine Zn ?_ | refine Zq ?_); refine JD ?_) | refine JT ?_ | refine JF ?_ | refine X4 ?_ | refine X3 ?_
   exact X1 ⟨_, Xe 4 (y := ab false) (AVal.le_of_eq (by refine Eq.trans (b := ab (decide (n = 0))) rfl ?_; exact congrArg ab (decide_eq_false hn))), ⟨rfl, trivial⟩, X2 _⟩
 by_cases hk1 : k = 1
 ·subst hk1
  by_cases hd0 : d = 0
  case neg =>
   rw [show X5 m (.mk 1 n d s l) = false by rw [X5]; simp [*]]
   repeat first | refine X0 ?_ | (refine JR ?_; (repeat first | refine Z1 ?_ | refine Z0 ?_ | refine ZB ?_ | refine ZC ?_ | refine Zv ?_ | refine ZA (γ := 100) ?_ | refine Zn ?_ | refine Zo ?_ | refine Zp ?_); refine JD ?_) | refine JT ?_
   exact X1 ⟨_, St.le_refl _, ⟨rfl, trivial⟩, X2 _⟩
  by_cases hs0 : s = []
  case neg =>
   rw [show X5 m (.mk 1 n d s l) = false by rw [X5]; simp [*]]
   repeat first | refine X0 ?_ | (refine JR ?_; (repeat first | refine Z1 ?_ | refine Z0 ?_ | refine ZB ?_ | refine ZC ?_ | refine Zv ?_ | refine ZM ?_ | refine ZA (γ := 100) ?_ | refine Zn ?_ | refine Zq ?_ | refine Zo ?_ | refine Zp ?_); refine JD ?_) | refine JT ?_
   exact X1 ⟨_, St.le_refl _, ⟨rfl, trivial⟩, X2 _⟩
  by_cases hl0 : l.length = 0
  case neg =>
   have hl1 : 0 < l.length := by omega
   rw [show X5 m (.mk 1 n d s l) = false by rw [X5]; simp [*]]
   repeat first | refine X0 ?_ | (refine JR ?_; (repeat first | refine Z1 ?_ | refine Z0 ?_ | refine ZB ?_ | refine ZC ?_ | refine Zd ?_ | refine Zs ?_ | refine Zv ?_ | refine ZM ?_ | refine ZA (γ := 100) ?_ | refine Zn ?_ | refine Zq ?_); refine JD ?_) | refine JT ?_
   exact X1 ⟨_, St.le_refl _, ⟨rfl, trivial⟩, X2 _⟩
  by_cases hn : n = 0
  ·rw [show X5 m (.mk 1 n d s l) = true by rw [X5]; simp [*]]
   repeat first | refine X0 ?_ | (refine JR ?_; (repeat first | refine Z1 ?_ | refine Z0 ?_ | refine ZB ?_ | refine ZC ?_ | refine Zd ?_ | refine Zs ?_ | refine Zl ?_ | refine Zv ?_ | refine ZM ?_ | refine ZA (γ := 100) ?_ | refine Zn ?_ | refine Zq ?_ | refine Zo ?_); refine JD ?_) | refine JT ?_ | refine JF ?_ | refine X4 ?_ | refine X3 ?_
   exact X1 ⟨_, St.le_refl _, ⟨rfl, trivial⟩, X2 _⟩
  by_cases hn1 : n = 1
  ·rw [show X5 m (.mk 1 n d s l) = true by rw [X5]; simp [*]]
   repeat first | refine X0 ?_ | (refine JR ?_; (repeat first | refine Z1 ?_ | refine Z0 ?_ | refine ZB ?_ | refine ZC ?_ | refine Zd ?_ | refine Zs ?_ | refine Zl ?_ | refine Zv ?_ | refine ZM ?_ | refine ZA (γ := 100) ?_ | refine Zn ?_ | refine Zq ?_); refine JD ?_) | refine JT ?_ | refine JF ?_ | refine X4 ?_ | refine X3 ?_
   exact X1 ⟨_, Xe 4 (y := ab true) (AVal.le_of_eq (by refine Eq.trans (b := ab (decide (n = 1))) rfl ?_; exact congrArg ab (decide_eq_true hn1))), ⟨rfl, trivial⟩, X2 _⟩
  ·rw [show X5 m (.mk 1 n d s l) = false by rw [X5]; simp [*]]
   repeat first | refine X0 ?_ | (refine JR ?_; (repeat first | refine Z1 ?_ | refine Z0 ?_ | refine ZB ?_ | refine ZC ?_ | refine Zd ?_ | refine Zs ?_ | refine Zl ?_ | refine Zv ?_ | refine ZM ?_ | refine ZA (γ := 100) ?_ | refine Zn ?_ | refine Zq ?_); refine JD ?_) | refine JT ?_ | refine JF ?_ | refine X4 ?_ | refine X3 ?_
   exact X1 ⟨_, Xe 4 (y := ab false) (AVal.le_of_eq (by refine Eq.trans (b := ab (decide (n = 1))) rfl ?_; exact congrArg ab (decide_eq_false hn1))), ⟨rfl, trivial⟩, X2 _⟩
 by_cases hk2 : k = 2
 ·subst hk2
  by_cases hd0 : d = 0
  case neg =>
   rw [show X5 m (.mk 2 n d s l) = false by rw [X5]; simp [*]]
   repeat first | refine X0 ?_ | (refine JR ?_; (repeat first | refine Z1 ?_ | refine Z0 ?_ | refine ZB ?_ | refine ZC ?_ | refine Zv ?_ | refine ZA (γ := 100) ?_ | refine Zn ?_ | refine Zo ?_ | refine Zp ?_); refine JD ?_) | refine JT ?_
   exact X1 ⟨_, St.le_refl _, ⟨rfl, trivial⟩, X2 _⟩
  by_cases hs0 : s = []
  case neg =>
   rw [show X5 m (.mk 2 n d s l) = false by rw [X5]; simp [*]]
   repeat first | refine X0 ?_ | (refine JR ?_; (repeat first | refine Z1 ?_ | refine Z0 ?_ | refine ZB ?_ | refine ZC ?_ | refine Zv ?_ | refine ZM ?_ | refine ZA (γ := 100) ?_ | refine Zn ?_ | refine Zq ?_ | refine Zo ?_ | refine Zp ?_); refine JD ?_) | refine JT ?_
   exact X1 ⟨_, St.le_refl _, ⟨rfl, trivial⟩, X2 _⟩
  by_cases hl0 : l.length = 0
  case neg =>
   have hl1 : 0 < l.length := by omega
   rw [show X5 m (.mk 2 n d s l) = false by rw [X5]; simp [*]]
   repeat first | refine X0 ?_ | (refine JR ?_; (repeat first | refine Z1 ?_ | refine Z0 ?_ | refine ZB ?_ | refine ZC ?_ | refine Zd ?_ | refine Zs ?_ | refine Zv ?_ | refine ZM ?_ | refine ZA (γ := 100) ?_ | refine Zn ?_ | refine Zq ?_); refine JD ?_) | refine JT ?_
   exact X1 ⟨_, St.le_refl _, ⟨rfl, trivial⟩, X2 _⟩
  rw [show X5 m (.mk 2 n d s l) = inV n by rw [X5]; simp [inV, *]]
  repeat first | refine X0 ?_ | (refine JR ?_; (repeat first | refine Z1 ?_ | refine Z0 ?_ | refine ZB ?_ | refine ZC ?_ | refine Zd ?_ | refine Zs ?_ | refine Zl ?_ | refine Zv ?_ | refine ZM ?_ | refine ZA (γ := 100) ?_ | refine Zn ?_ | refine Zq ?_ | refine Z9 (hcon := X1a n) ?_); refine JD ?_) | refine JT ?_ | refine JF ?_ | refine X4 ?_ | refine X3 ?_
  exact X1 ⟨_, St.le_refl _, ⟨rfl, trivial⟩, X2 _⟩
 by_cases hk3 : k = 3
 ·subst hk3
  by_cases hs0 : s = []
  case neg =>
   rw [show X5 m (.mk 3 n d s l) = false by rw [X5]; simp [*]]
   repeat first | refine X0 ?_ | (refine JR ?_; (repeat first | refine Z1 ?_ | refine Z0 ?_ | refine ZB ?_ | refine ZC ?_ | refine Zv ?_ | refine ZM ?_ | refine ZA (γ := 100) ?_ | refine Zn ?_ | refine Zq ?_ | refine Zo ?_ | refine Zp ?_); refine JD ?_) | refine JT ?_
   exact X1 ⟨_, St.le_refl _, ⟨rfl, trivial⟩, X2 _⟩
  by_cases hl0 : l.length = 0
  case neg =>
   have hl1 : 0 < l.length := by omega
   rw [show X5 m (.mk 3 n d s l) = false by rw [X5]; simp [*]]
   repeat first | refine X0 ?_ | (refine JR ?_; (repeat first | refine Z1 ?_ | refine Z0 ?_ | refine ZB ?_ | refine ZC ?_ | refine Zd ?_ | refine Zs ?_ | refine Zv ?_ | refine ZM ?_ | refine ZA (γ := 100) ?_ | refine Zn ?_ | refine Zq ?_ | refine Zo ?_); refine JD ?_) | refine JT ?_
   exact X1 ⟨_, St.le_refl _, ⟨rfl, trivial⟩, X2 _⟩
  by_cases hd : 2 ≤ d
  ·rw [show X5 m (.mk 3 n d s l) = YN n d by rw [X5]; simp [*]]
   repeat first | refine X0 ?_ | (refine JR ?_; (repeat first | refine Z1 ?_ | refine Z0 ?_ | refine ZB ?_ | refine ZC ?_ | refine Zd ?_ | refine Zs ?_ | refine Z2 ?_ | refine Zl ?_ | refine Zv ?_ | refine ZM ?_ | refine ZA (γ := 100) ?_ | refine Zx ?_ | refine Zn ?_ | refine Zq ?_ | refine Zo ?_ | refine Z9 (hcon := X9p n d) ?_); refine JD ?_) | refine JT ?_ | refine JF ?_ | refine X4 ?_ | refine X3 ?_
   exact X1 ⟨_, St.le_refl _, ⟨rfl, trivial⟩, X2 _⟩
  ·rw [show X5 m (.mk 3 n d s l) = false by rw [X5]; simp [*]]
   repeat first | refine X0 ?_ | (refine JR ?_; (repeat first | refine Z1 ?_ | refine Z0 ?_ | refine ZB ?_ | refine ZC ?_ | refine Zd ?_ | refine Zs ?_ | refine Z2 ?_ | refine Zl ?_ | refine Zv ?_ | refine ZM ?_ | refine ZA (γ := 100) ?_ | refine Zn ?_ | refine Zq ?_ | refine Zo ?_); refine JD ?_) | refine JT ?_ | refine JF ?_ | refine X4 ?_ | refine X3 ?_
   exact X1 ⟨_, St.le_refl _, ⟨rfl, trivial⟩, X2 _⟩
 by_cases hk4 : k = 4
 ·subst hk4
  by_cases hd0 : d = 0
  case neg =>
   rw [show X5 m (.mk 4 n d s l) = false by rw [X5]; simp [*]]
   repeat first | refine X0 ?_ | (refine JR ?_; (repeat first | refine Z1 ?_ | refine Z0 ?_ | refine ZB ?_ | refine ZC ?_ | refine Zv ?_ | refine ZA (γ := 100) ?_ | refine Zn ?_ | refine Zo ?_ | refine Zp ?_); refine JD ?_) | refine JT ?_
   exact X1 ⟨_, St.le_refl _, ⟨rfl, trivial⟩, X2 _⟩
  by_cases hl0 : l.length = 0
  case neg =>
   have hl1 : 0 < l.length := by omega
   rw [show X5 m (.mk 4 n d s l) = false by rw [X5]; simp [*]]
   repeat first | refine X0 ?_ | (refine JR ?_; (repeat first | refine Z1 ?_ | refine Z0 ?_ | refine ZB ?_ | refine ZC ?_ | refine Zd ?_ | refine Zs ?_ | refine Zv ?_ | refine ZA (γ := 100) ?_ | refine Zn ?_ | refine Zq ?_ | refine Zo ?_); refine JD ?_) | refine JT ?_
   exact X1 ⟨_, St.le_refl _, ⟨rfl, trivial⟩, X2 _⟩
  by_cases hn : n = 0
  case neg =>
   rw [show X5 m (.mk 4 n d s l) = false by rw [X5]; simp [*]]
   repeat first | refine X0 ?_ | (refine JR ?_; (repeat first | refine Z1 ?_ | refine Z0 ?_ | refine ZB ?_ | refine ZC ?_ | refine Zd ?_ | refine Zs ?_ | refine Zl ?_ | refine Zv ?_ | refine ZA (γ := 100) ?_ | refine Zn ?_ | refine Zq ?_ | refine Zo ?_); refine JD ?_) | refine JT ?_ | refine JF ?_ | refine X4 ?_ | refine X3 ?_
   exact X1 ⟨_, St.le_refl _, ⟨rfl, trivial⟩, X2 _⟩
  have hsz : (X6 s).size = s.length := rfl
  by_cases hs : s.length ≤ 100
  case neg =>
   rw [show X5 m (.mk 4 n d s l) = false by rw [X5]; simp [*]]
   repeat first | refine X0 ?_ | (refine JR ?_; (repeat first | refine Z1 ?_ | refine Z0 ?_ | refine ZB ?_ | refine ZC ?_ | refine Zd ?_ | refine Zc ?_ | refine Zm ?_ | refine Zs ?_ | refine Zl ?_ | refine Zv ?_ | refine ZA (γ := 100) ?_ | refine Zn ?_ | refine Zq ?_ | refine Zo ?_); refine JD ?_) | refine JT ?_ | refine JF ?_ | refine X4 ?_ | refine X3 ?_
   exact X1 ⟨_, St.le_refl _, ⟨rfl, trivial⟩, X2 _⟩
  rw [show X5 m (.mk 4 n d s l) = YM s by rw [X5]; simp [*]]
  repeat first | refine X0 ?_ | (refine JR ?_; (repeat first | refine Z1 ?_ | refine Z0 ?_ | refine ZB ?_ | refine ZC ?_ | refine Zd ?_ | refine Zc ?_ | refine Z8 ?_ | refine Zm ?_ | refine Zs ?_ | refine Zl ?_ | refine Zv ?_ | refine ZA (γ := 100) ?_ | refine Zn ?_ | refine Zq ?_ | refine Zo ?_ | refine Z9 (hcon := X7g s (by omega)) ?_); refine JD ?_) | refine JT ?_ | refine JF ?_ | refine X4 ?_ | refine X3 ?_
  exact X1 ⟨_, Xe 4 (y := ab (YM s)) (AVal.le_of_eq (by refine Eq.trans (b := ab (decide (UP s < 0))) rfl ?_; exact congrArg ab (by cases hv : YM s with | true => exact decide_eq_true (X61.2 hv) | false => exact decide_eq_false (fun h => by rw [X61.1 h] at hv; simp at hv)))), ⟨rfl, trivial⟩, X2 _⟩
 by_cases hk5 : k = 5
 ·subst hk5
  by_cases hd0 : d = 0
  case neg =>
   rw [show X5 m (.mk 5 n d s l) = false by rw [X5]; simp [*]]
   repeat first | refine X0 ?_ | (refine JR ?_; (repeat first | refine Z1 ?_ | refine Z0 ?_ | refine ZB ?_ | refine ZC ?_ | refine Zv ?_ | refine ZA (γ := 100) ?_ | refine Zn ?_ | refine Zo ?_ | refine Zp ?_); refine JD ?_) | refine JT ?_
   exact X1 ⟨_, St.le_refl _, ⟨rfl, trivial⟩, X2 _⟩
  by_cases hs0 : s = []
  case neg =>
   rw [show X5 m (.mk 5 n d s l) = false by rw [X5]; simp [*]]
   repeat first | refine X0 ?_ | (refine JR ?_; (repeat first | refine Z1 ?_ | refine Z0 ?_ | refine ZB ?_ | refine ZC ?_ | refine Zv ?_ | refine ZM ?_ | refine ZA (γ := 100) ?_ | refine Zn ?_ | refine Zq ?_ | refine Zo ?_ | refine Zp ?_); refine JD ?_) | refine JT ?_
   exact X1 ⟨_, St.le_refl _, ⟨rfl, trivial⟩, X2 _⟩
  by_cases hl0 : l.length = 0
  case neg =>
   have hl1 : 0 < l.length := by omega
   rw [show X5 m (.mk 5 n d s l) = false by rw [X5]; simp [*]]
   repeat first | refine X0 ?_ | (refine JR ?_; (repeat first | refine Z1 ?_ | refine Z0 ?_ | refine ZB ?_ | refine ZC ?_ | refine Zd ?_ | refine Zs ?_ | refine Zv ?_ | refine ZM ?_ | refine ZA (γ := 100) ?_ | refine Zn ?_ | refine Zq ?_); refine JD ?_) | refine JT ?_
   exact X1 ⟨_, St.le_refl _, ⟨rfl, trivial⟩, X2 _⟩
  by_cases hn : 1 ≤ n
  case neg =>
   rw [show X5 m (.mk 5 n d s l) = false by rw [X5]; simp [*]]
   repeat first | refine X0 ?_ | (refine JR ?_; (repeat first | refine Z1 ?_ | refine Z0 ?_ | refine ZB ?_ | refine ZC ?_ | refine Zd ?_ | refine Zs ?_ | refine Z2 ?_ | refine Zl ?_ | refine Zv ?_ | refine ZM ?_ | refine ZA (γ := 100) ?_ | refine Zn ?_ | refine Zq ?_ | refine Zo ?_); refine JD ?_) | refine JT ?_ | refine JF ?_ | refine X4 ?_ | refine X3 ?_
   exact X1 ⟨_, St.le_refl _, ⟨rfl, trivial⟩, X2 _⟩
  rw [show X5 m (.mk 5 n d s l) = decide (n ≤ 1000000) by rw [X5]; simp [*]]
  repeat first | refine X0 ?_ | (refine JR ?_; (repeat first | refine Z1 ?_ | refine Z0 ?_ | refine ZB ?_ | refine ZC ?_ | refine Zd ?_ | refine Zm ?_ | refine Zs ?_ | refine Z2 ?_ | refine Zl ?_ | refine Zv ?_ | refine ZM ?_ | refine ZA (γ := 100) ?_ | refine Zn ?_ | refine Zq ?_); refine JD ?_) | refine JT ?_ | refine JF ?_ | refine X4 ?_ | refine X3 ?_
  exact X1 ⟨_, St.le_refl _, ⟨rfl, trivial⟩, X2 _⟩
 by_cases hk6 : k = 6
 ·subst hk6
  by_cases hd0 : d = 0
  case neg =>
   rw [show X5 m (.mk 6 n d s l) = false by rw [X5]; simp [*]]
   repeat first | refine X0 ?_ | (refine JR ?_; (repeat first | refine Z1 ?_ | refine Z0 ?_ | refine ZB ?_ | refine ZC ?_ | refine Zv ?_ | refine ZA (γ := 100) ?_ | refine Zn ?_ | refine Zo ?_ | refine Zp ?_); refine JD ?_) | refine JT ?_
   exact X1 ⟨_, St.le_refl _, ⟨rfl, trivial⟩, X2 _⟩
  by_cases hs0 : s = []
  case neg =>
   rw [show X5 m (.mk 6 n d s l) = false by rw [X5]; simp [*]]
   repeat first | refine X0 ?_ | (refine JR ?_; (repeat first | refine Z1 ?_ | refine Z0 ?_ | refine ZB ?_ | refine ZC ?_ | refine Zv ?_ | refine ZM ?_ | refine ZA (γ := 100) ?_ | refine Zn ?_ | refine Zq ?_ | refine Zo ?_ | refine Zp ?_); refine JD ?_) | refine JT ?_
   exact X1 ⟨_, St.le_refl _, ⟨rfl, trivial⟩, X2 _⟩
  by_cases hl0 : l.length = 0
  case neg =>
   have hl1 : 0 < l.length := by omega
   rw [show X5 m (.mk 6 n d s l) = false by rw [X5]; simp [*]]
   repeat first | refine X0 ?_ | (refine JR ?_; (repeat first | refine Z1 ?_ | refine Z0 ?_ | refine ZB ?_ | refine ZC ?_ | refine Zd ?_ | refine Zs ?_ | refine Zv ?_ | refine ZM ?_ | refine ZA (γ := 100) ?_ | refine Zn ?_ | refine Zq ?_); refine JD ?_) | refine JT ?_
   exact X1 ⟨_, St.le_refl _, ⟨rfl, trivial⟩, X2 _⟩
  by_cases hn : 1 ≤ n
  case neg =>
   rw [show X5 m (.mk 6 n d s l) = false by rw [X5]; simp [*]]
   repeat first | refine X0 ?_ | (refine JR ?_; (repeat first | refine Z1 ?_ | refine Z0 ?_ | refine ZB ?_ | refine ZC ?_ | refine Zd ?_ | refine Zs ?_ | refine Z2 ?_ | refine Zl ?_ | refine Zv ?_ | refine ZM ?_ | refine ZA (γ := 100) ?_ | refine Zn ?_ | refine Zq ?_ | refine Zo ?_); refine JD ?_) | refine JT ?_ | refine JF ?_ | refine X4 ?_ | refine X3 ?_
   exact X1 ⟨_, St.le_refl _, ⟨rfl, trivial⟩, X2 _⟩
  rw [show X5 m (.mk 6 n d s l) = decide (n ≤ 1000000) by rw [X5]; simp [*]]
  repeat first | refine X0 ?_ | (refine JR ?_; (repeat first | refine Z1 ?_ | refine Z0 ?_ | refine ZB ?_ | refine ZC ?_ | refine Zd ?_ | refine Zm ?_ | refine Zs ?_ | refine Z2 ?_ | refine Zl ?_ | refine Zv ?_ | refine ZM ?_ | refine ZA (γ := 100) ?_ | refine Zn ?_ | refine Zq ?_); refine JD ?_) | refine JT ?_ | refine JF ?_ | refine X4 ?_ | refine X3 ?_
  exact X1 ⟨_, St.le_refl _, ⟨rfl, trivial⟩, X2 _⟩
 by_cases hk7 : k = 7
 ·subst hk7
  by_cases hd0 : d = 0
  case neg =>
   rw [show X5 m (.mk 7 n d s l) = false by rw [X5]; simp [*]]
   repeat first | refine X0 ?_ | (refine JR ?_; (repeat first | refine Z1 ?_ | refine Z0 ?_ | refine ZB ?_ | refine ZC ?_ | refine Zv ?_ | refine ZA (γ := 100) ?_ | refine Zn ?_ | refine Zo ?_ | refine Zp ?_); refine JD ?_) | refine JT ?_
   exact X1 ⟨_, St.le_refl _, ⟨rfl, trivial⟩, X2 _⟩
  by_cases hs0 : s = []
  case neg =>
   rw [show X5 m (.mk 7 n d s l) = false by rw [X5]; simp [*]]
   repeat first | refine X0 ?_ | (refine JR ?_; (repeat first | refine Z1 ?_ | refine Z0 ?_ | refine ZB ?_ | refine ZC ?_ | refine Zv ?_ | refine ZM ?_ | refine ZA (γ := 100) ?_ | refine Zn ?_ | refine Zq ?_ | refine Zo ?_ | refine Zp ?_); refine JD ?_) | refine JT ?_
   exact X1 ⟨_, St.le_refl _, ⟨rfl, trivial⟩, X2 _⟩
  by_cases hn : n = 0
  case neg =>
   rw [show X5 m (.mk 7 n d s l) = false by rw [X5]; simp [*]]
   repeat first | refine X0 ?_ | (refine JR ?_; (repeat first | refine Z1 ?_ | refine Z0 ?_ | refine ZB ?_ | refine ZC ?_ | refine Zl ?_ | refine Zv ?_ | refine ZM ?_ | refine ZA (γ := 100) ?_ | refine Zn ?_ | refine Zq ?_ | refine Zo ?_); refine JD ?_) | refine JT ?_ | refine JF ?_ | refine X4 ?_ | refine X3 ?_
   exact X1 ⟨_, St.le_refl _, ⟨rfl, trivial⟩, X2 _⟩
  rw [show X5 m (.mk 7 n d s l) = YB l by rw [X5]; simp [YB, *]]
  have hp : X2s l := X8Q l ih
  unfold X2s at hp
  repeat first | refine X0 ?_ | (refine JR ?_; (repeat first | refine Z1 ?_ | refine Z0 ?_ | refine ZB ?_ | refine ZC ?_ | refine Zl ?_ | refine Zv ?_ | refine ZM ?_ | refine ZA (γ := 100) ?_ | refine Zn ?_ | refine Zq ?_ | refine Zo ?_ | refine Z9 (hcon := hp) ?_); refine JD ?_) | refine JT ?_ | refine JF ?_ | refine X4 ?_ | refine X3 ?_
  exact X1 ⟨_, St.le_refl _, ⟨rfl, trivial⟩, X2 _⟩
 by_cases hk8 : k = 8
 ·subst hk8
  by_cases hd0 : d = 0
  case neg =>
   rw [show X5 m (.mk 8 n d s l) = false by rw [X5]; simp [*]]
   repeat first | refine X0 ?_ | (refine JR ?_; (repeat first | refine Z1 ?_ | refine Z0 ?_ | refine ZB ?_ | refine ZC ?_ | refine Zv ?_ | refine ZA (γ := 100) ?_ | refine Zn ?_ | refine Zo ?_ | refine Zp ?_); refine JD ?_) | refine JT ?_
   exact X1 ⟨_, St.le_refl _, ⟨rfl, trivial⟩, X2 _⟩
  by_cases hs0 : s = []
  case neg =>
   rw [show X5 m (.mk 8 n d s l) = false by rw [X5]; simp [*]]
   repeat first | refine X0 ?_ | (refine JR ?_; (repeat first | refine Z1 ?_ | refine Z0 ?_ | refine ZB ?_ | refine ZC ?_ | refine Zv ?_ | refine ZM ?_ | refine ZA (γ := 100) ?_ | refine Zn ?_ | refine Zq ?_ | refine Zo ?_ | refine Zp ?_); refine JD ?_) | refine JT ?_
   exact X1 ⟨_, St.le_refl _, ⟨rfl, trivial⟩, X2 _⟩
  by_cases hn : n = 0
  case neg =>
   rw [show X5 m (.mk 8 n d s l) = false by rw [X5]; simp [*]]
   repeat first | refine X0 ?_ | (refine JR ?_; (repeat first | refine Z1 ?_ | refine Z0 ?_ | refine ZB ?_ | refine ZC ?_ | refine Zl ?_ | refine Zv ?_ | refine ZM ?_ | refine ZA (γ := 100) ?_ | refine Zn ?_ | refine Zq ?_ | refine Zo ?_); refine JD ?_) | refine JT ?_ | refine JF ?_ | refine X4 ?_ | refine X3 ?_
   exact X1 ⟨_, St.le_refl _, ⟨rfl, trivial⟩, X2 _⟩
  by_cases h64 : l.length ≤ 64
  case neg =>
   rw [show X5 m (.mk 8 n d s l) = false by rw [X5]; simp [*]]
   repeat first | refine X0 ?_ | (refine JR ?_; (repeat first | refine Z1 ?_ | refine Z0 ?_ | refine ZB ?_ | refine ZC ?_ | refine Zd ?_ | refine Zs ?_ | refine Zl ?_ | refine Zv ?_ | refine ZM ?_ | refine ZA (γ := 100) ?_ | refine Zn ?_ | refine Zq ?_ | refine Zo ?_); refine JD ?_) | refine JT ?_ | refine JF ?_ | refine X4 ?_ | refine X3 ?_
   exact X1 ⟨_, St.le_refl _, ⟨rfl, trivial⟩, X2 _⟩
  by_cases hm1 : 1 ≤ m
  case neg =>
   rw [show X5 m (.mk 8 n d s l) = false by rw [X5]; simp [*]]
   repeat first | refine X0 ?_ | (refine JR ?_; (repeat first | refine Z1 ?_ | refine Z0 ?_ | refine ZB ?_ | refine ZC ?_ | refine Zd ?_ | refine Zs ?_ | refine Z2 ?_ | refine Zl ?_ | refine Zv ?_ | refine ZM ?_ | refine ZA (γ := 100) ?_ | refine Zn ?_ | refine Zq ?_ | refine Zo ?_); refine JD ?_) | refine JT ?_ | refine JF ?_ | refine X4 ?_ | refine X3 ?_
   exact X1 ⟨_, St.le_refl _, ⟨rfl, trivial⟩, X2 _⟩
  rw [show X5 m (.mk 8 n d s l) = YX (m - 1) (l.drop 0) by rw [X5]; simp [*]]
  repeat first | refine X0 ?_ | (refine JR ?_; (repeat first | refine Z1 ?_ | refine Z0 ?_ | refine ZB ?_ | refine ZC ?_ | refine Zd ?_ | refine Zs ?_ | refine Z2 ?_ | refine Zl ?_ | refine Zv ?_ | refine ZM ?_ | refine ZA (γ := 100) ?_ | refine Zn ?_ | refine Zq ?_ | refine Zo ?_); refine JD ?_) | refine JT ?_ | refine JF ?_ | refine X4 ?_ | refine X3 ?_
  refine Xs (fun i : Nat => i ≤ l.length ∧ YX (m - 1) (l.drop 0) = YX (m - 1) (l.drop i)) (fun i => ⟨142, [(1, ai (8 - m : Nat)), (120, .d (.sl 5 (XG l))), (121, ai l.length), (122, ai i)], []⟩) (fun i => l.length - i) 0 ⟨by omega, rfl⟩
   (X7 rfl ⟨JL, JL, (by refine AVal.le_of_eq ?_; refine Eq.trans (b := ai ((XG l).length : Nat)) rfl ?_; rw [hlen]), JL, trivial⟩ trivial) ?_
  rintro i ⟨hi, hpv⟩
  by_cases hlt : i < l.length
  ·obtain ⟨x, hx⟩ := Xm (l := l) hlt
   have hgx := X1g hx
   have hvx := ih x (List.mem_of_getElem? hx) (m - 1) (by omega)
   have hst := X6E (m := m - 1) hx
   have e8 : nj (8 - m + 1) = nj (8 - (m - 1)) := congrArg nj (by omega)
   obtain ⟨k', n', d', s', q'⟩ := x
   simp only [Xn] at hvx
   rw [Y8] at hgx
   cases hvv : X5 (m - 1) (.mk k' n' d' s' q') with
   | true =>
    rw [hvv] at hvx
    rw [hvv, Bool.true_and] at hst
    refine X0 ?_; refine JR ?_; refine Z8 ?_; refine JD ?_; refine X0 ?_; refine JT ?_; refine X3 ?_; refine X0 ?_; refine X4 ?_; refine X0 ?_; refine JR ?_; refine Zj ?_; refine ZK ?_
    refine Zw (γ := 100) ?_; refine Zy ?_; refine JD ?_; refine X0 ?_; refine JR ?_; refine ZL ?_; refine Z1 ?_
    refine Z4 (op := .add) (r' := nj (8 - (m - 1))) (u := nj (8 - m)) (v := nj 1) ?_ (hr' := by exact e8) (hr := by exact UW (by rw [YC]; omega)); refine Z9 (hcon := hvx) ?_; refine Zu ?_; refine JD ?_
    refine JF ?_; refine X3 ?_; refine JR ?_; refine Zb ?_; refine Z1 ?_; refine JD ?_
    exact ⟨i + 1, ⟨by omega, hpv.trans hst⟩, by omega, X7 rfl ⟨JL, JL, JL, JL, trivial⟩ trivial⟩
   | false =>
    rw [hvv] at hvx
    rw [hvv, Bool.false_and] at hst
    rw [hpv, hst]
    refine X0 ?_; refine JR ?_; refine Z8 ?_; refine JD ?_; refine X0 ?_; refine JT ?_; refine X3 ?_; refine X0 ?_; refine X4 ?_; refine X0 ?_; refine JR ?_; refine Zj ?_; refine ZK ?_
    refine Zw (γ := 100) ?_; refine Zy ?_; refine JD ?_; refine X0 ?_; refine JR ?_; refine ZL ?_; refine Z1 ?_
    refine Z4 (op := .add) (r' := nj (8 - (m - 1))) (u := nj (8 - m)) (v := nj 1) ?_ (hr' := by exact e8) (hr := by exact UW (by rw [YC]; omega)); refine Z9 (hcon := hvx) ?_; refine Zu ?_; refine JD ?_
    refine JT ?_; refine X0 ?_; refine JR ?_; refine Z0 ?_; refine JD ?_
    exact X1 ⟨_, St.le_refl _, ⟨rfl, trivial⟩, X2 _⟩
  obtain rfl : i = l.length := by omega
  rw [hpv, List.drop_length, YX]
  refine X0 ?_; refine JR ?_; refine Z8 ?_; refine JD ?_; refine X0 ?_; refine JF ?_; refine Xo ?_; refine X0 ?_; refine JR ?_; refine Z0 ?_; refine JD ?_
  exact X1 ⟨_, St.le_refl _, ⟨rfl, trivial⟩, X2 _⟩
 by_cases hd0 : d = 0
 case neg =>
  rw [show X5 m (.mk k n d s l) = false by rw [X5]; simp [*]]
  repeat first | refine X0 ?_ | (refine JR ?_; (repeat first | refine Z1 ?_ | refine Z0 ?_ | refine ZB ?_ | refine ZC ?_ | refine Zv ?_ | refine ZA (γ := 100) ?_ | refine Zn ?_ | refine Zo ?_ | refine Zp ?_); refine JD ?_) | refine JT ?_
  exact X1 ⟨_, St.le_refl _, ⟨rfl, trivial⟩, X2 _⟩
 by_cases hs0 : s = []
 case neg =>
  rw [show X5 m (.mk k n d s l) = false by rw [X5]; simp [*]]
  repeat first | refine X0 ?_ | (refine JR ?_; (repeat first | refine Z1 ?_ | refine Z0 ?_ | refine ZB ?_ | refine ZC ?_ | refine Zv ?_ | refine ZM ?_ | refine ZA (γ := 100) ?_ | refine Zn ?_ | refine Zq ?_ | refine Zo ?_ | refine Zp ?_); refine JD ?_) | refine JT ?_
  exact X1 ⟨_, St.le_refl _, ⟨rfl, trivial⟩, X2 _⟩
 by_cases hl0 : l.length = 0
 case neg =>
  have hl1 : 0 < l.length := by omega
  rw [show X5 m (.mk k n d s l) = false by rw [X5]; simp [*]]
  repeat first | refine X0 ?_ | (refine JR ?_; (repeat first | refine Z1 ?_ | refine Z0 ?_ | refine ZB ?_ | refine ZC ?_ | refine Zd ?_ | refine Zs ?_ | refine Zv ?_ | refine ZM ?_ | refine ZA (γ := 100) ?_ | refine Zn ?_ | refine Zq ?_); refine JD ?_) | refine JT ?_
  exact X1 ⟨_, St.le_refl _, ⟨rfl, trivial⟩, X2 _⟩
 rw [show X5 m (.mk k n d s l) = false by rw [X5]; simp [*]]
 repeat first | refine X0 ?_ | (refine JR ?_; (repeat first | refine Z1 ?_ | refine Z0 ?_ | refine ZB ?_ | refine ZC ?_ | refine Zd ?_ | refine Zs ?_ | refine Zl ?_ | refine Zv ?_ | refine ZM ?_ | refine ZA (γ := 100) ?_ | refine Zn ?_ | refine Zq ?_); refine JD ?_) | refine JF ?_ | refine X4 ?_ | refine X3 ?_
 exact X1 ⟨_, St.le_refl _, ⟨rfl, trivial⟩, X2 _⟩
end Go.Fw
namespace Go.Fw
open Go Go.Proofs
set_option maxRecDepth 100000
set_option linter.unusedVariables false
set_option linter.unusedSimpArgs false
theorem X3W : ∀ v : Val, X1A v
 | .mk k n d s l => X77 (.mk k n d s l) fun x hx => X3W x
termination_by v => SizeOf.sizeOf v
decreasing_by
 have h1 := List.sizeOf_lt_of_mem (show x ∈ l from hx)
 simp only [Val.mk.sizeOf_spec]
 omega
theorem X1w (v : Val) : Con Tryz.prog 159 [] [Xn v] [] (ab (X5 8 v)) := by
 refine X9 (xs := [ab (X5 8 v)]) Tryz.func159 rfl Tryz.ntmps159 rfl rfl rfl (fun E => ?_)
 have h := X3W v 8 (by omega)
 obtain ⟨k, n, d, s, l⟩ := v
 simp only [Xn, Nat.sub_self] at h
 refine X0 ?_; refine JR ?_; refine ZA (γ := 100) ?_; refine Z0 ?_; refine JD ?_; refine X0 ?_; refine JR ?_; refine ZL ?_; refine Z9 (hcon := h) ?_; refine Z0 ?_; refine JD ?_
 exact X1 ⟨_, St.le_refl _, ⟨rfl, trivial⟩, X2 _⟩
end Go.Fw
namespace Go.Fw
open Go Go.Proofs
set_option maxRecDepth 100000
set_option linter.unusedVariables false
set_option linter.unusedSimpArgs false
def X0N (v : Val) : Prop := ∀ m : Nat, m ≤ 8 → Con Tryz.prog 140 [] [Xn v, ai m] [] (ab (X5 m v))
theorem X50 {s : List UInt8} {p : Nat} {c : UInt8} (hc : s[p]? = some c) (hb : okB c = false) : YM s = false := by
 cases hs : YM s with
 | false => rfl
 | true =>
  unfold YM at hs
  rw [List.all_eq_true] at hs
  have := hs c (List.mem_of_getElem? hc)
  unfold okB at hb
  rw [hb] at this; simp at this
theorem X8x (s : List UInt8) (hs : s.length ≤ 9223372036854775807) : Con Tryz.prog 201 [] [X0Z s] [] (ab (YM s && decide (s.length ≤ 100))) := by
 refine X9 (xs := [ab (YM s && decide (s.length ≤ 100))]) Tryz.func201 rfl Tryz.ntmps201 rfl rfl rfl (fun E => ?_)
 have hsz : (X6 s).size = s.length := rfl
 refine X0 ?_; refine JR ?_; refine Z0 ?_; refine JD ?_; refine X0 ?_; refine X0 ?_; refine JR ?_; refine Z0 ?_; refine JD ?_; refine X4 ?_
 refine Xs (fun p : Nat => p ≤ s.length ∧ ∀ j, j < p → ∃ b, s[j]? = some b ∧ okB b = true) (fun p => ⟨23, [(0, X0Z s), (3, ai p)], []⟩) (fun p => s.length - p) 0 ⟨by omega, fun j hj => by omega⟩
  (X7 rfl ⟨JL, JL, trivial⟩ trivial) ?_
 rintro p ⟨hp, hall⟩
 by_cases hlt : p < s.length
 ·obtain ⟨c, hc⟩ := Xm (l := s) hlt
  have hlt' : p < (X6 s).size := hlt
  have hget := X3Y s hc hlt'
  by_cases h1 : c.toNat < 32
  ·rw [X50 hc (show okB c = false by unfold okB; exact decide_eq_false (by omega)), Bool.false_and]
   refine X0 ?_; refine X0 ?_; refine JR ?_; refine Z1 ?_; refine Z1 ?_; refine Zc ?_; refine Z8 ?_; refine JD ?_; refine JT ?_; refine X3 ?_; refine X0 ?_; refine X4 ?_; refine X0 ?_
   refine JR ?_; refine Z1 ?_; refine Z1 ?_; refine Zt ?_; refine Z8 ?_; refine Z1 ?_; refine Zo ?_; refine Zo ?_; refine Zo ?_; refine Zo ?_; refine Zn ?_; refine JD ?_; refine JT ?_; refine X0 ?_; refine JR ?_
   refine Z0 ?_; refine JD ?_
   exact X1 ⟨_, St.le_refl _, ⟨rfl, trivial⟩, X2 _⟩
  by_cases h2 : 126 < c.toNat
  ·rw [X50 hc (show okB c = false by unfold okB; exact decide_eq_false (by omega)), Bool.false_and]
   refine X0 ?_; refine X0 ?_; refine JR ?_; refine Z1 ?_; refine Z1 ?_; refine Zc ?_; refine Z8 ?_; refine JD ?_; refine JT ?_; refine X3 ?_; refine X0 ?_; refine X4 ?_; refine X0 ?_
   refine JR ?_; refine Z1 ?_; refine Z1 ?_; refine Zt ?_; refine Z8 ?_; refine Z1 ?_; refine Z1 ?_; refine Z1 ?_; refine Zt ?_; refine Zs ?_; refine Zq ?_; refine JD ?_; refine JT ?_; refine X0 ?_; refine JR ?_
   refine Z0 ?_; refine JD ?_
   exact X1 ⟨_, St.le_refl _, ⟨rfl, trivial⟩, X2 _⟩
  have hok : okB c = true := by unfold okB; exact decide_eq_true (by omega)
  refine X0 ?_; refine X0 ?_; refine JR ?_; refine Z1 ?_; refine Z1 ?_; refine Zc ?_; refine Z8 ?_; refine JD ?_; refine JT ?_; refine X3 ?_; refine X0 ?_; refine X4 ?_; refine X0 ?_
  refine JR ?_; refine Z1 ?_; refine Z1 ?_; refine Zt ?_; refine Z8 ?_; refine Z1 ?_; refine Z1 ?_; refine Z1 ?_; refine Zt ?_; refine Zs ?_; refine Zq ?_; refine JD ?_; refine JF ?_; refine X3 ?_; refine JR ?_
  refine Z1 ?_; refine Zb ?_; refine Z0 ?_; refine JD ?_
  refine ⟨p + 1, ⟨by omega, fun j hj => ?_⟩, by omega, X7 rfl ⟨JL, JL, trivial⟩ trivial⟩
  by_cases e : j = p
  ·subst e; exact ⟨c, hc, hok⟩
  ·exact hall j (by omega)
 obtain rfl : p = s.length := by omega
 rw [X6J hall rfl, Bool.true_and]
 refine X0 ?_; refine X0 ?_; refine JR ?_; refine Z1 ?_; refine Z1 ?_; refine Zc ?_; refine Z8 ?_; refine JD ?_; refine JF ?_; refine Xo ?_; refine X0 ?_; refine JR ?_; refine Z1 ?_; refine Zc ?_
 refine Zm ?_; refine Z0 ?_; refine JD ?_
 exact X1 ⟨_, Xe 2 (y := ab (decide (s.length ≤ 100))) (AVal.le_of_eq (by refine Eq.trans (b := ab (decide (((X6 s).size : Int) ≤ 100))) rfl ?_; exact congrArg ab (decide_eq_decide.2 (by omega)))), ⟨rfl, trivial⟩, X2 _⟩
theorem X7V (l : List Val) (hl : l.length ≤ 9223372036854775807) (ih : ∀ x ∈ l, X0N x) : Con Tryz.prog 202 [] [.d (.sl 5 (XG l))] [] (ab (YB l)) := by
 refine X9 (xs := [ab (YB l)]) Tryz.func202 rfl Tryz.ntmps202 rfl rfl rfl (fun E => ?_)
 have hlen := UE l
 by_cases h1 : l.length % 2 = 0
 ·rw [show YB l = false by unfold YB; rw [decide_eq_false (by omega), Bool.false_and]]
  refine X0 ?_; refine JR ?_; refine Z0 ?_; refine JD ?_; refine X0 ?_; refine X0 ?_; refine JR ?_; refine Z1 ?_; refine Zd ?_; refine ZJ ?_; refine Zl ?_; refine Z1 ?_; refine Zo ?_; refine Zo ?_
  refine Zo ?_; refine Zn ?_; refine JD ?_; refine JT ?_; refine X0 ?_; refine JR ?_; refine Z0 ?_; refine JD ?_
  exact X1 ⟨_, St.le_refl _, ⟨rfl, trivial⟩, X2 _⟩
 by_cases h2 : 25 < l.length
 ·rw [show YB l = false by unfold YB; rw [decide_eq_false (by omega), Bool.false_and]]
  refine X0 ?_; refine JR ?_; refine Z0 ?_; refine JD ?_; refine X0 ?_; refine X0 ?_; refine JR ?_; refine Z1 ?_; refine Zd ?_; refine ZJ ?_; refine Zl ?_; refine Z1 ?_; refine Z1 ?_; refine Zd ?_
  refine Zs ?_; refine Zq ?_; refine JD ?_; refine JT ?_; refine X0 ?_; refine JR ?_; refine Z0 ?_; refine JD ?_
  exact X1 ⟨_, St.le_refl _, ⟨rfl, trivial⟩, X2 _⟩
 rw [show YB l = YQ 0 (l.drop 0) by unfold YB; rw [decide_eq_true (by omega), Bool.true_and]; rfl]
 refine X0 ?_; refine JR ?_; refine Z0 ?_; refine JD ?_; refine X0 ?_; refine X0 ?_; refine JR ?_; refine Z1 ?_; refine Zd ?_; refine ZJ ?_; refine Zl ?_; refine Z1 ?_; refine Z1 ?_; refine Zd ?_
 refine Zs ?_; refine Zq ?_; refine JD ?_; refine JF ?_; refine X3 ?_; refine X0 ?_; refine X0 ?_; refine JR ?_; refine Z0 ?_; refine JD ?_; refine X4 ?_
 refine Xs (fun i : Nat => i ≤ l.length ∧ YQ 0 (l.drop 0) = YQ i (l.drop i)) (fun i => ⟨38, [(0, .d (.sl 5 (XG l))), (3, ai i)], []⟩) (fun i => l.length - i) 0 ⟨by omega, rfl⟩
  (X7 rfl ⟨JL, JL, trivial⟩ trivial) ?_
 rintro i ⟨hi, hpv⟩
 by_cases hlt : i < l.length
 ·obtain ⟨x, hx⟩ := Xm (l := l) hlt
  have hgx := X1g hx
  have hvx := ih x (List.mem_of_getElem? hx) 0 (by omega)
  obtain ⟨k, n, d, s, q⟩ := x
  simp only [Xn] at hvx
  rw [Y8] at hgx
  rw [hpv]
  by_cases hpar : i % 2 = 0
  case pos =>
   by_cases hk : k = 5
   case neg =>
    rw [X2f hx (by rw [hpar]; show ¬ k = _; omega)]
    refine X0 ?_; refine X0 ?_; refine JR ?_; refine Z1 ?_; refine Z1 ?_; refine Zd ?_; refine Z8 ?_; refine JD ?_; refine JT ?_; refine X3 ?_; refine X0 ?_; refine X4 ?_; refine X0 ?_
    refine JR ?_; refine Z0 ?_; refine JD ?_; refine X0 ?_; refine X0 ?_; refine JR ?_; refine Z1 ?_
    refine Z4 (op := .rem) (r' := nj 0) (u := nj i) (v := nj 2) ?_ (hr' := by exact congrArg nj hpar) (hr := by exact YD (by omega)); refine Zl ?_; refine JD ?_; refine JF ?_; refine X3 ?_; refine X0 ?_
    refine JR ?_; refine Z1 ?_; refine Z1 ?_; refine Zj ?_; refine ZN ?_; refine Zk ?_; refine Z1 ?_; refine Zv ?_; refine Z1 ?_; refine Zo ?_; refine Zo ?_; refine Zo ?_; refine Zo ?_; refine Zo ?_; refine Zo ?_
    refine Zn ?_; refine JD ?_; refine JT ?_; refine X0 ?_; refine JR ?_; refine Z0 ?_; refine JD ?_
    exact X1 ⟨_, St.le_refl _, ⟨rfl, trivial⟩, X2 _⟩
   subst hk
   cases hvv : X5 0 (.mk 5 n d s q) with
   | true =>
    rw [hvv] at hvx
    have hgo := X1S hx (by rw [hpar]; rfl) hvv
    rw [← hpv]
    refine X0 ?_; refine X0 ?_; refine JR ?_; refine Z1 ?_; refine Z1 ?_; refine Zd ?_; refine Z8 ?_; refine JD ?_; refine JT ?_; refine X3 ?_; refine X0 ?_; refine X4 ?_; refine X0 ?_
    refine JR ?_; refine Z0 ?_; refine JD ?_; refine X0 ?_; refine X0 ?_; refine JR ?_; refine Z1 ?_
    refine Z4 (op := .rem) (r' := nj 0) (u := nj i) (v := nj 2) ?_ (hr' := by exact congrArg nj hpar) (hr := by exact YD (by omega)); refine Zl ?_; refine JD ?_; refine JF ?_; refine X3 ?_; refine X0 ?_
    refine JR ?_; refine Z1 ?_; refine Z1 ?_; refine Zj ?_; refine ZN ?_; refine Zk ?_; refine Z1 ?_; refine Zv ?_; refine Z1 ?_; refine Z1 ?_; refine Z1 ?_; refine Zj ?_; refine ZK ?_; refine Z9 (hcon := hvx) ?_
    refine Zu ?_; refine Zq ?_; refine JD ?_; refine JF ?_; refine X3 ?_; refine JR ?_; refine Z1 ?_; refine Zb ?_; refine Z0 ?_; refine JD ?_
    exact ⟨i + 1, ⟨by omega, hpv.trans hgo⟩, by omega, X7 rfl ⟨JL, JL, trivial⟩ trivial⟩
   | false =>
    rw [hvv] at hvx
    rw [X1o hx hvv]
    refine X0 ?_; refine X0 ?_; refine JR ?_; refine Z1 ?_; refine Z1 ?_; refine Zd ?_; refine Z8 ?_; refine JD ?_; refine JT ?_; refine X3 ?_; refine X0 ?_; refine X4 ?_; refine X0 ?_
    refine JR ?_; refine Z0 ?_; refine JD ?_; refine X0 ?_; refine X0 ?_; refine JR ?_; refine Z1 ?_
    refine Z4 (op := .rem) (r' := nj 0) (u := nj i) (v := nj 2) ?_ (hr' := by exact congrArg nj hpar) (hr := by exact YD (by omega)); refine Zl ?_; refine JD ?_; refine JF ?_; refine X3 ?_; refine X0 ?_
    refine JR ?_; refine Z1 ?_; refine Z1 ?_; refine Zj ?_; refine ZN ?_; refine Zk ?_; refine Z1 ?_; refine Zv ?_; refine Z1 ?_; refine Z1 ?_; refine Z1 ?_; refine Zj ?_; refine ZK ?_; refine Z9 (hcon := hvx) ?_
    refine Zu ?_; refine Zq ?_; refine JD ?_; refine JT ?_; refine X0 ?_; refine JR ?_; refine Z0 ?_; refine JD ?_
    exact X1 ⟨_, St.le_refl _, ⟨rfl, trivial⟩, X2 _⟩
  case neg =>
   have hpar : i % 2 = 1 := by omega
   by_cases hk : k = 6
   case neg =>
    rw [X2f hx (by rw [hpar]; show ¬ k = _; omega)]
    refine X0 ?_; refine X0 ?_; refine JR ?_; refine Z1 ?_; refine Z1 ?_; refine Zd ?_; refine Z8 ?_; refine JD ?_; refine JT ?_; refine X3 ?_; refine X0 ?_; refine X4 ?_; refine X0 ?_
    refine JR ?_; refine Z0 ?_; refine JD ?_; refine X0 ?_; refine X0 ?_; refine JR ?_; refine Z1 ?_
    refine Z4 (op := .rem) (r' := nj 1) (u := nj i) (v := nj 2) ?_ (hr' := by exact congrArg nj hpar) (hr := by exact YD (by omega)); refine Zl ?_; refine JD ?_; refine JT ?_; refine JR ?_; refine Z0 ?_; refine JD ?_
    refine X0 ?_; refine JR ?_; refine Z1 ?_; refine Z1 ?_; refine Zj ?_; refine ZN ?_; refine Zk ?_; refine Z1 ?_; refine Zv ?_; refine Z1 ?_; refine Zo ?_; refine Zo ?_; refine Zo ?_; refine Zo ?_; refine Zo ?_
    refine Zo ?_; refine Zn ?_; refine JD ?_; refine JT ?_; refine X0 ?_; refine JR ?_; refine Z0 ?_; refine JD ?_
    exact X1 ⟨_, St.le_refl _, ⟨rfl, trivial⟩, X2 _⟩
   subst hk
   cases hvv : X5 0 (.mk 6 n d s q) with
   | true =>
    rw [hvv] at hvx
    have hgo := X1S hx (by rw [hpar]; rfl) hvv
    rw [← hpv]
    refine X0 ?_; refine X0 ?_; refine JR ?_; refine Z1 ?_; refine Z1 ?_; refine Zd ?_; refine Z8 ?_; refine JD ?_; refine JT ?_; refine X3 ?_; refine X0 ?_; refine X4 ?_; refine X0 ?_
    refine JR ?_; refine Z0 ?_; refine JD ?_; refine X0 ?_; refine X0 ?_; refine JR ?_; refine Z1 ?_
    refine Z4 (op := .rem) (r' := nj 1) (u := nj i) (v := nj 2) ?_ (hr' := by exact congrArg nj hpar) (hr := by exact YD (by omega)); refine Zl ?_; refine JD ?_; refine JT ?_; refine JR ?_; refine Z0 ?_; refine JD ?_
    refine X0 ?_; refine JR ?_; refine Z1 ?_; refine Z1 ?_; refine Zj ?_; refine ZN ?_; refine Zk ?_; refine Z1 ?_; refine Zv ?_; refine Z1 ?_; refine Z1 ?_; refine Z1 ?_; refine Zj ?_; refine ZK ?_
    refine Z9 (hcon := hvx) ?_; refine Zu ?_; refine Zq ?_; refine JD ?_; refine JF ?_; refine X3 ?_; refine JR ?_; refine Z1 ?_; refine Zb ?_; refine Z0 ?_; refine JD ?_
    exact ⟨i + 1, ⟨by omega, hpv.trans hgo⟩, by omega, X7 rfl ⟨JL, JL, trivial⟩ trivial⟩
   | false =>
    rw [hvv] at hvx
    rw [X1o hx hvv]
    refine X0 ?_; refine X0 ?_; refine JR ?_; refine Z1 ?_; refine Z1 ?_; refine Zd ?_; refine Z8 ?_; refine JD ?_; refine JT ?_; refine X3 ?_; refine X0 ?_; refine X4 ?_; refine X0 ?_
    refine JR ?_; refine Z0 ?_; refine JD ?_; refine X0 ?_; refine X0 ?_; refine JR ?_; refine Z1 ?_
    refine Z4 (op := .rem) (r' := nj 1) (u := nj i) (v := nj 2) ?_ (hr' := by exact congrArg nj hpar) (hr := by exact YD (by omega)); refine Zl ?_; refine JD ?_; refine JT ?_; refine JR ?_; refine Z0 ?_; refine JD ?_
    refine X0 ?_; refine JR ?_; refine Z1 ?_; refine Z1 ?_; refine Zj ?_; refine ZN ?_; refine Zk ?_; refine Z1 ?_; refine Zv ?_; refine Z1 ?_; refine Z1 ?_; refine Z1 ?_; refine Zj ?_; refine ZK ?_
    refine Z9 (hcon := hvx) ?_; refine Zu ?_; refine Zq ?_; refine JD ?_; refine JT ?_; refine X0 ?_; refine JR ?_; refine Z0 ?_; refine JD ?_
    exact X1 ⟨_, St.le_refl _, ⟨rfl, trivial⟩, X2 _⟩
 obtain rfl : i = l.length := by omega
 rw [hpv, List.drop_length, YQ]
 refine X0 ?_; refine X0 ?_; refine JR ?_; refine Z1 ?_; refine Z1 ?_; refine Zd ?_; refine Z8 ?_; refine JD ?_; refine JF ?_; refine Xo ?_; refine X0 ?_; refine JR ?_; refine Z0 ?_; refine JD ?_
 exact X1 ⟨_, St.le_refl _, ⟨rfl, trivial⟩, X2 _⟩
theorem X7W (l : List Val) (m : Nat) (hm : m ≤ 8) (hl : l.length ≤ 9223372036854775807) (ih : ∀ x ∈ l, X0N x) : Con Tryz.prog 203 [] [.d (.sl 5 (XG l)), ai m] [] (ab (decide (1 ≤ m ∧ l.length ≤ 64) && YX (m - 1) l)) := by
 refine X9 (xs := [ab (decide (1 ≤ m ∧ l.length ≤ 64) && YX (m - 1) l)]) Tryz.func203 rfl Tryz.ntmps203 rfl rfl rfl (fun E => ?_)
 have hlen := UE l
 by_cases h1 : m < 1
 ·rw [decide_eq_false (by omega), Bool.false_and]
  refine X0 ?_; refine JR ?_; refine Z0 ?_; refine JD ?_; refine X0 ?_; refine X0 ?_; refine JR ?_; refine Z1 ?_; refine Z8 ?_; refine Z1 ?_; refine Zo ?_; refine Zo ?_; refine Zo ?_; refine Zn ?_
  refine JD ?_; refine JT ?_; refine X0 ?_; refine JR ?_; refine Z0 ?_; refine JD ?_
  exact X1 ⟨_, St.le_refl _, ⟨rfl, trivial⟩, X2 _⟩
 by_cases h2 : 64 < l.length
 ·rw [decide_eq_false (by omega), Bool.false_and]
  refine X0 ?_; refine JR ?_; refine Z0 ?_; refine JD ?_; refine X0 ?_; refine X0 ?_; refine JR ?_; refine Z1 ?_; refine Z8 ?_; refine Z1 ?_; refine Z1 ?_; refine Zd ?_; refine Zs ?_; refine Zq ?_
  refine JD ?_; refine JT ?_; refine X0 ?_; refine JR ?_; refine Z0 ?_; refine JD ?_
  exact X1 ⟨_, St.le_refl _, ⟨rfl, trivial⟩, X2 _⟩
 rw [show (decide (1 ≤ m ∧ l.length ≤ 64) && YX (m - 1) l) = YX (m - 1) (l.drop 0) by rw [decide_eq_true (by omega), Bool.true_and]; rfl]
 refine X0 ?_; refine JR ?_; refine Z0 ?_; refine JD ?_; refine X0 ?_; refine X0 ?_; refine JR ?_; refine Z1 ?_; refine Z8 ?_; refine Z1 ?_; refine Z1 ?_; refine Zd ?_; refine Zs ?_; refine Zq ?_
 refine JD ?_; refine JF ?_; refine X3 ?_; refine X0 ?_; refine X0 ?_; refine JR ?_; refine Z0 ?_; refine JD ?_; refine X4 ?_
 refine Xs (fun i : Nat => i ≤ l.length ∧ YX (m - 1) (l.drop 0) = YX (m - 1) (l.drop i)) (fun i => ⟨27, [(0, .d (.sl 5 (XG l))), (1, ai m), (5, ai i)], []⟩) (fun i => l.length - i) 0 ⟨by omega, rfl⟩
  (X7 rfl ⟨JL, JL, JL, trivial⟩ trivial) ?_
 rintro i ⟨hi, hpv⟩
 by_cases hlt : i < l.length
 ·obtain ⟨x, hx⟩ := Xm (l := l) hlt
  have hgx := X1g hx
  have hvx := ih x (List.mem_of_getElem? hx) (m - 1) (by omega)
  have hst := X6E (m := m - 1) hx
  have e8 : Value.int .i64 ((m : Int) - 1) = nj (m - 1) := by show Value.int .i64 _ = Value.int .i64 _; congr 1; omega
  obtain ⟨k', n', d', s', q'⟩ := x
  simp only [Xn] at hvx
  rw [Y8] at hgx
  cases hvv : X5 (m - 1) (.mk k' n' d' s' q') with
  | true =>
   rw [hvv] at hvx
   rw [hvv, Bool.true_and] at hst
   refine X0 ?_; refine X0 ?_; refine JR ?_; refine Z1 ?_; refine Z1 ?_; refine Zd ?_; refine Z8 ?_; refine JD ?_; refine JT ?_; refine X3 ?_; refine X0 ?_; refine X4 ?_; refine X0 ?_
   refine JR ?_; refine Z1 ?_; refine Z1 ?_; refine Zj ?_; refine ZK ?_; refine Z1 ?_
   refine Z4 (op := .sub) (r' := nj (m - 1)) (u := nj m) (v := nj 1) ?_ (hr' := by exact e8) (hr := by exact XH (by unfold Xy; omega)); refine Z9 (hcon := hvx) ?_; refine Zu ?_; refine JD ?_; refine JF ?_
   refine X3 ?_; refine JR ?_; refine Z1 ?_; refine Zb ?_; refine Z0 ?_; refine JD ?_
   exact ⟨i + 1, ⟨by omega, hpv.trans hst⟩, by omega, X7 rfl ⟨JL, JL, JL, trivial⟩ trivial⟩
  | false =>
   rw [hvv] at hvx
   rw [hvv, Bool.false_and] at hst
   rw [hpv, hst]
   refine X0 ?_; refine X0 ?_; refine JR ?_; refine Z1 ?_; refine Z1 ?_; refine Zd ?_; refine Z8 ?_; refine JD ?_; refine JT ?_; refine X3 ?_; refine X0 ?_; refine X4 ?_; refine X0 ?_
   refine JR ?_; refine Z1 ?_; refine Z1 ?_; refine Zj ?_; refine ZK ?_; refine Z1 ?_
   refine Z4 (op := .sub) (r' := nj (m - 1)) (u := nj m) (v := nj 1) ?_ (hr' := by exact e8) (hr := by exact XH (by unfold Xy; omega)); refine Z9 (hcon := hvx) ?_; refine Zu ?_; refine JD ?_; refine JT ?_
   refine X0 ?_; refine JR ?_; refine Z0 ?_; refine JD ?_
   exact X1 ⟨_, St.le_refl _, ⟨rfl, trivial⟩, X2 _⟩
 obtain rfl : i = l.length := by omega
 rw [hpv, List.drop_length, YX]
 refine X0 ?_; refine X0 ?_; refine JR ?_; refine Z1 ?_; refine Z1 ?_; refine Zd ?_; refine Z8 ?_; refine JD ?_; refine JF ?_; refine Xo ?_; refine X0 ?_; refine JR ?_; refine Z0 ?_; refine JD ?_
 exact X1 ⟨_, St.le_refl _, ⟨rfl, trivial⟩, X2 _⟩
end Go.Fw

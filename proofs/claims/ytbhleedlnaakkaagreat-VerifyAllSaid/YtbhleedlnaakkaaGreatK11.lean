/- Values that are valid, second part. -/
import Derived.Test.YtbhleedlnaakkaaGreatK10
set_option maxHeartbeats 8000000
namespace Go.Fw
open Go Go.Proofs
set_option maxRecDepth 100000
set_option linter.unusedVariables false
set_option linter.unusedSimpArgs false
theorem X8L (v : Val) (ih : ∀ x ∈ v.l, X1h x) : X1h v := by
 obtain ⟨k, n, d, s, l⟩ := v
 intro m hm
 refine Xa (xs := [ab (X5 m (.mk k n d s l))]) Tryz.func211 rfl Tryz.ntmps211 rfl rfl rfl (fun E => ?_)
 have hlen := UT l
 simp only [Val.l] at ih
 by_cases hk0 : k = 0
 ·subst hk0
  by_cases hd0 : d = 0
  case neg =>
   rw [show X5 m (.mk 0 n d s l) = false by rw [X5]; simp [*]]
   repeat first | refine X0 ?_ | (refine JR ?_; (repeat first | refine Z1 ?_ | refine Z0 ?_ | refine ZB ?_ | refine ZC ?_ | refine Zv ?_ | refine ZA (γ := 100) ?_ | refine Zn ?_ | refine Zo ?_ | refine Zp ?_); refine JD ?_) | refine JT ?_
   exact X1 ⟨_, St.le_refl _, ⟨rfl, trivial⟩, X2 _⟩
  by_cases hs0 : s = []
  case neg =>
   rw [show X5 m (.mk 0 n d s l) = false by rw [X5]; simp [*]]
   repeat first | refine X0 ?_ | (refine JR ?_; (repeat first | refine Z1 ?_ | refine Z0 ?_ | refine ZB ?_ | refine ZC ?_ | refine Zv ?_ | refine ZM ?_ | refine ZA (γ := 100) ?_ | refine Zn ?_ | refine Zq ?_ | refine Zo ?_ | refine Zp ?_); refine JD ?_) | refine JT ?_
   exact X1 ⟨_, St.le_refl _, ⟨rfl, trivial⟩, X2 _⟩
  by_cases hl0 : l.length = 0
  case neg =>
   have hl1 : 0 < l.length := by omega
   rw [show X5 m (.mk 0 n d s l) = false by rw [X5]; simp [*]]
   repeat first | refine X0 ?_ | (refine JR ?_; (repeat first | refine Z1 ?_ | refine Z0 ?_ | refine ZB ?_ | refine ZC ?_ | refine Zd ?_ | refine Zs ?_ | refine Zv ?_ | refine ZM ?_ | refine ZA (γ := 100) ?_ | refine Zn ?_ | refine Zq ?_); refine JD ?_) | refine JT ?_
   exact X1 ⟨_, St.le_refl _, ⟨rfl, trivial⟩, X2 _⟩
  by_cases hn : n = 0
  ·rw [show X5 m (.mk 0 n d s l) = true by rw [X5]; simp [*]]
   repeat first | refine X0 ?_ | (refine JR ?_; (repeat first | refine Z1 ?_ | refine Z0 ?_ | refine ZB ?_ | refine ZC ?_ | refine Zd ?_ | refine Zs ?_ | refine Zl ?_ | refine Zv ?_ | refine ZM ?_ | refine ZA (γ := 100) ?_ | refine Zn ?_ | refine Zq ?_); refine JD ?_) | refine JT ?_ | refine JF ?_ | refine X4 ?_ | refine X3 ?_
   exact X1 ⟨_, Xi 4 (y := ab true) (AVal.le_of_eq (by refine Eq.trans (b := ab (decide (n = 0))) rfl ?_; exact congrArg ab (decide_eq_true hn))), ⟨rfl, trivial⟩, X2 _⟩
  ·rw [show X5 m (.mk 0 n d s l) = false by rw [X5]; simp [*]]
   repeat first | refine X0 ?_ | (refine JR ?_; (repeat first | refine Z1 ?_ | refine Z0 ?_ | refine ZB ?_ | refine ZC ?_ | refine Zd ?_ | refine Zs ?_ | refine Zl ?_ | refine Zv ?_ | refine ZM ?_ | refine ZA (γ := 100) ?_ | refine Zn ?_ | refine Zq ?_); refine JD ?_) | refine JT ?_ | refine JF ?_ | refine X4 ?_ | refine X3 ?_
   exact X1 ⟨_, Xi 4 (y := ab false) (AVal.le_of_eq (by refine Eq.trans (b := ab (decide (n = 0))) rfl ?_; exact congrArg ab (decide_eq_false hn))), ⟨rfl, trivial⟩, X2 _⟩
 by_cases hk1 : k = 1
 ·subst hk1
  by_cases hd0 : d = 0
  case neg =>
   rw [show X5 m (.mk 1 n d s l) = false by rw [X5]; simp [*]]
   repeat first | refine X0 ?_ | (refine JR ?_; (repeat first | refine Z1 ?_ | refine Z0 ?_ | refine ZB ?_ | refine ZC ?_ | refine Zv ?_ | refine ZA (γ := 100) ?_ | refine Zn ?_ | refine Zo ?_ | refine Zp ?_); refine JD ?_) | refine JT ?_
   exact X1 ⟨_, St.le_refl _, ⟨rfl, trivial⟩, X2 _⟩
  by_cases hs0 : s = []
  case neg =>
   rw [show X5 m (.mk 1 n d s l) = false by rw [X5]; simp [*]]
   repeat first | refine X0 ?_ | (refine JR ?_; (repeat first | refine Z1 ?_ | refine Z0 ?_ | refine ZB ?_ | refine ZC ?_ | refine Zv ?_ | refine ZM ?_ | refine ZA (γ := 100) ?_ | refine Zn ?_ | refine Zq ?_ | refine Zo ?_ | refine Zp ?_); refine JD ?_) | refine JT ?_
   exact X1 ⟨_, St.le_refl _, ⟨rfl, trivial⟩, X2 _⟩
  by_cases hl0 : l.length = 0
  case neg =>
   have hl1 : 0 < l.length := by omega
   rw [show X5 m (.mk 1 n d s l) = false by rw [X5]; simp [*]]
   repeat first | refine X0 ?_ | (refine JR ?_; (repeat first | refine Z1 ?_ | refine Z0 ?_ | refine ZB ?_ | refine ZC ?_ | refine Zd ?_ | refine Zs ?_ | refine Zv ?_ | refine ZM ?_ | refine ZA (γ := 100) ?_ | refine Zn ?_ | refine Zq ?_); refine JD ?_) | refine JT ?_
   exact X1 ⟨_, St.le_refl _, ⟨rfl, trivial⟩, X2 _⟩
  by_cases hn : n = 0
  ·rw [show X5 m (.mk 1 n d s l) = true by rw [X5]; simp [*]]
   repeat first | refine X0 ?_ | (refine JR ?_; (repeat first | refine Z1 ?_ | refine Z0 ?_ | refine ZB ?_ | refine ZC ?_ | refine Zd ?_ | refine Zs ?_ | refine Zl ?_ | refine Zv ?_ | refine ZM ?_ | refine ZA (γ := 100) ?_ | refine Zn ?_ | refine Zq ?_ | refine Zo ?_); refine JD ?_) | refine JT ?_ | refine JF ?_ | refine X4 ?_ | refine X3 ?_
   exact X1 ⟨_, St.le_refl _, ⟨rfl, trivial⟩, X2 _⟩
  by_cases hn1 : n = 1
  ·rw [show X5 m (.mk 1 n d s l) = true by rw [X5]; simp [*]]
   repeat first | refine X0 ?_ | (refine JR ?_; (repeat first | refine Z1 ?_ | refine Z0 ?_ | refine ZB ?_ | refine ZC ?_ | refine Zd ?_ | refine Zs ?_ | refine Zl ?_ | refine Zv ?_ | refine ZM ?_ | refine ZA (γ := 100) ?_ | refine Zn ?_ | refine Zq ?_); refine JD ?_) | refine JT ?_ | refine JF ?_ | refine X4 ?_ | refine X3 ?_
   exact X1 ⟨_, Xi 4 (y := ab true) (AVal.le_of_eq (by refine Eq.trans (b := ab (decide (n = 1))) rfl ?_; exact congrArg ab (decide_eq_true hn1))), ⟨rfl, trivial⟩, X2 _⟩
  ·rw [show X5 m (.mk 1 n d s l) = false by rw [X5]; simp [*]]
   repeat first | refine X0 ?_ | (refine JR ?_; (repeat first | refine Z1 ?_ | refine Z0 ?_ | refine ZB ?_ | refine ZC ?_ | refine Zd ?_ | refine Zs ?_ | refine Zl ?_ | refine Zv ?_ | refine ZM ?_ | refine ZA (γ := 100) ?_ | refine Zn ?_ | refine Zq ?_); refine JD ?_) | refine JT ?_ | refine JF ?_ | refine X4 ?_ | refine X3 ?_
   exact X1 ⟨_, Xi 4 (y := ab false) (AVal.le_of_eq (by refine Eq.trans (b := ab (decide (n = 1))) rfl ?_; exact congrArg ab (decide_eq_false hn1))), ⟨rfl, trivial⟩, X2 _⟩
 by_cases hk2 : k = 2
 ·subst hk2
  by_cases hd0 : d = 0
  case neg =>
   rw [show X5 m (.mk 2 n d s l) = false by rw [X5]; simp [*]]
   repeat first | refine X0 ?_ | (refine JR ?_; (repeat first | refine Z1 ?_ | refine Z0 ?_ | refine ZB ?_ | refine ZC ?_ | refine Zv ?_ | refine ZA (γ := 100) ?_ | refine Zn ?_ | refine Zo ?_ | refine Zp ?_); refine JD ?_) | refine JT ?_
   exact X1 ⟨_, St.le_refl _, ⟨rfl, trivial⟩, X2 _⟩
  by_cases hs0 : s = []
  case neg =>
   rw [show X5 m (.mk 2 n d s l) = false by rw [X5]; simp [*]]
   repeat first | refine X0 ?_ | (refine JR ?_; (repeat first | refine Z1 ?_ | refine Z0 ?_ | refine ZB ?_ | refine ZC ?_ | refine Zv ?_ | refine ZM ?_ | refine ZA (γ := 100) ?_ | refine Zn ?_ | refine Zq ?_ | refine Zo ?_ | refine Zp ?_); refine JD ?_) | refine JT ?_
   exact X1 ⟨_, St.le_refl _, ⟨rfl, trivial⟩, X2 _⟩
  by_cases hl0 : l.length = 0
  case neg =>
   have hl1 : 0 < l.length := by omega
   rw [show X5 m (.mk 2 n d s l) = false by rw [X5]; simp [*]]
   repeat first | refine X0 ?_ | (refine JR ?_; (repeat first | refine Z1 ?_ | refine Z0 ?_ | refine ZB ?_ | refine ZC ?_ | refine Zd ?_ | refine Zs ?_ | refine Zv ?_ | refine ZM ?_ | refine ZA (γ := 100) ?_ | refine Zn ?_ | refine Zq ?_); refine JD ?_) | refine JT ?_
   exact X1 ⟨_, St.le_refl _, ⟨rfl, trivial⟩, X2 _⟩
  rw [show X5 m (.mk 2 n d s l) = inV n by rw [X5]; simp [inV, *]]
  repeat first | refine X0 ?_ | (refine JR ?_; (repeat first | refine Z1 ?_ | refine Z0 ?_ | refine ZB ?_ | refine ZC ?_ | refine Zd ?_ | refine Zs ?_ | refine Zl ?_ | refine Zv ?_ | refine ZM ?_ | refine ZA (γ := 100) ?_ | refine Zn ?_ | refine Zq ?_ | refine Z9 (hcon := X0H n) ?_); refine JD ?_) | refine JT ?_ | refine JF ?_ | refine X4 ?_ | refine X3 ?_
  exact X1 ⟨_, St.le_refl _, ⟨rfl, trivial⟩, X2 _⟩
 by_cases hk3 : k = 3
 ·subst hk3
  by_cases hs0 : s = []
  case neg =>
   rw [show X5 m (.mk 3 n d s l) = false by rw [X5]; simp [*]]
   repeat first | refine X0 ?_ | (refine JR ?_; (repeat first | refine Z1 ?_ | refine Z0 ?_ | refine ZB ?_ | refine ZC ?_ | refine Zv ?_ | refine ZM ?_ | refine ZA (γ := 100) ?_ | refine Zn ?_ | refine Zq ?_ | refine Zo ?_ | refine Zp ?_); refine JD ?_) | refine JT ?_
   exact X1 ⟨_, St.le_refl _, ⟨rfl, trivial⟩, X2 _⟩
  by_cases hl0 : l.length = 0
  case neg =>
   have hl1 : 0 < l.length := by omega
   rw [show X5 m (.mk 3 n d s l) = false by rw [X5]; simp [*]]
   repeat first | refine X0 ?_ | (refine JR ?_; (repeat first | refine Z1 ?_ | refine Z0 ?_ | refine ZB ?_ | refine ZC ?_ | refine Zd ?_ | refine Zs ?_ | refine Zv ?_ | refine ZM ?_ | refine ZA (γ := 100) ?_ | refine Zn ?_ | refine Zq ?_ | refine Zo ?_); refine JD ?_) | refine JT ?_
   exact X1 ⟨_, St.le_refl _, ⟨rfl, trivial⟩, X2 _⟩
  by_cases hd : 2 ≤ d
  ·rw [show X5 m (.mk 3 n d s l) = U2 n d by rw [X5]; simp [*]]
   repeat first | refine X0 ?_ | (refine JR ?_; (repeat first | refine Z1 ?_ | refine Z0 ?_ | refine ZB ?_ | refine ZC ?_ | refine Zd ?_ | refine Zs ?_ | refine Z2 ?_ | refine Zl ?_ | refine Zv ?_ | refine ZM ?_ | refine ZA (γ := 100) ?_ | refine Zx ?_ | refine Zn ?_ | refine Zq ?_ | refine Zo ?_ | refine Z9 (hcon := X9c n d) ?_); refine JD ?_) | refine JT ?_ | refine JF ?_ | refine X4 ?_ | refine X3 ?_
   exact X1 ⟨_, St.le_refl _, ⟨rfl, trivial⟩, X2 _⟩
  ·rw [show X5 m (.mk 3 n d s l) = false by rw [X5]; simp [*]]
   repeat first | refine X0 ?_ | (refine JR ?_; (repeat first | refine Z1 ?_ | refine Z0 ?_ | refine ZB ?_ | refine ZC ?_ | refine Zd ?_ | refine Zs ?_ | refine Z2 ?_ | refine Zl ?_ | refine Zv ?_ | refine ZM ?_ | refine ZA (γ := 100) ?_ | refine Zn ?_ | refine Zq ?_ | refine Zo ?_); refine JD ?_) | refine JT ?_ | refine JF ?_ | refine X4 ?_ | refine X3 ?_
   exact X1 ⟨_, St.le_refl _, ⟨rfl, trivial⟩, X2 _⟩
 by_cases hk4 : k = 4
 ·subst hk4
  by_cases hd0 : d = 0
  case neg =>
   rw [show X5 m (.mk 4 n d s l) = false by rw [X5]; simp [*]]
   repeat first | refine X0 ?_ | (refine JR ?_; (repeat first | refine Z1 ?_ | refine Z0 ?_ | refine ZB ?_ | refine ZC ?_ | refine Zv ?_ | refine ZA (γ := 100) ?_ | refine Zn ?_ | refine Zo ?_ | refine Zp ?_); refine JD ?_) | refine JT ?_
   exact X1 ⟨_, St.le_refl _, ⟨rfl, trivial⟩, X2 _⟩
  by_cases hl0 : l.length = 0
  case neg =>
   have hl1 : 0 < l.length := by omega
   rw [show X5 m (.mk 4 n d s l) = false by rw [X5]; simp [*]]
   repeat first | refine X0 ?_ | (refine JR ?_; (repeat first | refine Z1 ?_ | refine Z0 ?_ | refine ZB ?_ | refine ZC ?_ | refine Zd ?_ | refine Zs ?_ | refine Zv ?_ | refine ZA (γ := 100) ?_ | refine Zn ?_ | refine Zq ?_ | refine Zo ?_); refine JD ?_) | refine JT ?_
   exact X1 ⟨_, St.le_refl _, ⟨rfl, trivial⟩, X2 _⟩
  by_cases hn : n = 0
  case neg =>
   rw [show X5 m (.mk 4 n d s l) = false by rw [X5]; simp [*]]
   repeat first | refine X0 ?_ | (refine JR ?_; (repeat first | refine Z1 ?_ | refine Z0 ?_ | refine ZB ?_ | refine ZC ?_ | refine Zd ?_ | refine Zs ?_ | refine Zl ?_ | refine Zv ?_ | refine ZA (γ := 100) ?_ | refine Zn ?_ | refine Zq ?_ | refine Zo ?_); refine JD ?_) | refine JT ?_ | refine JF ?_ | refine X4 ?_ | refine X3 ?_
   exact X1 ⟨_, St.le_refl _, ⟨rfl, trivial⟩, X2 _⟩
  have hsz : (X7 s).size = s.length := rfl
  by_cases hs : s.length ≤ 100
  case neg =>
   rw [show X5 m (.mk 4 n d s l) = false by rw [X5]; simp [*]]
   repeat first | refine X0 ?_ | (refine JR ?_; (repeat first | refine Z1 ?_ | refine Z0 ?_ | refine ZB ?_ | refine ZC ?_ | refine Zd ?_ | refine Zc ?_ | refine Zm ?_ | refine Zs ?_ | refine Zl ?_ | refine Zv ?_ | refine ZA (γ := 100) ?_ | refine Zn ?_ | refine Zq ?_ | refine Zo ?_); refine JD ?_) | refine JT ?_ | refine JF ?_ | refine X4 ?_ | refine X3 ?_
   exact X1 ⟨_, St.le_refl _, ⟨rfl, trivial⟩, X2 _⟩
  rw [show X5 m (.mk 4 n d s l) = YJ s by rw [X5]; simp [*]]
  repeat first | refine X0 ?_ | (refine JR ?_; (repeat first | refine Z1 ?_ | refine Z0 ?_ | refine ZB ?_ | refine ZC ?_ | refine Zd ?_ | refine Zc ?_ | refine Z8 ?_ | refine Zm ?_ | refine Zs ?_ | refine Zl ?_ | refine Zv ?_ | refine ZA (γ := 100) ?_ | refine Zn ?_ | refine Zq ?_ | refine Zo ?_ | refine Z9 (hcon := X9m s (by omega)) ?_); refine JD ?_) | refine JT ?_ | refine JF ?_ | refine X4 ?_ | refine X3 ?_
  exact X1 ⟨_, Xi 4 (y := ab (YJ s)) (AVal.le_of_eq (by refine Eq.trans (b := ab (decide (UH s < 0))) rfl ?_; exact congrArg ab (by cases hv : YJ s with | true => exact decide_eq_true (X38.2 hv) | false => exact decide_eq_false (fun h => by rw [X38.1 h] at hv; simp at hv)))), ⟨rfl, trivial⟩, X2 _⟩
 by_cases hk5 : k = 5
 ·subst hk5
  by_cases hd0 : d = 0
  case neg =>
   rw [show X5 m (.mk 5 n d s l) = false by rw [X5]; simp [*]]
   repeat first | refine X0 ?_ | (refine JR ?_; (repeat first | refine Z1 ?_ | refine Z0 ?_ | refine ZB ?_ | refine ZC ?_ | refine Zv ?_ | refine ZA (γ := 100) ?_ | refine Zn ?_ | refine Zo ?_ | refine Zp ?_); refine JD ?_) | refine JT ?_
   exact X1 ⟨_, St.le_refl _, ⟨rfl, trivial⟩, X2 _⟩
  by_cases hs0 : s = []
  case neg =>
   rw [show X5 m (.mk 5 n d s l) = false by rw [X5]; simp [*]]
   repeat first | refine X0 ?_ | (refine JR ?_; (repeat first | refine Z1 ?_ | refine Z0 ?_ | refine ZB ?_ | refine ZC ?_ | refine Zv ?_ | refine ZM ?_ | refine ZA (γ := 100) ?_ | refine Zn ?_ | refine Zq ?_ | refine Zo ?_ | refine Zp ?_); refine JD ?_) | refine JT ?_
   exact X1 ⟨_, St.le_refl _, ⟨rfl, trivial⟩, X2 _⟩
  by_cases hl0 : l.length = 0
  case neg =>
   have hl1 : 0 < l.length := by omega
   rw [show X5 m (.mk 5 n d s l) = false by rw [X5]; simp [*]]
   repeat first | refine X0 ?_ | (refine JR ?_; (repeat first | refine Z1 ?_ | refine Z0 ?_ | refine ZB ?_ | refine ZC ?_ | refine Zd ?_ | refine Zs ?_ | refine Zv ?_ | refine ZM ?_ | refine ZA (γ := 100) ?_ | refine Zn ?_ | refine Zq ?_); refine JD ?_) | refine JT ?_
   exact X1 ⟨_, St.le_refl _, ⟨rfl, trivial⟩, X2 _⟩
  by_cases hn : 1 ≤ n
  case neg =>
   rw [show X5 m (.mk 5 n d s l) = false by rw [X5]; simp [*]]
   repeat first | refine X0 ?_ | (refine JR ?_; (repeat first | refine Z1 ?_ | refine Z0 ?_ | refine ZB ?_ | refine ZC ?_ | refine Zd ?_ | refine Zs ?_ | refine Z2 ?_ | refine Zl ?_ | refine Zv ?_ | refine ZM ?_ | refine ZA (γ := 100) ?_ | refine Zn ?_ | refine Zq ?_ | refine Zo ?_); refine JD ?_) | refine JT ?_ | refine JF ?_ | refine X4 ?_ | refine X3 ?_
   exact X1 ⟨_, St.le_refl _, ⟨rfl, trivial⟩, X2 _⟩
  rw [show X5 m (.mk 5 n d s l) = decide (n ≤ 1000000) by rw [X5]; simp [*]]
  repeat first | refine X0 ?_ | (refine JR ?_; (repeat first | refine Z1 ?_ | refine Z0 ?_ | refine ZB ?_ | refine ZC ?_ | refine Zd ?_ | refine Zm ?_ | refine Zs ?_ | refine Z2 ?_ | refine Zl ?_ | refine Zv ?_ | refine ZM ?_ | refine ZA (γ := 100) ?_ | refine Zn ?_ | refine Zq ?_); refine JD ?_) | refine JT ?_ | refine JF ?_ | refine X4 ?_ | refine X3 ?_
  exact X1 ⟨_, St.le_refl _, ⟨rfl, trivial⟩, X2 _⟩
 by_cases hk6 : k = 6
 ·subst hk6
  by_cases hd0 : d = 0
  case neg =>
   rw [show X5 m (.mk 6 n d s l) = false by rw [X5]; simp [*]]
   repeat first | refine X0 ?_ | (refine JR ?_; (repeat first | refine Z1 ?_ | refine Z0 ?_ | refine ZB ?_ | refine ZC ?_ | refine Zv ?_ | refine ZA (γ := 100) ?_ | refine Zn ?_ | refine Zo ?_ | refine Zp ?_); refine JD ?_) | refine JT ?_
   exact X1 ⟨_, St.le_refl _, ⟨rfl, trivial⟩, X2 _⟩
  by_cases hs0 : s = []
  case neg =>
   rw [show X5 m (.mk 6 n d s l) = false by rw [X5]; simp [*]]
   repeat first | refine X0 ?_ | (refine JR ?_; (repeat first | refine Z1 ?_ | refine Z0 ?_ | refine ZB ?_ | refine ZC ?_ | refine Zv ?_ | refine ZM ?_ | refine ZA (γ := 100) ?_ | refine Zn ?_ | refine Zq ?_ | refine Zo ?_ | refine Zp ?_); refine JD ?_) | refine JT ?_
   exact X1 ⟨_, St.le_refl _, ⟨rfl, trivial⟩, X2 _⟩
  by_cases hl0 : l.length = 0
  case neg =>
   have hl1 : 0 < l.length := by omega
   rw [show X5 m (.mk 6 n d s l) = false by rw [X5]; simp [*]]
   repeat first | refine X0 ?_ | (refine JR ?_; (repeat first | refine Z1 ?_ | refine Z0 ?_ | refine ZB ?_ | refine ZC ?_ | refine Zd ?_ | refine Zs ?_ | refine Zv ?_ | refine ZM ?_ | refine ZA (γ := 100) ?_ | refine Zn ?_ | refine Zq ?_); refine JD ?_) | refine JT ?_
   exact X1 ⟨_, St.le_refl _, ⟨rfl, trivial⟩, X2 _⟩
  by_cases hn : 1 ≤ n
  case neg =>
   rw [show X5 m (.mk 6 n d s l) = false by rw [X5]; simp [*]]
   repeat first | refine X0 ?_ | (refine JR ?_; (repeat first | refine Z1 ?_ | refine Z0 ?_ | refine ZB ?_ | refine ZC ?_ | refine Zd ?_ | refine Zs ?_ | refine Z2 ?_ | refine Zl ?_ | refine Zv ?_ | refine ZM ?_ | refine ZA (γ := 100) ?_ | refine Zn ?_ | refine Zq ?_ | refine Zo ?_); refine JD ?_) | refine JT ?_ | refine JF ?_ | refine X4 ?_ | refine X3 ?_
   exact X1 ⟨_, St.le_refl _, ⟨rfl, trivial⟩, X2 _⟩
  rw [show X5 m (.mk 6 n d s l) = decide (n ≤ 1000000) by rw [X5]; simp [*]]
  repeat first | refine X0 ?_ | (refine JR ?_; (repeat first | refine Z1 ?_ | refine Z0 ?_ | refine ZB ?_ | refine ZC ?_ | refine Zd ?_ | refine Zm ?_ | refine Zs ?_ | refine Z2 ?_ | refine Zl ?_ | refine Zv ?_ | refine ZM ?_ | refine ZA (γ := 100) ?_ | refine Zn ?_ | refine Zq ?_); refine JD ?_) | refine JT ?_ | refine JF ?_ | refine X4 ?_ | refine X3 ?_
  exact X1 ⟨_, St.le_refl _, ⟨rfl, trivial⟩, X2 _⟩
 by_cases hk7 : k = 7
 ·subst hk7
  by_cases hd0 : d = 0
  case neg =>
   rw [show X5 m (.mk 7 n d s l) = false by rw [X5]; simp [*]]
   repeat first | refine X0 ?_ | (refine JR ?_; (repeat first | refine Z1 ?_ | refine Z0 ?_ | refine ZB ?_ | refine ZC ?_ | refine Zv ?_ | refine ZA (γ := 100) ?_ | refine Zn ?_ | refine Zo ?_ | refine Zp ?_); refine JD ?_) | refine JT ?_
   exact X1 ⟨_, St.le_refl _, ⟨rfl, trivial⟩, X2 _⟩
  by_cases hs0 : s = []
  case neg =>
   rw [show X5 m (.mk 7 n d s l) = false by rw [X5]; simp [*]]
   repeat first | refine X0 ?_ | (refine JR ?_; (repeat first | refine Z1 ?_ | refine Z0 ?_ | refine ZB ?_ | refine ZC ?_ | refine Zv ?_ | refine ZM ?_ | refine ZA (γ := 100) ?_ | refine Zn ?_ | refine Zq ?_ | refine Zo ?_ | refine Zp ?_); refine JD ?_) | refine JT ?_
   exact X1 ⟨_, St.le_refl _, ⟨rfl, trivial⟩, X2 _⟩
  by_cases hn : n = 0
  case neg =>
   rw [show X5 m (.mk 7 n d s l) = false by rw [X5]; simp [*]]
   repeat first | refine X0 ?_ | (refine JR ?_; (repeat first | refine Z1 ?_ | refine Z0 ?_ | refine ZB ?_ | refine ZC ?_ | refine Zl ?_ | refine Zv ?_ | refine ZM ?_ | refine ZA (γ := 100) ?_ | refine Zn ?_ | refine Zq ?_ | refine Zo ?_); refine JD ?_) | refine JT ?_ | refine JF ?_ | refine X4 ?_ | refine X3 ?_
   exact X1 ⟨_, St.le_refl _, ⟨rfl, trivial⟩, X2 _⟩
  rw [show X5 m (.mk 7 n d s l) = Yw l by rw [X5]; simp [Yw, *]]
  have hp : X1L l := Xax l ih
  unfold X1L at hp
  repeat first | refine X0 ?_ | (refine JR ?_; (repeat first | refine Z1 ?_ | refine Z0 ?_ | refine ZB ?_ | refine ZC ?_ | refine Zl ?_ | refine Zv ?_ | refine ZM ?_ | refine ZA (γ := 100) ?_ | refine Zn ?_ | refine Zq ?_ | refine Zo ?_ | refine Z9 (hcon := hp) ?_); refine JD ?_) | refine JT ?_ | refine JF ?_ | refine X4 ?_ | refine X3 ?_
  exact X1 ⟨_, St.le_refl _, ⟨rfl, trivial⟩, X2 _⟩
 by_cases hk8 : k = 8
 ·subst hk8
  by_cases hd0 : d = 0
  case neg =>
   rw [show X5 m (.mk 8 n d s l) = false by rw [X5]; simp [*]]
   repeat first | refine X0 ?_ | (refine JR ?_; (repeat first | refine Z1 ?_ | refine Z0 ?_ | refine ZB ?_ | refine ZC ?_ | refine Zv ?_ | refine ZA (γ := 100) ?_ | refine Zn ?_ | refine Zo ?_ | refine Zp ?_); refine JD ?_) | refine JT ?_
   exact X1 ⟨_, St.le_refl _, ⟨rfl, trivial⟩, X2 _⟩
  by_cases hs0 : s = []
  case neg =>
   rw [show X5 m (.mk 8 n d s l) = false by rw [X5]; simp [*]]
   repeat first | refine X0 ?_ | (refine JR ?_; (repeat first | refine Z1 ?_ | refine Z0 ?_ | refine ZB ?_ | refine ZC ?_ | refine Zv ?_ | refine ZM ?_ | refine ZA (γ := 100) ?_ | refine Zn ?_ | refine Zq ?_ | refine Zo ?_ | refine Zp ?_); refine JD ?_) | refine JT ?_
   exact X1 ⟨_, St.le_refl _, ⟨rfl, trivial⟩, X2 _⟩
  by_cases hn : n = 0
  case neg =>
   rw [show X5 m (.mk 8 n d s l) = false by rw [X5]; simp [*]]
   repeat first | refine X0 ?_ | (refine JR ?_; (repeat first | refine Z1 ?_ | refine Z0 ?_ | refine ZB ?_ | refine ZC ?_ | refine Zl ?_ | refine Zv ?_ | refine ZM ?_ | refine ZA (γ := 100) ?_ | refine Zn ?_ | refine Zq ?_ | refine Zo ?_); refine JD ?_) | refine JT ?_ | refine JF ?_ | refine X4 ?_ | refine X3 ?_
   exact X1 ⟨_, St.le_refl _, ⟨rfl, trivial⟩, X2 _⟩
  by_cases h64 : l.length ≤ 64
  case neg =>
   rw [show X5 m (.mk 8 n d s l) = false by rw [X5]; simp [*]]
   repeat first | refine X0 ?_ | (refine JR ?_; (repeat first | refine Z1 ?_ | refine Z0 ?_ | refine ZB ?_ | refine ZC ?_ | refine Zd ?_ | refine Zs ?_ | refine Zl ?_ | refine Zv ?_ | refine ZM ?_ | refine ZA (γ := 100) ?_ | refine Zn ?_ | refine Zq ?_ | refine Zo ?_); refine JD ?_) | refine JT ?_ | refine JF ?_ | refine X4 ?_ | refine X3 ?_
   exact X1 ⟨_, St.le_refl _, ⟨rfl, trivial⟩, X2 _⟩
  by_cases hm1 : 1 ≤ m
  case neg =>
   rw [show X5 m (.mk 8 n d s l) = false by rw [X5]; simp [*]]
   repeat first | refine X0 ?_ | (refine JR ?_; (repeat first | refine Z1 ?_ | refine Z0 ?_ | refine ZB ?_ | refine ZC ?_ | refine Zd ?_ | refine Zs ?_ | refine Z2 ?_ | refine Zl ?_ | refine Zv ?_ | refine ZM ?_ | refine ZA (γ := 100) ?_ | refine Zn ?_ | refine Zq ?_ | refine Zo ?_); refine JD ?_) | refine JT ?_ | refine JF ?_ | refine X4 ?_ | refine X3 ?_
   exact X1 ⟨_, St.le_refl _, ⟨rfl, trivial⟩, X2 _⟩
  rw [show X5 m (.mk 8 n d s l) = YS (m - 1) (l.drop 0) by rw [X5]; simp [*]]
  repeat first | refine X0 ?_ | (refine JR ?_; (repeat first | refine Z1 ?_ | refine Z0 ?_ | refine ZB ?_ | refine ZC ?_ | refine Zd ?_ | refine Zs ?_ | refine Z2 ?_ | refine Zl ?_ | refine Zv ?_ | refine ZM ?_ | refine ZA (γ := 100) ?_ | refine Zn ?_ | refine Zq ?_ | refine Zo ?_); refine JD ?_) | refine JT ?_ | refine JF ?_ | refine X4 ?_ | refine X3 ?_
  refine Xt (fun i : Nat => i ≤ l.length ∧ YS (m - 1) (l.drop 0) = YS (m - 1) (l.drop i)) (fun i => ⟨142, [(1, ai (8 - m : Nat)), (120, .d (.sl 5 (XW l))), (121, ai l.length), (122, ai i)], []⟩) (fun i => l.length - i) 0 ⟨by omega, rfl⟩
   (X6 rfl ⟨JL, JL, (by refine AVal.le_of_eq ?_; refine Eq.trans (b := ai ((XW l).length : Nat)) rfl ?_; rw [hlen]), JL, trivial⟩ trivial) ?_
  rintro i ⟨hi, hpv⟩
  by_cases hlt : i < l.length
  ·obtain ⟨x, hx⟩ := Xm (l := l) hlt
   have hgx := X0S hx
   have hvx := ih x (List.mem_of_getElem? hx) (m - 1) (by omega)
   have hst := X60 (m := m - 1) hx
   have e8 : nj (8 - m + 1) = nj (8 - (m - 1)) := congrArg nj (by omega)
   obtain ⟨k', n', d', s', q'⟩ := x
   simp only [Xu] at hvx
   rw [Yd] at hgx
   cases hvv : X5 (m - 1) (.mk k' n' d' s' q') with
   | true =>
    rw [hvv] at hvx
    rw [hvv, Bool.true_and] at hst
    refine X0 ?_; refine JR ?_; refine Z8 ?_; refine JD ?_; refine X0 ?_; refine JT ?_; refine X3 ?_; refine X0 ?_; refine X4 ?_; refine X0 ?_; refine JR ?_; refine Zj ?_; refine ZK ?_
    refine Zw (γ := 100) ?_; refine Zy ?_; refine JD ?_; refine X0 ?_; refine JR ?_; refine ZL ?_; refine Z1 ?_
    refine Z4 (op := .add) (r' := nj (8 - (m - 1))) (u := nj (8 - m)) (v := nj 1) ?_ (hr' := by exact e8) (hr := by exact UO (by rw [Yz]; omega)); refine Z9 (hcon := hvx) ?_; refine Zu ?_; refine JD ?_
    refine JF ?_; refine X3 ?_; refine JR ?_; refine Zb ?_; refine Z1 ?_; refine JD ?_
    exact ⟨i + 1, ⟨by omega, hpv.trans hst⟩, by omega, X6 rfl ⟨JL, JL, JL, JL, trivial⟩ trivial⟩
   | false =>
    rw [hvv] at hvx
    rw [hvv, Bool.false_and] at hst
    rw [hpv, hst]
    refine X0 ?_; refine JR ?_; refine Z8 ?_; refine JD ?_; refine X0 ?_; refine JT ?_; refine X3 ?_; refine X0 ?_; refine X4 ?_; refine X0 ?_; refine JR ?_; refine Zj ?_; refine ZK ?_
    refine Zw (γ := 100) ?_; refine Zy ?_; refine JD ?_; refine X0 ?_; refine JR ?_; refine ZL ?_; refine Z1 ?_
    refine Z4 (op := .add) (r' := nj (8 - (m - 1))) (u := nj (8 - m)) (v := nj 1) ?_ (hr' := by exact e8) (hr := by exact UO (by rw [Yz]; omega)); refine Z9 (hcon := hvx) ?_; refine Zu ?_; refine JD ?_
    refine JT ?_; refine X0 ?_; refine JR ?_; refine Z0 ?_; refine JD ?_
    exact X1 ⟨_, St.le_refl _, ⟨rfl, trivial⟩, X2 _⟩
  obtain rfl : i = l.length := by omega
  rw [hpv, List.drop_length, YS]
  refine X0 ?_; refine JR ?_; refine Z8 ?_; refine JD ?_; refine X0 ?_; refine JF ?_; refine Xp ?_; refine X0 ?_; refine JR ?_; refine Z0 ?_; refine JD ?_
  exact X1 ⟨_, St.le_refl _, ⟨rfl, trivial⟩, X2 _⟩
 by_cases hd0 : d = 0
 case neg =>
  rw [show X5 m (.mk k n d s l) = false by rw [X5]; simp [*]]
  repeat first | refine X0 ?_ | (refine JR ?_; (repeat first | refine Z1 ?_ | refine Z0 ?_ | refine ZB ?_ | refine ZC ?_ | refine Zv ?_ | refine ZA (γ := 100) ?_ | refine Zn ?_ | refine Zo ?_ | refine Zp ?_); refine JD ?_) | refine JT ?_
  exact X1 ⟨_, St.le_refl _, ⟨rfl, trivial⟩, X2 _⟩
 by_cases hs0 : s = []
 case neg =>
  rw [show X5 m (.mk k n d s l) = false by rw [X5]; simp [*]]
  repeat first | refine X0 ?_ | (refine JR ?_; (repeat first | refine Z1 ?_ | refine Z0 ?_ | refine ZB ?_ | refine ZC ?_ | refine Zv ?_ | refine ZM ?_ | refine ZA (γ := 100) ?_ | refine Zn ?_ | refine Zq ?_ | refine Zo ?_ | refine Zp ?_); refine JD ?_) | refine JT ?_
  exact X1 ⟨_, St.le_refl _, ⟨rfl, trivial⟩, X2 _⟩
 by_cases hl0 : l.length = 0
 case neg =>
  have hl1 : 0 < l.length := by omega
  rw [show X5 m (.mk k n d s l) = false by rw [X5]; simp [*]]
  repeat first | refine X0 ?_ | (refine JR ?_; (repeat first | refine Z1 ?_ | refine Z0 ?_ | refine ZB ?_ | refine ZC ?_ | refine Zd ?_ | refine Zs ?_ | refine Zv ?_ | refine ZM ?_ | refine ZA (γ := 100) ?_ | refine Zn ?_ | refine Zq ?_); refine JD ?_) | refine JT ?_
  exact X1 ⟨_, St.le_refl _, ⟨rfl, trivial⟩, X2 _⟩
 rw [show X5 m (.mk k n d s l) = false by rw [X5]; simp [*]]
 repeat first | refine X0 ?_ | (refine JR ?_; (repeat first | refine Z1 ?_ | refine Z0 ?_ | refine ZB ?_ | refine ZC ?_ | refine Zd ?_ | refine Zs ?_ | refine Zl ?_ | refine Zv ?_ | refine ZM ?_ | refine ZA (γ := 100) ?_ | refine Zn ?_ | refine Zq ?_); refine JD ?_) | refine JF ?_ | refine X4 ?_ | refine X3 ?_
 exact X1 ⟨_, St.le_refl _, ⟨rfl, trivial⟩, X2 _⟩
end Go.Fw
namespace Go.Fw
open Go Go.Proofs
set_option maxRecDepth 100000
set_option linter.unusedVariables false
set_option linter.unusedSimpArgs false
theorem X57 : ∀ v : Val, X1h v
 | .mk k n d s l => X8L (.mk k n d s l) fun x hx => X57 x
termination_by v => SizeOf.sizeOf v
decreasing_by
 have h1 := List.sizeOf_lt_of_mem (show x ∈ l from hx)
 simp only [Val.mk.sizeOf_spec]
 omega
theorem X18 (v : Val) : Con Tryz.prog 159 [] [Xu v] [] (ab (X5 8 v)) := by
 refine Xa (xs := [ab (X5 8 v)]) Tryz.func159 rfl Tryz.ntmps159 rfl rfl rfl (fun E => ?_)
 have h := X57 v 8 (by omega)
 obtain ⟨k, n, d, s, l⟩ := v
 simp only [Xu, Nat.sub_self] at h
 refine X0 ?_; refine JR ?_; refine ZA (γ := 100) ?_; refine Z0 ?_; refine JD ?_; refine X0 ?_; refine JR ?_; refine ZL ?_; refine Z9 (hcon := h) ?_; refine Z0 ?_; refine JD ?_
 exact X1 ⟨_, St.le_refl _, ⟨rfl, trivial⟩, X2 _⟩
end Go.Fw
namespace Go.Fw
open Go Go.Proofs
set_option maxRecDepth 100000
set_option linter.unusedVariables false
set_option linter.unusedSimpArgs false
def X0J (v : Val) : Prop := ∀ m : Nat, m ≤ 8 → Con Tryz.prog 140 [] [Xu v, ai m] [] (ab (X5 m v))
theorem X4s {s : List UInt8} {p : Nat} {c : UInt8} (hc : s[p]? = some c) (hb : okB c = false) : YJ s = false := by
 cases hs : YJ s with
 | false => rfl
 | true =>
  unfold YJ at hs
  rw [List.all_eq_true] at hs
  have := hs c (List.mem_of_getElem? hc)
  unfold okB at hb
  rw [hb] at this; simp at this
theorem Xan (s : List UInt8) (hs : s.length ≤ 9223372036854775807) : Con Tryz.prog 201 [] [X0k s] [] (ab (YJ s && decide (s.length ≤ 100))) := by
 refine Xa (xs := [ab (YJ s && decide (s.length ≤ 100))]) Tryz.func201 rfl Tryz.ntmps201 rfl rfl rfl (fun E => ?_)
 have hsz : (X7 s).size = s.length := rfl
 refine X0 ?_; refine JR ?_; refine Z0 ?_; refine JD ?_; refine X0 ?_; refine X0 ?_; refine JR ?_; refine Z0 ?_; refine JD ?_; refine X4 ?_
 refine Xt (fun p : Nat => p ≤ s.length ∧ ∀ j, j < p → ∃ b, s[j]? = some b ∧ okB b = true) (fun p => ⟨23, [(0, X0k s), (3, ai p)], []⟩) (fun p => s.length - p) 0 ⟨by omega, fun j hj => by omega⟩
  (X6 rfl ⟨JL, JL, trivial⟩ trivial) ?_
 rintro p ⟨hp, hall⟩
 by_cases hlt : p < s.length
 ·obtain ⟨c, hc⟩ := Xm (l := s) hlt
  have hlt' : p < (X7 s).size := hlt
  have hget := X3S s hc hlt'
  by_cases h1 : c.toNat < 32
  ·rw [X4s hc (show okB c = false by unfold okB; exact decide_eq_false (by omega)), Bool.false_and]
   refine X0 ?_; refine X0 ?_; refine JR ?_; refine Z1 ?_; refine Z1 ?_; refine Zc ?_; refine Z8 ?_; refine JD ?_; refine JT ?_; refine X3 ?_; refine X0 ?_; refine X4 ?_; refine X0 ?_
   refine JR ?_; refine Z1 ?_; refine Z1 ?_; refine Zt ?_; refine Z8 ?_; refine Z1 ?_; refine Zo ?_; refine Zo ?_; refine Zo ?_; refine Zo ?_; refine Zn ?_; refine JD ?_; refine JT ?_; refine X0 ?_; refine JR ?_
   refine Z0 ?_; refine JD ?_
   exact X1 ⟨_, St.le_refl _, ⟨rfl, trivial⟩, X2 _⟩
  by_cases h2 : 126 < c.toNat
  ·rw [X4s hc (show okB c = false by unfold okB; exact decide_eq_false (by omega)), Bool.false_and]
   refine X0 ?_; refine X0 ?_; refine JR ?_; refine Z1 ?_; refine Z1 ?_; refine Zc ?_; refine Z8 ?_; refine JD ?_; refine JT ?_; refine X3 ?_; refine X0 ?_; refine X4 ?_; refine X0 ?_
   refine JR ?_; refine Z1 ?_; refine Z1 ?_; refine Zt ?_; refine Z8 ?_; refine Z1 ?_; refine Z1 ?_; refine Z1 ?_; refine Zt ?_; refine Zs ?_; refine Zq ?_; refine JD ?_; refine JT ?_; refine X0 ?_; refine JR ?_
   refine Z0 ?_; refine JD ?_
   exact X1 ⟨_, St.le_refl _, ⟨rfl, trivial⟩, X2 _⟩
  have hok : okB c = true := by unfold okB; exact decide_eq_true (by omega)
  refine X0 ?_; refine X0 ?_; refine JR ?_; refine Z1 ?_; refine Z1 ?_; refine Zc ?_; refine Z8 ?_; refine JD ?_; refine JT ?_; refine X3 ?_; refine X0 ?_; refine X4 ?_; refine X0 ?_
  refine JR ?_; refine Z1 ?_; refine Z1 ?_; refine Zt ?_; refine Z8 ?_; refine Z1 ?_; refine Z1 ?_; refine Z1 ?_; refine Zt ?_; refine Zs ?_; refine Zq ?_; refine JD ?_; refine JF ?_; refine X3 ?_; refine JR ?_
  refine Z1 ?_; refine Zb ?_; refine Z0 ?_; refine JD ?_
  refine ⟨p + 1, ⟨by omega, fun j hj => ?_⟩, by omega, X6 rfl ⟨JL, JL, trivial⟩ trivial⟩
  by_cases e : j = p
  ·subst e; exact ⟨c, hc, hok⟩
  ·exact hall j (by omega)
 obtain rfl : p = s.length := by omega
 rw [X3f hall rfl, Bool.true_and]
 refine X0 ?_; refine X0 ?_; refine JR ?_; refine Z1 ?_; refine Z1 ?_; refine Zc ?_; refine Z8 ?_; refine JD ?_; refine JF ?_; refine Xp ?_; refine X0 ?_; refine JR ?_; refine Z1 ?_; refine Zc ?_
 refine Zm ?_; refine Z0 ?_; refine JD ?_
 exact X1 ⟨_, Xi 2 (y := ab (decide (s.length ≤ 100))) (AVal.le_of_eq (by refine Eq.trans (b := ab (decide (((X7 s).size : Int) ≤ 100))) rfl ?_; exact congrArg ab (decide_eq_decide.2 (by omega)))), ⟨rfl, trivial⟩, X2 _⟩
theorem X9e (l : List Val) (hl : l.length ≤ 9223372036854775807) (ih : ∀ x ∈ l, X0J x) : Con Tryz.prog 202 [] [.d (.sl 5 (XW l))] [] (ab (Yw l)) := by
 refine Xa (xs := [ab (Yw l)]) Tryz.func202 rfl Tryz.ntmps202 rfl rfl rfl (fun E => ?_)
 have hlen := UT l
 by_cases h1 : l.length % 2 = 0
 ·rw [show Yw l = false by unfold Yw; rw [decide_eq_false (by omega), Bool.false_and]]
  refine X0 ?_; refine JR ?_; refine Z0 ?_; refine JD ?_; refine X0 ?_; refine X0 ?_; refine JR ?_; refine Z1 ?_; refine Zd ?_; refine ZJ ?_; refine Zl ?_; refine Z1 ?_; refine Zo ?_; refine Zo ?_
  refine Zo ?_; refine Zn ?_; refine JD ?_; refine JT ?_; refine X0 ?_; refine JR ?_; refine Z0 ?_; refine JD ?_
  exact X1 ⟨_, St.le_refl _, ⟨rfl, trivial⟩, X2 _⟩
 by_cases h2 : 25 < l.length
 ·rw [show Yw l = false by unfold Yw; rw [decide_eq_false (by omega), Bool.false_and]]
  refine X0 ?_; refine JR ?_; refine Z0 ?_; refine JD ?_; refine X0 ?_; refine X0 ?_; refine JR ?_; refine Z1 ?_; refine Zd ?_; refine ZJ ?_; refine Zl ?_; refine Z1 ?_; refine Z1 ?_; refine Zd ?_
  refine Zs ?_; refine Zq ?_; refine JD ?_; refine JT ?_; refine X0 ?_; refine JR ?_; refine Z0 ?_; refine JD ?_
  exact X1 ⟨_, St.le_refl _, ⟨rfl, trivial⟩, X2 _⟩
 rw [show Yw l = YM 0 (l.drop 0) by unfold Yw; rw [decide_eq_true (by omega), Bool.true_and]; rfl]
 refine X0 ?_; refine JR ?_; refine Z0 ?_; refine JD ?_; refine X0 ?_; refine X0 ?_; refine JR ?_; refine Z1 ?_; refine Zd ?_; refine ZJ ?_; refine Zl ?_; refine Z1 ?_; refine Z1 ?_; refine Zd ?_
 refine Zs ?_; refine Zq ?_; refine JD ?_; refine JF ?_; refine X3 ?_; refine X0 ?_; refine X0 ?_; refine JR ?_; refine Z0 ?_; refine JD ?_; refine X4 ?_
 refine Xt (fun i : Nat => i ≤ l.length ∧ YM 0 (l.drop 0) = YM i (l.drop i)) (fun i => ⟨38, [(0, .d (.sl 5 (XW l))), (3, ai i)], []⟩) (fun i => l.length - i) 0 ⟨by omega, rfl⟩
  (X6 rfl ⟨JL, JL, trivial⟩ trivial) ?_
 rintro i ⟨hi, hpv⟩
 by_cases hlt : i < l.length
 ·obtain ⟨x, hx⟩ := Xm (l := l) hlt
  have hgx := X0S hx
  have hvx := ih x (List.mem_of_getElem? hx) 0 (by omega)
  obtain ⟨k, n, d, s, q⟩ := x
  simp only [Xu] at hvx
  rw [Yd] at hgx
  rw [hpv]
  by_cases hpar : i % 2 = 0
  case pos =>
   by_cases hk : k = 5
   case neg =>
    rw [X1j hx (by rw [hpar]; show ¬ k = _; omega)]
    refine X0 ?_; refine X0 ?_; refine JR ?_; refine Z1 ?_; refine Z1 ?_; refine Zd ?_; refine Z8 ?_; refine JD ?_; refine JT ?_; refine X3 ?_; refine X0 ?_; refine X4 ?_; refine X0 ?_
    refine JR ?_; refine Z0 ?_; refine JD ?_; refine X0 ?_; refine X0 ?_; refine JR ?_; refine Z1 ?_
    refine Z4 (op := .rem) (r' := nj 0) (u := nj i) (v := nj 2) ?_ (hr' := by exact congrArg nj hpar) (hr := by exact Yx (by omega)); refine Zl ?_; refine JD ?_; refine JF ?_; refine X3 ?_; refine X0 ?_
    refine JR ?_; refine Z1 ?_; refine Z1 ?_; refine Zj ?_; refine ZN ?_; refine Zk ?_; refine Z1 ?_; refine Zv ?_; refine Z1 ?_; refine Zo ?_; refine Zo ?_; refine Zo ?_; refine Zo ?_; refine Zo ?_; refine Zo ?_
    refine Zn ?_; refine JD ?_; refine JT ?_; refine X0 ?_; refine JR ?_; refine Z0 ?_; refine JD ?_
    exact X1 ⟨_, St.le_refl _, ⟨rfl, trivial⟩, X2 _⟩
   subst hk
   cases hvv : X5 0 (.mk 5 n d s q) with
   | true =>
    rw [hvv] at hvx
    have hgo := X1e hx (by rw [hpar]; rfl) hvv
    rw [← hpv]
    refine X0 ?_; refine X0 ?_; refine JR ?_; refine Z1 ?_; refine Z1 ?_; refine Zd ?_; refine Z8 ?_; refine JD ?_; refine JT ?_; refine X3 ?_; refine X0 ?_; refine X4 ?_; refine X0 ?_
    refine JR ?_; refine Z0 ?_; refine JD ?_; refine X0 ?_; refine X0 ?_; refine JR ?_; refine Z1 ?_
    refine Z4 (op := .rem) (r' := nj 0) (u := nj i) (v := nj 2) ?_ (hr' := by exact congrArg nj hpar) (hr := by exact Yx (by omega)); refine Zl ?_; refine JD ?_; refine JF ?_; refine X3 ?_; refine X0 ?_
    refine JR ?_; refine Z1 ?_; refine Z1 ?_; refine Zj ?_; refine ZN ?_; refine Zk ?_; refine Z1 ?_; refine Zv ?_; refine Z1 ?_; refine Z1 ?_; refine Z1 ?_; refine Zj ?_; refine ZK ?_; refine Z9 (hcon := hvx) ?_
    refine Zu ?_; refine Zq ?_; refine JD ?_; refine JF ?_; refine X3 ?_; refine JR ?_; refine Z1 ?_; refine Zb ?_; refine Z0 ?_; refine JD ?_
    exact ⟨i + 1, ⟨by omega, hpv.trans hgo⟩, by omega, X6 rfl ⟨JL, JL, trivial⟩ trivial⟩
   | false =>
    rw [hvv] at hvx
    rw [X12 hx hvv]
    refine X0 ?_; refine X0 ?_; refine JR ?_; refine Z1 ?_; refine Z1 ?_; refine Zd ?_; refine Z8 ?_; refine JD ?_; refine JT ?_; refine X3 ?_; refine X0 ?_; refine X4 ?_; refine X0 ?_
    refine JR ?_; refine Z0 ?_; refine JD ?_; refine X0 ?_; refine X0 ?_; refine JR ?_; refine Z1 ?_
    refine Z4 (op := .rem) (r' := nj 0) (u := nj i) (v := nj 2) ?_ (hr' := by exact congrArg nj hpar) (hr := by exact Yx (by omega)); refine Zl ?_; refine JD ?_; refine JF ?_; refine X3 ?_; refine X0 ?_
    refine JR ?_; refine Z1 ?_; refine Z1 ?_; refine Zj ?_; refine ZN ?_; refine Zk ?_; refine Z1 ?_; refine Zv ?_; refine Z1 ?_; refine Z1 ?_; refine Z1 ?_; refine Zj ?_; refine ZK ?_; refine Z9 (hcon := hvx) ?_
    refine Zu ?_; refine Zq ?_; refine JD ?_; refine JT ?_; refine X0 ?_; refine JR ?_; refine Z0 ?_; refine JD ?_
    exact X1 ⟨_, St.le_refl _, ⟨rfl, trivial⟩, X2 _⟩
  case neg =>
   have hpar : i % 2 = 1 := by omega
   by_cases hk : k = 6
   case neg =>
    rw [X1j hx (by rw [hpar]; show ¬ k = _; omega)]
    refine X0 ?_; refine X0 ?_; refine JR ?_; refine Z1 ?_; refine Z1 ?_; refine Zd ?_; refine Z8 ?_; refine JD ?_; refine JT ?_; refine X3 ?_; refine X0 ?_; refine X4 ?_; refine X0 ?_
    refine JR ?_; refine Z0 ?_; refine JD ?_; refine X0 ?_; refine X0 ?_; refine JR ?_; refine Z1 ?_
    refine Z4 (op := .rem) (r' := nj 1) (u := nj i) (v := nj 2) ?_ (hr' := by exact congrArg nj hpar) (hr := by exact Yx (by omega)); refine Zl ?_; refine JD ?_; refine JT ?_; refine JR ?_; refine Z0 ?_; refine JD ?_
    refine X0 ?_; refine JR ?_; refine Z1 ?_; refine Z1 ?_; refine Zj ?_; refine ZN ?_; refine Zk ?_; refine Z1 ?_; refine Zv ?_; refine Z1 ?_; refine Zo ?_; refine Zo ?_; refine Zo ?_; refine Zo ?_; refine Zo ?_
    refine Zo ?_; refine Zn ?_; refine JD ?_; refine JT ?_; refine X0 ?_; refine JR ?_; refine Z0 ?_; refine JD ?_
    exact X1 ⟨_, St.le_refl _, ⟨rfl, trivial⟩, X2 _⟩
   subst hk
   cases hvv : X5 0 (.mk 6 n d s q) with
   | true =>
    rw [hvv] at hvx
    have hgo := X1e hx (by rw [hpar]; rfl) hvv
    rw [← hpv]
    refine X0 ?_; refine X0 ?_; refine JR ?_; refine Z1 ?_; refine Z1 ?_; refine Zd ?_; refine Z8 ?_; refine JD ?_; refine JT ?_; refine X3 ?_; refine X0 ?_; refine X4 ?_; refine X0 ?_
    refine JR ?_; refine Z0 ?_; refine JD ?_; refine X0 ?_; refine X0 ?_; refine JR ?_; refine Z1 ?_
    refine Z4 (op := .rem) (r' := nj 1) (u := nj i) (v := nj 2) ?_ (hr' := by exact congrArg nj hpar) (hr := by exact Yx (by omega)); refine Zl ?_; refine JD ?_; refine JT ?_; refine JR ?_; refine Z0 ?_; refine JD ?_
    refine X0 ?_; refine JR ?_; refine Z1 ?_; refine Z1 ?_; refine Zj ?_; refine ZN ?_; refine Zk ?_; refine Z1 ?_; refine Zv ?_; refine Z1 ?_; refine Z1 ?_; refine Z1 ?_; refine Zj ?_; refine ZK ?_
    refine Z9 (hcon := hvx) ?_; refine Zu ?_; refine Zq ?_; refine JD ?_; refine JF ?_; refine X3 ?_; refine JR ?_; refine Z1 ?_; refine Zb ?_; refine Z0 ?_; refine JD ?_
    exact ⟨i + 1, ⟨by omega, hpv.trans hgo⟩, by omega, X6 rfl ⟨JL, JL, trivial⟩ trivial⟩
   | false =>
    rw [hvv] at hvx
    rw [X12 hx hvv]
    refine X0 ?_; refine X0 ?_; refine JR ?_; refine Z1 ?_; refine Z1 ?_; refine Zd ?_; refine Z8 ?_; refine JD ?_; refine JT ?_; refine X3 ?_; refine X0 ?_; refine X4 ?_; refine X0 ?_
    refine JR ?_; refine Z0 ?_; refine JD ?_; refine X0 ?_; refine X0 ?_; refine JR ?_; refine Z1 ?_
    refine Z4 (op := .rem) (r' := nj 1) (u := nj i) (v := nj 2) ?_ (hr' := by exact congrArg nj hpar) (hr := by exact Yx (by omega)); refine Zl ?_; refine JD ?_; refine JT ?_; refine JR ?_; refine Z0 ?_; refine JD ?_
    refine X0 ?_; refine JR ?_; refine Z1 ?_; refine Z1 ?_; refine Zj ?_; refine ZN ?_; refine Zk ?_; refine Z1 ?_; refine Zv ?_; refine Z1 ?_; refine Z1 ?_; refine Z1 ?_; refine Zj ?_; refine ZK ?_
    refine Z9 (hcon := hvx) ?_; refine Zu ?_; refine Zq ?_; refine JD ?_; refine JT ?_; refine X0 ?_; refine JR ?_; refine Z0 ?_; refine JD ?_
    exact X1 ⟨_, St.le_refl _, ⟨rfl, trivial⟩, X2 _⟩
 obtain rfl : i = l.length := by omega
 rw [hpv, List.drop_length, YM]
 refine X0 ?_; refine X0 ?_; refine JR ?_; refine Z1 ?_; refine Z1 ?_; refine Zd ?_; refine Z8 ?_; refine JD ?_; refine JF ?_; refine Xp ?_; refine X0 ?_; refine JR ?_; refine Z0 ?_; refine JD ?_
 exact X1 ⟨_, St.le_refl _, ⟨rfl, trivial⟩, X2 _⟩
theorem X98 (l : List Val) (m : Nat) (hm : m ≤ 8) (hl : l.length ≤ 9223372036854775807) (ih : ∀ x ∈ l, X0J x) : Con Tryz.prog 203 [] [.d (.sl 5 (XW l)), ai m] [] (ab (decide (1 ≤ m ∧ l.length ≤ 64) && YS (m - 1) l)) := by
 refine Xa (xs := [ab (decide (1 ≤ m ∧ l.length ≤ 64) && YS (m - 1) l)]) Tryz.func203 rfl Tryz.ntmps203 rfl rfl rfl (fun E => ?_)
 have hlen := UT l
 by_cases h1 : m < 1
 ·rw [decide_eq_false (by omega), Bool.false_and]
  refine X0 ?_; refine JR ?_; refine Z0 ?_; refine JD ?_; refine X0 ?_; refine X0 ?_; refine JR ?_; refine Z1 ?_; refine Z8 ?_; refine Z1 ?_; refine Zo ?_; refine Zo ?_; refine Zo ?_; refine Zn ?_
  refine JD ?_; refine JT ?_; refine X0 ?_; refine JR ?_; refine Z0 ?_; refine JD ?_
  exact X1 ⟨_, St.le_refl _, ⟨rfl, trivial⟩, X2 _⟩
 by_cases h2 : 64 < l.length
 ·rw [decide_eq_false (by omega), Bool.false_and]
  refine X0 ?_; refine JR ?_; refine Z0 ?_; refine JD ?_; refine X0 ?_; refine X0 ?_; refine JR ?_; refine Z1 ?_; refine Z8 ?_; refine Z1 ?_; refine Z1 ?_; refine Zd ?_; refine Zs ?_; refine Zq ?_
  refine JD ?_; refine JT ?_; refine X0 ?_; refine JR ?_; refine Z0 ?_; refine JD ?_
  exact X1 ⟨_, St.le_refl _, ⟨rfl, trivial⟩, X2 _⟩
 rw [show (decide (1 ≤ m ∧ l.length ≤ 64) && YS (m - 1) l) = YS (m - 1) (l.drop 0) by rw [decide_eq_true (by omega), Bool.true_and]; rfl]
 refine X0 ?_; refine JR ?_; refine Z0 ?_; refine JD ?_; refine X0 ?_; refine X0 ?_; refine JR ?_; refine Z1 ?_; refine Z8 ?_; refine Z1 ?_; refine Z1 ?_; refine Zd ?_; refine Zs ?_; refine Zq ?_
 refine JD ?_; refine JF ?_; refine X3 ?_; refine X0 ?_; refine X0 ?_; refine JR ?_; refine Z0 ?_; refine JD ?_; refine X4 ?_
 refine Xt (fun i : Nat => i ≤ l.length ∧ YS (m - 1) (l.drop 0) = YS (m - 1) (l.drop i)) (fun i => ⟨27, [(0, .d (.sl 5 (XW l))), (1, ai m), (5, ai i)], []⟩) (fun i => l.length - i) 0 ⟨by omega, rfl⟩
  (X6 rfl ⟨JL, JL, JL, trivial⟩ trivial) ?_
 rintro i ⟨hi, hpv⟩
 by_cases hlt : i < l.length
 ·obtain ⟨x, hx⟩ := Xm (l := l) hlt
  have hgx := X0S hx
  have hvx := ih x (List.mem_of_getElem? hx) (m - 1) (by omega)
  have hst := X60 (m := m - 1) hx
  have e8 : Value.int .i64 ((m : Int) - 1) = nj (m - 1) := by show Value.int .i64 _ = Value.int .i64 _; congr 1; omega
  obtain ⟨k', n', d', s', q'⟩ := x
  simp only [Xu] at hvx
  rw [Yd] at hgx
  cases hvv : X5 (m - 1) (.mk k' n' d' s' q') with
  | true =>
   rw [hvv] at hvx
   rw [hvv, Bool.true_and] at hst
   refine X0 ?_; refine X0 ?_; refine JR ?_; refine Z1 ?_; refine Z1 ?_; refine Zd ?_; refine Z8 ?_; refine JD ?_; refine JT ?_; refine X3 ?_; refine X0 ?_; refine X4 ?_; refine X0 ?_
   refine JR ?_; refine Z1 ?_; refine Z1 ?_; refine Zj ?_; refine ZK ?_; refine Z1 ?_
   refine Z4 (op := .sub) (r' := nj (m - 1)) (u := nj m) (v := nj 1) ?_ (hr' := by exact e8) (hr := by exact XJ (by unfold XB; omega)); refine Z9 (hcon := hvx) ?_; refine Zu ?_; refine JD ?_; refine JF ?_
   refine X3 ?_; refine JR ?_; refine Z1 ?_; refine Zb ?_; refine Z0 ?_; refine JD ?_
   exact ⟨i + 1, ⟨by omega, hpv.trans hst⟩, by omega, X6 rfl ⟨JL, JL, JL, trivial⟩ trivial⟩
  | false =>
   rw [hvv] at hvx
   rw [hvv, Bool.false_and] at hst
   rw [hpv, hst]
   refine X0 ?_; refine X0 ?_; refine JR ?_; refine Z1 ?_; refine Z1 ?_; refine Zd ?_; refine Z8 ?_; refine JD ?_; refine JT ?_; refine X3 ?_; refine X0 ?_; refine X4 ?_; refine X0 ?_
   refine JR ?_; refine Z1 ?_; refine Z1 ?_; refine Zj ?_; refine ZK ?_; refine Z1 ?_
   refine Z4 (op := .sub) (r' := nj (m - 1)) (u := nj m) (v := nj 1) ?_ (hr' := by exact e8) (hr := by exact XJ (by unfold XB; omega)); refine Z9 (hcon := hvx) ?_; refine Zu ?_; refine JD ?_; refine JT ?_
   refine X0 ?_; refine JR ?_; refine Z0 ?_; refine JD ?_
   exact X1 ⟨_, St.le_refl _, ⟨rfl, trivial⟩, X2 _⟩
 obtain rfl : i = l.length := by omega
 rw [hpv, List.drop_length, YS]
 refine X0 ?_; refine X0 ?_; refine JR ?_; refine Z1 ?_; refine Z1 ?_; refine Zd ?_; refine Z8 ?_; refine JD ?_; refine JF ?_; refine Xp ?_; refine X0 ?_; refine JR ?_; refine Z0 ?_; refine JD ?_
 exact X1 ⟨_, St.le_refl _, ⟨rfl, trivial⟩, X2 _⟩
end Go.Fw

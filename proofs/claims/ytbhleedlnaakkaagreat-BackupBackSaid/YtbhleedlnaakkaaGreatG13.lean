/- The reference's Valid, second part. -/
import Derived.Test.YtbhleedlnaakkaaGreatG12
set_option maxHeartbeats 8000000
namespace Go.Fw
open Go Go.Proofs
set_option maxRecDepth 100000
set_option linter.unusedVariables false
set_option linter.unusedSimpArgs false
theorem Xfo (v : Val) (hok : XY v) (ih : ∀ x ∈ v.l, X2Q x) : X2Q v := by
 obtain ⟨k, n, d, s, l⟩ := v
 intro m hm
 rw [XY] at hok
 simp only [Val.l] at ih
 refine X9 (xs := [ab (X7 m (.mk k n d s l))]) Tryz.func140 rfl Tryz.ntmps140 rfl rfl rfl (fun E => ?_)
 have hlen := UR l
 by_cases hk0 : k = 0
 ·subst hk0
  have hb := Xd3 0 n d s l
  by_cases hn0 : n = 0
  case neg =>
   rw [show (decide (n = 0) && decide (d = 0) && decide (s = []) && decide (l.length = 0)) = false by simp [*]] at hb
   rw [show X7 m (.mk 0 n d s l) = false by rw [X7]; simp [*]]
   refine X0 ?_; refine JR ?_; refine ZA (γ := 100) ?_; refine Z0 ?_; refine JD ?_; refine X0 ?_; refine X0 ?_; refine JR ?_; refine ZB ?_; refine ZC ?_; refine JD ?_; refine X4 ?_; refine X0 ?_
   refine JR ?_; refine Zl ?_; refine Z0 ?_; refine JD ?_; refine JT ?_; refine X0 ?_; refine JR ?_; refine ZL ?_; refine Z9 (hcon := hb) ?_; refine Z0 ?_; refine JD ?_
   exact X1 ⟨_, St.le_refl _, ⟨rfl, trivial⟩, X3 _⟩
  by_cases hd0 : d = 0
  case neg =>
   rw [show (decide (n = 0) && decide (d = 0) && decide (s = []) && decide (l.length = 0)) = false by simp [*]] at hb
   rw [show X7 m (.mk 0 n d s l) = false by rw [X7]; simp [*]]
   refine X0 ?_; refine JR ?_; refine ZA (γ := 100) ?_; refine Z0 ?_; refine JD ?_; refine X0 ?_; refine X0 ?_; refine JR ?_; refine ZB ?_; refine ZC ?_; refine JD ?_; refine X4 ?_; refine X0 ?_
   refine JR ?_; refine Zl ?_; refine Z0 ?_; refine JD ?_; refine JT ?_; refine X0 ?_; refine JR ?_; refine ZL ?_; refine Z9 (hcon := hb) ?_; refine Z0 ?_; refine JD ?_
   exact X1 ⟨_, St.le_refl _, ⟨rfl, trivial⟩, X3 _⟩
  by_cases hs0 : s = []
  case neg =>
   rw [show (decide (n = 0) && decide (d = 0) && decide (s = []) && decide (l.length = 0)) = false by simp [*]] at hb
   rw [show X7 m (.mk 0 n d s l) = false by rw [X7]; simp [*]]
   refine X0 ?_; refine JR ?_; refine ZA (γ := 100) ?_; refine Z0 ?_; refine JD ?_; refine X0 ?_; refine X0 ?_; refine JR ?_; refine ZB ?_; refine ZC ?_; refine JD ?_; refine X4 ?_; refine X0 ?_
   refine JR ?_; refine Zl ?_; refine Z0 ?_; refine JD ?_; refine JT ?_; refine X0 ?_; refine JR ?_; refine ZL ?_; refine Z9 (hcon := hb) ?_; refine Z0 ?_; refine JD ?_
   exact X1 ⟨_, St.le_refl _, ⟨rfl, trivial⟩, X3 _⟩
  by_cases hl0 : l.length = 0
  case neg =>
   rw [show (decide (n = 0) && decide (d = 0) && decide (s = []) && decide (l.length = 0)) = false by simp [*]] at hb
   have hl1 : 0 < l.length := by omega
   rw [show X7 m (.mk 0 n d s l) = false by rw [X7]; simp [*]]
   refine X0 ?_; refine JR ?_; refine ZA (γ := 100) ?_; refine Z0 ?_; refine JD ?_; refine X0 ?_; refine X0 ?_; refine JR ?_; refine ZB ?_; refine ZC ?_; refine JD ?_; refine X4 ?_; refine X0 ?_
   refine JR ?_; refine Zl ?_; refine Z0 ?_; refine JD ?_; refine JT ?_; refine X0 ?_; refine JR ?_; refine ZL ?_; refine Z9 (hcon := hb) ?_; refine Z0 ?_; refine JD ?_
   exact X1 ⟨_, St.le_refl _, ⟨rfl, trivial⟩, X3 _⟩
  rw [show (decide (n = 0) && decide (d = 0) && decide (s = []) && decide (l.length = 0)) = true by simp [*]] at hb
  rw [show X7 m (.mk 0 n d s l) = true by rw [X7]; simp [*]]
  refine X0 ?_; refine JR ?_; refine ZA (γ := 100) ?_; refine Z0 ?_; refine JD ?_; refine X0 ?_; refine X0 ?_; refine JR ?_; refine ZB ?_; refine ZC ?_; refine JD ?_; refine X4 ?_; refine X0 ?_
  refine JR ?_; refine Zl ?_; refine Z0 ?_; refine JD ?_; refine JT ?_; refine X0 ?_; refine JR ?_; refine ZL ?_; refine Z9 (hcon := hb) ?_; refine Z0 ?_; refine JD ?_
  exact X1 ⟨_, St.le_refl _, ⟨rfl, trivial⟩, X3 _⟩
 by_cases hk1 : k = 1
 ·subst hk1
  have hb := X4b 1 n d s l
  by_cases hd0 : d = 0
  case neg =>
   rw [show (decide (d = 0) && decide (s = []) && decide (l.length = 0)) = false by simp [*]] at hb
   rw [show X7 m (.mk 1 n d s l) = false by rw [X7]; simp [*]]
   refine X0 ?_; refine JR ?_; refine ZA (γ := 100) ?_; refine Z0 ?_; refine JD ?_; refine X0 ?_; refine X0 ?_; refine JR ?_; refine ZB ?_; refine ZC ?_; refine JD ?_; refine X4 ?_; refine X0 ?_
   refine JR ?_; refine Zl ?_; refine Z0 ?_; refine JD ?_; refine JF ?_; refine X0 ?_; refine JR ?_; refine Zl ?_; refine Z0 ?_; refine JD ?_; refine JT ?_; refine X0 ?_; refine JR ?_; refine ZL ?_
   refine Z9 (hcon := hb) ?_; refine Z1 ?_; refine Zo ?_; refine Zo ?_; refine Zo ?_; refine Zo ?_; refine Zp ?_; refine Zp ?_; refine Zp ?_; refine Zo ?_; refine Zq ?_; refine Z0 ?_; refine JD ?_
   exact X1 ⟨_, St.le_refl _, ⟨rfl, trivial⟩, X3 _⟩
  by_cases hs0 : s = []
  case neg =>
   rw [show (decide (d = 0) && decide (s = []) && decide (l.length = 0)) = false by simp [*]] at hb
   rw [show X7 m (.mk 1 n d s l) = false by rw [X7]; simp [*]]
   refine X0 ?_; refine JR ?_; refine ZA (γ := 100) ?_; refine Z0 ?_; refine JD ?_; refine X0 ?_; refine X0 ?_; refine JR ?_; refine ZB ?_; refine ZC ?_; refine JD ?_; refine X4 ?_; refine X0 ?_
   refine JR ?_; refine Zl ?_; refine Z0 ?_; refine JD ?_; refine JF ?_; refine X0 ?_; refine JR ?_; refine Zl ?_; refine Z0 ?_; refine JD ?_; refine JT ?_; refine X0 ?_; refine JR ?_; refine ZL ?_
   refine Z9 (hcon := hb) ?_; refine Z1 ?_; refine Zo ?_; refine Zo ?_; refine Zo ?_; refine Zo ?_; refine Zp ?_; refine Zp ?_; refine Zp ?_; refine Zo ?_; refine Zq ?_; refine Z0 ?_; refine JD ?_
   exact X1 ⟨_, St.le_refl _, ⟨rfl, trivial⟩, X3 _⟩
  by_cases hl0 : l.length = 0
  case neg =>
   rw [show (decide (d = 0) && decide (s = []) && decide (l.length = 0)) = false by simp [*]] at hb
   have hl1 : 0 < l.length := by omega
   rw [show X7 m (.mk 1 n d s l) = false by rw [X7]; simp [*]]
   refine X0 ?_; refine JR ?_; refine ZA (γ := 100) ?_; refine Z0 ?_; refine JD ?_; refine X0 ?_; refine X0 ?_; refine JR ?_; refine ZB ?_; refine ZC ?_; refine JD ?_; refine X4 ?_; refine X0 ?_
   refine JR ?_; refine Zl ?_; refine Z0 ?_; refine JD ?_; refine JF ?_; refine X0 ?_; refine JR ?_; refine Zl ?_; refine Z0 ?_; refine JD ?_; refine JT ?_; refine X0 ?_; refine JR ?_; refine ZL ?_
   refine Z9 (hcon := hb) ?_; refine Z1 ?_; refine Zo ?_; refine Zo ?_; refine Zo ?_; refine Zo ?_; refine Zp ?_; refine Zp ?_; refine Zp ?_; refine Zo ?_; refine Zq ?_; refine Z0 ?_; refine JD ?_
   exact X1 ⟨_, St.le_refl _, ⟨rfl, trivial⟩, X3 _⟩
  rw [show (decide (d = 0) && decide (s = []) && decide (l.length = 0)) = true by simp [*]] at hb
  by_cases hn : n = 0
  ·rw [show X7 m (.mk 1 n d s l) = true by rw [X7]; simp [*]]
   repeat first | refine X0 ?_ | (refine JR ?_; (repeat first | refine Z1 ?_ | refine Z0 ?_ | refine ZB ?_ | refine ZC ?_ | refine ZL ?_ | refine Zl ?_ | refine ZA (γ := 100) ?_ | refine Zn ?_ | refine Zo ?_ | refine Z9 (hcon := hb) ?_); refine JD ?_) | refine JT ?_ | refine JF ?_ | refine X4 ?_
   exact X1 ⟨_, St.le_refl _, ⟨rfl, trivial⟩, X3 _⟩
  by_cases hn1 : n = 1
  ·rw [show X7 m (.mk 1 n d s l) = true by rw [X7]; simp [*]]
   repeat first | refine X0 ?_ | (refine JR ?_; (repeat first | refine Z1 ?_ | refine Z0 ?_ | refine ZB ?_ | refine ZC ?_ | refine ZL ?_ | refine Zl ?_ | refine ZA (γ := 100) ?_ | refine Zn ?_ | refine Zq ?_ | refine Z9 (hcon := hb) ?_); refine JD ?_) | refine JT ?_ | refine JF ?_ | refine X4 ?_
   exact X1 ⟨_, Xh 4 (y := ab true) (AVal.le_of_eq (by refine Eq.trans (b := ab (decide (n = 1))) rfl ?_; exact congrArg ab (decide_eq_true hn1))), ⟨rfl, trivial⟩, X3 _⟩
  ·rw [show X7 m (.mk 1 n d s l) = false by rw [X7]; simp [*]]
   repeat first | refine X0 ?_ | (refine JR ?_; (repeat first | refine Z1 ?_ | refine Z0 ?_ | refine ZB ?_ | refine ZC ?_ | refine ZL ?_ | refine Zl ?_ | refine ZA (γ := 100) ?_ | refine Zn ?_ | refine Zq ?_ | refine Z9 (hcon := hb) ?_); refine JD ?_) | refine JT ?_ | refine JF ?_ | refine X4 ?_
   exact X1 ⟨_, Xh 4 (y := ab false) (AVal.le_of_eq (by refine Eq.trans (b := ab (decide (n = 1))) rfl ?_; exact congrArg ab (decide_eq_false hn1))), ⟨rfl, trivial⟩, X3 _⟩
 by_cases hk2 : k = 2
 ·subst hk2
  have hb := X4b 2 n d s l
  by_cases hd0 : d = 0
  case neg =>
   rw [show (decide (d = 0) && decide (s = []) && decide (l.length = 0)) = false by simp [*]] at hb
   rw [show X7 m (.mk 2 n d s l) = false by rw [X7]; simp [*]]
   repeat first | refine X0 ?_ | (refine JR ?_; (repeat first | refine Z1 ?_ | refine Z0 ?_ | refine ZB ?_ | refine ZC ?_ | refine ZL ?_ | refine Zl ?_ | refine ZA (γ := 100) ?_ | refine Zq ?_ | refine Zo ?_ | refine Z9 (hcon := hb) ?_); refine JD ?_) | refine JT ?_ | refine JF ?_ | refine X4 ?_
   exact X1 ⟨_, St.le_refl _, ⟨rfl, trivial⟩, X3 _⟩
  by_cases hs0 : s = []
  case neg =>
   rw [show (decide (d = 0) && decide (s = []) && decide (l.length = 0)) = false by simp [*]] at hb
   rw [show X7 m (.mk 2 n d s l) = false by rw [X7]; simp [*]]
   repeat first | refine X0 ?_ | (refine JR ?_; (repeat first | refine Z1 ?_ | refine Z0 ?_ | refine ZB ?_ | refine ZC ?_ | refine ZL ?_ | refine Zl ?_ | refine ZA (γ := 100) ?_ | refine Zq ?_ | refine Zo ?_ | refine Z9 (hcon := hb) ?_); refine JD ?_) | refine JT ?_ | refine JF ?_ | refine X4 ?_
   exact X1 ⟨_, St.le_refl _, ⟨rfl, trivial⟩, X3 _⟩
  by_cases hl0 : l.length = 0
  case neg =>
   rw [show (decide (d = 0) && decide (s = []) && decide (l.length = 0)) = false by simp [*]] at hb
   have hl1 : 0 < l.length := by omega
   rw [show X7 m (.mk 2 n d s l) = false by rw [X7]; simp [*]]
   repeat first | refine X0 ?_ | (refine JR ?_; (repeat first | refine Z1 ?_ | refine Z0 ?_ | refine ZB ?_ | refine ZC ?_ | refine ZL ?_ | refine Zl ?_ | refine ZA (γ := 100) ?_ | refine Zq ?_ | refine Zo ?_ | refine Z9 (hcon := hb) ?_); refine JD ?_) | refine JT ?_ | refine JF ?_ | refine X4 ?_
   exact X1 ⟨_, St.le_refl _, ⟨rfl, trivial⟩, X3 _⟩
  rw [show (decide (d = 0) && decide (s = []) && decide (l.length = 0)) = true by simp [*]] at hb
  rw [show X7 m (.mk 2 n d s l) = inV n by rw [X7]; simp [inV, *]]
  repeat first | refine X0 ?_ | (refine JR ?_; (repeat first | refine Z1 ?_ | refine Z0 ?_ | refine ZB ?_ | refine ZC ?_ | refine ZL ?_ | refine Zl ?_ | refine ZA (γ := 100) ?_ | refine Zn ?_ | refine Z9 (hcon := hb) ?_ | refine Z9 (hcon := Xf9 n) ?_); refine JD ?_) | refine JT ?_ | refine JF ?_ | refine X4 ?_
  exact X1 ⟨_, St.le_refl _, ⟨rfl, trivial⟩, X3 _⟩
 by_cases hk3 : k = 3
 ·subst hk3
  have hb := Xf7 3 n d s l
  by_cases hs0 : s = []
  case neg =>
   rw [show (decide (s = []) && decide (l.length = 0)) = false by simp [*]] at hb
   rw [show X7 m (.mk 3 n d s l) = false by rw [X7]; simp [*]]
   repeat first | refine X0 ?_ | (refine JR ?_; (repeat first | refine Z1 ?_ | refine Z0 ?_ | refine ZB ?_ | refine ZC ?_ | refine ZL ?_ | refine Zl ?_ | refine ZA (γ := 100) ?_ | refine Zq ?_ | refine Zo ?_ | refine Z9 (hcon := hb) ?_); refine JD ?_) | refine JT ?_ | refine JF ?_ | refine X4 ?_
   exact X1 ⟨_, St.le_refl _, ⟨rfl, trivial⟩, X3 _⟩
  by_cases hl0 : l.length = 0
  case neg =>
   rw [show (decide (s = []) && decide (l.length = 0)) = false by simp [*]] at hb
   have hl1 : 0 < l.length := by omega
   rw [show X7 m (.mk 3 n d s l) = false by rw [X7]; simp [*]]
   repeat first | refine X0 ?_ | (refine JR ?_; (repeat first | refine Z1 ?_ | refine Z0 ?_ | refine ZB ?_ | refine ZC ?_ | refine ZL ?_ | refine Zl ?_ | refine ZA (γ := 100) ?_ | refine Zq ?_ | refine Zo ?_ | refine Z9 (hcon := hb) ?_); refine JD ?_) | refine JT ?_ | refine JF ?_ | refine X4 ?_
   exact X1 ⟨_, St.le_refl _, ⟨rfl, trivial⟩, X3 _⟩
  rw [show (decide (s = []) && decide (l.length = 0)) = true by simp [*]] at hb
  by_cases hd : 2 ≤ d
  ·rw [show X7 m (.mk 3 n d s l) = V6 n d by rw [X7]; simp [*]]
   repeat first | refine X0 ?_ | (refine JR ?_; (repeat first | refine Z1 ?_ | refine Z0 ?_ | refine ZB ?_ | refine ZC ?_ | refine ZL ?_ | refine Z2 ?_ | refine Zl ?_ | refine ZA (γ := 100) ?_ | refine Zx ?_ | refine Zn ?_ | refine Z9 (hcon := hb) ?_ | refine Z9 (hcon := X9x n d) ?_); refine JD ?_) | refine JT ?_ | refine JF ?_ | refine X4 ?_
   exact X1 ⟨_, St.le_refl _, ⟨rfl, trivial⟩, X3 _⟩
  ·rw [show X7 m (.mk 3 n d s l) = false by rw [X7]; simp [*]]
   repeat first | refine X0 ?_ | (refine JR ?_; (repeat first | refine Z1 ?_ | refine Z0 ?_ | refine ZB ?_ | refine ZC ?_ | refine ZL ?_ | refine Z2 ?_ | refine Zl ?_ | refine ZA (γ := 100) ?_ | refine Zn ?_ | refine Zq ?_ | refine Zo ?_ | refine Z9 (hcon := hb) ?_); refine JD ?_) | refine JT ?_ | refine JF ?_ | refine X4 ?_
   exact X1 ⟨_, St.le_refl _, ⟨rfl, trivial⟩, X3 _⟩
 by_cases hk4 : k = 4
 ·subst hk4
  have hb := Xhp 4 n d s l
  by_cases hn0 : n = 0
  case neg =>
   rw [show (decide (n = 0) && decide (d = 0) && decide (l.length = 0)) = false by simp [*]] at hb
   rw [show X7 m (.mk 4 n d s l) = false by rw [X7]; simp [*]]
   repeat first | refine X0 ?_ | (refine JR ?_; (repeat first | refine Z1 ?_ | refine Z0 ?_ | refine ZB ?_ | refine ZC ?_ | refine ZL ?_ | refine Zl ?_ | refine ZA (γ := 100) ?_ | refine Zq ?_ | refine Zo ?_ | refine Z9 (hcon := hb) ?_); refine JD ?_) | refine JT ?_ | refine JF ?_ | refine X4 ?_
   exact X1 ⟨_, St.le_refl _, ⟨rfl, trivial⟩, X3 _⟩
  by_cases hd0 : d = 0
  case neg =>
   rw [show (decide (n = 0) && decide (d = 0) && decide (l.length = 0)) = false by simp [*]] at hb
   rw [show X7 m (.mk 4 n d s l) = false by rw [X7]; simp [*]]
   repeat first | refine X0 ?_ | (refine JR ?_; (repeat first | refine Z1 ?_ | refine Z0 ?_ | refine ZB ?_ | refine ZC ?_ | refine ZL ?_ | refine Zl ?_ | refine ZA (γ := 100) ?_ | refine Zq ?_ | refine Zo ?_ | refine Z9 (hcon := hb) ?_); refine JD ?_) | refine JT ?_ | refine JF ?_ | refine X4 ?_
   exact X1 ⟨_, St.le_refl _, ⟨rfl, trivial⟩, X3 _⟩
  by_cases hl0 : l.length = 0
  case neg =>
   rw [show (decide (n = 0) && decide (d = 0) && decide (l.length = 0)) = false by simp [*]] at hb
   have hl1 : 0 < l.length := by omega
   rw [show X7 m (.mk 4 n d s l) = false by rw [X7]; simp [*]]
   repeat first | refine X0 ?_ | (refine JR ?_; (repeat first | refine Z1 ?_ | refine Z0 ?_ | refine ZB ?_ | refine ZC ?_ | refine ZL ?_ | refine Zl ?_ | refine ZA (γ := 100) ?_ | refine Zq ?_ | refine Zo ?_ | refine Z9 (hcon := hb) ?_); refine JD ?_) | refine JT ?_ | refine JF ?_ | refine X4 ?_
   exact X1 ⟨_, St.le_refl _, ⟨rfl, trivial⟩, X3 _⟩
  rw [show (decide (n = 0) && decide (d = 0) && decide (l.length = 0)) = true by simp [*]] at hb
  rw [show X7 m (.mk 4 n d s l) = (US s && decide (s.length ≤ 100)) by rw [X7]; simp [*, Bool.and_comm]]
  repeat first | refine X0 ?_ | (refine JR ?_; (repeat first | refine Z1 ?_ | refine Z0 ?_ | refine ZB ?_ | refine ZC ?_ | refine ZL ?_ | refine Zl ?_ | refine ZA (γ := 100) ?_ | refine Zn ?_ | refine Z9 (hcon := hb) ?_ | refine Z9 (hcon := XdX s hok.1) ?_); refine JD ?_) | refine JT ?_ | refine JF ?_ | refine X4 ?_
  exact X1 ⟨_, St.le_refl _, ⟨rfl, trivial⟩, X3 _⟩
 by_cases hk5 : k = 5
 ·subst hk5
  have hb := X4b 5 n d s l
  by_cases hd0 : d = 0
  case neg =>
   rw [show (decide (d = 0) && decide (s = []) && decide (l.length = 0)) = false by simp [*]] at hb
   rw [show X7 m (.mk 5 n d s l) = false by rw [X7]; simp [*]]
   repeat first | refine X0 ?_ | (refine JR ?_; (repeat first | refine Z1 ?_ | refine Z0 ?_ | refine ZB ?_ | refine ZC ?_ | refine ZL ?_ | refine Zl ?_ | refine ZA (γ := 100) ?_ | refine Zq ?_ | refine Zo ?_ | refine Z9 (hcon := hb) ?_); refine JD ?_) | refine JT ?_ | refine JF ?_ | refine X4 ?_ | refine X2 ?_
   exact X1 ⟨_, St.le_refl _, ⟨rfl, trivial⟩, X3 _⟩
  by_cases hs0 : s = []
  case neg =>
   rw [show (decide (d = 0) && decide (s = []) && decide (l.length = 0)) = false by simp [*]] at hb
   rw [show X7 m (.mk 5 n d s l) = false by rw [X7]; simp [*]]
   repeat first | refine X0 ?_ | (refine JR ?_; (repeat first | refine Z1 ?_ | refine Z0 ?_ | refine ZB ?_ | refine ZC ?_ | refine ZL ?_ | refine Zl ?_ | refine ZA (γ := 100) ?_ | refine Zq ?_ | refine Zo ?_ | refine Z9 (hcon := hb) ?_); refine JD ?_) | refine JT ?_ | refine JF ?_ | refine X4 ?_ | refine X2 ?_
   exact X1 ⟨_, St.le_refl _, ⟨rfl, trivial⟩, X3 _⟩
  by_cases hl0 : l.length = 0
  case neg =>
   rw [show (decide (d = 0) && decide (s = []) && decide (l.length = 0)) = false by simp [*]] at hb
   have hl1 : 0 < l.length := by omega
   rw [show X7 m (.mk 5 n d s l) = false by rw [X7]; simp [*]]
   repeat first | refine X0 ?_ | (refine JR ?_; (repeat first | refine Z1 ?_ | refine Z0 ?_ | refine ZB ?_ | refine ZC ?_ | refine ZL ?_ | refine Zl ?_ | refine ZA (γ := 100) ?_ | refine Zq ?_ | refine Zo ?_ | refine Z9 (hcon := hb) ?_); refine JD ?_) | refine JT ?_ | refine JF ?_ | refine X4 ?_ | refine X2 ?_
   exact X1 ⟨_, St.le_refl _, ⟨rfl, trivial⟩, X3 _⟩
  rw [show (decide (d = 0) && decide (s = []) && decide (l.length = 0)) = true by simp [*]] at hb
  by_cases hn : 1 ≤ n
  case neg =>
   rw [show X7 m (.mk 5 n d s l) = false by rw [X7]; simp [*]]
   repeat first | refine X0 ?_ | (refine JR ?_; (repeat first | refine Z1 ?_ | refine Z0 ?_ | refine ZB ?_ | refine ZC ?_ | refine ZL ?_ | refine Z2 ?_ | refine Zl ?_ | refine ZA (γ := 100) ?_ | refine Zn ?_ | refine Zq ?_ | refine Zo ?_ | refine Z9 (hcon := hb) ?_); refine JD ?_) | refine JT ?_ | refine JF ?_ | refine X4 ?_ | refine X2 ?_
   exact X1 ⟨_, St.le_refl _, ⟨rfl, trivial⟩, X3 _⟩
  rw [show X7 m (.mk 5 n d s l) = decide (n ≤ 1000000) by rw [X7]; simp [*]]
  repeat first | refine X0 ?_ | (refine JR ?_; (repeat first | refine Z1 ?_ | refine Z0 ?_ | refine ZB ?_ | refine ZC ?_ | refine ZL ?_ | refine Zm ?_ | refine Z2 ?_ | refine Zl ?_ | refine ZA (γ := 100) ?_ | refine Zn ?_ | refine Z9 (hcon := hb) ?_); refine JD ?_) | refine JT ?_ | refine JF ?_ | refine X4 ?_ | refine X2 ?_
  exact X1 ⟨_, St.le_refl _, ⟨rfl, trivial⟩, X3 _⟩
 by_cases hk6 : k = 6
 ·subst hk6
  have hb := X4b 6 n d s l
  by_cases hd0 : d = 0
  case neg =>
   rw [show (decide (d = 0) && decide (s = []) && decide (l.length = 0)) = false by simp [*]] at hb
   rw [show X7 m (.mk 6 n d s l) = false by rw [X7]; simp [*]]
   repeat first | refine X0 ?_ | (refine JR ?_; (repeat first | refine Z1 ?_ | refine Z0 ?_ | refine ZB ?_ | refine ZC ?_ | refine ZL ?_ | refine Zl ?_ | refine ZA (γ := 100) ?_ | refine Zq ?_ | refine Zo ?_ | refine Z9 (hcon := hb) ?_); refine JD ?_) | refine JT ?_ | refine JF ?_ | refine X4 ?_
   exact X1 ⟨_, St.le_refl _, ⟨rfl, trivial⟩, X3 _⟩
  by_cases hs0 : s = []
  case neg =>
   rw [show (decide (d = 0) && decide (s = []) && decide (l.length = 0)) = false by simp [*]] at hb
   rw [show X7 m (.mk 6 n d s l) = false by rw [X7]; simp [*]]
   repeat first | refine X0 ?_ | (refine JR ?_; (repeat first | refine Z1 ?_ | refine Z0 ?_ | refine ZB ?_ | refine ZC ?_ | refine ZL ?_ | refine Zl ?_ | refine ZA (γ := 100) ?_ | refine Zq ?_ | refine Zo ?_ | refine Z9 (hcon := hb) ?_); refine JD ?_) | refine JT ?_ | refine JF ?_ | refine X4 ?_
   exact X1 ⟨_, St.le_refl _, ⟨rfl, trivial⟩, X3 _⟩
  by_cases hl0 : l.length = 0
  case neg =>
   rw [show (decide (d = 0) && decide (s = []) && decide (l.length = 0)) = false by simp [*]] at hb
   have hl1 : 0 < l.length := by omega
   rw [show X7 m (.mk 6 n d s l) = false by rw [X7]; simp [*]]
   repeat first | refine X0 ?_ | (refine JR ?_; (repeat first | refine Z1 ?_ | refine Z0 ?_ | refine ZB ?_ | refine ZC ?_ | refine ZL ?_ | refine Zl ?_ | refine ZA (γ := 100) ?_ | refine Zq ?_ | refine Zo ?_ | refine Z9 (hcon := hb) ?_); refine JD ?_) | refine JT ?_ | refine JF ?_ | refine X4 ?_
   exact X1 ⟨_, St.le_refl _, ⟨rfl, trivial⟩, X3 _⟩
  rw [show (decide (d = 0) && decide (s = []) && decide (l.length = 0)) = true by simp [*]] at hb
  by_cases hn : 1 ≤ n
  case neg =>
   rw [show X7 m (.mk 6 n d s l) = false by rw [X7]; simp [*]]
   repeat first | refine X0 ?_ | (refine JR ?_; (repeat first | refine Z1 ?_ | refine Z0 ?_ | refine ZB ?_ | refine ZC ?_ | refine ZL ?_ | refine Z2 ?_ | refine Zl ?_ | refine ZA (γ := 100) ?_ | refine Zn ?_ | refine Zq ?_ | refine Zo ?_ | refine Z9 (hcon := hb) ?_); refine JD ?_) | refine JT ?_ | refine JF ?_ | refine X4 ?_
   exact X1 ⟨_, St.le_refl _, ⟨rfl, trivial⟩, X3 _⟩
  rw [show X7 m (.mk 6 n d s l) = decide (n ≤ 1000000) by rw [X7]; simp [*]]
  repeat first | refine X0 ?_ | (refine JR ?_; (repeat first | refine Z1 ?_ | refine Z0 ?_ | refine ZB ?_ | refine ZC ?_ | refine ZL ?_ | refine Zm ?_ | refine Z2 ?_ | refine Zl ?_ | refine ZA (γ := 100) ?_ | refine Zn ?_ | refine Z9 (hcon := hb) ?_); refine JD ?_) | refine JT ?_ | refine JF ?_ | refine X4 ?_
  exact X1 ⟨_, St.le_refl _, ⟨rfl, trivial⟩, X3 _⟩
 by_cases hk7 : k = 7
 ·subst hk7
  have hb := Xak 7 n d s l
  by_cases hn0 : n = 0
  case neg =>
   rw [show (decide (n = 0) && decide (d = 0) && decide (s = [])) = false by simp [*]] at hb
   rw [show X7 m (.mk 7 n d s l) = false by rw [X7]; simp [*]]
   repeat first | refine X0 ?_ | (refine JR ?_; (repeat first | refine Z1 ?_ | refine Z0 ?_ | refine ZB ?_ | refine ZC ?_ | refine ZL ?_ | refine Zl ?_ | refine ZA (γ := 100) ?_ | refine Zq ?_ | refine Zo ?_ | refine Z9 (hcon := hb) ?_); refine JD ?_) | refine JT ?_ | refine JF ?_ | refine X4 ?_
   exact X1 ⟨_, St.le_refl _, ⟨rfl, trivial⟩, X3 _⟩
  by_cases hd0 : d = 0
  case neg =>
   rw [show (decide (n = 0) && decide (d = 0) && decide (s = [])) = false by simp [*]] at hb
   rw [show X7 m (.mk 7 n d s l) = false by rw [X7]; simp [*]]
   repeat first | refine X0 ?_ | (refine JR ?_; (repeat first | refine Z1 ?_ | refine Z0 ?_ | refine ZB ?_ | refine ZC ?_ | refine ZL ?_ | refine Zl ?_ | refine ZA (γ := 100) ?_ | refine Zq ?_ | refine Zo ?_ | refine Z9 (hcon := hb) ?_); refine JD ?_) | refine JT ?_ | refine JF ?_ | refine X4 ?_
   exact X1 ⟨_, St.le_refl _, ⟨rfl, trivial⟩, X3 _⟩
  by_cases hs0 : s = []
  case neg =>
   rw [show (decide (n = 0) && decide (d = 0) && decide (s = [])) = false by simp [*]] at hb
   rw [show X7 m (.mk 7 n d s l) = false by rw [X7]; simp [*]]
   repeat first | refine X0 ?_ | (refine JR ?_; (repeat first | refine Z1 ?_ | refine Z0 ?_ | refine ZB ?_ | refine ZC ?_ | refine ZL ?_ | refine Zl ?_ | refine ZA (γ := 100) ?_ | refine Zq ?_ | refine Zo ?_ | refine Z9 (hcon := hb) ?_); refine JD ?_) | refine JT ?_ | refine JF ?_ | refine X4 ?_
   exact X1 ⟨_, St.le_refl _, ⟨rfl, trivial⟩, X3 _⟩
  rw [show (decide (n = 0) && decide (d = 0) && decide (s = [])) = true by simp [*]] at hb
  rw [show X7 m (.mk 7 n d s l) = UD l by rw [X7]; simp [UD, *]]
  repeat first | refine X0 ?_ | (refine JR ?_; (repeat first | refine Z1 ?_ | refine Z0 ?_ | refine ZB ?_ | refine ZC ?_ | refine ZL ?_ | refine Zl ?_ | refine ZA (γ := 100) ?_ | refine Zn ?_ | refine Z9 (hcon := hb) ?_ | refine Z9 (hcon := XgZ l hok.2.1 ih) ?_); refine JD ?_) | refine JT ?_ | refine JF ?_ | refine X4 ?_
  exact X1 ⟨_, St.le_refl _, ⟨rfl, trivial⟩, X3 _⟩
 by_cases hk8 : k = 8
 ·subst hk8
  have hb := Xak 8 n d s l
  by_cases hn0 : n = 0
  case neg =>
   rw [show (decide (n = 0) && decide (d = 0) && decide (s = [])) = false by simp [*]] at hb
   rw [show X7 m (.mk 8 n d s l) = false by rw [X7]; simp [*]]
   repeat first | refine X0 ?_ | (refine JR ?_; (repeat first | refine Z1 ?_ | refine Z0 ?_ | refine ZB ?_ | refine ZC ?_ | refine ZL ?_ | refine Zl ?_ | refine ZA (γ := 100) ?_ | refine Zq ?_ | refine Zo ?_ | refine Z9 (hcon := hb) ?_); refine JD ?_) | refine JT ?_ | refine JF ?_ | refine X4 ?_
   exact X1 ⟨_, St.le_refl _, ⟨rfl, trivial⟩, X3 _⟩
  by_cases hd0 : d = 0
  case neg =>
   rw [show (decide (n = 0) && decide (d = 0) && decide (s = [])) = false by simp [*]] at hb
   rw [show X7 m (.mk 8 n d s l) = false by rw [X7]; simp [*]]
   repeat first | refine X0 ?_ | (refine JR ?_; (repeat first | refine Z1 ?_ | refine Z0 ?_ | refine ZB ?_ | refine ZC ?_ | refine ZL ?_ | refine Zl ?_ | refine ZA (γ := 100) ?_ | refine Zq ?_ | refine Zo ?_ | refine Z9 (hcon := hb) ?_); refine JD ?_) | refine JT ?_ | refine JF ?_ | refine X4 ?_
   exact X1 ⟨_, St.le_refl _, ⟨rfl, trivial⟩, X3 _⟩
  by_cases hs0 : s = []
  case neg =>
   rw [show (decide (n = 0) && decide (d = 0) && decide (s = [])) = false by simp [*]] at hb
   rw [show X7 m (.mk 8 n d s l) = false by rw [X7]; simp [*]]
   repeat first | refine X0 ?_ | (refine JR ?_; (repeat first | refine Z1 ?_ | refine Z0 ?_ | refine ZB ?_ | refine ZC ?_ | refine ZL ?_ | refine Zl ?_ | refine ZA (γ := 100) ?_ | refine Zq ?_ | refine Zo ?_ | refine Z9 (hcon := hb) ?_); refine JD ?_) | refine JT ?_ | refine JF ?_ | refine X4 ?_
   exact X1 ⟨_, St.le_refl _, ⟨rfl, trivial⟩, X3 _⟩
  rw [show (decide (n = 0) && decide (d = 0) && decide (s = [])) = true by simp [*]] at hb
  rw [show X7 m (.mk 8 n d s l) = (decide (1 ≤ m ∧ l.length ≤ 64) && Ui (m - 1) l) by rw [X7]; simp [*, and_comm]]
  repeat first | refine X0 ?_ | (refine JR ?_; (repeat first | refine Z1 ?_ | refine Z0 ?_ | refine ZB ?_ | refine ZC ?_ | refine ZL ?_ | refine Zl ?_ | refine ZA (γ := 100) ?_ | refine Zn ?_ | refine Z9 (hcon := hb) ?_ | refine Z9 (hcon := Xfk l m hm hok.2.1 ih) ?_); refine JD ?_) | refine JT ?_ | refine JF ?_ | refine X4 ?_
  exact X1 ⟨_, St.le_refl _, ⟨rfl, trivial⟩, X3 _⟩
 rw [show X7 m (.mk k n d s l) = false by rw [X7]; simp [*]]
 repeat first | refine X0 ?_ | (refine JR ?_; (repeat first | refine Z0 ?_ | refine ZB ?_ | refine ZC ?_ | refine Zl ?_ | refine ZA (γ := 100) ?_); refine JD ?_) | refine JF ?_ | refine X4 ?_ | refine X2 ?_
 exact X1 ⟨_, St.le_refl _, ⟨rfl, trivial⟩, X3 _⟩
theorem X9d : ∀ v : Val, Xca v
 | .mk k n d s l => fun hok => Xfo (.mk k n d s l) hok fun x hx => X9d x (X1p (by rw [XY] at hok; exact hok.2.2) hx)
termination_by v => SizeOf.sizeOf v
decreasing_by
 have h1 := List.sizeOf_lt_of_mem (show x ∈ l from hx)
 simp only [Val.mk.sizeOf_spec]
 omega
theorem X3t (v : Val) (hok : XY v) : Con Tryz.prog 88 [] [Xv v] [] (ab (X7 8 v)) := by
 refine X9 (xs := [ab (X7 8 v)]) Tryz.func88 rfl Tryz.ntmps88 rfl rfl rfl (fun E => ?_)
 have h := X9d v hok 8 (by omega)
 obtain ⟨k, n, d, s, l⟩ := v
 simp only [Xv] at h
 refine X0 ?_; refine JR ?_; refine ZA (γ := 100) ?_; refine Z0 ?_; refine JD ?_; refine X0 ?_; refine JR ?_; refine ZL ?_; refine Z9 (hcon := h) ?_; refine Z0 ?_; refine JD ?_
 exact X1 ⟨_, St.le_refl _, ⟨rfl, trivial⟩, X3 _⟩
end Go.Fw
namespace Go.Fw
open Go Go.Proofs
set_option maxRecDepth 100000
set_option linter.unusedVariables false
set_option linter.unusedSimpArgs false
def U2 (x y : Int) : Int := if x < y then -1 else if y < x then 1 else 0
theorem X7z (x : Int) : Con Tryz.prog 209 [] [ai x] [] (ab false) := by
 refine X9 (xs := [ab false]) Tryz.func209 rfl Tryz.ntmps209 rfl rfl rfl (fun E => ?_)
 refine X0 ?_; refine JR ?_; refine Z0 ?_; refine JD ?_; refine X0 ?_; refine JR ?_; refine Z1 ?_; refine Z1 ?_; refine Zv ?_; refine Z0 ?_; refine JD ?_
 exact X1 ⟨_, Xh 2 (y := ab false) (AVal.le_of_eq (by refine Eq.trans (b := ab (decide (x ≠ x))) rfl ?_; exact congrArg ab (by simp))), ⟨rfl, trivial⟩, X3 _⟩
theorem X8j (s : List UInt8) : Con Tryz.prog 210 [] [.d (.v (.string (X5 s)))] [] (ab false) := by
 refine X9 (xs := [ab false]) Tryz.func210 rfl Tryz.ntmps210 rfl rfl rfl (fun E => ?_)
 refine X0 ?_; refine JR ?_; refine Z0 ?_; refine JD ?_; refine X0 ?_; refine JR ?_; refine Z1 ?_; refine Z1 ?_; refine ZM ?_; refine Z0 ?_; refine JD ?_
 exact X1 ⟨_, Xh 2 (y := ab false) (AVal.le_of_eq (by refine Eq.trans (b := ab (decide (s ≠ s))) rfl ?_; exact congrArg ab (by simp))), ⟨rfl, trivial⟩, X3 _⟩
theorem X5R (x y : Int) : Con Tryz.prog 154 [] [ai x, ai y] [] (ai (U2 x y)) := by
 refine X9 (xs := [ai (U2 x y)]) Tryz.func154 rfl Tryz.ntmps154 rfl rfl rfl (fun E => ?_)
 have n1 := X7z x
 have n2 := X7z y
 by_cases h1 : x < y
 ·rw [show U2 x y = -1 by simp [U2, h1]]
  repeat first | refine X0 ?_ | (refine JR ?_; (repeat first | refine Z1 ?_ | refine Z0 ?_ | refine Z8 ?_ | refine Z9 (hcon := n1) ?_ | refine Z9 (hcon := n2) ?_); refine JD ?_) | refine JT ?_ | refine JF ?_ | refine X2 ?_
  exact X1 ⟨_, St.le_refl _, ⟨rfl, trivial⟩, X3 _⟩
 by_cases h2 : y < x
 ·rw [show U2 x y = 1 by simp [U2, h1, h2]]
  repeat first | refine X0 ?_ | (refine JR ?_; (repeat first | refine Z1 ?_ | refine Z0 ?_ | refine Z8 ?_ | refine Zs ?_ | refine Z9 (hcon := n1) ?_ | refine Z9 (hcon := n2) ?_); refine JD ?_) | refine JT ?_ | refine JF ?_ | refine X2 ?_
  exact X1 ⟨_, St.le_refl _, ⟨rfl, trivial⟩, X3 _⟩
 rw [show U2 x y = 0 by simp [U2, h1, h2]]
 repeat first | refine X0 ?_ | (refine JR ?_; (repeat first | refine Z1 ?_ | refine Z0 ?_ | refine Z8 ?_ | refine Zs ?_ | refine Z9 (hcon := n1) ?_ | refine Z9 (hcon := n2) ?_); refine JD ?_) | refine JF ?_ | refine X2 ?_
 exact X1 ⟨_, St.le_refl _, ⟨rfl, trivial⟩, X3 _⟩
abbrev cI (n : Int) : List D := [.v (.int .i64 n)]
def orI : List Int → Int
 | [] => 0
 | x :: r => if x ≠ 0 then x else orI r
theorem XdS {l : List Int} {i : Nat} {x : Int} (h : l[i]? = some x) : orI (l.drop i) = if x ≠ 0 then x else orI (l.drop (i + 1)) := by
 rw [List.drop_eq_getElem_cons (List.getElem?_eq_some_iff.1 h).1, (List.getElem?_eq_some_iff.1 h).2, orI]
theorem XgA (l : List Int) (hl : l.length ≤ 1000) : Con Tryz.prog 156 [] [.d (.sl 1 (l.map cI))] [] (ai (orI l)) := by
 refine X9 (xs := [ai (orI l)]) Tryz.func156 rfl Tryz.ntmps156 rfl rfl rfl (fun E => ?_)
 have hlm : (l.map cI).length = l.length := by simp
 refine X0 ?_; refine JR ?_; refine Z0 ?_; refine JD ?_; refine X0 ?_; refine JR ?_; refine Z0 ?_; refine JD ?_; refine X0 ?_; refine X0 ?_; refine JR ?_; refine Z1 ?_; refine Zd ?_; refine Z1 ?_
 refine JD ?_; refine X4 ?_
 generalize hG : orI l = G
 refine Xy (fun i : Nat => i ≤ l.length ∧ orI (l.drop i) = G) (fun i => ⟨18, [(3, ai 0), (6, .d (.sl 1 (l.map cI))), (7, ai (l.map cI).length), (8, ai i)], []⟩) (fun i => l.length - i) 0 ⟨by omega, hG⟩
  (X8 rfl ⟨JL, JL, JL, JL, trivial⟩ trivial) ?_
 rintro i ⟨hi, hg⟩
 by_cases hil : i < l.length
 case neg =>
  obtain rfl : i = l.length := by omega
  rw [List.drop_length, orI] at hg
  subst hg
  have hn : ¬ ((l.length : Nat) : Int) < (l.map cI).length := by omega
  refine X0 ?_; refine JR ?_; refine Z8 ?_; refine JD ?_; refine X0 ?_; refine JF ?_; refine Xj ?_; refine X0 ?_; refine JR ?_; refine Z1 ?_; refine Z0 ?_; refine JD ?_
  exact X1 ⟨_, St.le_refl _, ⟨rfl, trivial⟩, X3 _⟩
 have hn : (i : Int) < (l.map cI).length := by omega
 obtain ⟨x, hx⟩ := Xu (l := l) hil
 have hxm : (l.map cI)[i]? = some (cI x) := XS hx
 rw [XdS hx] at hg
 by_cases h0 : x = 0
 ·rw [if_neg (by simpa using h0)] at hg
  refine X0 ?_; refine JR ?_; refine Z8 ?_; refine JD ?_; refine X0 ?_; refine JT ?_; refine X2 ?_; refine X0 ?_; refine X4 ?_; refine X0 ?_; refine JR ?_; refine Zj ?_; refine Zk ?_
  refine Z0 ?_; refine JD ?_; refine X0 ?_; refine JR ?_; refine Z1 ?_; refine Z1 ?_; refine Zv ?_; refine JD ?_; refine JF ?_; refine X2 ?_; refine JR ?_; refine Zb ?_; refine Z1 ?_; refine JD ?_
  exact ⟨i + 1, ⟨by omega, hg⟩, by omega, X8 rfl ⟨JL, JL, JL, JL, trivial⟩ trivial⟩
 ·rw [if_pos h0] at hg
  subst hg
  refine X0 ?_; refine JR ?_; refine Z8 ?_; refine JD ?_; refine X0 ?_; refine JT ?_; refine X2 ?_; refine X0 ?_; refine X4 ?_; refine X0 ?_; refine JR ?_; refine Zj ?_; refine Zk ?_
  refine Z0 ?_; refine JD ?_; refine X0 ?_; refine JR ?_; refine Z1 ?_; refine Z1 ?_; refine Zv ?_; refine JD ?_; refine JT ?_; refine X0 ?_; refine JR ?_; refine Z1 ?_; refine Z0 ?_; refine JD ?_
  exact X1 ⟨_, St.le_refl _, ⟨rfl, trivial⟩, X3 _⟩
end Go.Fw
namespace Go.Fw
open Go
set_option linter.unusedVariables false
abbrev YI (x : Nat) : List D := [.v (.int .i64 (x : Int))]
abbrev UE (l : List Nat) : D := .sl 1 (l.map YI)
def UF : List Nat → Nat
 | [] => 0
 | x :: r => x + 1000 * UF r
def Ux : Nat → Nat → List Nat
 | 0, _ => []
 | n + 1, v => v % 1000 :: Ux n (v / 1000)
def Vz (l : List Nat) : Prop := ∀ d ∈ l, d < 1000
theorem X3z {l : List Nat} (h : Vz l) {k x : Nat} (hx : l[k]? = some x) : x < 1000 := h x (List.mem_of_getElem? hx)
theorem X7l : ∀ n v, (Ux n v).length = n
 | 0, _ => rfl
 | n + 1, v => by rw [Ux, List.length_cons, X7l n]
theorem X5E : ∀ n v, Vz (Ux n v)
 | 0, _ => fun d h => by simp [Ux] at h
 | n + 1, v => fun d h => by
  rw [Ux] at h
  rcases List.mem_cons.1 h with rfl | h
  ·exact Nat.mod_lt _ (by omega)
  ·exact X5E n _ d h
theorem X8x : ∀ l : List Nat, Vz l → Ux l.length (UF l) = l
 | [], _ => rfl
 | x :: r, h => by
  have hx := h x (by simp)
  rw [List.length_cons, Ux, UF, show (x + 1000 * UF r) % 1000 = x by omega, show (x + 1000 * UF r) / 1000 = UF r by omega, X8x r fun d hd => h d (by simp [hd])]
theorem X9A : ∀ (l : List Nat) (k x y : Nat), l[k]? = some x → UF (l.set k y) + x * 1000 ^ k = UF l + y * 1000 ^ k
 | [], k, x, y, h => by simp at h
 | z :: r, 0, x, y, h => by
  simp at h
  subst h
  simp only [List.set_cons_zero, UF, Nat.pow_zero, Nat.mul_one]
  omega
 | z :: r, k + 1, x, y, h => by
  have ih := X9A r k x y (by simpa using h)
  simp only [List.set_cons_succ, UF, Nat.pow_succ, ← Nat.mul_assoc]
  omega
theorem X8A : ∀ n, UF (List.replicate n 0) = 0
 | 0 => rfl
 | n + 1 => by rw [List.replicate_succ, UF, X8A n]
theorem X68 (n : Nat) : Vz (List.replicate n 0) := fun d h => by
 have := (List.mem_replicate.1 h).2
 omega
theorem X8p {l : List Nat} (h : Vz l) (k : Nat) {y : Nat} (hy : y < 1000) : Vz (l.set k y) := fun d hd => by
 rcases List.mem_or_eq_of_mem_set hd with h1 | rfl
 ·exact h d h1
 ·exact hy
theorem XcG {l : List Nat} {k x V d c carry : Nat} (hV : UF l + (d * c + carry) * 1000 ^ k = V) (hx : l[k]? = some x) :
  UF (l.set k ((carry + x + d * (c % 1000)) % 1000)) + (d * (c / 1000) + (carry + x + d * (c % 1000)) / 1000) * 1000 ^ (k + 1) = V := by
 have h1 := X9A l k x ((carry + x + d * (c % 1000)) % 1000) hx
 have ht := Nat.mod_add_div (carry + x + d * (c % 1000)) 1000
 have e1 : d * c = d * (c % 1000) + 1000 * (d * (c / 1000)) := by
  have hc := Nat.mod_add_div c 1000
  calc d * c = d * (c % 1000 + 1000 * (c / 1000)) := by rw [hc]
   _ = _ := by rw [Nat.mul_add, Nat.mul_left_comm]
 rw [e1] at hV
 rw [Nat.pow_succ]
 generalize UF (l.set k ((carry + x + d * (c % 1000)) % 1000)) = A at *
 generalize d * (c % 1000) = u at *
 generalize d * (c / 1000) = w at *
 generalize (carry + x + u) / 1000 = q at *
 generalize (carry + x + u) % 1000 = r at *
 generalize 1000 ^ k = p at *
 have e2 : (r + 1000 * q) * p = (carry + x + u) * p := by rw [ht]
 have e3 : (w + q) * (p * 1000) = 1000 * (w * p) + 1000 * (q * p) := by rw [← Nat.mul_assoc, Nat.mul_comm, Nat.add_mul, Nat.mul_add]
 rw [e3]
 simp only [Nat.add_mul, Nat.mul_assoc] at *
 omega
theorem XdI {A A' a b i V : Nat} (hV : A + a * b * 1000 ^ i = V) (h : A' = A + a % 1000 * b * 1000 ^ i) : A' + a / 1000 * b * 1000 ^ (i + 1) = V := by
 have e1 : a * b = a % 1000 * b + 1000 * (a / 1000 * b) := by
  have hc := Nat.mod_add_div a 1000
  calc a * b = (a % 1000 + 1000 * (a / 1000)) * b := by rw [hc]
   _ = _ := by rw [Nat.add_mul, Nat.mul_assoc]
 rw [e1] at hV
 rw [Nat.pow_succ]
 generalize a % 1000 * b = u at *
 generalize a / 1000 * b = w at *
 generalize 1000 ^ i = p at *
 have e3 : w * (p * 1000) = 1000 * (w * p) := by rw [← Nat.mul_assoc, Nat.mul_comm]
 rw [e3]
 simp only [Nat.add_mul, Nat.mul_assoc] at *
 omega
theorem X5H {k m : Nat} (h : 1000 ^ k ≤ 1000 ^ m) : k ≤ m := (Nat.pow_le_pow_iff_right (by decide)).1 h
theorem Xfm {a i a0 : Nat} (h : a * 1000 ^ i ≤ a0) (ha : 0 < a) (h0 : a0 ≤ 1000000000000000) : i ≤ 5 := by
 refine X5H (Nat.le_trans ?_ (Nat.le_trans h h0))
 exact Nat.le_mul_of_pos_left _ ha
theorem Xd2 {c k b i : Nat} (h : c * 1000 ^ k ≤ b * 1000 ^ i) (hc : 0 < c) (hb : b ≤ 1000000000000000) (hi : i ≤ 5) : k ≤ 10 := by
 have h1 : 1000 ^ k ≤ c * 1000 ^ k := Nat.le_mul_of_pos_left _ hc
 have h2 : b * 1000 ^ i ≤ 1000 ^ 5 * 1000 ^ 5 := Nat.mul_le_mul hb (Nat.pow_le_pow_right (by decide) hi)
 exact X5H (Nat.le_trans h1 (Nat.le_trans h h2))
theorem Xgu {A u carry k V W : Nat} (h : A + (u + carry) * 1000 ^ k = V) (hV : V ≤ W) (hW : W ≤ 1000 ^ 10) (hc : 0 < carry) : k ≤ 10 := by
 have h1 : 1000 ^ k ≤ (u + carry) * 1000 ^ k := Nat.le_mul_of_pos_left _ (by omega)
 exact X5H (Nat.le_trans h1 (by omega))
theorem X9H {c k X : Nat} (h : c * 1000 ^ k ≤ X) : c / 1000 * 1000 ^ (k + 1) ≤ X := by
 refine Nat.le_trans ?_ h
 rw [Nat.pow_succ, Nat.mul_comm (1000 ^ k), ← Nat.mul_assoc]
 exact Nat.mul_le_mul_right _ (Nat.div_mul_le_self c 1000)
theorem Xcr {a b a0 : Nat} (ha : a ≤ 1000000000000000) (hb : b ≤ 1000000000000000) : a * b ≤ 1000 ^ 10 := by
 have h : a * b ≤ 1000000000000000 * 1000000000000000 := Nat.mul_le_mul ha hb
 exact h
theorem XhO {A a b i V : Nat} (h : A + a * b * 1000 ^ i = V) : A + a % 1000 * b * 1000 ^ i ≤ V := by
 rw [← h]
 exact Nat.add_le_add_left (Nat.mul_le_mul_right _ (Nat.mul_le_mul_right _ (Nat.mod_le _ _))) _
def V1 (x y : List Nat) : Nat → List Nat × Nat
 | 0 => (List.replicate x.length 0, 0)
 | k + 1 => let p := V1 x y k; let t := p.2 + (x[k]?).getD 0 + (y[k]?).getD 0; (p.1.set k (t % 1000), t / 1000)
theorem X9S (x y : List Nat) : ∀ k, (V1 x y k).1.length = x.length
 | 0 => by simp [V1]
 | k + 1 => by simp only [V1, List.length_set]; exact X9S x y k
theorem X8w {x y : List Nat} (hx : Vz x) (hy : Vz y) : ∀ k, (V1 x y k).2 ≤ 1
 | 0 => by simp [V1]
 | k + 1 => by
  have ih := X8w hx hy k
  have h1 : (x[k]?).getD 0 < 1000 := by
   cases h : x[k]? with
   | none => simp
   | some a => exact X3z hx h
  have h2 : (y[k]?).getD 0 < 1000 := by
   cases h : y[k]? with
   | none => simp
   | some a => exact X3z hy h
  simp only [V1]
  omega
def X0a (x y : List Nat) : List Nat := (V1 x y x.length).1
end Go.Fw
namespace Go.Fw
open Go Go.Proofs
set_option maxRecDepth 100000
set_option linter.unusedVariables false
set_option linter.unusedSimpArgs false
theorem X82 {l : List Nat} {k y : Nat} (h : k < l.length) : List.take k (l.map YI) ++ [YI y] ++ List.drop (k + 1) (l.map YI) = (l.set k y).map YI := by
 rw [List.set_eq_take_append_cons_drop, if_pos h]; simp
theorem XcA (n : Nat) : List.replicate n (YI 0) = (List.replicate n 0).map YI := by simp
theorem Xa7 (x y : List Nat) (hx : Vz x) (hy : Vz y) (hl : y.length = x.length) (hn : x.length ≤ 1000) : Con Tryz.prog 205 [] [.d (UE x), .d (UE y)] [] (.d (UE (X0a x y))) := by
 have hlx : (x.map YI).length = x.length := by simp
 have own : Con Tryz.prog 205 [] [.d (UE x), .d (UE y)] [(130, .row 1 ((X0a x y).map YI))] (.own 130 ((X0a x y).map YI).length) := by
  refine X9 (xs := [.own 130 ((X0a x y).map YI).length]) Tryz.func205 rfl Tryz.ntmps205 rfl rfl rfl (fun E => ?_)
  refine X0 ?_; refine JR ?_; refine Z0 ?_; refine JD ?_; refine X0 ?_; refine JR ?_; refine Z1 ?_; refine Zd ?_; refine Ze (γ := 130) ?_; refine Z0 ?_; refine JD ?_; refine X0 ?_; refine JR ?_; refine Z0 ?_
  refine JD ?_; refine X0 ?_; refine X0 ?_; refine JR ?_; refine Z0 ?_; refine JD ?_; refine X4 ?_
  refine Xy (fun k : Nat => k ≤ x.length) (fun k => ⟨36, [(0, .d (UE x)), (1, .d (UE y)), (5, .own 130 (x.map YI).length), (6, ai (V1 x y k).2), (7, ai k)], [(130, .row 1 ((V1 x y k).1.map YI))]⟩) (fun k => x.length - k) 0 (by omega)
   (X8 rfl ⟨JL, JL, JL, JL, JL, trivial⟩ ⟨?_, trivial⟩) ?_
  ·refine congrArg (AObj.row 1) ?_
   refine Eq.trans (b := List.replicate (x.map YI).length (YI 0)) rfl ?_
   rw [hlx]; exact XcA x.length
  intro k hk
  have hpl := X9S x y k
  have hpm : ((V1 x y k).1.map YI).length = x.length := by rw [List.length_map, hpl]
  by_cases hkx : k < x.length
  case neg =>
   obtain rfl : k = x.length := by omega
   refine X0 ?_; refine X0 ?_; refine JR ?_; refine Z1 ?_; refine Z1 ?_; refine Zd ?_; refine Z8 ?_; refine JD ?_; refine JF ?_; refine Xj ?_; refine X0 ?_; refine JR ?_; refine Z1 ?_; refine Z0 ?_
   refine JD ?_
   exact X1 ⟨_, Xh 4 (y := .own 130 ((X0a x y).map YI).length) (AVal.le_of_eq (by refine Eq.trans (b := .own 130 (x.map YI).length) rfl ?_; congr 1; rw [hlx]; exact hpm.symm)), ⟨rfl, trivial⟩, Xd ⟨rfl, trivial⟩⟩
  obtain ⟨a, ha⟩ := Xu (l := x) hkx
  obtain ⟨b, hb⟩ := Xu (l := y) (k := k) (by omega)
  have hc := X8w hx hy k
  have ha1 := X3z hx ha
  have hb1 := X3z hy hb
  have hsucc : V1 x y (k + 1) = ((V1 x y k).1.set k (((V1 x y k).2 + a + b) % 1000), ((V1 x y k).2 + a + b) / 1000) := by
   simp only [V1, ha, hb, Option.getD_some]
  generalize V1 x y k = p at *
  obtain ⟨l, c⟩ := p
  simp only at hpl hpm hc hsucc
  refine X0 ?_; refine X0 ?_; refine JR ?_; refine Z1 ?_; refine Z1 ?_; refine Zd ?_; refine Z8 ?_; refine JD ?_; refine JT ?_; refine X2 ?_; refine X0 ?_; refine X4 ?_; refine X0 ?_
  refine JR ?_; refine Z1 ?_; refine Z1 ?_; refine Z1 ?_; refine Zj ?_; refine Zk ?_; refine Z7 (op := .add) (r' := nj (c + a)) (u := nj c) (v := nj a) ?_ (hr := by exact Yb (by rw [Xx]; omega)); refine Z1 ?_
  refine Z1 ?_; refine Zj ?_; refine Zk ?_; refine Z7 (op := .add) (r' := nj (c + a + b)) (u := nj (c + a)) (v := nj b) ?_ (hr := by exact Yb (by rw [Xx]; omega)); refine Z0 ?_; refine JD ?_; refine X0 ?_
  refine JR ?_; refine Z1 ?_; refine Z1 ?_; refine Z1 ?_; refine Z7 (op := .rem) (r' := nj ((c + a + b) % 1000)) (u := nj (c + a + b)) (v := nj 1000) ?_ (hr := by exact YG (by omega)); refine ZO ?_; refine ZP ?_
  refine JD ?_; refine JR ?_; refine Z1 ?_; refine Z7 (op := .quo) (r' := nj ((c + a + b) / 1000)) (u := nj (c + a + b)) (v := nj 1000) ?_ (hr := by exact UN (by omega) (by rw [Xx]; omega)); refine Z0 ?_
  refine JD ?_; refine JR ?_; refine Z1 ?_; refine Zb ?_; refine Z0 ?_; refine JD ?_
  refine ⟨k + 1, by omega, by omega, ?_⟩
  dsimp only
  rw [hsucc]
  refine X8 rfl ⟨JL, JL, JL, JL, JL, trivial⟩ ⟨?_, trivial⟩
  exact congrArg (AObj.row 1) (X82 (by omega))
 exact own.data (by simp)
end Go.Fw
namespace Go.Fw
open Go Go.Proofs
set_option maxRecDepth 100000
set_option linter.unusedVariables false
set_option linter.unusedSimpArgs false
theorem Xan (a0 b : Nat) (ha0 : a0 ≤ 1000000000000000) (hb : b ≤ 1000000000000000) : Con Tryz.prog 144 [] [ai a0, ai b] [] (.d (UE (Ux 14 (a0 * b)))) := by
 have own : Con Tryz.prog 144 [] [ai a0, ai b] [(130, .row 1 ((Ux 14 (a0 * b)).map YI))] (.own 130 ((Ux 14 (a0 * b)).map YI).length) := by
  refine X9 (xs := [.own 130 ((Ux 14 (a0 * b)).map YI).length]) Tryz.func144 rfl Tryz.ntmps144 rfl rfl rfl (fun E => ?_)
  refine X0 ?_; refine JR ?_; refine Z0 ?_; refine JD ?_; refine X0 ?_; refine JR ?_; refine Ze (γ := 130) ?_; refine Z0 ?_; refine JD ?_; refine X0 ?_; refine X0 ?_; refine JR ?_; refine Z0 ?_
  refine JD ?_; refine X4 ?_
  refine Xy (ι := List Nat × Nat × Nat) (fun s => s.1.length = 14 ∧ Vz s.1 ∧ UF s.1 + s.2.1 * b * 1000 ^ s.2.2 = a0 * b ∧ s.2.1 * 1000 ^ s.2.2 ≤ a0)
   (fun s => ⟨51, [(0, ai s.2.1), (1, ai b), (5, .own 130 14), (6, ai s.2.2)], [(130, .row 1 (s.1.map YI))]⟩) (fun s => s.2.1) (List.replicate 14 0, a0, 0)
   ⟨rfl, X68 14, by rw [X8A]; simp, by simp⟩
   (X8 rfl ⟨JL, JL, JL, JL, trivial⟩ ⟨rfl, trivial⟩) ?_
  rintro ⟨l, a, i⟩ ⟨hl, hlow, hV, hai⟩
  simp only at hl hlow hV hai
  by_cases ha : 0 < a
  case neg =>
   obtain rfl : a = 0 := by omega
   have hfin : Ux 14 (a0 * b) = l := by
    rw [← hV, Nat.zero_mul, Nat.zero_mul, Nat.add_zero, ← hl]
    exact X8x l hlow
   rw [hfin]
   refine X0 ?_; refine X0 ?_; refine JR ?_; refine Z1 ?_; refine Zs ?_; refine JD ?_; refine JF ?_; refine Xj ?_; refine X0 ?_; refine JR ?_; refine Z1 ?_; refine Z0 ?_; refine JD ?_
   exact X1 ⟨_, Xh 4 (y := .own 130 (l.map YI).length) (AVal.le_of_eq (by refine Eq.trans (b := .own 130 14) rfl ?_; rw [List.length_map, hl])), ⟨rfl, trivial⟩, Xd ⟨rfl, trivial⟩⟩
  have hi5 := Xfm hai ha ha0
  have haa : a ≤ 1000000000000000 := Nat.le_trans (Nat.le_mul_of_pos_right _ (Nat.pow_pos (by decide))) (Nat.le_trans hai ha0)
  have hVle := XhO hV
  have hW := Xcr (a0 := a0) ha0 hb
  refine X0 ?_; refine X0 ?_; refine JR ?_; refine Z1 ?_; refine Zs ?_; refine JD ?_; refine JT ?_; refine X2 ?_; refine X0 ?_; refine X4 ?_; refine X0 ?_; refine JR ?_; refine Z1 ?_
  refine Z7 (op := .rem) (r' := nj (a % 1000)) (u := nj a) (v := nj 1000) ?_ (hr := by exact YG (by omega)); refine Z0 ?_; refine JD ?_; refine X0 ?_; refine JR ?_; refine Z1 ?_
  refine Z7 (op := .quo) (r' := nj (a / 1000)) (u := nj a) (v := nj 1000) ?_ (hr := by exact UN (by omega) (by rw [Xx]; omega)); refine Z0 ?_; refine JD ?_; refine X0 ?_; refine JR ?_; refine Z1 ?_
  refine Z0 ?_; refine JD ?_; refine X0 ?_; refine JR ?_; refine Z0 ?_; refine JD ?_; refine X0 ?_; refine JR ?_; refine Z1 ?_; refine Z0 ?_; refine JD ?_; refine X4 ?_
  generalize hd : a % 1000 = dg at *
  have hdg : dg < 1000 := by omega
  generalize hV2 : UF l + dg * b * 1000 ^ i = V at *
  refine Xy (ι := List Nat × Nat × Nat × Nat) (fun s => s.1.length = 14 ∧ Vz s.1 ∧ UF s.1 + (dg * s.2.1 + s.2.2.1) * 1000 ^ s.2.2.2 = V ∧ s.2.1 * 1000 ^ s.2.2.2 ≤ b * 1000 ^ i ∧ s.2.2.1 ≤ 999 ∧ s.2.1 ≤ b)
   (fun s => ⟨51, [(0, ai (a / 1000 : Nat)), (1, ai b), (5, .own 130 14), (6, ai i), (7, ai dg), (8, ai s.2.1), (9, ai s.2.2.1), (10, ai s.2.2.2)], [(130, .row 1 (s.1.map YI))]⟩) (fun s => 20 - s.2.2.2) (l, b, 0, i)
   ⟨hl, hlow, by simpa using hV2, Nat.le_refl _, by simp, Nat.le_refl _⟩
   (X8 rfl ⟨JL, JL, JL, JL, JL, JL, JL, JL, trivial⟩ ⟨rfl, trivial⟩) ?_
  rintro ⟨l2, c, carry, k⟩ ⟨hl2, hlow2, hV3, hck, hcar, hcb⟩
  simp only at hl2 hlow2 hV3 hck hcar hcb
  by_cases hgo : 0 < c ∨ 0 < carry
  case neg =>
   obtain rfl : c = 0 := by omega
   obtain rfl : carry = 0 := by omega
   have hVe : UF l2 = UF l + a % 1000 * b * 1000 ^ i := by
    rw [hd, hV2, ← hV3]; simp
   have hnew := XdI hV hVe
   have hai2 := X9H hai
   refine X0 ?_; refine X0 ?_; refine JR ?_; refine Z1 ?_; refine Zs ?_; refine Z1 ?_; refine Z1 ?_; refine Zs ?_; refine Zq ?_; refine JD ?_; refine JF ?_; refine Xj ?_; refine JR ?_; refine Z1 ?_
   refine Zb ?_; refine Z0 ?_; refine JD ?_
   exact ⟨(l2, a / 1000, i + 1), ⟨hl2, hlow2, hnew, hai2⟩, by show a / 1000 < a; omega, X8 rfl ⟨JL, JL, JL, JL, trivial⟩ ⟨rfl, trivial⟩⟩
  have hk : k ≤ 10 := by
   rcases hgo with h | h
   ·exact Xd2 hck h hb hi5
   ·exact Xgu hV3 hVle hW h
  obtain ⟨x, hx⟩ := Xu (l := l2) (k := k) (by omega)
  have hx1 := X3z hlow2 hx
  have hstep := XcG hV3 hx
  have hck2 := X9H hck
  have hm : dg * (c % 1000) ≤ 998001 := Nat.mul_le_mul (show dg ≤ 999 by omega) (show c % 1000 ≤ 999 by omega)
  have hxm : (l2.map YI)[k]? = some (YI x) := XS hx
  have hs := X82 (l := l2) (k := k) (y := (carry + x + dg * (c % 1000)) % 1000) (by omega)
  have hlen : (l2.map YI).length = 14 := by rw [List.length_map, hl2]
  by_cases hc0 : 0 < c
  ·refine X0 ?_; refine X0 ?_; refine JR ?_; refine Z1 ?_; refine Zs ?_; refine Z1 ?_; refine Zo ?_; refine Zo ?_; refine Zn ?_; refine JD ?_; refine JT ?_; refine X2 ?_; refine X0 ?_
   refine X4 ?_; refine X0 ?_; refine JR ?_; refine Z1 ?_; refine Z1 ?_; refine Z1 ?_; refine ZO ?_; refine ZQ ?_
   refine Z7 (op := .add) (r' := nj (carry + x)) (u := nj carry) (v := nj x) ?_ (hr := by exact Yb (by rw [Xx]; omega)); refine Z1 ?_; refine Z1 ?_
   refine Z7 (op := .rem) (r' := nj (c % 1000)) (u := nj c) (v := nj 1000) ?_ (hr := by exact YG (by omega))
   refine Z7 (op := .mul) (r' := nj (dg * (c % 1000))) (u := nj dg) (v := nj (c % 1000)) ?_ (hr := by exact YV (by rw [Xx]; omega))
   refine Z7 (op := .add) (r' := nj (carry + x + dg * (c % 1000))) (u := nj (carry + x)) (v := nj (dg * (c % 1000))) ?_ (hr := by exact Yb (by rw [Xx]; omega)); refine Z0 ?_; refine JD ?_; refine X0 ?_
   refine JR ?_; refine Z1 ?_; refine Z7 (op := .quo) (r' := nj (c / 1000)) (u := nj c) (v := nj 1000) ?_ (hr := by exact UN (by omega) (by rw [Xx]; omega)); refine Z0 ?_; refine JD ?_; refine X0 ?_
   refine JR ?_; refine Z1 ?_; refine Z1 ?_; refine Z1 ?_
   refine Z7 (op := .rem) (r' := nj ((carry + x + dg * (c % 1000)) % 1000)) (u := nj (carry + x + dg * (c % 1000))) (v := nj 1000) ?_ (hr := by exact YG (by omega)); refine ZO ?_; refine ZP ?_; refine JD ?_
   refine JR ?_; refine Z1 ?_; refine Z7 (op := .quo) (r' := nj ((carry + x + dg * (c % 1000)) / 1000)) (u := nj (carry + x + dg * (c % 1000))) (v := nj 1000) ?_ (hr := by exact UN (by omega) (by rw [Xx]; omega))
   refine Z0 ?_; refine JD ?_; refine JR ?_; refine Z1 ?_; refine Zb ?_; refine Z0 ?_; refine JD ?_
   exact ⟨(l2.set k ((carry + x + dg * (c % 1000)) % 1000), c / 1000, (carry + x + dg * (c % 1000)) / 1000, k + 1), ⟨by rw [List.length_set]; exact hl2, X8p hlow2 k (by omega), hstep, hck2, by show (carry + x + dg * (c % 1000)) / 1000 ≤ 999; omega, by show c / 1000 ≤ b; omega⟩, by show 20 - (k + 1) < 20 - k; omega, X8 rfl ⟨JL, JL, JL, JL, JL, JL, JL, JL, trivial⟩ ⟨congrArg (AObj.row 1) hs, trivial⟩⟩
  ·have hcar0 : 0 < carry := by omega
   refine X0 ?_; refine X0 ?_; refine JR ?_; refine Z1 ?_; refine Zs ?_; refine Z1 ?_; refine Z1 ?_; refine Zs ?_; refine Zq ?_; refine JD ?_; refine JT ?_; refine X2 ?_; refine X0 ?_
   refine X4 ?_; refine X0 ?_; refine JR ?_; refine Z1 ?_; refine Z1 ?_; refine Z1 ?_; refine ZO ?_; refine ZQ ?_
   refine Z7 (op := .add) (r' := nj (carry + x)) (u := nj carry) (v := nj x) ?_ (hr := by exact Yb (by rw [Xx]; omega)); refine Z1 ?_; refine Z1 ?_
   refine Z7 (op := .rem) (r' := nj (c % 1000)) (u := nj c) (v := nj 1000) ?_ (hr := by exact YG (by omega))
   refine Z7 (op := .mul) (r' := nj (dg * (c % 1000))) (u := nj dg) (v := nj (c % 1000)) ?_ (hr := by exact YV (by rw [Xx]; omega))
   refine Z7 (op := .add) (r' := nj (carry + x + dg * (c % 1000))) (u := nj (carry + x)) (v := nj (dg * (c % 1000))) ?_ (hr := by exact Yb (by rw [Xx]; omega)); refine Z0 ?_; refine JD ?_; refine X0 ?_
   refine JR ?_; refine Z1 ?_; refine Z7 (op := .quo) (r' := nj (c / 1000)) (u := nj c) (v := nj 1000) ?_ (hr := by exact UN (by omega) (by rw [Xx]; omega)); refine Z0 ?_; refine JD ?_; refine X0 ?_
   refine JR ?_; refine Z1 ?_; refine Z1 ?_; refine Z1 ?_
   refine Z7 (op := .rem) (r' := nj ((carry + x + dg * (c % 1000)) % 1000)) (u := nj (carry + x + dg * (c % 1000))) (v := nj 1000) ?_ (hr := by exact YG (by omega)); refine ZO ?_; refine ZP ?_; refine JD ?_
   refine JR ?_; refine Z1 ?_; refine Z7 (op := .quo) (r' := nj ((carry + x + dg * (c % 1000)) / 1000)) (u := nj (carry + x + dg * (c % 1000))) (v := nj 1000) ?_ (hr := by exact UN (by omega) (by rw [Xx]; omega))
   refine Z0 ?_; refine JD ?_; refine JR ?_; refine Z1 ?_; refine Zb ?_; refine Z0 ?_; refine JD ?_
   exact ⟨(l2.set k ((carry + x + dg * (c % 1000)) % 1000), c / 1000, (carry + x + dg * (c % 1000)) / 1000, k + 1), ⟨by rw [List.length_set]; exact hl2, X8p hlow2 k (by omega), hstep, hck2, by show (carry + x + dg * (c % 1000)) / 1000 ≤ 999; omega, by show c / 1000 ≤ b; omega⟩, by show 20 - (k + 1) < 20 - k; omega, X8 rfl ⟨JL, JL, JL, JL, JL, JL, JL, JL, trivial⟩ ⟨congrArg (AObj.row 1) hs, trivial⟩⟩
 exact own.data (by simp)
end Go.Fw

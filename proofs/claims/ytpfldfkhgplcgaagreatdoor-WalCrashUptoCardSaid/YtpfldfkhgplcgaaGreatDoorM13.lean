/- Values that are valid, second part. -/
import Derived.Test.YtpfldfkhgplcgaaGreatDoorM12
set_option maxHeartbeats 8000000
namespace Go.Fw
open Go Go.Proofs
set_option maxRecDepth 100000
set_option linter.unusedVariables false
set_option linter.unusedSimpArgs false
theorem Xei (v : Val) (ih : ∀ x ∈ v.l, X5d x) : X5d v := by
 obtain ⟨k, n, d, s, l⟩ := v
 intro m hm
 refine Xa (xs := [ab (X8 m (.mk k n d s l))]) Tryz.func174 rfl Tryz.ntmps174 rfl rfl rfl (fun E => ?_)
 have hlen := Vr l
 simp only [Val.l] at ih
 by_cases hk0 : k = 0
 ·subst hk0
  by_cases hd0 : d = 0
  case neg =>
   rw [show X8 m (.mk 0 n d s l) = false by rw [X8]; simp [*]]
   repeat first | refine X0 ?_ | (refine JR ?_; (repeat first | refine Z1 ?_ | refine Z0 ?_ | refine ZB ?_ | refine ZC ?_ | refine Zv ?_ | refine ZA (γ := 100) ?_ | refine Zn ?_ | refine Zo ?_ | refine Zp ?_); refine JD ?_) | refine JT ?_
   exact QN
  by_cases hs0 : s = []
  case neg =>
   rw [show X8 m (.mk 0 n d s l) = false by rw [X8]; simp [*]]
   repeat first | refine X0 ?_ | (refine JR ?_; (repeat first | refine Z1 ?_ | refine Z0 ?_ | refine ZB ?_ | refine ZC ?_ | refine Zv ?_ | refine ZM ?_ | refine ZA (γ := 100) ?_ | refine Zn ?_ | refine Zq ?_ | refine Zo ?_ | refine Zp ?_); refine JD ?_) | refine JT ?_
   exact QN
  by_cases hl0 : l.length = 0
  case neg =>
   have hl1 : 0 < l.length := by omega
   rw [show X8 m (.mk 0 n d s l) = false by rw [X8]; simp [*]]
   repeat first | refine X0 ?_ | (refine JR ?_; (repeat first | refine Z1 ?_ | refine Z0 ?_ | refine ZB ?_ | refine ZC ?_ | refine Zd ?_ | refine Zs ?_ | refine Zv ?_ | refine ZM ?_ | refine ZA (γ := 100) ?_ | refine Zn ?_ | refine Zq ?_); refine JD ?_) | refine JT ?_
   exact QN
  by_cases hn : n = 0
  ·rw [show X8 m (.mk 0 n d s l) = true by rw [X8]; simp [*]]
   repeat first | refine X0 ?_ | (refine JR ?_; (repeat first | refine Z1 ?_ | refine Z0 ?_ | refine ZB ?_ | refine ZC ?_ | refine Zd ?_ | refine Zs ?_ | refine Zl ?_ | refine Zv ?_ | refine ZM ?_ | refine ZA (γ := 100) ?_ | refine Zn ?_ | refine Zq ?_); refine JD ?_) | refine JT ?_ | refine JF ?_ | refine X5 ?_ | refine X4 ?_
   exact X1 ⟨_, Xb 4 (y := ab true) (AVal.le_of_eq (by refine Eq.trans (b := ab (decide (n = 0))) rfl ?_; exact congrArg ab (decide_eq_true hn))), ⟨rfl, trivial⟩, X3 _⟩
  ·rw [show X8 m (.mk 0 n d s l) = false by rw [X8]; simp [*]]
   repeat first | refine X0 ?_ | (refine JR ?_; (repeat first | refine Z1 ?_ | refine Z0 ?_ | refine ZB ?_ | refine ZC ?_ | refine Zd ?_ | refine Zs ?_ | refine Zl ?_ | refine Zv ?_ | refine ZM ?_ | refine ZA (γ := 100) ?_ | refine Zn ?_ | refine Zq ?_); refine JD ?_) | refine JT ?_ | refine JF ?_ | refine X5 ?_ | refine X4 ?_
   exact X1 ⟨_, Xb 4 (y := ab false) (AVal.le_of_eq (by refine Eq.trans (b := ab (decide (n = 0))) rfl ?_; exact congrArg ab (decide_eq_false hn))), ⟨rfl, trivial⟩, X3 _⟩
 by_cases hk1 : k = 1
 ·subst hk1
  by_cases hd0 : d = 0
  case neg =>
   rw [show X8 m (.mk 1 n d s l) = false by rw [X8]; simp [*]]
   repeat first | refine X0 ?_ | (refine JR ?_; (repeat first | refine Z1 ?_ | refine Z0 ?_ | refine ZB ?_ | refine ZC ?_ | refine Zv ?_ | refine ZA (γ := 100) ?_ | refine Zn ?_ | refine Zo ?_ | refine Zp ?_); refine JD ?_) | refine JT ?_
   exact QN
  by_cases hs0 : s = []
  case neg =>
   rw [show X8 m (.mk 1 n d s l) = false by rw [X8]; simp [*]]
   repeat first | refine X0 ?_ | (refine JR ?_; (repeat first | refine Z1 ?_ | refine Z0 ?_ | refine ZB ?_ | refine ZC ?_ | refine Zv ?_ | refine ZM ?_ | refine ZA (γ := 100) ?_ | refine Zn ?_ | refine Zq ?_ | refine Zo ?_ | refine Zp ?_); refine JD ?_) | refine JT ?_
   exact QN
  by_cases hl0 : l.length = 0
  case neg =>
   have hl1 : 0 < l.length := by omega
   rw [show X8 m (.mk 1 n d s l) = false by rw [X8]; simp [*]]
   repeat first | refine X0 ?_ | (refine JR ?_; (repeat first | refine Z1 ?_ | refine Z0 ?_ | refine ZB ?_ | refine ZC ?_ | refine Zd ?_ | refine Zs ?_ | refine Zv ?_ | refine ZM ?_ | refine ZA (γ := 100) ?_ | refine Zn ?_ | refine Zq ?_); refine JD ?_) | refine JT ?_
   exact QN
  by_cases hn : n = 0
  ·rw [show X8 m (.mk 1 n d s l) = true by rw [X8]; simp [*]]
   repeat first | refine X0 ?_ | (refine JR ?_; (repeat first | refine Z1 ?_ | refine Z0 ?_ | refine ZB ?_ | refine ZC ?_ | refine Zd ?_ | refine Zs ?_ | refine Zl ?_ | refine Zv ?_ | refine ZM ?_ | refine ZA (γ := 100) ?_ | refine Zn ?_ | refine Zq ?_ | refine Zo ?_); refine JD ?_) | refine JT ?_ | refine JF ?_ | refine X5 ?_ | refine X4 ?_
   exact QN
  by_cases hn1 : n = 1
  ·rw [show X8 m (.mk 1 n d s l) = true by rw [X8]; simp [*]]
   repeat first | refine X0 ?_ | (refine JR ?_; (repeat first | refine Z1 ?_ | refine Z0 ?_ | refine ZB ?_ | refine ZC ?_ | refine Zd ?_ | refine Zs ?_ | refine Zl ?_ | refine Zv ?_ | refine ZM ?_ | refine ZA (γ := 100) ?_ | refine Zn ?_ | refine Zq ?_); refine JD ?_) | refine JT ?_ | refine JF ?_ | refine X5 ?_ | refine X4 ?_
   exact Qdb
  ·rw [show X8 m (.mk 1 n d s l) = false by rw [X8]; simp [*]]
   repeat first | refine X0 ?_ | (refine JR ?_; (repeat first | refine Z1 ?_ | refine Z0 ?_ | refine ZB ?_ | refine ZC ?_ | refine Zd ?_ | refine Zs ?_ | refine Zl ?_ | refine Zv ?_ | refine ZM ?_ | refine ZA (γ := 100) ?_ | refine Zn ?_ | refine Zq ?_); refine JD ?_) | refine JT ?_ | refine JF ?_ | refine X5 ?_ | refine X4 ?_
   exact Qeb
 by_cases hk2 : k = 2
 ·subst hk2
  by_cases hd0 : d = 0
  case neg =>
   rw [show X8 m (.mk 2 n d s l) = false by rw [X8]; simp [*]]
   repeat first | refine X0 ?_ | (refine JR ?_; (repeat first | refine Z1 ?_ | refine Z0 ?_ | refine ZB ?_ | refine ZC ?_ | refine Zv ?_ | refine ZA (γ := 100) ?_ | refine Zn ?_ | refine Zo ?_ | refine Zp ?_); refine JD ?_) | refine JT ?_
   exact QN
  by_cases hs0 : s = []
  case neg =>
   rw [show X8 m (.mk 2 n d s l) = false by rw [X8]; simp [*]]
   repeat first | refine X0 ?_ | (refine JR ?_; (repeat first | refine Z1 ?_ | refine Z0 ?_ | refine ZB ?_ | refine ZC ?_ | refine Zv ?_ | refine ZM ?_ | refine ZA (γ := 100) ?_ | refine Zn ?_ | refine Zq ?_ | refine Zo ?_ | refine Zp ?_); refine JD ?_) | refine JT ?_
   exact QN
  by_cases hl0 : l.length = 0
  case neg =>
   have hl1 : 0 < l.length := by omega
   rw [show X8 m (.mk 2 n d s l) = false by rw [X8]; simp [*]]
   repeat first | refine X0 ?_ | (refine JR ?_; (repeat first | refine Z1 ?_ | refine Z0 ?_ | refine ZB ?_ | refine ZC ?_ | refine Zd ?_ | refine Zs ?_ | refine Zv ?_ | refine ZM ?_ | refine ZA (γ := 100) ?_ | refine Zn ?_ | refine Zq ?_); refine JD ?_) | refine JT ?_
   exact QN
  rw [show X8 m (.mk 2 n d s l) = inV n by rw [X8]; simp [inV, *]]
  repeat first | refine X0 ?_ | (refine JR ?_; (repeat first | refine Z1 ?_ | refine Z0 ?_ | refine ZB ?_ | refine ZC ?_ | refine Zd ?_ | refine Zs ?_ | refine Zl ?_ | refine Zv ?_ | refine ZM ?_ | refine ZA (γ := 100) ?_ | refine Zn ?_ | refine Zq ?_ | refine Z9 (hcon := X3f n) ?_); refine JD ?_) | refine JT ?_ | refine JF ?_ | refine X5 ?_ | refine X4 ?_
  exact QN
 by_cases hk3 : k = 3
 ·subst hk3
  by_cases hs0 : s = []
  case neg =>
   rw [show X8 m (.mk 3 n d s l) = false by rw [X8]; simp [*]]
   repeat first | refine X0 ?_ | (refine JR ?_; (repeat first | refine Z1 ?_ | refine Z0 ?_ | refine ZB ?_ | refine ZC ?_ | refine Zv ?_ | refine ZM ?_ | refine ZA (γ := 100) ?_ | refine Zn ?_ | refine Zq ?_ | refine Zo ?_ | refine Zp ?_); refine JD ?_) | refine JT ?_
   exact QN
  by_cases hl0 : l.length = 0
  case neg =>
   have hl1 : 0 < l.length := by omega
   rw [show X8 m (.mk 3 n d s l) = false by rw [X8]; simp [*]]
   repeat first | refine X0 ?_ | (refine JR ?_; (repeat first | refine Z1 ?_ | refine Z0 ?_ | refine ZB ?_ | refine ZC ?_ | refine Zd ?_ | refine Zs ?_ | refine Zv ?_ | refine ZM ?_ | refine ZA (γ := 100) ?_ | refine Zn ?_ | refine Zq ?_ | refine Zo ?_); refine JD ?_) | refine JT ?_
   exact QN
  by_cases hd : 2 ≤ d
  ·rw [show X8 m (.mk 3 n d s l) = Vc n d by rw [X8]; simp [*]]
   repeat first | refine X0 ?_ | (refine JR ?_; (repeat first | refine Z1 ?_ | refine Z0 ?_ | refine ZB ?_ | refine ZC ?_ | refine Zd ?_ | refine Zs ?_ | refine Z2 ?_ | refine Zl ?_ | refine Zv ?_ | refine ZM ?_ | refine ZA (γ := 100) ?_ | refine Zx ?_ | refine Zn ?_ | refine Zq ?_ | refine Zo ?_ | refine Z9 (hcon := Xet n d) ?_); refine JD ?_) | refine JT ?_ | refine JF ?_ | refine X5 ?_ | refine X4 ?_
   exact QN
  ·rw [show X8 m (.mk 3 n d s l) = false by rw [X8]; simp [*]]
   repeat first | refine X0 ?_ | (refine JR ?_; (repeat first | refine Z1 ?_ | refine Z0 ?_ | refine ZB ?_ | refine ZC ?_ | refine Zd ?_ | refine Zs ?_ | refine Z2 ?_ | refine Zl ?_ | refine Zv ?_ | refine ZM ?_ | refine ZA (γ := 100) ?_ | refine Zn ?_ | refine Zq ?_ | refine Zo ?_); refine JD ?_) | refine JT ?_ | refine JF ?_ | refine X5 ?_ | refine X4 ?_
   exact QN
 by_cases hk4 : k = 4
 ·subst hk4
  by_cases hd0 : d = 0
  case neg =>
   rw [show X8 m (.mk 4 n d s l) = false by rw [X8]; simp [*]]
   repeat first | refine X0 ?_ | (refine JR ?_; (repeat first | refine Z1 ?_ | refine Z0 ?_ | refine ZB ?_ | refine ZC ?_ | refine Zv ?_ | refine ZA (γ := 100) ?_ | refine Zn ?_ | refine Zo ?_ | refine Zp ?_); refine JD ?_) | refine JT ?_
   exact QN
  by_cases hl0 : l.length = 0
  case neg =>
   have hl1 : 0 < l.length := by omega
   rw [show X8 m (.mk 4 n d s l) = false by rw [X8]; simp [*]]
   repeat first | refine X0 ?_ | (refine JR ?_; (repeat first | refine Z1 ?_ | refine Z0 ?_ | refine ZB ?_ | refine ZC ?_ | refine Zd ?_ | refine Zs ?_ | refine Zv ?_ | refine ZA (γ := 100) ?_ | refine Zn ?_ | refine Zq ?_ | refine Zo ?_); refine JD ?_) | refine JT ?_
   exact QN
  by_cases hn : n = 0
  case neg =>
   rw [show X8 m (.mk 4 n d s l) = false by rw [X8]; simp [*]]
   repeat first | refine X0 ?_ | (refine JR ?_; (repeat first | refine Z1 ?_ | refine Z0 ?_ | refine ZB ?_ | refine ZC ?_ | refine Zd ?_ | refine Zs ?_ | refine Zl ?_ | refine Zv ?_ | refine ZA (γ := 100) ?_ | refine Zn ?_ | refine Zq ?_ | refine Zo ?_); refine JD ?_) | refine JT ?_ | refine JF ?_ | refine X5 ?_ | refine X4 ?_
   exact QN
  have hsz : (X7 s).size = s.length := rfl
  by_cases hs : s.length ≤ 100
  case neg =>
   rw [show X8 m (.mk 4 n d s l) = false by rw [X8]; simp [*]]
   repeat first | refine X0 ?_ | (refine JR ?_; (repeat first | refine Z1 ?_ | refine Z0 ?_ | refine ZB ?_ | refine ZC ?_ | refine Zd ?_ | refine Zc ?_ | refine Zm ?_ | refine Zs ?_ | refine Zl ?_ | refine Zv ?_ | refine ZA (γ := 100) ?_ | refine Zn ?_ | refine Zq ?_ | refine Zo ?_); refine JD ?_) | refine JT ?_ | refine JF ?_ | refine X5 ?_ | refine X4 ?_
   exact QN
  rw [show X8 m (.mk 4 n d s l) = V7 s by rw [X8]; simp [*]]
  repeat first | refine X0 ?_ | (refine JR ?_; (repeat first | refine Z1 ?_ | refine Z0 ?_ | refine ZB ?_ | refine ZC ?_ | refine Zd ?_ | refine Zc ?_ | refine Z8 ?_ | refine Zm ?_ | refine Zs ?_ | refine Zl ?_ | refine Zv ?_ | refine ZA (γ := 100) ?_ | refine Zn ?_ | refine Zq ?_ | refine Zo ?_ | refine Z9 (hcon := Xf8 s (by omega)) ?_); refine JD ?_) | refine JT ?_ | refine JF ?_ | refine X5 ?_ | refine X4 ?_
  exact X1 ⟨_, Xb 4 (y := ab (V7 s)) (AVal.le_of_eq (by refine Eq.trans (b := ab (decide (X0y s < 0))) rfl ?_; exact congrArg ab (by cases hv : V7 s with | true => exact decide_eq_true (X7v.2 hv) | false => exact decide_eq_false (fun h => by rw [X7v.1 h] at hv; simp at hv)))), ⟨rfl, trivial⟩, X3 _⟩
 by_cases hk5 : k = 5
 ·subst hk5
  by_cases hd0 : d = 0
  case neg =>
   rw [show X8 m (.mk 5 n d s l) = false by rw [X8]; simp [*]]
   repeat first | refine X0 ?_ | (refine JR ?_; (repeat first | refine Z1 ?_ | refine Z0 ?_ | refine ZB ?_ | refine ZC ?_ | refine Zv ?_ | refine ZA (γ := 100) ?_ | refine Zn ?_ | refine Zo ?_ | refine Zp ?_); refine JD ?_) | refine JT ?_
   exact QN
  by_cases hs0 : s = []
  case neg =>
   rw [show X8 m (.mk 5 n d s l) = false by rw [X8]; simp [*]]
   repeat first | refine X0 ?_ | (refine JR ?_; (repeat first | refine Z1 ?_ | refine Z0 ?_ | refine ZB ?_ | refine ZC ?_ | refine Zv ?_ | refine ZM ?_ | refine ZA (γ := 100) ?_ | refine Zn ?_ | refine Zq ?_ | refine Zo ?_ | refine Zp ?_); refine JD ?_) | refine JT ?_
   exact QN
  by_cases hl0 : l.length = 0
  case neg =>
   have hl1 : 0 < l.length := by omega
   rw [show X8 m (.mk 5 n d s l) = false by rw [X8]; simp [*]]
   repeat first | refine X0 ?_ | (refine JR ?_; (repeat first | refine Z1 ?_ | refine Z0 ?_ | refine ZB ?_ | refine ZC ?_ | refine Zd ?_ | refine Zs ?_ | refine Zv ?_ | refine ZM ?_ | refine ZA (γ := 100) ?_ | refine Zn ?_ | refine Zq ?_); refine JD ?_) | refine JT ?_
   exact QN
  by_cases hn : 1 ≤ n
  case neg =>
   rw [show X8 m (.mk 5 n d s l) = false by rw [X8]; simp [*]]
   repeat first | refine X0 ?_ | (refine JR ?_; (repeat first | refine Z1 ?_ | refine Z0 ?_ | refine ZB ?_ | refine ZC ?_ | refine Zd ?_ | refine Zs ?_ | refine Z2 ?_ | refine Zl ?_ | refine Zv ?_ | refine ZM ?_ | refine ZA (γ := 100) ?_ | refine Zn ?_ | refine Zq ?_ | refine Zo ?_); refine JD ?_) | refine JT ?_ | refine JF ?_ | refine X5 ?_ | refine X4 ?_
   exact QN
  rw [show X8 m (.mk 5 n d s l) = decide (n ≤ 1000000) by rw [X8]; simp [*]]
  repeat first | refine X0 ?_ | (refine JR ?_; (repeat first | refine Z1 ?_ | refine Z0 ?_ | refine ZB ?_ | refine ZC ?_ | refine Zd ?_ | refine Zm ?_ | refine Zs ?_ | refine Z2 ?_ | refine Zl ?_ | refine Zv ?_ | refine ZM ?_ | refine ZA (γ := 100) ?_ | refine Zn ?_ | refine Zq ?_); refine JD ?_) | refine JT ?_ | refine JF ?_ | refine X5 ?_ | refine X4 ?_
  exact QN
 by_cases hk6 : k = 6
 ·subst hk6
  by_cases hd0 : d = 0
  case neg =>
   rw [show X8 m (.mk 6 n d s l) = false by rw [X8]; simp [*]]
   repeat first | refine X0 ?_ | (refine JR ?_; (repeat first | refine Z1 ?_ | refine Z0 ?_ | refine ZB ?_ | refine ZC ?_ | refine Zv ?_ | refine ZA (γ := 100) ?_ | refine Zn ?_ | refine Zo ?_ | refine Zp ?_); refine JD ?_) | refine JT ?_
   exact QN
  by_cases hs0 : s = []
  case neg =>
   rw [show X8 m (.mk 6 n d s l) = false by rw [X8]; simp [*]]
   repeat first | refine X0 ?_ | (refine JR ?_; (repeat first | refine Z1 ?_ | refine Z0 ?_ | refine ZB ?_ | refine ZC ?_ | refine Zv ?_ | refine ZM ?_ | refine ZA (γ := 100) ?_ | refine Zn ?_ | refine Zq ?_ | refine Zo ?_ | refine Zp ?_); refine JD ?_) | refine JT ?_
   exact QN
  by_cases hl0 : l.length = 0
  case neg =>
   have hl1 : 0 < l.length := by omega
   rw [show X8 m (.mk 6 n d s l) = false by rw [X8]; simp [*]]
   repeat first | refine X0 ?_ | (refine JR ?_; (repeat first | refine Z1 ?_ | refine Z0 ?_ | refine ZB ?_ | refine ZC ?_ | refine Zd ?_ | refine Zs ?_ | refine Zv ?_ | refine ZM ?_ | refine ZA (γ := 100) ?_ | refine Zn ?_ | refine Zq ?_); refine JD ?_) | refine JT ?_
   exact QN
  by_cases hn : 1 ≤ n
  case neg =>
   rw [show X8 m (.mk 6 n d s l) = false by rw [X8]; simp [*]]
   repeat first | refine X0 ?_ | (refine JR ?_; (repeat first | refine Z1 ?_ | refine Z0 ?_ | refine ZB ?_ | refine ZC ?_ | refine Zd ?_ | refine Zs ?_ | refine Z2 ?_ | refine Zl ?_ | refine Zv ?_ | refine ZM ?_ | refine ZA (γ := 100) ?_ | refine Zn ?_ | refine Zq ?_ | refine Zo ?_); refine JD ?_) | refine JT ?_ | refine JF ?_ | refine X5 ?_ | refine X4 ?_
   exact QN
  rw [show X8 m (.mk 6 n d s l) = decide (n ≤ 1000000) by rw [X8]; simp [*]]
  repeat first | refine X0 ?_ | (refine JR ?_; (repeat first | refine Z1 ?_ | refine Z0 ?_ | refine ZB ?_ | refine ZC ?_ | refine Zd ?_ | refine Zm ?_ | refine Zs ?_ | refine Z2 ?_ | refine Zl ?_ | refine Zv ?_ | refine ZM ?_ | refine ZA (γ := 100) ?_ | refine Zn ?_ | refine Zq ?_); refine JD ?_) | refine JT ?_ | refine JF ?_ | refine X5 ?_ | refine X4 ?_
  exact QN
 by_cases hk7 : k = 7
 ·subst hk7
  by_cases hd0 : d = 0
  case neg =>
   rw [show X8 m (.mk 7 n d s l) = false by rw [X8]; simp [*]]
   repeat first | refine X0 ?_ | (refine JR ?_; (repeat first | refine Z1 ?_ | refine Z0 ?_ | refine ZB ?_ | refine ZC ?_ | refine Zv ?_ | refine ZA (γ := 100) ?_ | refine Zn ?_ | refine Zo ?_ | refine Zp ?_); refine JD ?_) | refine JT ?_
   exact QN
  by_cases hs0 : s = []
  case neg =>
   rw [show X8 m (.mk 7 n d s l) = false by rw [X8]; simp [*]]
   repeat first | refine X0 ?_ | (refine JR ?_; (repeat first | refine Z1 ?_ | refine Z0 ?_ | refine ZB ?_ | refine ZC ?_ | refine Zv ?_ | refine ZM ?_ | refine ZA (γ := 100) ?_ | refine Zn ?_ | refine Zq ?_ | refine Zo ?_ | refine Zp ?_); refine JD ?_) | refine JT ?_
   exact QN
  by_cases hn : n = 0
  case neg =>
   rw [show X8 m (.mk 7 n d s l) = false by rw [X8]; simp [*]]
   repeat first | refine X0 ?_ | (refine JR ?_; (repeat first | refine Z1 ?_ | refine Z0 ?_ | refine ZB ?_ | refine ZC ?_ | refine Zl ?_ | refine Zv ?_ | refine ZM ?_ | refine ZA (γ := 100) ?_ | refine Zn ?_ | refine Zq ?_ | refine Zo ?_); refine JD ?_) | refine JT ?_ | refine JF ?_ | refine X5 ?_ | refine X4 ?_
   exact QN
  rw [show X8 m (.mk 7 n d s l) = UI l by rw [X8]; simp [UI, *]]
  have hp : X6v l := Xct l ih
  unfold X6v at hp
  repeat first | refine X0 ?_ | (refine JR ?_; (repeat first | refine Z1 ?_ | refine Z0 ?_ | refine ZB ?_ | refine ZC ?_ | refine Zl ?_ | refine Zv ?_ | refine ZM ?_ | refine ZA (γ := 100) ?_ | refine Zn ?_ | refine Zq ?_ | refine Zo ?_ | refine Z9 (hcon := hp) ?_); refine JD ?_) | refine JT ?_ | refine JF ?_ | refine X5 ?_ | refine X4 ?_
  exact QN
 by_cases hk8 : k = 8
 ·subst hk8
  by_cases hd0 : d = 0
  case neg =>
   rw [show X8 m (.mk 8 n d s l) = false by rw [X8]; simp [*]]
   repeat first | refine X0 ?_ | (refine JR ?_; (repeat first | refine Z1 ?_ | refine Z0 ?_ | refine ZB ?_ | refine ZC ?_ | refine Zv ?_ | refine ZA (γ := 100) ?_ | refine Zn ?_ | refine Zo ?_ | refine Zp ?_); refine JD ?_) | refine JT ?_
   exact QN
  by_cases hs0 : s = []
  case neg =>
   rw [show X8 m (.mk 8 n d s l) = false by rw [X8]; simp [*]]
   repeat first | refine X0 ?_ | (refine JR ?_; (repeat first | refine Z1 ?_ | refine Z0 ?_ | refine ZB ?_ | refine ZC ?_ | refine Zv ?_ | refine ZM ?_ | refine ZA (γ := 100) ?_ | refine Zn ?_ | refine Zq ?_ | refine Zo ?_ | refine Zp ?_); refine JD ?_) | refine JT ?_
   exact QN
  by_cases hn : n = 0
  case neg =>
   rw [show X8 m (.mk 8 n d s l) = false by rw [X8]; simp [*]]
   repeat first | refine X0 ?_ | (refine JR ?_; (repeat first | refine Z1 ?_ | refine Z0 ?_ | refine ZB ?_ | refine ZC ?_ | refine Zl ?_ | refine Zv ?_ | refine ZM ?_ | refine ZA (γ := 100) ?_ | refine Zn ?_ | refine Zq ?_ | refine Zo ?_); refine JD ?_) | refine JT ?_ | refine JF ?_ | refine X5 ?_ | refine X4 ?_
   exact QN
  by_cases h64 : l.length ≤ 64
  case neg =>
   rw [show X8 m (.mk 8 n d s l) = false by rw [X8]; simp [*]]
   repeat first | refine X0 ?_ | (refine JR ?_; (repeat first | refine Z1 ?_ | refine Z0 ?_ | refine ZB ?_ | refine ZC ?_ | refine Zd ?_ | refine Zs ?_ | refine Zl ?_ | refine Zv ?_ | refine ZM ?_ | refine ZA (γ := 100) ?_ | refine Zn ?_ | refine Zq ?_ | refine Zo ?_); refine JD ?_) | refine JT ?_ | refine JF ?_ | refine X5 ?_ | refine X4 ?_
   exact QN
  by_cases hm1 : 1 ≤ m
  case neg =>
   rw [show X8 m (.mk 8 n d s l) = false by rw [X8]; simp [*]]
   repeat first | refine X0 ?_ | (refine JR ?_; (repeat first | refine Z1 ?_ | refine Z0 ?_ | refine ZB ?_ | refine ZC ?_ | refine Zd ?_ | refine Zs ?_ | refine Z2 ?_ | refine Zl ?_ | refine Zv ?_ | refine ZM ?_ | refine ZA (γ := 100) ?_ | refine Zn ?_ | refine Zq ?_ | refine Zo ?_); refine JD ?_) | refine JT ?_ | refine JF ?_ | refine X5 ?_ | refine X4 ?_
   exact QN
  rw [show X8 m (.mk 8 n d s l) = Un (m - 1) (l.drop 0) by rw [X8]; simp [*]]
  repeat first | refine X0 ?_ | (refine JR ?_; (repeat first | refine Z1 ?_ | refine Z0 ?_ | refine ZB ?_ | refine ZC ?_ | refine Zd ?_ | refine Zs ?_ | refine Z2 ?_ | refine Zl ?_ | refine Zv ?_ | refine ZM ?_ | refine ZA (γ := 100) ?_ | refine Zn ?_ | refine Zq ?_ | refine Zo ?_); refine JD ?_) | refine JT ?_ | refine JF ?_ | refine X5 ?_ | refine X4 ?_
  refine Xu (fun i : Nat => i ≤ l.length ∧ Un (m - 1) (l.drop 0) = Un (m - 1) (l.drop i)) (fun i => ⟨142, [(1, ai (8 - m : Nat)), (120, .d (.sl 5 (XF l))), (121, ai l.length), (122, ai i)], []⟩) (fun i => l.length - i) 0 ⟨by omega, rfl⟩
   (X9 rfl ⟨JL, JL, (by refine AVal.le_of_eq ?_; refine Eq.trans (b := ai ((XF l).length : Nat)) rfl ?_; rw [hlen]), JL, trivial⟩ trivial) ?_
  rintro i ⟨hi, hpv⟩
  by_cases hlt : i < l.length
  ·obtain ⟨x, hx⟩ := Xx (l := l) hlt
   have hgx := X1y hx
   have hvx := ih x (List.mem_of_getElem? hx) (m - 1) (by omega)
   have hst := X9q (m := m - 1) hx
   have e8 : nj (8 - m + 1) = nj (8 - (m - 1)) := congrArg nj (by omega)
   obtain ⟨k', n', d', s', q'⟩ := x
   simp only [Xo] at hvx
   rw [V5] at hgx
   cases hvv : X8 (m - 1) (.mk k' n' d' s' q') with
   | true =>
    rw [hvv] at hvx
    rw [hvv, Bool.true_and] at hst
    refine Qfb ?_; refine Qgb ?_; refine Z1 ?_; refine Z4 (op := .add) (r' := nj (8 - (m - 1))) (u := nj (8 - m)) (v := nj 1) ?_ (hr' := by exact e8) (hr := by exact Ul (by rw [XM]; omega)); refine Z9 (hcon := hvx) ?_; refine Qhb ?_; refine QK ?_; exact ⟨i + 1, ⟨by omega, hpv.trans hst⟩, by omega, X9 rfl ⟨JL, JL, JL, JL, trivial⟩ trivial⟩
   | false =>
    rw [hvv] at hvx
    rw [hvv, Bool.false_and] at hst
    rw [hpv, hst]
    refine Qfb ?_; refine Qgb ?_; refine Z1 ?_; refine Z4 (op := .add) (r' := nj (8 - (m - 1))) (u := nj (8 - m)) (v := nj 1) ?_ (hr' := by exact e8) (hr := by exact Ul (by rw [XM]; omega)); refine Z9 (hcon := hvx) ?_; refine Zu ?_; exact Qea
  obtain rfl : i = l.length := by omega
  rw [hpv, List.drop_length, Un]
  refine QM ?_; exact Qia
 by_cases hd0 : d = 0
 case neg =>
  rw [show X8 m (.mk k n d s l) = false by rw [X8]; simp [*]]
  repeat first | refine X0 ?_ | (refine JR ?_; (repeat first | refine Z1 ?_ | refine Z0 ?_ | refine ZB ?_ | refine ZC ?_ | refine Zv ?_ | refine ZA (γ := 100) ?_ | refine Zn ?_ | refine Zo ?_ | refine Zp ?_); refine JD ?_) | refine JT ?_
  exact QN
 by_cases hs0 : s = []
 case neg =>
  rw [show X8 m (.mk k n d s l) = false by rw [X8]; simp [*]]
  repeat first | refine X0 ?_ | (refine JR ?_; (repeat first | refine Z1 ?_ | refine Z0 ?_ | refine ZB ?_ | refine ZC ?_ | refine Zv ?_ | refine ZM ?_ | refine ZA (γ := 100) ?_ | refine Zn ?_ | refine Zq ?_ | refine Zo ?_ | refine Zp ?_); refine JD ?_) | refine JT ?_
  exact QN
 by_cases hl0 : l.length = 0
 case neg =>
  have hl1 : 0 < l.length := by omega
  rw [show X8 m (.mk k n d s l) = false by rw [X8]; simp [*]]
  repeat first | refine X0 ?_ | (refine JR ?_; (repeat first | refine Z1 ?_ | refine Z0 ?_ | refine ZB ?_ | refine ZC ?_ | refine Zd ?_ | refine Zs ?_ | refine Zv ?_ | refine ZM ?_ | refine ZA (γ := 100) ?_ | refine Zn ?_ | refine Zq ?_); refine JD ?_) | refine JT ?_
  exact QN
 rw [show X8 m (.mk k n d s l) = false by rw [X8]; simp [*]]
 repeat first | refine X0 ?_ | (refine JR ?_; (repeat first | refine Z1 ?_ | refine Z0 ?_ | refine ZB ?_ | refine ZC ?_ | refine Zd ?_ | refine Zs ?_ | refine Zl ?_ | refine Zv ?_ | refine ZM ?_ | refine ZA (γ := 100) ?_ | refine Zn ?_ | refine Zq ?_); refine JD ?_) | refine JF ?_ | refine X5 ?_ | refine X4 ?_
 exact QN
theorem X8p : ∀ v : Val, X5d v
 | .mk k n d s l => Xei (.mk k n d s l) fun x hx => X8p x
termination_by v => SizeOf.sizeOf v
decreasing_by
 have h1 := List.sizeOf_lt_of_mem (show x ∈ l from hx)
 simp only [Val.mk.sizeOf_spec]
 omega
theorem VR (v : Val) : Con Tryz.prog 148 [] [Xo v] [] (ab (X8 8 v)) := by
 refine Xa (xs := [ab (X8 8 v)]) Tryz.func148 rfl Tryz.ntmps148 rfl rfl rfl (fun E => ?_)
 have h := X8p v 8 (by omega)
 obtain ⟨k, n, d, s, l⟩ := v
 simp only [Xo, Nat.sub_self] at h
 refine QGa ?_; refine Qgb ?_; refine Z9 (hcon := h) ?_; exact QO
def X3z (v : Val) : Prop := ∀ m : Nat, m ≤ 8 → Con Tryz.prog 161 [] [Xo v, ai m] [] (ab (X8 m v))
theorem X8Q {s : List UInt8} {p : Nat} {c : UInt8} (hc : s[p]? = some c) (hb : okB c = false) : V7 s = false := by
 cases hs : V7 s with
 | false => rfl
 | true =>
  unfold V7 at hs
  rw [List.all_eq_true] at hs
  have := hs c (List.mem_of_getElem? hc)
  unfold okB at hb
  rw [hb] at this; simp at this
theorem XeD (s : List UInt8) (hs : s.length ≤ 9223372036854775807) : Con Tryz.prog 182 [] [X1J s] [] (ab (V7 s && decide (s.length ≤ 100))) := by
 refine Xa (xs := [ab (V7 s && decide (s.length ≤ 100))]) Tryz.func182 rfl Tryz.ntmps182 rfl rfl rfl (fun E => ?_)
 have hsz : (X7 s).size = s.length := rfl
 refine Qjb ?_
 refine Xu (fun p : Nat => p ≤ s.length ∧ ∀ j, j < p → ∃ b, s[j]? = some b ∧ okB b = true) (fun p => ⟨23, [(0, X1J s), (3, ai p)], []⟩) (fun p => s.length - p) 0 ⟨by omega, fun j hj => by omega⟩
  (X9 rfl ⟨JL, JL, trivial⟩ trivial) ?_
 rintro p ⟨hp, hall⟩
 by_cases hlt : p < s.length
 ·obtain ⟨c, hc⟩ := Xx (l := s) hlt
  have hlt' : p < (X7 s).size := hlt
  have hget := Xb8 s hc hlt'
  by_cases h1 : c.toNat < 32
  ·rw [X8Q hc (show okB c = false by unfold okB; exact decide_eq_false (by omega)), Bool.false_and]
   refine Qmb ?_; refine Zt ?_; refine Z8 ?_; refine Qda ?_; exact Qea
  by_cases h2 : 126 < c.toNat
  ·rw [X8Q hc (show okB c = false by unfold okB; exact decide_eq_false (by omega)), Bool.false_and]
   refine Qmb ?_; refine Zt ?_; refine Z8 ?_; refine QCa ?_; refine Zt ?_; exact QTa
  have hok : okB c = true := by unfold okB; exact decide_eq_true (by omega)
  refine Qmb ?_; refine Zt ?_; refine Z8 ?_; refine QCa ?_; refine Zt ?_; refine Zs ?_; refine Qha ?_; refine Qnb ?_
  refine ⟨p + 1, ⟨by omega, fun j hj => ?_⟩, by omega, X9 rfl ⟨JL, JL, trivial⟩ trivial⟩
  by_cases e : j = p
  ·subst e; exact ⟨c, hc, hok⟩
  ·exact hall j (by omega)
 obtain rfl : p = s.length := by omega
 rw [XaQ hall rfl, Bool.true_and]
 refine Qkb ?_; refine Zc ?_; refine Z8 ?_; refine Qm ?_; refine Qf ?_; refine Zc ?_; refine Zm ?_; refine Qc ?_; exact X1 ⟨_, Xb 2 (y := ab (decide (s.length ≤ 100))) (AVal.le_of_eq (by refine Eq.trans (b := ab (decide (((X7 s).size : Int) ≤ 100))) rfl ?_; exact congrArg ab (decide_eq_decide.2 (by omega)))), ⟨rfl, trivial⟩, X3 _⟩
theorem Xhz (l : List Val) (hl : l.length ≤ 9223372036854775807) (ih : ∀ x ∈ l, X3z x) : Con Tryz.prog 183 [] [.d (.sl 5 (XF l))] [] (ab (UI l)) := by
 refine Xa (xs := [ab (UI l)]) Tryz.func183 rfl Tryz.ntmps183 rfl rfl rfl (fun E => ?_)
 have hlen := Vr l
 by_cases h1 : l.length % 2 = 0
 ·rw [show UI l = false by unfold UI; rw [decide_eq_false (by omega), Bool.false_and]]
  refine QPa ?_; refine ZJ ?_; refine Zl ?_; exact QRa
 by_cases h2 : 25 < l.length
 ·rw [show UI l = false by unfold UI; rw [decide_eq_false (by omega), Bool.false_and]]
  refine QPa ?_; refine ZJ ?_; refine QSa ?_; refine Zd ?_; exact QTa
 rw [show UI l = Ue 0 (l.drop 0) by unfold UI; rw [decide_eq_true (by omega), Bool.true_and]; rfl]
 refine QPa ?_; refine ZJ ?_; refine QSa ?_; refine QUa ?_; refine Qha ?_; refine Qib ?_
 refine Xu (fun i : Nat => i ≤ l.length ∧ Ue 0 (l.drop 0) = Ue i (l.drop i)) (fun i => ⟨38, [(0, .d (.sl 5 (XF l))), (3, ai i)], []⟩) (fun i => l.length - i) 0 ⟨by omega, rfl⟩
  (X9 rfl ⟨JL, JL, trivial⟩ trivial) ?_
 rintro i ⟨hi, hpv⟩
 by_cases hlt : i < l.length
 ·obtain ⟨x, hx⟩ := Xx (l := l) hlt
  have hgx := X1y hx
  have hvx := ih x (List.mem_of_getElem? hx) 0 (by omega)
  obtain ⟨k, n, d, s, q⟩ := x
  simp only [Xo] at hvx
  rw [V5] at hgx
  rw [hpv]
  by_cases hpar : i % 2 = 0
  case pos =>
   by_cases hk : k = 5
   case neg =>
    rw [X3X hx (by rw [hpar]; show ¬ k = _; omega)]
    refine Qrb ?_; refine Qsb ?_; refine Zv ?_; refine QMa ?_; refine Zn ?_; exact Qea
   subst hk
   cases hvv : X8 0 (.mk 5 n d s q) with
   | true =>
    rw [hvv] at hvx
    have hgo := X3T hx (by rw [hpar]; rfl) hvv
    rw [← hpv]
    refine Qrb ?_; refine Qtb ?_; refine Qab ?_; refine Qnb ?_; exact ⟨i + 1, ⟨by omega, hpv.trans hgo⟩, by omega, X9 rfl ⟨JL, JL, trivial⟩ trivial⟩
   | false =>
    rw [hvv] at hvx
    rw [X55 hx hvv]
    refine Qrb ?_; refine Qtb ?_; exact Qbb
  case neg =>
   have hpar : i % 2 = 1 := by omega
   by_cases hk : k = 6
   case neg =>
    rw [X3X hx (by rw [hpar]; show ¬ k = _; omega)]
    refine Qub ?_; refine Qsb ?_; refine Zv ?_; refine QMa ?_; refine Zn ?_; exact Qea
   subst hk
   cases hvv : X8 0 (.mk 6 n d s q) with
   | true =>
    rw [hvv] at hvx
    have hgo := X3T hx (by rw [hpar]; rfl) hvv
    rw [← hpv]
    refine Qub ?_; refine Qtb ?_; refine Qab ?_; refine Qnb ?_; exact ⟨i + 1, ⟨by omega, hpv.trans hgo⟩, by omega, X9 rfl ⟨JL, JL, trivial⟩ trivial⟩
   | false =>
    rw [hvv] at hvx
    rw [X55 hx hvv]
    refine Qub ?_; refine Qtb ?_; exact Qbb
 obtain rfl : i = l.length := by omega
 rw [hpv, List.drop_length, Ue]
 refine Qvb ?_; exact Qia
theorem Xhc (l : List Val) (m : Nat) (hm : m ≤ 8) (hl : l.length ≤ 9223372036854775807) (ih : ∀ x ∈ l, X3z x) : Con Tryz.prog 184 [] [.d (.sl 5 (XF l)), ai m] [] (ab (decide (1 ≤ m ∧ l.length ≤ 64) && Un (m - 1) l)) := by
 refine Xa (xs := [ab (decide (1 ≤ m ∧ l.length ≤ 64) && Un (m - 1) l)]) Tryz.func184 rfl Tryz.ntmps184 rfl rfl rfl (fun E => ?_)
 have hlen := Vr l
 by_cases h1 : m < 1
 ·rw [decide_eq_false (by omega), Bool.false_and]
  refine Qp ?_; exact QRa
 by_cases h2 : 64 < l.length
 ·rw [decide_eq_false (by omega), Bool.false_and]
  refine Qo ?_; refine QOa ?_; refine Zd ?_; exact QTa
 rw [show (decide (1 ≤ m ∧ l.length ≤ 64) && Un (m - 1) l) = Un (m - 1) (l.drop 0) by rw [decide_eq_true (by omega), Bool.true_and]; rfl]
 refine Qo ?_; refine QOa ?_; refine QUa ?_; refine Qha ?_; refine Qib ?_
 refine Xu (fun i : Nat => i ≤ l.length ∧ Un (m - 1) (l.drop 0) = Un (m - 1) (l.drop i)) (fun i => ⟨27, [(0, .d (.sl 5 (XF l))), (1, ai m), (5, ai i)], []⟩) (fun i => l.length - i) 0 ⟨by omega, rfl⟩
  (X9 rfl ⟨JL, JL, JL, trivial⟩ trivial) ?_
 rintro i ⟨hi, hpv⟩
 by_cases hlt : i < l.length
 ·obtain ⟨x, hx⟩ := Xx (l := l) hlt
  have hgx := X1y hx
  have hvx := ih x (List.mem_of_getElem? hx) (m - 1) (by omega)
  have hst := X9q (m := m - 1) hx
  have e8 : Value.int .i64 ((m : Int) - 1) = nj (m - 1) := by show Value.int .i64 _ = Value.int .i64 _; congr 1; omega
  obtain ⟨k', n', d', s', q'⟩ := x
  simp only [Xo] at hvx
  rw [V5] at hgx
  cases hvv : X8 (m - 1) (.mk k' n' d' s' q') with
  | true =>
   rw [hvv] at hvx
   rw [hvv, Bool.true_and] at hst
   refine Qwb ?_; refine Z1 ?_; refine Z4 (op := .sub) (r' := nj (m - 1)) (u := nj m) (v := nj 1) ?_ (hr' := by exact e8) (hr := by exact X0M (by unfold U6; omega)); refine Z9 (hcon := hvx) ?_; refine Qhb ?_; refine Qnb ?_; exact ⟨i + 1, ⟨by omega, hpv.trans hst⟩, by omega, X9 rfl ⟨JL, JL, JL, trivial⟩ trivial⟩
  | false =>
   rw [hvv] at hvx
   rw [hvv, Bool.false_and] at hst
   rw [hpv, hst]
   refine Qwb ?_; refine Z1 ?_; refine Z4 (op := .sub) (r' := nj (m - 1)) (u := nj m) (v := nj 1) ?_ (hr' := by exact e8) (hr := by exact X0M (by unfold U6; omega)); refine Z9 (hcon := hvx) ?_; refine Zu ?_; exact Qea
 obtain rfl : i = l.length := by omega
 rw [hpv, List.drop_length, Un]
 refine Qvb ?_; exact Qia
end Go.Fw

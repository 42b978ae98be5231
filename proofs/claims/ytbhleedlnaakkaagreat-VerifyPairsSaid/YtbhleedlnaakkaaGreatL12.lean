/- The reference's Valid. -/
import Derived.Test.YtbhleedlnaakkaaGreatL11
set_option maxHeartbeats 8000000
namespace Go.Fw
open Go Go.Proofs
set_option maxRecDepth 100000
set_option linter.unusedVariables false
set_option linter.unusedSimpArgs false
mutual
def XY : Val → Prop
 | .mk k n d s l => s.length ≤ 9223372036854775807 ∧ l.length ≤ 9223372036854775807 ∧ Ub l
def Ub : List Val → Prop
 | [] => True
 | v :: r => XY v ∧ Ub r
end
theorem X3k : ∀ {l : List Val} {x : Val}, Ub l → x ∈ l → XY x
 | [], _, _, h => by simp at h
 | v :: r, x, h, hx => by
  rw [Ub] at h
  rcases List.mem_cons.1 hx with rfl | hx
  ·exact h.1
  ·exact X3k h.2 hx
def X8i (v : Val) : Prop := XY v → X0N v
theorem Xak (k n d : Int) (s : List UInt8) (l : List Val) : Con Tryz.prog 199 [] [Xn (.mk k n d s l), ab false, ab false, ab false, ab false] [] (ab (decide (n = 0) && decide (d = 0) && decide (s = []) && decide (l.length = 0))) := by
 refine X9 (xs := [ab (decide (n = 0) && decide (d = 0) && decide (s = []) && decide (l.length = 0))]) Tryz.func199 rfl Tryz.ntmps199 rfl rfl rfl (fun E => ?_)
 have hlen := UE l
 by_cases hn : n = 0
 case neg =>
  rw [show (decide (n = 0) && decide (d = 0) && decide (s = []) && decide (l.length = 0)) = false by simp [*]]
  repeat first | refine X0 ?_ | (refine JR ?_; (repeat first | refine Z1 ?_ | refine Z0 ?_ | refine ZB ?_ | refine ZC ?_ | refine Zl ?_ | refine ZA (γ := 100) ?_ | refine Zq ?_ | refine Zo ?_ | refine Zp ?_); refine JD ?_)
  exact X1 ⟨_, St.le_refl _, ⟨rfl, trivial⟩, X2 _⟩
 by_cases hd : d = 0
 case neg =>
  rw [show (decide (n = 0) && decide (d = 0) && decide (s = []) && decide (l.length = 0)) = false by simp [*]]
  repeat first | refine X0 ?_ | (refine JR ?_; (repeat first | refine Z1 ?_ | refine Z0 ?_ | refine ZB ?_ | refine ZC ?_ | refine Zl ?_ | refine ZA (γ := 100) ?_ | refine Zn ?_ | refine Zq ?_ | refine Zo ?_ | refine Zp ?_); refine JD ?_)
  exact X1 ⟨_, St.le_refl _, ⟨rfl, trivial⟩, X2 _⟩
 by_cases hs : s = []
 case neg =>
  rw [show (decide (n = 0) && decide (d = 0) && decide (s = []) && decide (l.length = 0)) = false by simp [*]]
  repeat first | refine X0 ?_ | (refine JR ?_; (repeat first | refine Z1 ?_ | refine Z0 ?_ | refine ZB ?_ | refine ZC ?_ | refine Zl ?_ | refine Zr ?_ | refine ZA (γ := 100) ?_ | refine Zn ?_ | refine Zq ?_ | refine Zo ?_ | refine Zp ?_); refine JD ?_)
  exact X1 ⟨_, St.le_refl _, ⟨rfl, trivial⟩, X2 _⟩
 by_cases hl : l.length = 0
 case neg =>
  have hl' : ¬ ((l.length : Int) = 0) := by omega
  rw [show (decide (n = 0) && decide (d = 0) && decide (s = []) && decide (l.length = 0)) = false by simp [*]]
  repeat first | refine X0 ?_ | (refine JR ?_; (repeat first | refine Z1 ?_ | refine Z0 ?_ | refine ZB ?_ | refine ZC ?_ | refine Zd ?_ | refine Zl ?_ | refine Zr ?_ | refine ZA (γ := 100) ?_ | refine Zn ?_ | refine Zq ?_); refine JD ?_)
  exact X1 ⟨_, Xe 10 (y := ab false) (AVal.le_of_eq (by refine Eq.trans (b := ab (decide (((XG l).length : Int) = 0))) rfl ?_; exact congrArg ab (decide_eq_false (by rw [hlen]; exact hl')))), ⟨rfl, trivial⟩, X2 _⟩
 rw [show (decide (n = 0) && decide (d = 0) && decide (s = []) && decide (l.length = 0)) = true by simp [*]]
 repeat first | refine X0 ?_ | (refine JR ?_; (repeat first | refine Z1 ?_ | refine Z0 ?_ | refine ZB ?_ | refine ZC ?_ | refine Zd ?_ | refine Zl ?_ | refine Zr ?_ | refine ZA (γ := 100) ?_ | refine Zn ?_ | refine Zq ?_); refine JD ?_)
 exact X1 ⟨_, Xe 10 (y := ab true) (AVal.le_of_eq (by refine Eq.trans (b := ab (decide (((XG l).length : Int) = 0))) rfl ?_; exact congrArg ab (decide_eq_true (by omega)))), ⟨rfl, trivial⟩, X2 _⟩
theorem X2b (k n d : Int) (s : List UInt8) (l : List Val) : Con Tryz.prog 199 [] [Xn (.mk k n d s l), ab true, ab false, ab false, ab false] [] (ab (decide (d = 0) && decide (s = []) && decide (l.length = 0))) := by
 refine X9 (xs := [ab (decide (d = 0) && decide (s = []) && decide (l.length = 0))]) Tryz.func199 rfl Tryz.ntmps199 rfl rfl rfl (fun E => ?_)
 have hlen := UE l
 by_cases hd : d = 0
 case neg =>
  rw [show (decide (d = 0) && decide (s = []) && decide (l.length = 0)) = false by simp [*]]
  repeat first | refine X0 ?_ | (refine JR ?_; (repeat first | refine Z1 ?_ | refine Z0 ?_ | refine ZB ?_ | refine ZC ?_ | refine Zl ?_ | refine ZA (γ := 100) ?_ | refine Zn ?_ | refine Zq ?_ | refine Zo ?_ | refine Zp ?_); refine JD ?_)
  exact X1 ⟨_, St.le_refl _, ⟨rfl, trivial⟩, X2 _⟩
 by_cases hs : s = []
 case neg =>
  rw [show (decide (d = 0) && decide (s = []) && decide (l.length = 0)) = false by simp [*]]
  repeat first | refine X0 ?_ | (refine JR ?_; (repeat first | refine Z1 ?_ | refine Z0 ?_ | refine ZB ?_ | refine ZC ?_ | refine Zl ?_ | refine Zr ?_ | refine ZA (γ := 100) ?_ | refine Zn ?_ | refine Zq ?_ | refine Zo ?_ | refine Zp ?_); refine JD ?_)
  exact X1 ⟨_, St.le_refl _, ⟨rfl, trivial⟩, X2 _⟩
 by_cases hl : l.length = 0
 case neg =>
  have hl' : ¬ ((l.length : Int) = 0) := by omega
  rw [show (decide (d = 0) && decide (s = []) && decide (l.length = 0)) = false by simp [*]]
  repeat first | refine X0 ?_ | (refine JR ?_; (repeat first | refine Z1 ?_ | refine Z0 ?_ | refine ZB ?_ | refine ZC ?_ | refine Zd ?_ | refine Zl ?_ | refine Zr ?_ | refine ZA (γ := 100) ?_ | refine Zn ?_ | refine Zq ?_ | refine Zo ?_); refine JD ?_)
  exact X1 ⟨_, Xe 10 (y := ab false) (AVal.le_of_eq (by refine Eq.trans (b := ab (decide (((XG l).length : Int) = 0))) rfl ?_; exact congrArg ab (decide_eq_false (by rw [hlen]; exact hl')))), ⟨rfl, trivial⟩, X2 _⟩
 rw [show (decide (d = 0) && decide (s = []) && decide (l.length = 0)) = true by simp [*]]
 repeat first | refine X0 ?_ | (refine JR ?_; (repeat first | refine Z1 ?_ | refine Z0 ?_ | refine ZB ?_ | refine ZC ?_ | refine Zd ?_ | refine Zl ?_ | refine Zr ?_ | refine ZA (γ := 100) ?_ | refine Zn ?_ | refine Zq ?_ | refine Zo ?_); refine JD ?_)
 exact X1 ⟨_, Xe 10 (y := ab true) (AVal.le_of_eq (by refine Eq.trans (b := ab (decide (((XG l).length : Int) = 0))) rfl ?_; exact congrArg ab (decide_eq_true (by omega)))), ⟨rfl, trivial⟩, X2 _⟩
theorem Xaz (k n d : Int) (s : List UInt8) (l : List Val) : Con Tryz.prog 199 [] [Xn (.mk k n d s l), ab true, ab true, ab false, ab false] [] (ab (decide (s = []) && decide (l.length = 0))) := by
 refine X9 (xs := [ab (decide (s = []) && decide (l.length = 0))]) Tryz.func199 rfl Tryz.ntmps199 rfl rfl rfl (fun E => ?_)
 have hlen := UE l
 by_cases hs : s = []
 case neg =>
  rw [show (decide (s = []) && decide (l.length = 0)) = false by simp [*]]
  repeat first | refine X0 ?_ | (refine JR ?_; (repeat first | refine Z1 ?_ | refine Z0 ?_ | refine ZB ?_ | refine ZC ?_ | refine Zr ?_ | refine ZA (γ := 100) ?_ | refine Zn ?_ | refine Zq ?_ | refine Zo ?_ | refine Zp ?_); refine JD ?_)
  exact X1 ⟨_, St.le_refl _, ⟨rfl, trivial⟩, X2 _⟩
 by_cases hl : l.length = 0
 case neg =>
  have hl' : ¬ ((l.length : Int) = 0) := by omega
  rw [show (decide (s = []) && decide (l.length = 0)) = false by simp [*]]
  repeat first | refine X0 ?_ | (refine JR ?_; (repeat first | refine Z1 ?_ | refine Z0 ?_ | refine ZB ?_ | refine ZC ?_ | refine Zd ?_ | refine Zl ?_ | refine Zr ?_ | refine ZA (γ := 100) ?_ | refine Zn ?_ | refine Zq ?_ | refine Zo ?_); refine JD ?_)
  exact X1 ⟨_, Xe 10 (y := ab false) (AVal.le_of_eq (by refine Eq.trans (b := ab (decide (((XG l).length : Int) = 0))) rfl ?_; exact congrArg ab (decide_eq_false (by rw [hlen]; exact hl')))), ⟨rfl, trivial⟩, X2 _⟩
 rw [show (decide (s = []) && decide (l.length = 0)) = true by simp [*]]
 repeat first | refine X0 ?_ | (refine JR ?_; (repeat first | refine Z1 ?_ | refine Z0 ?_ | refine ZB ?_ | refine ZC ?_ | refine Zd ?_ | refine Zl ?_ | refine Zr ?_ | refine ZA (γ := 100) ?_ | refine Zn ?_ | refine Zq ?_ | refine Zo ?_); refine JD ?_)
 exact X1 ⟨_, Xe 10 (y := ab true) (AVal.le_of_eq (by refine Eq.trans (b := ab (decide (((XG l).length : Int) = 0))) rfl ?_; exact congrArg ab (decide_eq_true (by omega)))), ⟨rfl, trivial⟩, X2 _⟩
theorem X7F (k n d : Int) (s : List UInt8) (l : List Val) : Con Tryz.prog 199 [] [Xn (.mk k n d s l), ab false, ab false, ab true, ab false] [] (ab (decide (n = 0) && decide (d = 0) && decide (l.length = 0))) := by
 refine X9 (xs := [ab (decide (n = 0) && decide (d = 0) && decide (l.length = 0))]) Tryz.func199 rfl Tryz.ntmps199 rfl rfl rfl (fun E => ?_)
 have hlen := UE l
 by_cases hn : n = 0
 case neg =>
  rw [show (decide (n = 0) && decide (d = 0) && decide (l.length = 0)) = false by simp [*]]
  repeat first | refine X0 ?_ | (refine JR ?_; (repeat first | refine Z1 ?_ | refine Z0 ?_ | refine ZB ?_ | refine ZC ?_ | refine Zl ?_ | refine ZA (γ := 100) ?_ | refine Zq ?_ | refine Zo ?_ | refine Zp ?_); refine JD ?_)
  exact X1 ⟨_, St.le_refl _, ⟨rfl, trivial⟩, X2 _⟩
 by_cases hd : d = 0
 case neg =>
  rw [show (decide (n = 0) && decide (d = 0) && decide (l.length = 0)) = false by simp [*]]
  repeat first | refine X0 ?_ | (refine JR ?_; (repeat first | refine Z1 ?_ | refine Z0 ?_ | refine ZB ?_ | refine ZC ?_ | refine Zl ?_ | refine ZA (γ := 100) ?_ | refine Zn ?_ | refine Zq ?_ | refine Zo ?_ | refine Zp ?_); refine JD ?_)
  exact X1 ⟨_, St.le_refl _, ⟨rfl, trivial⟩, X2 _⟩
 by_cases hl : l.length = 0
 case neg =>
  have hl' : ¬ ((l.length : Int) = 0) := by omega
  rw [show (decide (n = 0) && decide (d = 0) && decide (l.length = 0)) = false by simp [*]]
  repeat first | refine X0 ?_ | (refine JR ?_; (repeat first | refine Z1 ?_ | refine Z0 ?_ | refine ZB ?_ | refine ZC ?_ | refine Zd ?_ | refine Zl ?_ | refine ZA (γ := 100) ?_ | refine Zn ?_ | refine Zq ?_ | refine Zo ?_); refine JD ?_)
  exact X1 ⟨_, Xe 10 (y := ab false) (AVal.le_of_eq (by refine Eq.trans (b := ab (decide (((XG l).length : Int) = 0))) rfl ?_; exact congrArg ab (decide_eq_false (by rw [hlen]; exact hl')))), ⟨rfl, trivial⟩, X2 _⟩
 rw [show (decide (n = 0) && decide (d = 0) && decide (l.length = 0)) = true by simp [*]]
 repeat first | refine X0 ?_ | (refine JR ?_; (repeat first | refine Z1 ?_ | refine Z0 ?_ | refine ZB ?_ | refine ZC ?_ | refine Zd ?_ | refine Zl ?_ | refine ZA (γ := 100) ?_ | refine Zn ?_ | refine Zq ?_ | refine Zo ?_); refine JD ?_)
 exact X1 ⟨_, Xe 10 (y := ab true) (AVal.le_of_eq (by refine Eq.trans (b := ab (decide (((XG l).length : Int) = 0))) rfl ?_; exact congrArg ab (decide_eq_true (by omega)))), ⟨rfl, trivial⟩, X2 _⟩
theorem X4I (k n d : Int) (s : List UInt8) (l : List Val) : Con Tryz.prog 199 [] [Xn (.mk k n d s l), ab false, ab false, ab false, ab true] [] (ab (decide (n = 0) && decide (d = 0) && decide (s = []))) := by
 refine X9 (xs := [ab (decide (n = 0) && decide (d = 0) && decide (s = []))]) Tryz.func199 rfl Tryz.ntmps199 rfl rfl rfl (fun E => ?_)
 have hlen := UE l
 by_cases hn : n = 0
 case neg =>
  rw [show (decide (n = 0) && decide (d = 0) && decide (s = [])) = false by simp [*]]
  repeat first | refine X0 ?_ | (refine JR ?_; (repeat first | refine Z1 ?_ | refine Z0 ?_ | refine ZB ?_ | refine ZC ?_ | refine Zl ?_ | refine ZA (γ := 100) ?_ | refine Zq ?_ | refine Zo ?_ | refine Zp ?_); refine JD ?_)
  exact X1 ⟨_, St.le_refl _, ⟨rfl, trivial⟩, X2 _⟩
 by_cases hd : d = 0
 case neg =>
  rw [show (decide (n = 0) && decide (d = 0) && decide (s = [])) = false by simp [*]]
  repeat first | refine X0 ?_ | (refine JR ?_; (repeat first | refine Z1 ?_ | refine Z0 ?_ | refine ZB ?_ | refine ZC ?_ | refine Zl ?_ | refine ZA (γ := 100) ?_ | refine Zn ?_ | refine Zq ?_ | refine Zo ?_ | refine Zp ?_); refine JD ?_)
  exact X1 ⟨_, St.le_refl _, ⟨rfl, trivial⟩, X2 _⟩
 by_cases hs : s = []
 case neg =>
  rw [show (decide (n = 0) && decide (d = 0) && decide (s = [])) = false by simp [*]]
  repeat first | refine X0 ?_ | (refine JR ?_; (repeat first | refine Z1 ?_ | refine Z0 ?_ | refine ZB ?_ | refine ZC ?_ | refine Zl ?_ | refine Zr ?_ | refine ZA (γ := 100) ?_ | refine Zn ?_ | refine Zq ?_ | refine Zo ?_ | refine Zp ?_); refine JD ?_)
  exact X1 ⟨_, St.le_refl _, ⟨rfl, trivial⟩, X2 _⟩
 rw [show (decide (n = 0) && decide (d = 0) && decide (s = [])) = true by simp [*]]
 repeat first | refine X0 ?_ | (refine JR ?_; (repeat first | refine Z1 ?_ | refine Z0 ?_ | refine ZB ?_ | refine ZC ?_ | refine Zl ?_ | refine Zr ?_ | refine ZA (γ := 100) ?_ | refine Zn ?_ | refine Zq ?_ | refine Zo ?_); refine JD ?_)
 exact X1 ⟨_, St.le_refl _, ⟨rfl, trivial⟩, X2 _⟩
end Go.Fw
namespace Go.Fw
open Go Go.Proofs
set_option maxRecDepth 100000
set_option linter.unusedVariables false
set_option linter.unusedSimpArgs false
theorem X8a (v : Val) (hok : XY v) (ih : ∀ x ∈ v.l, X0N x) : X0N v := by
 obtain ⟨k, n, d, s, l⟩ := v
 intro m hm
 rw [XY] at hok
 simp only [Val.l] at ih
 refine X9 (xs := [ab (X5 m (.mk k n d s l))]) Tryz.func140 rfl Tryz.ntmps140 rfl rfl rfl (fun E => ?_)
 have hlen := UE l
 by_cases hk0 : k = 0
 ·subst hk0
  have hb := Xak 0 n d s l
  by_cases hn0 : n = 0
  case neg =>
   rw [show (decide (n = 0) && decide (d = 0) && decide (s = []) && decide (l.length = 0)) = false by simp [*]] at hb
   rw [show X5 m (.mk 0 n d s l) = false by rw [X5]; simp [*]]
   refine X0 ?_; refine JR ?_; refine ZA (γ := 100) ?_; refine Z0 ?_; refine JD ?_; refine X0 ?_; refine X0 ?_; refine JR ?_; refine ZB ?_; refine ZC ?_; refine JD ?_; refine X4 ?_; refine X0 ?_
   refine JR ?_; refine Zl ?_; refine Z0 ?_; refine JD ?_; refine JT ?_; refine X0 ?_; refine JR ?_; refine ZL ?_; refine Z9 (hcon := hb) ?_; refine Z0 ?_; refine JD ?_
   exact X1 ⟨_, St.le_refl _, ⟨rfl, trivial⟩, X2 _⟩
  by_cases hd0 : d = 0
  case neg =>
   rw [show (decide (n = 0) && decide (d = 0) && decide (s = []) && decide (l.length = 0)) = false by simp [*]] at hb
   rw [show X5 m (.mk 0 n d s l) = false by rw [X5]; simp [*]]
   refine X0 ?_; refine JR ?_; refine ZA (γ := 100) ?_; refine Z0 ?_; refine JD ?_; refine X0 ?_; refine X0 ?_; refine JR ?_; refine ZB ?_; refine ZC ?_; refine JD ?_; refine X4 ?_; refine X0 ?_
   refine JR ?_; refine Zl ?_; refine Z0 ?_; refine JD ?_; refine JT ?_; refine X0 ?_; refine JR ?_; refine ZL ?_; refine Z9 (hcon := hb) ?_; refine Z0 ?_; refine JD ?_
   exact X1 ⟨_, St.le_refl _, ⟨rfl, trivial⟩, X2 _⟩
  by_cases hs0 : s = []
  case neg =>
   rw [show (decide (n = 0) && decide (d = 0) && decide (s = []) && decide (l.length = 0)) = false by simp [*]] at hb
   rw [show X5 m (.mk 0 n d s l) = false by rw [X5]; simp [*]]
   refine X0 ?_; refine JR ?_; refine ZA (γ := 100) ?_; refine Z0 ?_; refine JD ?_; refine X0 ?_; refine X0 ?_; refine JR ?_; refine ZB ?_; refine ZC ?_; refine JD ?_; refine X4 ?_; refine X0 ?_
   refine JR ?_; refine Zl ?_; refine Z0 ?_; refine JD ?_; refine JT ?_; refine X0 ?_; refine JR ?_; refine ZL ?_; refine Z9 (hcon := hb) ?_; refine Z0 ?_; refine JD ?_
   exact X1 ⟨_, St.le_refl _, ⟨rfl, trivial⟩, X2 _⟩
  by_cases hl0 : l.length = 0
  case neg =>
   rw [show (decide (n = 0) && decide (d = 0) && decide (s = []) && decide (l.length = 0)) = false by simp [*]] at hb
   have hl1 : 0 < l.length := by omega
   rw [show X5 m (.mk 0 n d s l) = false by rw [X5]; simp [*]]
   refine X0 ?_; refine JR ?_; refine ZA (γ := 100) ?_; refine Z0 ?_; refine JD ?_; refine X0 ?_; refine X0 ?_; refine JR ?_; refine ZB ?_; refine ZC ?_; refine JD ?_; refine X4 ?_; refine X0 ?_
   refine JR ?_; refine Zl ?_; refine Z0 ?_; refine JD ?_; refine JT ?_; refine X0 ?_; refine JR ?_; refine ZL ?_; refine Z9 (hcon := hb) ?_; refine Z0 ?_; refine JD ?_
   exact X1 ⟨_, St.le_refl _, ⟨rfl, trivial⟩, X2 _⟩
  rw [show (decide (n = 0) && decide (d = 0) && decide (s = []) && decide (l.length = 0)) = true by simp [*]] at hb
  rw [show X5 m (.mk 0 n d s l) = true by rw [X5]; simp [*]]
  refine X0 ?_; refine JR ?_; refine ZA (γ := 100) ?_; refine Z0 ?_; refine JD ?_; refine X0 ?_; refine X0 ?_; refine JR ?_; refine ZB ?_; refine ZC ?_; refine JD ?_; refine X4 ?_; refine X0 ?_
  refine JR ?_; refine Zl ?_; refine Z0 ?_; refine JD ?_; refine JT ?_; refine X0 ?_; refine JR ?_; refine ZL ?_; refine Z9 (hcon := hb) ?_; refine Z0 ?_; refine JD ?_
  exact X1 ⟨_, St.le_refl _, ⟨rfl, trivial⟩, X2 _⟩
 by_cases hk1 : k = 1
 ·subst hk1
  have hb := X2b 1 n d s l
  by_cases hd0 : d = 0
  case neg =>
   rw [show (decide (d = 0) && decide (s = []) && decide (l.length = 0)) = false by simp [*]] at hb
   rw [show X5 m (.mk 1 n d s l) = false by rw [X5]; simp [*]]
   refine X0 ?_; refine JR ?_; refine ZA (γ := 100) ?_; refine Z0 ?_; refine JD ?_; refine X0 ?_; refine X0 ?_; refine JR ?_; refine ZB ?_; refine ZC ?_; refine JD ?_; refine X4 ?_; refine X0 ?_
   refine JR ?_; refine Zl ?_; refine Z0 ?_; refine JD ?_; refine JF ?_; refine X0 ?_; refine JR ?_; refine Zl ?_; refine Z0 ?_; refine JD ?_; refine JT ?_; refine X0 ?_; refine JR ?_; refine ZL ?_
   refine Z9 (hcon := hb) ?_; refine Z1 ?_; refine Zo ?_; refine Zo ?_; refine Zo ?_; refine Zo ?_; refine Zp ?_; refine Zp ?_; refine Zp ?_; refine Zo ?_; refine Zq ?_; refine Z0 ?_; refine JD ?_
   exact X1 ⟨_, St.le_refl _, ⟨rfl, trivial⟩, X2 _⟩
  by_cases hs0 : s = []
  case neg =>
   rw [show (decide (d = 0) && decide (s = []) && decide (l.length = 0)) = false by simp [*]] at hb
   rw [show X5 m (.mk 1 n d s l) = false by rw [X5]; simp [*]]
   refine X0 ?_; refine JR ?_; refine ZA (γ := 100) ?_; refine Z0 ?_; refine JD ?_; refine X0 ?_; refine X0 ?_; refine JR ?_; refine ZB ?_; refine ZC ?_; refine JD ?_; refine X4 ?_; refine X0 ?_
   refine JR ?_; refine Zl ?_; refine Z0 ?_; refine JD ?_; refine JF ?_; refine X0 ?_; refine JR ?_; refine Zl ?_; refine Z0 ?_; refine JD ?_; refine JT ?_; refine X0 ?_; refine JR ?_; refine ZL ?_
   refine Z9 (hcon := hb) ?_; refine Z1 ?_; refine Zo ?_; refine Zo ?_; refine Zo ?_; refine Zo ?_; refine Zp ?_; refine Zp ?_; refine Zp ?_; refine Zo ?_; refine Zq ?_; refine Z0 ?_; refine JD ?_
   exact X1 ⟨_, St.le_refl _, ⟨rfl, trivial⟩, X2 _⟩
  by_cases hl0 : l.length = 0
  case neg =>
   rw [show (decide (d = 0) && decide (s = []) && decide (l.length = 0)) = false by simp [*]] at hb
   have hl1 : 0 < l.length := by omega
   rw [show X5 m (.mk 1 n d s l) = false by rw [X5]; simp [*]]
   refine X0 ?_; refine JR ?_; refine ZA (γ := 100) ?_; refine Z0 ?_; refine JD ?_; refine X0 ?_; refine X0 ?_; refine JR ?_; refine ZB ?_; refine ZC ?_; refine JD ?_; refine X4 ?_; refine X0 ?_
   refine JR ?_; refine Zl ?_; refine Z0 ?_; refine JD ?_; refine JF ?_; refine X0 ?_; refine JR ?_; refine Zl ?_; refine Z0 ?_; refine JD ?_; refine JT ?_; refine X0 ?_; refine JR ?_; refine ZL ?_
   refine Z9 (hcon := hb) ?_; refine Z1 ?_; refine Zo ?_; refine Zo ?_; refine Zo ?_; refine Zo ?_; refine Zp ?_; refine Zp ?_; refine Zp ?_; refine Zo ?_; refine Zq ?_; refine Z0 ?_; refine JD ?_
   exact X1 ⟨_, St.le_refl _, ⟨rfl, trivial⟩, X2 _⟩
  rw [show (decide (d = 0) && decide (s = []) && decide (l.length = 0)) = true by simp [*]] at hb
  by_cases hn : n = 0
  ·rw [show X5 m (.mk 1 n d s l) = true by rw [X5]; simp [*]]
   repeat first | refine X0 ?_ | (refine JR ?_; (repeat first | refine Z1 ?_ | refine Z0 ?_ | refine ZB ?_ | refine ZC ?_ | refine ZL ?_ | refine Zl ?_ | refine ZA (γ := 100) ?_ | refine Zn ?_ | refine Zo ?_ | refine Z9 (hcon := hb) ?_); refine JD ?_) | refine JT ?_ | refine JF ?_ | refine X4 ?_
   exact X1 ⟨_, St.le_refl _, ⟨rfl, trivial⟩, X2 _⟩
  by_cases hn1 : n = 1
  ·rw [show X5 m (.mk 1 n d s l) = true by rw [X5]; simp [*]]
   repeat first | refine X0 ?_ | (refine JR ?_; (repeat first | refine Z1 ?_ | refine Z0 ?_ | refine ZB ?_ | refine ZC ?_ | refine ZL ?_ | refine Zl ?_ | refine ZA (γ := 100) ?_ | refine Zn ?_ | refine Zq ?_ | refine Z9 (hcon := hb) ?_); refine JD ?_) | refine JT ?_ | refine JF ?_ | refine X4 ?_
   exact X1 ⟨_, Xe 4 (y := ab true) (AVal.le_of_eq (by refine Eq.trans (b := ab (decide (n = 1))) rfl ?_; exact congrArg ab (decide_eq_true hn1))), ⟨rfl, trivial⟩, X2 _⟩
  ·rw [show X5 m (.mk 1 n d s l) = false by rw [X5]; simp [*]]
   repeat first | refine X0 ?_ | (refine JR ?_; (repeat first | refine Z1 ?_ | refine Z0 ?_ | refine ZB ?_ | refine ZC ?_ | refine ZL ?_ | refine Zl ?_ | refine ZA (γ := 100) ?_ | refine Zn ?_ | refine Zq ?_ | refine Z9 (hcon := hb) ?_); refine JD ?_) | refine JT ?_ | refine JF ?_ | refine X4 ?_
   exact X1 ⟨_, Xe 4 (y := ab false) (AVal.le_of_eq (by refine Eq.trans (b := ab (decide (n = 1))) rfl ?_; exact congrArg ab (decide_eq_false hn1))), ⟨rfl, trivial⟩, X2 _⟩
 by_cases hk2 : k = 2
 ·subst hk2
  have hb := X2b 2 n d s l
  by_cases hd0 : d = 0
  case neg =>
   rw [show (decide (d = 0) && decide (s = []) && decide (l.length = 0)) = false by simp [*]] at hb
   rw [show X5 m (.mk 2 n d s l) = false by rw [X5]; simp [*]]
   repeat first | refine X0 ?_ | (refine JR ?_; (repeat first | refine Z1 ?_ | refine Z0 ?_ | refine ZB ?_ | refine ZC ?_ | refine ZL ?_ | refine Zl ?_ | refine ZA (γ := 100) ?_ | refine Zq ?_ | refine Zo ?_ | refine Z9 (hcon := hb) ?_); refine JD ?_) | refine JT ?_ | refine JF ?_ | refine X4 ?_
   exact X1 ⟨_, St.le_refl _, ⟨rfl, trivial⟩, X2 _⟩
  by_cases hs0 : s = []
  case neg =>
   rw [show (decide (d = 0) && decide (s = []) && decide (l.length = 0)) = false by simp [*]] at hb
   rw [show X5 m (.mk 2 n d s l) = false by rw [X5]; simp [*]]
   repeat first | refine X0 ?_ | (refine JR ?_; (repeat first | refine Z1 ?_ | refine Z0 ?_ | refine ZB ?_ | refine ZC ?_ | refine ZL ?_ | refine Zl ?_ | refine ZA (γ := 100) ?_ | refine Zq ?_ | refine Zo ?_ | refine Z9 (hcon := hb) ?_); refine JD ?_) | refine JT ?_ | refine JF ?_ | refine X4 ?_
   exact X1 ⟨_, St.le_refl _, ⟨rfl, trivial⟩, X2 _⟩
  by_cases hl0 : l.length = 0
  case neg =>
   rw [show (decide (d = 0) && decide (s = []) && decide (l.length = 0)) = false by simp [*]] at hb
   have hl1 : 0 < l.length := by omega
   rw [show X5 m (.mk 2 n d s l) = false by rw [X5]; simp [*]]
   repeat first | refine X0 ?_ | (refine JR ?_; (repeat first | refine Z1 ?_ | refine Z0 ?_ | refine ZB ?_ | refine ZC ?_ | refine ZL ?_ | refine Zl ?_ | refine ZA (γ := 100) ?_ | refine Zq ?_ | refine Zo ?_ | refine Z9 (hcon := hb) ?_); refine JD ?_) | refine JT ?_ | refine JF ?_ | refine X4 ?_
   exact X1 ⟨_, St.le_refl _, ⟨rfl, trivial⟩, X2 _⟩
  rw [show (decide (d = 0) && decide (s = []) && decide (l.length = 0)) = true by simp [*]] at hb
  rw [show X5 m (.mk 2 n d s l) = inV n by rw [X5]; simp [inV, *]]
  repeat first | refine X0 ?_ | (refine JR ?_; (repeat first | refine Z1 ?_ | refine Z0 ?_ | refine ZB ?_ | refine ZC ?_ | refine ZL ?_ | refine Zl ?_ | refine ZA (γ := 100) ?_ | refine Zn ?_ | refine Z9 (hcon := hb) ?_ | refine Z9 (hcon := X7v n) ?_); refine JD ?_) | refine JT ?_ | refine JF ?_ | refine X4 ?_
  exact X1 ⟨_, St.le_refl _, ⟨rfl, trivial⟩, X2 _⟩
 by_cases hk3 : k = 3
 ·subst hk3
  have hb := Xaz 3 n d s l
  by_cases hs0 : s = []
  case neg =>
   rw [show (decide (s = []) && decide (l.length = 0)) = false by simp [*]] at hb
   rw [show X5 m (.mk 3 n d s l) = false by rw [X5]; simp [*]]
   repeat first | refine X0 ?_ | (refine JR ?_; (repeat first | refine Z1 ?_ | refine Z0 ?_ | refine ZB ?_ | refine ZC ?_ | refine ZL ?_ | refine Zl ?_ | refine ZA (γ := 100) ?_ | refine Zq ?_ | refine Zo ?_ | refine Z9 (hcon := hb) ?_); refine JD ?_) | refine JT ?_ | refine JF ?_ | refine X4 ?_
   exact X1 ⟨_, St.le_refl _, ⟨rfl, trivial⟩, X2 _⟩
  by_cases hl0 : l.length = 0
  case neg =>
   rw [show (decide (s = []) && decide (l.length = 0)) = false by simp [*]] at hb
   have hl1 : 0 < l.length := by omega
   rw [show X5 m (.mk 3 n d s l) = false by rw [X5]; simp [*]]
   repeat first | refine X0 ?_ | (refine JR ?_; (repeat first | refine Z1 ?_ | refine Z0 ?_ | refine ZB ?_ | refine ZC ?_ | refine ZL ?_ | refine Zl ?_ | refine ZA (γ := 100) ?_ | refine Zq ?_ | refine Zo ?_ | refine Z9 (hcon := hb) ?_); refine JD ?_) | refine JT ?_ | refine JF ?_ | refine X4 ?_
   exact X1 ⟨_, St.le_refl _, ⟨rfl, trivial⟩, X2 _⟩
  rw [show (decide (s = []) && decide (l.length = 0)) = true by simp [*]] at hb
  by_cases hd : 2 ≤ d
  ·rw [show X5 m (.mk 3 n d s l) = YN n d by rw [X5]; simp [*]]
   repeat first | refine X0 ?_ | (refine JR ?_; (repeat first | refine Z1 ?_ | refine Z0 ?_ | refine ZB ?_ | refine ZC ?_ | refine ZL ?_ | refine Z2 ?_ | refine Zl ?_ | refine ZA (γ := 100) ?_ | refine Zx ?_ | refine Zn ?_ | refine Z9 (hcon := hb) ?_ | refine Z9 (hcon := X1P n d) ?_); refine JD ?_) | refine JT ?_ | refine JF ?_ | refine X4 ?_
   exact X1 ⟨_, St.le_refl _, ⟨rfl, trivial⟩, X2 _⟩
  ·rw [show X5 m (.mk 3 n d s l) = false by rw [X5]; simp [*]]
   repeat first | refine X0 ?_ | (refine JR ?_; (repeat first | refine Z1 ?_ | refine Z0 ?_ | refine ZB ?_ | refine ZC ?_ | refine ZL ?_ | refine Z2 ?_ | refine Zl ?_ | refine ZA (γ := 100) ?_ | refine Zn ?_ | refine Zq ?_ | refine Zo ?_ | refine Z9 (hcon := hb) ?_); refine JD ?_) | refine JT ?_ | refine JF ?_ | refine X4 ?_
   exact X1 ⟨_, St.le_refl _, ⟨rfl, trivial⟩, X2 _⟩
 by_cases hk4 : k = 4
 ·subst hk4
  have hb := X7F 4 n d s l
  by_cases hn0 : n = 0
  case neg =>
   rw [show (decide (n = 0) && decide (d = 0) && decide (l.length = 0)) = false by simp [*]] at hb
   rw [show X5 m (.mk 4 n d s l) = false by rw [X5]; simp [*]]
   repeat first | refine X0 ?_ | (refine JR ?_; (repeat first | refine Z1 ?_ | refine Z0 ?_ | refine ZB ?_ | refine ZC ?_ | refine ZL ?_ | refine Zl ?_ | refine ZA (γ := 100) ?_ | refine Zq ?_ | refine Zo ?_ | refine Z9 (hcon := hb) ?_); refine JD ?_) | refine JT ?_ | refine JF ?_ | refine X4 ?_
   exact X1 ⟨_, St.le_refl _, ⟨rfl, trivial⟩, X2 _⟩
  by_cases hd0 : d = 0
  case neg =>
   rw [show (decide (n = 0) && decide (d = 0) && decide (l.length = 0)) = false by simp [*]] at hb
   rw [show X5 m (.mk 4 n d s l) = false by rw [X5]; simp [*]]
   repeat first | refine X0 ?_ | (refine JR ?_; (repeat first | refine Z1 ?_ | refine Z0 ?_ | refine ZB ?_ | refine ZC ?_ | refine ZL ?_ | refine Zl ?_ | refine ZA (γ := 100) ?_ | refine Zq ?_ | refine Zo ?_ | refine Z9 (hcon := hb) ?_); refine JD ?_) | refine JT ?_ | refine JF ?_ | refine X4 ?_
   exact X1 ⟨_, St.le_refl _, ⟨rfl, trivial⟩, X2 _⟩
  by_cases hl0 : l.length = 0
  case neg =>
   rw [show (decide (n = 0) && decide (d = 0) && decide (l.length = 0)) = false by simp [*]] at hb
   have hl1 : 0 < l.length := by omega
   rw [show X5 m (.mk 4 n d s l) = false by rw [X5]; simp [*]]
   repeat first | refine X0 ?_ | (refine JR ?_; (repeat first | refine Z1 ?_ | refine Z0 ?_ | refine ZB ?_ | refine ZC ?_ | refine ZL ?_ | refine Zl ?_ | refine ZA (γ := 100) ?_ | refine Zq ?_ | refine Zo ?_ | refine Z9 (hcon := hb) ?_); refine JD ?_) | refine JT ?_ | refine JF ?_ | refine X4 ?_
   exact X1 ⟨_, St.le_refl _, ⟨rfl, trivial⟩, X2 _⟩
  rw [show (decide (n = 0) && decide (d = 0) && decide (l.length = 0)) = true by simp [*]] at hb
  rw [show X5 m (.mk 4 n d s l) = (YM s && decide (s.length ≤ 100)) by rw [X5]; simp [*, Bool.and_comm]]
  repeat first | refine X0 ?_ | (refine JR ?_; (repeat first | refine Z1 ?_ | refine Z0 ?_ | refine ZB ?_ | refine ZC ?_ | refine ZL ?_ | refine Zl ?_ | refine ZA (γ := 100) ?_ | refine Zn ?_ | refine Z9 (hcon := hb) ?_ | refine Z9 (hcon := X8x s hok.1) ?_); refine JD ?_) | refine JT ?_ | refine JF ?_ | refine X4 ?_
  exact X1 ⟨_, St.le_refl _, ⟨rfl, trivial⟩, X2 _⟩
 by_cases hk5 : k = 5
 ·subst hk5
  have hb := X2b 5 n d s l
  by_cases hd0 : d = 0
  case neg =>
   rw [show (decide (d = 0) && decide (s = []) && decide (l.length = 0)) = false by simp [*]] at hb
   rw [show X5 m (.mk 5 n d s l) = false by rw [X5]; simp [*]]
   repeat first | refine X0 ?_ | (refine JR ?_; (repeat first | refine Z1 ?_ | refine Z0 ?_ | refine ZB ?_ | refine ZC ?_ | refine ZL ?_ | refine Zl ?_ | refine ZA (γ := 100) ?_ | refine Zq ?_ | refine Zo ?_ | refine Z9 (hcon := hb) ?_); refine JD ?_) | refine JT ?_ | refine JF ?_ | refine X4 ?_ | refine X3 ?_
   exact X1 ⟨_, St.le_refl _, ⟨rfl, trivial⟩, X2 _⟩
  by_cases hs0 : s = []
  case neg =>
   rw [show (decide (d = 0) && decide (s = []) && decide (l.length = 0)) = false by simp [*]] at hb
   rw [show X5 m (.mk 5 n d s l) = false by rw [X5]; simp [*]]
   repeat first | refine X0 ?_ | (refine JR ?_; (repeat first | refine Z1 ?_ | refine Z0 ?_ | refine ZB ?_ | refine ZC ?_ | refine ZL ?_ | refine Zl ?_ | refine ZA (γ := 100) ?_ | refine Zq ?_ | refine Zo ?_ | refine Z9 (hcon := hb) ?_); refine JD ?_) | refine JT ?_ | refine JF ?_ | refine X4 ?_ | refine X3 ?_
   exact X1 ⟨_, St.le_refl _, ⟨rfl, trivial⟩, X2 _⟩
  by_cases hl0 : l.length = 0
  case neg =>
   rw [show (decide (d = 0) && decide (s = []) && decide (l.length = 0)) = false by simp [*]] at hb
   have hl1 : 0 < l.length := by omega
   rw [show X5 m (.mk 5 n d s l) = false by rw [X5]; simp [*]]
   repeat first | refine X0 ?_ | (refine JR ?_; (repeat first | refine Z1 ?_ | refine Z0 ?_ | refine ZB ?_ | refine ZC ?_ | refine ZL ?_ | refine Zl ?_ | refine ZA (γ := 100) ?_ | refine Zq ?_ | refine Zo ?_ | refine Z9 (hcon := hb) ?_); refine JD ?_) | refine JT ?_ | refine JF ?_ | refine X4 ?_ | refine X3 ?_
   exact X1 ⟨_, St.le_refl _, ⟨rfl, trivial⟩, X2 _⟩
  rw [show (decide (d = 0) && decide (s = []) && decide (l.length = 0)) = true by simp [*]] at hb
  by_cases hn : 1 ≤ n
  case neg =>
   rw [show X5 m (.mk 5 n d s l) = false by rw [X5]; simp [*]]
   repeat first | refine X0 ?_ | (refine JR ?_; (repeat first | refine Z1 ?_ | refine Z0 ?_ | refine ZB ?_ | refine ZC ?_ | refine ZL ?_ | refine Z2 ?_ | refine Zl ?_ | refine ZA (γ := 100) ?_ | refine Zn ?_ | refine Zq ?_ | refine Zo ?_ | refine Z9 (hcon := hb) ?_); refine JD ?_) | refine JT ?_ | refine JF ?_ | refine X4 ?_ | refine X3 ?_
   exact X1 ⟨_, St.le_refl _, ⟨rfl, trivial⟩, X2 _⟩
  rw [show X5 m (.mk 5 n d s l) = decide (n ≤ 1000000) by rw [X5]; simp [*]]
  repeat first | refine X0 ?_ | (refine JR ?_; (repeat first | refine Z1 ?_ | refine Z0 ?_ | refine ZB ?_ | refine ZC ?_ | refine ZL ?_ | refine Zm ?_ | refine Z2 ?_ | refine Zl ?_ | refine ZA (γ := 100) ?_ | refine Zn ?_ | refine Z9 (hcon := hb) ?_); refine JD ?_) | refine JT ?_ | refine JF ?_ | refine X4 ?_ | refine X3 ?_
  exact X1 ⟨_, St.le_refl _, ⟨rfl, trivial⟩, X2 _⟩
 by_cases hk6 : k = 6
 ·subst hk6
  have hb := X2b 6 n d s l
  by_cases hd0 : d = 0
  case neg =>
   rw [show (decide (d = 0) && decide (s = []) && decide (l.length = 0)) = false by simp [*]] at hb
   rw [show X5 m (.mk 6 n d s l) = false by rw [X5]; simp [*]]
   repeat first | refine X0 ?_ | (refine JR ?_; (repeat first | refine Z1 ?_ | refine Z0 ?_ | refine ZB ?_ | refine ZC ?_ | refine ZL ?_ | refine Zl ?_ | refine ZA (γ := 100) ?_ | refine Zq ?_ | refine Zo ?_ | refine Z9 (hcon := hb) ?_); refine JD ?_) | refine JT ?_ | refine JF ?_ | refine X4 ?_
   exact X1 ⟨_, St.le_refl _, ⟨rfl, trivial⟩, X2 _⟩
  by_cases hs0 : s = []
  case neg =>
   rw [show (decide (d = 0) && decide (s = []) && decide (l.length = 0)) = false by simp [*]] at hb
   rw [show X5 m (.mk 6 n d s l) = false by rw [X5]; simp [*]]
   repeat first | refine X0 ?_ | (refine JR ?_; (repeat first | refine Z1 ?_ | refine Z0 ?_ | refine ZB ?_ | refine ZC ?_ | refine ZL ?_ | refine Zl ?_ | refine ZA (γ := 100) ?_ | refine Zq ?_ | refine Zo ?_ | refine Z9 (hcon := hb) ?_); refine JD ?_) | refine JT ?_ | refine JF ?_ | refine X4 ?_
   exact X1 ⟨_, St.le_refl _, ⟨rfl, trivial⟩, X2 _⟩
  by_cases hl0 : l.length = 0
  case neg =>
   rw [show (decide (d = 0) && decide (s = []) && decide (l.length = 0)) = false by simp [*]] at hb
   have hl1 : 0 < l.length := by omega
   rw [show X5 m (.mk 6 n d s l) = false by rw [X5]; simp [*]]
   repeat first | refine X0 ?_ | (refine JR ?_; (repeat first | refine Z1 ?_ | refine Z0 ?_ | refine ZB ?_ | refine ZC ?_ | refine ZL ?_ | refine Zl ?_ | refine ZA (γ := 100) ?_ | refine Zq ?_ | refine Zo ?_ | refine Z9 (hcon := hb) ?_); refine JD ?_) | refine JT ?_ | refine JF ?_ | refine X4 ?_
   exact X1 ⟨_, St.le_refl _, ⟨rfl, trivial⟩, X2 _⟩
  rw [show (decide (d = 0) && decide (s = []) && decide (l.length = 0)) = true by simp [*]] at hb
  by_cases hn : 1 ≤ n
  case neg =>
   rw [show X5 m (.mk 6 n d s l) = false by rw [X5]; simp [*]]
   repeat first | refine X0 ?_ | (refine JR ?_; (repeat first | refine Z1 ?_ | refine Z0 ?_ | refine ZB ?_ | refine ZC ?_ | refine ZL ?_ | refine Z2 ?_ | refine Zl ?_ | refine ZA (γ := 100) ?_ | refine Zn ?_ | refine Zq ?_ | refine Zo ?_ | refine Z9 (hcon := hb) ?_); refine JD ?_) | refine JT ?_ | refine JF ?_ | refine X4 ?_
   exact X1 ⟨_, St.le_refl _, ⟨rfl, trivial⟩, X2 _⟩
  rw [show X5 m (.mk 6 n d s l) = decide (n ≤ 1000000) by rw [X5]; simp [*]]
  repeat first | refine X0 ?_ | (refine JR ?_; (repeat first | refine Z1 ?_ | refine Z0 ?_ | refine ZB ?_ | refine ZC ?_ | refine ZL ?_ | refine Zm ?_ | refine Z2 ?_ | refine Zl ?_ | refine ZA (γ := 100) ?_ | refine Zn ?_ | refine Z9 (hcon := hb) ?_); refine JD ?_) | refine JT ?_ | refine JF ?_ | refine X4 ?_
  exact X1 ⟨_, St.le_refl _, ⟨rfl, trivial⟩, X2 _⟩
 by_cases hk7 : k = 7
 ·subst hk7
  have hb := X4I 7 n d s l
  by_cases hn0 : n = 0
  case neg =>
   rw [show (decide (n = 0) && decide (d = 0) && decide (s = [])) = false by simp [*]] at hb
   rw [show X5 m (.mk 7 n d s l) = false by rw [X5]; simp [*]]
   repeat first | refine X0 ?_ | (refine JR ?_; (repeat first | refine Z1 ?_ | refine Z0 ?_ | refine ZB ?_ | refine ZC ?_ | refine ZL ?_ | refine Zl ?_ | refine ZA (γ := 100) ?_ | refine Zq ?_ | refine Zo ?_ | refine Z9 (hcon := hb) ?_); refine JD ?_) | refine JT ?_ | refine JF ?_ | refine X4 ?_
   exact X1 ⟨_, St.le_refl _, ⟨rfl, trivial⟩, X2 _⟩
  by_cases hd0 : d = 0
  case neg =>
   rw [show (decide (n = 0) && decide (d = 0) && decide (s = [])) = false by simp [*]] at hb
   rw [show X5 m (.mk 7 n d s l) = false by rw [X5]; simp [*]]
   repeat first | refine X0 ?_ | (refine JR ?_; (repeat first | refine Z1 ?_ | refine Z0 ?_ | refine ZB ?_ | refine ZC ?_ | refine ZL ?_ | refine Zl ?_ | refine ZA (γ := 100) ?_ | refine Zq ?_ | refine Zo ?_ | refine Z9 (hcon := hb) ?_); refine JD ?_) | refine JT ?_ | refine JF ?_ | refine X4 ?_
   exact X1 ⟨_, St.le_refl _, ⟨rfl, trivial⟩, X2 _⟩
  by_cases hs0 : s = []
  case neg =>
   rw [show (decide (n = 0) && decide (d = 0) && decide (s = [])) = false by simp [*]] at hb
   rw [show X5 m (.mk 7 n d s l) = false by rw [X5]; simp [*]]
   repeat first | refine X0 ?_ | (refine JR ?_; (repeat first | refine Z1 ?_ | refine Z0 ?_ | refine ZB ?_ | refine ZC ?_ | refine ZL ?_ | refine Zl ?_ | refine ZA (γ := 100) ?_ | refine Zq ?_ | refine Zo ?_ | refine Z9 (hcon := hb) ?_); refine JD ?_) | refine JT ?_ | refine JF ?_ | refine X4 ?_
   exact X1 ⟨_, St.le_refl _, ⟨rfl, trivial⟩, X2 _⟩
  rw [show (decide (n = 0) && decide (d = 0) && decide (s = [])) = true by simp [*]] at hb
  rw [show X5 m (.mk 7 n d s l) = YB l by rw [X5]; simp [YB, *]]
  repeat first | refine X0 ?_ | (refine JR ?_; (repeat first | refine Z1 ?_ | refine Z0 ?_ | refine ZB ?_ | refine ZC ?_ | refine ZL ?_ | refine Zl ?_ | refine ZA (γ := 100) ?_ | refine Zn ?_ | refine Z9 (hcon := hb) ?_ | refine Z9 (hcon := X7V l hok.2.1 ih) ?_); refine JD ?_) | refine JT ?_ | refine JF ?_ | refine X4 ?_
  exact X1 ⟨_, St.le_refl _, ⟨rfl, trivial⟩, X2 _⟩
 by_cases hk8 : k = 8
 ·subst hk8
  have hb := X4I 8 n d s l
  by_cases hn0 : n = 0
  case neg =>
   rw [show (decide (n = 0) && decide (d = 0) && decide (s = [])) = false by simp [*]] at hb
   rw [show X5 m (.mk 8 n d s l) = false by rw [X5]; simp [*]]
   repeat first | refine X0 ?_ | (refine JR ?_; (repeat first | refine Z1 ?_ | refine Z0 ?_ | refine ZB ?_ | refine ZC ?_ | refine ZL ?_ | refine Zl ?_ | refine ZA (γ := 100) ?_ | refine Zq ?_ | refine Zo ?_ | refine Z9 (hcon := hb) ?_); refine JD ?_) | refine JT ?_ | refine JF ?_ | refine X4 ?_
   exact X1 ⟨_, St.le_refl _, ⟨rfl, trivial⟩, X2 _⟩
  by_cases hd0 : d = 0
  case neg =>
   rw [show (decide (n = 0) && decide (d = 0) && decide (s = [])) = false by simp [*]] at hb
   rw [show X5 m (.mk 8 n d s l) = false by rw [X5]; simp [*]]
   repeat first | refine X0 ?_ | (refine JR ?_; (repeat first | refine Z1 ?_ | refine Z0 ?_ | refine ZB ?_ | refine ZC ?_ | refine ZL ?_ | refine Zl ?_ | refine ZA (γ := 100) ?_ | refine Zq ?_ | refine Zo ?_ | refine Z9 (hcon := hb) ?_); refine JD ?_) | refine JT ?_ | refine JF ?_ | refine X4 ?_
   exact X1 ⟨_, St.le_refl _, ⟨rfl, trivial⟩, X2 _⟩
  by_cases hs0 : s = []
  case neg =>
   rw [show (decide (n = 0) && decide (d = 0) && decide (s = [])) = false by simp [*]] at hb
   rw [show X5 m (.mk 8 n d s l) = false by rw [X5]; simp [*]]
   repeat first | refine X0 ?_ | (refine JR ?_; (repeat first | refine Z1 ?_ | refine Z0 ?_ | refine ZB ?_ | refine ZC ?_ | refine ZL ?_ | refine Zl ?_ | refine ZA (γ := 100) ?_ | refine Zq ?_ | refine Zo ?_ | refine Z9 (hcon := hb) ?_); refine JD ?_) | refine JT ?_ | refine JF ?_ | refine X4 ?_
   exact X1 ⟨_, St.le_refl _, ⟨rfl, trivial⟩, X2 _⟩
  rw [show (decide (n = 0) && decide (d = 0) && decide (s = [])) = true by simp [*]] at hb
  rw [show X5 m (.mk 8 n d s l) = (decide (1 ≤ m ∧ l.length ≤ 64) && YX (m - 1) l) by rw [X5]; simp [*, and_comm]]
  repeat first | refine X0 ?_ | (refine JR ?_; (repeat first | refine Z1 ?_ | refine Z0 ?_ | refine ZB ?_ | refine ZC ?_ | refine ZL ?_ | refine Zl ?_ | refine ZA (γ := 100) ?_ | refine Zn ?_ | refine Z9 (hcon := hb) ?_ | refine Z9 (hcon := X7W l m hm hok.2.1 ih) ?_); refine JD ?_) | refine JT ?_ | refine JF ?_ | refine X4 ?_
  exact X1 ⟨_, St.le_refl _, ⟨rfl, trivial⟩, X2 _⟩
 rw [show X5 m (.mk k n d s l) = false by rw [X5]; simp [*]]
 repeat first | refine X0 ?_ | (refine JR ?_; (repeat first | refine Z0 ?_ | refine ZB ?_ | refine ZC ?_ | refine Zl ?_ | refine ZA (γ := 100) ?_); refine JD ?_) | refine JF ?_ | refine X4 ?_ | refine X3 ?_
 exact X1 ⟨_, St.le_refl _, ⟨rfl, trivial⟩, X2 _⟩
theorem X4G : ∀ v : Val, X8i v
 | .mk k n d s l => fun hok => X8a (.mk k n d s l) hok fun x hx => X4G x (X3k (by rw [XY] at hok; exact hok.2.2) hx)
termination_by v => SizeOf.sizeOf v
decreasing_by
 have h1 := List.sizeOf_lt_of_mem (show x ∈ l from hx)
 simp only [Val.mk.sizeOf_spec]
 omega
theorem VB (v : Val) (hok : XY v) : Con Tryz.prog 88 [] [Xn v] [] (ab (X5 8 v)) := by
 refine X9 (xs := [ab (X5 8 v)]) Tryz.func88 rfl Tryz.ntmps88 rfl rfl rfl (fun E => ?_)
 have h := X4G v hok 8 (by omega)
 obtain ⟨k, n, d, s, l⟩ := v
 simp only [Xn] at h
 refine X0 ?_; refine JR ?_; refine ZA (γ := 100) ?_; refine Z0 ?_; refine JD ?_; refine X0 ?_; refine JR ?_; refine ZL ?_; refine Z9 (hcon := h) ?_; refine Z0 ?_; refine JD ?_
 exact X1 ⟨_, St.le_refl _, ⟨rfl, trivial⟩, X2 _⟩
end Go.Fw
namespace Go.Fw
open Go Go.Proofs
set_option maxRecDepth 100000
set_option linter.unusedVariables false
set_option linter.unusedSimpArgs false
def XK (x y : Int) : Int := if x < y then -1 else if y < x then 1 else 0
theorem X4b (x : Int) : Con Tryz.prog 209 [] [ai x] [] (ab false) := by
 refine X9 (xs := [ab false]) Tryz.func209 rfl Tryz.ntmps209 rfl rfl rfl (fun E => ?_)
 refine X0 ?_; refine JR ?_; refine Z0 ?_; refine JD ?_; refine X0 ?_; refine JR ?_; refine Z1 ?_; refine Z1 ?_; refine Zv ?_; refine Z0 ?_; refine JD ?_
 exact X1 ⟨_, Xe 2 (y := ab false) (AVal.le_of_eq (by refine Eq.trans (b := ab (decide (x ≠ x))) rfl ?_; exact congrArg ab (by simp))), ⟨rfl, trivial⟩, X2 _⟩
theorem X6d (s : List UInt8) : Con Tryz.prog 210 [] [.d (.v (.string (X6 s)))] [] (ab false) := by
 refine X9 (xs := [ab false]) Tryz.func210 rfl Tryz.ntmps210 rfl rfl rfl (fun E => ?_)
 refine X0 ?_; refine JR ?_; refine Z0 ?_; refine JD ?_; refine X0 ?_; refine JR ?_; refine Z1 ?_; refine Z1 ?_; refine ZM ?_; refine Z0 ?_; refine JD ?_
 exact X1 ⟨_, Xe 2 (y := ab false) (AVal.le_of_eq (by refine Eq.trans (b := ab (decide (s ≠ s))) rfl ?_; exact congrArg ab (by simp))), ⟨rfl, trivial⟩, X2 _⟩
theorem X2F (x y : Int) : Con Tryz.prog 154 [] [ai x, ai y] [] (ai (XK x y)) := by
 refine X9 (xs := [ai (XK x y)]) Tryz.func154 rfl Tryz.ntmps154 rfl rfl rfl (fun E => ?_)
 have n1 := X4b x
 have n2 := X4b y
 by_cases h1 : x < y
 ·rw [show XK x y = -1 by simp [XK, h1]]
  repeat first | refine X0 ?_ | (refine JR ?_; (repeat first | refine Z1 ?_ | refine Z0 ?_ | refine Z8 ?_ | refine Z9 (hcon := n1) ?_ | refine Z9 (hcon := n2) ?_); refine JD ?_) | refine JT ?_ | refine JF ?_ | refine X3 ?_
  exact X1 ⟨_, St.le_refl _, ⟨rfl, trivial⟩, X2 _⟩
 by_cases h2 : y < x
 ·rw [show XK x y = 1 by simp [XK, h1, h2]]
  repeat first | refine X0 ?_ | (refine JR ?_; (repeat first | refine Z1 ?_ | refine Z0 ?_ | refine Z8 ?_ | refine Zs ?_ | refine Z9 (hcon := n1) ?_ | refine Z9 (hcon := n2) ?_); refine JD ?_) | refine JT ?_ | refine JF ?_ | refine X3 ?_
  exact X1 ⟨_, St.le_refl _, ⟨rfl, trivial⟩, X2 _⟩
 rw [show XK x y = 0 by simp [XK, h1, h2]]
 repeat first | refine X0 ?_ | (refine JR ?_; (repeat first | refine Z1 ?_ | refine Z0 ?_ | refine Z8 ?_ | refine Zs ?_ | refine Z9 (hcon := n1) ?_ | refine Z9 (hcon := n2) ?_); refine JD ?_) | refine JF ?_ | refine X3 ?_
 exact X1 ⟨_, St.le_refl _, ⟨rfl, trivial⟩, X2 _⟩
abbrev cI (n : Int) : List D := [.v (.int .i64 n)]
def orI : List Int → Int
 | [] => 0
 | x :: r => if x ≠ 0 then x else orI r
theorem X8I {l : List Int} {i : Nat} {x : Int} (h : l[i]? = some x) : orI (l.drop i) = if x ≠ 0 then x else orI (l.drop (i + 1)) := by
 rw [List.drop_eq_getElem_cons (List.getElem?_eq_some_iff.1 h).1, (List.getElem?_eq_some_iff.1 h).2, orI]
theorem XaQ (l : List Int) (hl : l.length ≤ 1000) : Con Tryz.prog 156 [] [.d (.sl 1 (l.map cI))] [] (ai (orI l)) := by
 refine X9 (xs := [ai (orI l)]) Tryz.func156 rfl Tryz.ntmps156 rfl rfl rfl (fun E => ?_)
 have hlm : (l.map cI).length = l.length := by simp
 refine X0 ?_; refine JR ?_; refine Z0 ?_; refine JD ?_; refine X0 ?_; refine JR ?_; refine Z0 ?_; refine JD ?_; refine X0 ?_; refine X0 ?_; refine JR ?_; refine Z1 ?_; refine Zd ?_; refine Z1 ?_
 refine JD ?_; refine X4 ?_
 generalize hG : orI l = G
 refine Xs (fun i : Nat => i ≤ l.length ∧ orI (l.drop i) = G) (fun i => ⟨18, [(3, ai 0), (6, .d (.sl 1 (l.map cI))), (7, ai (l.map cI).length), (8, ai i)], []⟩) (fun i => l.length - i) 0 ⟨by omega, hG⟩
  (X7 rfl ⟨JL, JL, JL, JL, trivial⟩ trivial) ?_
 rintro i ⟨hi, hg⟩
 by_cases hil : i < l.length
 case neg =>
  obtain rfl : i = l.length := by omega
  rw [List.drop_length, orI] at hg
  subst hg
  have hn : ¬ ((l.length : Nat) : Int) < (l.map cI).length := by omega
  refine X0 ?_; refine JR ?_; refine Z8 ?_; refine JD ?_; refine X0 ?_; refine JF ?_; refine Xo ?_; refine X0 ?_; refine JR ?_; refine Z1 ?_; refine Z0 ?_; refine JD ?_
  exact X1 ⟨_, St.le_refl _, ⟨rfl, trivial⟩, X2 _⟩
 have hn : (i : Int) < (l.map cI).length := by omega
 obtain ⟨x, hx⟩ := Xm (l := l) hil
 have hxm : (l.map cI)[i]? = some (cI x) := Xr hx
 rw [X8I hx] at hg
 by_cases h0 : x = 0
 ·rw [if_neg (by simpa using h0)] at hg
  refine X0 ?_; refine JR ?_; refine Z8 ?_; refine JD ?_; refine X0 ?_; refine JT ?_; refine X3 ?_; refine X0 ?_; refine X4 ?_; refine X0 ?_; refine JR ?_; refine Zj ?_; refine Zk ?_
  refine Z0 ?_; refine JD ?_; refine X0 ?_; refine JR ?_; refine Z1 ?_; refine Z1 ?_; refine Zv ?_; refine JD ?_; refine JF ?_; refine X3 ?_; refine JR ?_; refine Zb ?_; refine Z1 ?_; refine JD ?_
  exact ⟨i + 1, ⟨by omega, hg⟩, by omega, X7 rfl ⟨JL, JL, JL, JL, trivial⟩ trivial⟩
 ·rw [if_pos h0] at hg
  subst hg
  refine X0 ?_; refine JR ?_; refine Z8 ?_; refine JD ?_; refine X0 ?_; refine JT ?_; refine X3 ?_; refine X0 ?_; refine X4 ?_; refine X0 ?_; refine JR ?_; refine Zj ?_; refine Zk ?_
  refine Z0 ?_; refine JD ?_; refine X0 ?_; refine JR ?_; refine Z1 ?_; refine Z1 ?_; refine Zv ?_; refine JD ?_; refine JT ?_; refine X0 ?_; refine JR ?_; refine Z1 ?_; refine Z0 ?_; refine JD ?_
  exact X1 ⟨_, St.le_refl _, ⟨rfl, trivial⟩, X2 _⟩
end Go.Fw
namespace Go.Fw
open Go
set_option linter.unusedVariables false
abbrev Xx (x : Nat) : List D := [.v (.int .i64 (x : Int))]
abbrev XP (l : List Nat) : D := .sl 1 (l.map Xx)
def YE : List Nat → Nat
 | [] => 0
 | x :: r => x + 1000 * YE r
def XX : Nat → Nat → List Nat
 | 0, _ => []
 | n + 1, v => v % 1000 :: XX n (v / 1000)
def YT (l : List Nat) : Prop := ∀ d ∈ l, d < 1000
theorem Vz {l : List Nat} (h : YT l) {k x : Nat} (hx : l[k]? = some x) : x < 1000 := h x (List.mem_of_getElem? hx)
theorem Vg : ∀ n v, (XX n v).length = n
 | 0, _ => rfl
 | n + 1, v => by rw [XX, List.length_cons, Vg n]
theorem X0A : ∀ n v, YT (XX n v)
 | 0, _ => fun d h => by simp [XX] at h
 | n + 1, v => fun d h => by
  rw [XX] at h
  rcases List.mem_cons.1 h with rfl | h
  ·exact Nat.mod_lt _ (by omega)
  ·exact X0A n _ d h
theorem X4U : ∀ l : List Nat, YT l → XX l.length (YE l) = l
 | [], _ => rfl
 | x :: r, h => by
  have hx := h x (by simp)
  rw [List.length_cons, XX, YE, show (x + 1000 * YE r) % 1000 = x by omega, show (x + 1000 * YE r) / 1000 = YE r by omega, X4U r fun d hd => h d (by simp [hd])]
theorem X69 : ∀ (l : List Nat) (k x y : Nat), l[k]? = some x → YE (l.set k y) + x * 1000 ^ k = YE l + y * 1000 ^ k
 | [], k, x, y, h => by simp at h
 | z :: r, 0, x, y, h => by
  simp at h
  subst h
  simp only [List.set_cons_zero, YE, Nat.pow_zero, Nat.mul_one]
  omega
 | z :: r, k + 1, x, y, h => by
  have ih := X69 r k x y (by simpa using h)
  simp only [List.set_cons_succ, YE, Nat.pow_succ, ← Nat.mul_assoc]
  omega
theorem X4L : ∀ n, YE (List.replicate n 0) = 0
 | 0 => rfl
 | n + 1 => by rw [List.replicate_succ, YE, X4L n]
theorem X0V (n : Nat) : YT (List.replicate n 0) := fun d h => by
 have := (List.mem_replicate.1 h).2
 omega
theorem X3S {l : List Nat} (h : YT l) (k : Nat) {y : Nat} (hy : y < 1000) : YT (l.set k y) := fun d hd => by
 rcases List.mem_or_eq_of_mem_set hd with h1 | rfl
 ·exact h d h1
 ·exact hy
theorem X7I {l : List Nat} {k x V d c carry : Nat} (hV : YE l + (d * c + carry) * 1000 ^ k = V) (hx : l[k]? = some x) :
  YE (l.set k ((carry + x + d * (c % 1000)) % 1000)) + (d * (c / 1000) + (carry + x + d * (c % 1000)) / 1000) * 1000 ^ (k + 1) = V := by
 have h1 := X69 l k x ((carry + x + d * (c % 1000)) % 1000) hx
 have ht := Nat.mod_add_div (carry + x + d * (c % 1000)) 1000
 have e1 : d * c = d * (c % 1000) + 1000 * (d * (c / 1000)) := by
  have hc := Nat.mod_add_div c 1000
  calc d * c = d * (c % 1000 + 1000 * (c / 1000)) := by rw [hc]
   _ = _ := by rw [Nat.mul_add, Nat.mul_left_comm]
 rw [e1] at hV
 rw [Nat.pow_succ]
 generalize YE (l.set k ((carry + x + d * (c % 1000)) % 1000)) = A at *
 generalize d * (c % 1000) = u at *
 generalize d * (c / 1000) = w at *
 generalize (carry + x + u) / 1000 = q at *
 generalize (carry + x + u) % 1000 = r at *
 generalize 1000 ^ k = p at *
 have e2 : (r + 1000 * q) * p = (carry + x + u) * p := by rw [ht]
 have e3 : (w + q) * (p * 1000) = 1000 * (w * p) + 1000 * (q * p) := by rw [← Nat.mul_assoc, Nat.mul_comm, Nat.add_mul, Nat.mul_add]
 rw [e3]
 simp only [Nat.add_mul, Nat.mul_assoc] at *
 omega
theorem XaJ {A A' a b i V : Nat} (hV : A + a * b * 1000 ^ i = V) (h : A' = A + a % 1000 * b * 1000 ^ i) : A' + a / 1000 * b * 1000 ^ (i + 1) = V := by
 have e1 : a * b = a % 1000 * b + 1000 * (a / 1000 * b) := by
  have hc := Nat.mod_add_div a 1000
  calc a * b = (a % 1000 + 1000 * (a / 1000)) * b := by rw [hc]
   _ = _ := by rw [Nat.add_mul, Nat.mul_assoc]
 rw [e1] at hV
 rw [Nat.pow_succ]
 generalize a % 1000 * b = u at *
 generalize a / 1000 * b = w at *
 generalize 1000 ^ i = p at *
 have e3 : w * (p * 1000) = 1000 * (w * p) := by rw [← Nat.mul_assoc, Nat.mul_comm]
 rw [e3]
 simp only [Nat.add_mul, Nat.mul_assoc] at *
 omega
theorem X2P {k m : Nat} (h : 1000 ^ k ≤ 1000 ^ m) : k ≤ m := (Nat.pow_le_pow_iff_right (by decide)).1 h
theorem X9e {a i a0 : Nat} (h : a * 1000 ^ i ≤ a0) (ha : 0 < a) (h0 : a0 ≤ 1000000000000000) : i ≤ 5 := by
 refine X2P (Nat.le_trans ?_ (Nat.le_trans h h0))
 exact Nat.le_mul_of_pos_left _ ha
theorem Xbr {c k b i : Nat} (h : c * 1000 ^ k ≤ b * 1000 ^ i) (hc : 0 < c) (hb : b ≤ 1000000000000000) (hi : i ≤ 5) : k ≤ 10 := by
 have h1 : 1000 ^ k ≤ c * 1000 ^ k := Nat.le_mul_of_pos_left _ hc
 have h2 : b * 1000 ^ i ≤ 1000 ^ 5 * 1000 ^ 5 := Nat.mul_le_mul hb (Nat.pow_le_pow_right (by decide) hi)
 exact X2P (Nat.le_trans h1 (Nat.le_trans h h2))
theorem X7M {A u carry k V W : Nat} (h : A + (u + carry) * 1000 ^ k = V) (hV : V ≤ W) (hW : W ≤ 1000 ^ 10) (hc : 0 < carry) : k ≤ 10 := by
 have h1 : 1000 ^ k ≤ (u + carry) * 1000 ^ k := Nat.le_mul_of_pos_left _ (by omega)
 exact X2P (Nat.le_trans h1 (by omega))
theorem X46 {c k X : Nat} (h : c * 1000 ^ k ≤ X) : c / 1000 * 1000 ^ (k + 1) ≤ X := by
 refine Nat.le_trans ?_ h
 rw [Nat.pow_succ, Nat.mul_comm (1000 ^ k), ← Nat.mul_assoc]
 exact Nat.mul_le_mul_right _ (Nat.div_mul_le_self c 1000)
theorem Xbm {a b a0 : Nat} (ha : a ≤ 1000000000000000) (hb : b ≤ 1000000000000000) : a * b ≤ 1000 ^ 10 := by
 have h : a * b ≤ 1000000000000000 * 1000000000000000 := Nat.mul_le_mul ha hb
 exact h
theorem Xa7 {A a b i V : Nat} (h : A + a * b * 1000 ^ i = V) : A + a % 1000 * b * 1000 ^ i ≤ V := by
 rw [← h]
 exact Nat.add_le_add_left (Nat.mul_le_mul_right _ (Nat.mul_le_mul_right _ (Nat.mod_le _ _))) _
def U1 (x y : List Nat) : Nat → List Nat × Nat
 | 0 => (List.replicate x.length 0, 0)
 | k + 1 => let p := U1 x y k; let t := p.2 + (x[k]?).getD 0 + (y[k]?).getD 0; (p.1.set k (t % 1000), t / 1000)
theorem X3y (x y : List Nat) : ∀ k, (U1 x y k).1.length = x.length
 | 0 => by simp [U1]
 | k + 1 => by simp only [U1, List.length_set]; exact X3y x y k
theorem X6A {x y : List Nat} (hx : YT x) (hy : YT y) : ∀ k, (U1 x y k).2 ≤ 1
 | 0 => by simp [U1]
 | k + 1 => by
  have ih := X6A hx hy k
  have h1 : (x[k]?).getD 0 < 1000 := by
   cases h : x[k]? with
   | none => simp
   | some a => exact Vz hx h
  have h2 : (y[k]?).getD 0 < 1000 := by
   cases h : y[k]? with
   | none => simp
   | some a => exact Vz hy h
  simp only [U1]
  omega
def YK (x y : List Nat) : List Nat := (U1 x y x.length).1
end Go.Fw
namespace Go.Fw
open Go Go.Proofs
set_option maxRecDepth 100000
set_option linter.unusedVariables false
set_option linter.unusedSimpArgs false
theorem X1x {l : List Nat} {k y : Nat} (h : k < l.length) : List.take k (l.map Xx) ++ [Xx y] ++ List.drop (k + 1) (l.map Xx) = (l.set k y).map Xx := by
 rw [List.set_eq_take_append_cons_drop, if_pos h]; simp
theorem X6y (n : Nat) : List.replicate n (Xx 0) = (List.replicate n 0).map Xx := by simp
theorem X1s (x y : List Nat) (hx : YT x) (hy : YT y) (hl : y.length = x.length) (hn : x.length ≤ 1000) : Con Tryz.prog 205 [] [.d (XP x), .d (XP y)] [] (.d (XP (YK x y))) := by
 have hlx : (x.map Xx).length = x.length := by simp
 have own : Con Tryz.prog 205 [] [.d (XP x), .d (XP y)] [(130, .row 1 ((YK x y).map Xx))] (.own 130 ((YK x y).map Xx).length) := by
  refine X9 (xs := [.own 130 ((YK x y).map Xx).length]) Tryz.func205 rfl Tryz.ntmps205 rfl rfl rfl (fun E => ?_)
  refine X0 ?_; refine JR ?_; refine Z0 ?_; refine JD ?_; refine X0 ?_; refine JR ?_; refine Z1 ?_; refine Zd ?_; refine Ze (γ := 130) ?_; refine Z0 ?_; refine JD ?_; refine X0 ?_; refine JR ?_; refine Z0 ?_
  refine JD ?_; refine X0 ?_; refine X0 ?_; refine JR ?_; refine Z0 ?_; refine JD ?_; refine X4 ?_
  refine Xs (fun k : Nat => k ≤ x.length) (fun k => ⟨36, [(0, .d (XP x)), (1, .d (XP y)), (5, .own 130 (x.map Xx).length), (6, ai (U1 x y k).2), (7, ai k)], [(130, .row 1 ((U1 x y k).1.map Xx))]⟩) (fun k => x.length - k) 0 (by omega)
   (X7 rfl ⟨JL, JL, JL, JL, JL, trivial⟩ ⟨?_, trivial⟩) ?_
  ·refine congrArg (AObj.row 1) ?_
   refine Eq.trans (b := List.replicate (x.map Xx).length (Xx 0)) rfl ?_
   rw [hlx]; exact X6y x.length
  intro k hk
  have hpl := X3y x y k
  have hpm : ((U1 x y k).1.map Xx).length = x.length := by rw [List.length_map, hpl]
  by_cases hkx : k < x.length
  case neg =>
   obtain rfl : k = x.length := by omega
   refine X0 ?_; refine X0 ?_; refine JR ?_; refine Z1 ?_; refine Z1 ?_; refine Zd ?_; refine Z8 ?_; refine JD ?_; refine JF ?_; refine Xo ?_; refine X0 ?_; refine JR ?_; refine Z1 ?_; refine Z0 ?_
   refine JD ?_
   exact X1 ⟨_, Xe 4 (y := .own 130 ((YK x y).map Xx).length) (AVal.le_of_eq (by refine Eq.trans (b := .own 130 (x.map Xx).length) rfl ?_; congr 1; rw [hlx]; exact hpm.symm)), ⟨rfl, trivial⟩, V8 ⟨rfl, trivial⟩⟩
  obtain ⟨a, ha⟩ := Xm (l := x) hkx
  obtain ⟨b, hb⟩ := Xm (l := y) (k := k) (by omega)
  have hc := X6A hx hy k
  have ha1 := Vz hx ha
  have hb1 := Vz hy hb
  have hsucc : U1 x y (k + 1) = ((U1 x y k).1.set k (((U1 x y k).2 + a + b) % 1000), ((U1 x y k).2 + a + b) / 1000) := by
   simp only [U1, ha, hb, Option.getD_some]
  generalize U1 x y k = p at *
  obtain ⟨l, c⟩ := p
  simp only at hpl hpm hc hsucc
  refine X0 ?_; refine X0 ?_; refine JR ?_; refine Z1 ?_; refine Z1 ?_; refine Zd ?_; refine Z8 ?_; refine JD ?_; refine JT ?_; refine X3 ?_; refine X0 ?_; refine X4 ?_; refine X0 ?_
  refine JR ?_; refine Z1 ?_; refine Z1 ?_; refine Z1 ?_; refine Zj ?_; refine Zk ?_; refine Z7 (op := .add) (r' := nj (c + a)) (u := nj c) (v := nj a) ?_ (hr := by exact UW (by rw [YC]; omega)); refine Z1 ?_
  refine Z1 ?_; refine Zj ?_; refine Zk ?_; refine Z7 (op := .add) (r' := nj (c + a + b)) (u := nj (c + a)) (v := nj b) ?_ (hr := by exact UW (by rw [YC]; omega)); refine Z0 ?_; refine JD ?_; refine X0 ?_
  refine JR ?_; refine Z1 ?_; refine Z1 ?_; refine Z1 ?_; refine Z7 (op := .rem) (r' := nj ((c + a + b) % 1000)) (u := nj (c + a + b)) (v := nj 1000) ?_ (hr := by exact YD (by omega)); refine ZO ?_; refine ZP ?_
  refine JD ?_; refine JR ?_; refine Z1 ?_; refine Z7 (op := .quo) (r' := nj ((c + a + b) / 1000)) (u := nj (c + a + b)) (v := nj 1000) ?_ (hr := by exact X05 (by omega) (by rw [YC]; omega)); refine Z0 ?_
  refine JD ?_; refine JR ?_; refine Z1 ?_; refine Zb ?_; refine Z0 ?_; refine JD ?_
  refine ⟨k + 1, by omega, by omega, ?_⟩
  dsimp only
  rw [hsucc]
  refine X7 rfl ⟨JL, JL, JL, JL, JL, trivial⟩ ⟨?_, trivial⟩
  exact congrArg (AObj.row 1) (X1x (by omega))
 exact own.data (by simp)
end Go.Fw

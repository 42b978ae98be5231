/- The reference's Valid. -/
import Derived.Test.YtpfldfkhgplcgaaGreatDoorM13
set_option maxHeartbeats 8000000
namespace Go.Fw
open Go Go.Proofs
set_option maxRecDepth 100000
set_option linter.unusedVariables false
set_option linter.unusedSimpArgs false
mutual
def YD : Val → Prop
 | .mk k n d s l => s.length ≤ 9223372036854775807 ∧ l.length ≤ 9223372036854775807 ∧ X0s l
def X0s : List Val → Prop
 | [] => True
 | v :: r => YD v ∧ X0s r
end
theorem X4F : ∀ {l : List Val} {x : Val}, X0s l → x ∈ l → YD x
 | [], _, _, h => by simp at h
 | v :: r, x, h, hx => by
  rw [X0s] at h
  rcases List.mem_cons.1 hx with rfl | hx
  ·exact h.1
  ·exact X4F h.2 hx
def XdC (v : Val) : Prop := YD v → X3z v
theorem XhI (k n d : Int) (s : List UInt8) (l : List Val) : Con Tryz.prog 180 [] [Xo (.mk k n d s l), ab false, ab false, ab false, ab false] [] (ab (decide (n = 0) && decide (d = 0) && decide (s = []) && decide (l.length = 0))) := by
 refine Xa (xs := [ab (decide (n = 0) && decide (d = 0) && decide (s = []) && decide (l.length = 0))]) Tryz.func180 rfl Tryz.ntmps180 rfl rfl rfl (fun E => ?_)
 have hlen := Vr l
 by_cases hn : n = 0
 case neg =>
  rw [show (decide (n = 0) && decide (d = 0) && decide (s = []) && decide (l.length = 0)) = false by simp [*]]
  repeat first | refine X0 ?_ | (refine JR ?_; (repeat first | refine Z1 ?_ | refine Z0 ?_ | refine ZB ?_ | refine ZC ?_ | refine Zl ?_ | refine ZA (γ := 100) ?_ | refine Zq ?_ | refine Zo ?_ | refine Zp ?_); refine JD ?_)
  exact QN
 by_cases hd : d = 0
 case neg =>
  rw [show (decide (n = 0) && decide (d = 0) && decide (s = []) && decide (l.length = 0)) = false by simp [*]]
  repeat first | refine X0 ?_ | (refine JR ?_; (repeat first | refine Z1 ?_ | refine Z0 ?_ | refine ZB ?_ | refine ZC ?_ | refine Zl ?_ | refine ZA (γ := 100) ?_ | refine Zn ?_ | refine Zq ?_ | refine Zo ?_ | refine Zp ?_); refine JD ?_)
  exact QN
 by_cases hs : s = []
 case neg =>
  rw [show (decide (n = 0) && decide (d = 0) && decide (s = []) && decide (l.length = 0)) = false by simp [*]]
  repeat first | refine X0 ?_ | (refine JR ?_; (repeat first | refine Z1 ?_ | refine Z0 ?_ | refine ZB ?_ | refine ZC ?_ | refine Zl ?_ | refine Zr ?_ | refine ZA (γ := 100) ?_ | refine Zn ?_ | refine Zq ?_ | refine Zo ?_ | refine Zp ?_); refine JD ?_)
  exact QN
 by_cases hl : l.length = 0
 case neg =>
  have hl' : ¬ ((l.length : Int) = 0) := by omega
  rw [show (decide (n = 0) && decide (d = 0) && decide (s = []) && decide (l.length = 0)) = false by simp [*]]
  repeat first | refine X0 ?_ | (refine JR ?_; (repeat first | refine Z1 ?_ | refine Z0 ?_ | refine ZB ?_ | refine ZC ?_ | refine Zd ?_ | refine Zl ?_ | refine Zr ?_ | refine ZA (γ := 100) ?_ | refine Zn ?_ | refine Zq ?_); refine JD ?_)
  exact Qxb
 rw [show (decide (n = 0) && decide (d = 0) && decide (s = []) && decide (l.length = 0)) = true by simp [*]]
 repeat first | refine X0 ?_ | (refine JR ?_; (repeat first | refine Z1 ?_ | refine Z0 ?_ | refine ZB ?_ | refine ZC ?_ | refine Zd ?_ | refine Zl ?_ | refine Zr ?_ | refine ZA (γ := 100) ?_ | refine Zn ?_ | refine Zq ?_); refine JD ?_)
 exact Qyb
theorem X5c (k n d : Int) (s : List UInt8) (l : List Val) : Con Tryz.prog 180 [] [Xo (.mk k n d s l), ab true, ab false, ab false, ab false] [] (ab (decide (d = 0) && decide (s = []) && decide (l.length = 0))) := by
 refine Xa (xs := [ab (decide (d = 0) && decide (s = []) && decide (l.length = 0))]) Tryz.func180 rfl Tryz.ntmps180 rfl rfl rfl (fun E => ?_)
 have hlen := Vr l
 by_cases hd : d = 0
 case neg =>
  rw [show (decide (d = 0) && decide (s = []) && decide (l.length = 0)) = false by simp [*]]
  repeat first | refine X0 ?_ | (refine JR ?_; (repeat first | refine Z1 ?_ | refine Z0 ?_ | refine ZB ?_ | refine ZC ?_ | refine Zl ?_ | refine ZA (γ := 100) ?_ | refine Zn ?_ | refine Zq ?_ | refine Zo ?_ | refine Zp ?_); refine JD ?_)
  exact QN
 by_cases hs : s = []
 case neg =>
  rw [show (decide (d = 0) && decide (s = []) && decide (l.length = 0)) = false by simp [*]]
  repeat first | refine X0 ?_ | (refine JR ?_; (repeat first | refine Z1 ?_ | refine Z0 ?_ | refine ZB ?_ | refine ZC ?_ | refine Zl ?_ | refine Zr ?_ | refine ZA (γ := 100) ?_ | refine Zn ?_ | refine Zq ?_ | refine Zo ?_ | refine Zp ?_); refine JD ?_)
  exact QN
 by_cases hl : l.length = 0
 case neg =>
  have hl' : ¬ ((l.length : Int) = 0) := by omega
  rw [show (decide (d = 0) && decide (s = []) && decide (l.length = 0)) = false by simp [*]]
  repeat first | refine X0 ?_ | (refine JR ?_; (repeat first | refine Z1 ?_ | refine Z0 ?_ | refine ZB ?_ | refine ZC ?_ | refine Zd ?_ | refine Zl ?_ | refine Zr ?_ | refine ZA (γ := 100) ?_ | refine Zn ?_ | refine Zq ?_ | refine Zo ?_); refine JD ?_)
  exact Qxb
 rw [show (decide (d = 0) && decide (s = []) && decide (l.length = 0)) = true by simp [*]]
 repeat first | refine X0 ?_ | (refine JR ?_; (repeat first | refine Z1 ?_ | refine Z0 ?_ | refine ZB ?_ | refine ZC ?_ | refine Zd ?_ | refine Zl ?_ | refine Zr ?_ | refine ZA (γ := 100) ?_ | refine Zn ?_ | refine Zq ?_ | refine Zo ?_); refine JD ?_)
 exact Qyb
theorem Xgp (k n d : Int) (s : List UInt8) (l : List Val) : Con Tryz.prog 180 [] [Xo (.mk k n d s l), ab true, ab true, ab false, ab false] [] (ab (decide (s = []) && decide (l.length = 0))) := by
 refine Xa (xs := [ab (decide (s = []) && decide (l.length = 0))]) Tryz.func180 rfl Tryz.ntmps180 rfl rfl rfl (fun E => ?_)
 have hlen := Vr l
 by_cases hs : s = []
 case neg =>
  rw [show (decide (s = []) && decide (l.length = 0)) = false by simp [*]]
  repeat first | refine X0 ?_ | (refine JR ?_; (repeat first | refine Z1 ?_ | refine Z0 ?_ | refine ZB ?_ | refine ZC ?_ | refine Zr ?_ | refine ZA (γ := 100) ?_ | refine Zn ?_ | refine Zq ?_ | refine Zo ?_ | refine Zp ?_); refine JD ?_)
  exact QN
 by_cases hl : l.length = 0
 case neg =>
  have hl' : ¬ ((l.length : Int) = 0) := by omega
  rw [show (decide (s = []) && decide (l.length = 0)) = false by simp [*]]
  repeat first | refine X0 ?_ | (refine JR ?_; (repeat first | refine Z1 ?_ | refine Z0 ?_ | refine ZB ?_ | refine ZC ?_ | refine Zd ?_ | refine Zl ?_ | refine Zr ?_ | refine ZA (γ := 100) ?_ | refine Zn ?_ | refine Zq ?_ | refine Zo ?_); refine JD ?_)
  exact Qxb
 rw [show (decide (s = []) && decide (l.length = 0)) = true by simp [*]]
 repeat first | refine X0 ?_ | (refine JR ?_; (repeat first | refine Z1 ?_ | refine Z0 ?_ | refine ZB ?_ | refine ZC ?_ | refine Zd ?_ | refine Zl ?_ | refine Zr ?_ | refine ZA (γ := 100) ?_ | refine Zn ?_ | refine Zq ?_ | refine Zo ?_); refine JD ?_)
 exact Qyb
theorem Xd5 (k n d : Int) (s : List UInt8) (l : List Val) : Con Tryz.prog 180 [] [Xo (.mk k n d s l), ab false, ab false, ab true, ab false] [] (ab (decide (n = 0) && decide (d = 0) && decide (l.length = 0))) := by
 refine Xa (xs := [ab (decide (n = 0) && decide (d = 0) && decide (l.length = 0))]) Tryz.func180 rfl Tryz.ntmps180 rfl rfl rfl (fun E => ?_)
 have hlen := Vr l
 by_cases hn : n = 0
 case neg =>
  rw [show (decide (n = 0) && decide (d = 0) && decide (l.length = 0)) = false by simp [*]]
  repeat first | refine X0 ?_ | (refine JR ?_; (repeat first | refine Z1 ?_ | refine Z0 ?_ | refine ZB ?_ | refine ZC ?_ | refine Zl ?_ | refine ZA (γ := 100) ?_ | refine Zq ?_ | refine Zo ?_ | refine Zp ?_); refine JD ?_)
  exact QN
 by_cases hd : d = 0
 case neg =>
  rw [show (decide (n = 0) && decide (d = 0) && decide (l.length = 0)) = false by simp [*]]
  repeat first | refine X0 ?_ | (refine JR ?_; (repeat first | refine Z1 ?_ | refine Z0 ?_ | refine ZB ?_ | refine ZC ?_ | refine Zl ?_ | refine ZA (γ := 100) ?_ | refine Zn ?_ | refine Zq ?_ | refine Zo ?_ | refine Zp ?_); refine JD ?_)
  exact QN
 by_cases hl : l.length = 0
 case neg =>
  have hl' : ¬ ((l.length : Int) = 0) := by omega
  rw [show (decide (n = 0) && decide (d = 0) && decide (l.length = 0)) = false by simp [*]]
  repeat first | refine X0 ?_ | (refine JR ?_; (repeat first | refine Z1 ?_ | refine Z0 ?_ | refine ZB ?_ | refine ZC ?_ | refine Zd ?_ | refine Zl ?_ | refine ZA (γ := 100) ?_ | refine Zn ?_ | refine Zq ?_ | refine Zo ?_); refine JD ?_)
  exact Qxb
 rw [show (decide (n = 0) && decide (d = 0) && decide (l.length = 0)) = true by simp [*]]
 repeat first | refine X0 ?_ | (refine JR ?_; (repeat first | refine Z1 ?_ | refine Z0 ?_ | refine ZB ?_ | refine ZC ?_ | refine Zd ?_ | refine Zl ?_ | refine ZA (γ := 100) ?_ | refine Zn ?_ | refine Zq ?_ | refine Zo ?_); refine JD ?_)
 exact Qyb
theorem XbC (k n d : Int) (s : List UInt8) (l : List Val) : Con Tryz.prog 180 [] [Xo (.mk k n d s l), ab false, ab false, ab false, ab true] [] (ab (decide (n = 0) && decide (d = 0) && decide (s = []))) := by
 refine Xa (xs := [ab (decide (n = 0) && decide (d = 0) && decide (s = []))]) Tryz.func180 rfl Tryz.ntmps180 rfl rfl rfl (fun E => ?_)
 have hlen := Vr l
 by_cases hn : n = 0
 case neg =>
  rw [show (decide (n = 0) && decide (d = 0) && decide (s = [])) = false by simp [*]]
  repeat first | refine X0 ?_ | (refine JR ?_; (repeat first | refine Z1 ?_ | refine Z0 ?_ | refine ZB ?_ | refine ZC ?_ | refine Zl ?_ | refine ZA (γ := 100) ?_ | refine Zq ?_ | refine Zo ?_ | refine Zp ?_); refine JD ?_)
  exact QN
 by_cases hd : d = 0
 case neg =>
  rw [show (decide (n = 0) && decide (d = 0) && decide (s = [])) = false by simp [*]]
  repeat first | refine X0 ?_ | (refine JR ?_; (repeat first | refine Z1 ?_ | refine Z0 ?_ | refine ZB ?_ | refine ZC ?_ | refine Zl ?_ | refine ZA (γ := 100) ?_ | refine Zn ?_ | refine Zq ?_ | refine Zo ?_ | refine Zp ?_); refine JD ?_)
  exact QN
 by_cases hs : s = []
 case neg =>
  rw [show (decide (n = 0) && decide (d = 0) && decide (s = [])) = false by simp [*]]
  repeat first | refine X0 ?_ | (refine JR ?_; (repeat first | refine Z1 ?_ | refine Z0 ?_ | refine ZB ?_ | refine ZC ?_ | refine Zl ?_ | refine Zr ?_ | refine ZA (γ := 100) ?_ | refine Zn ?_ | refine Zq ?_ | refine Zo ?_ | refine Zp ?_); refine JD ?_)
  exact QN
 rw [show (decide (n = 0) && decide (d = 0) && decide (s = [])) = true by simp [*]]
 repeat first | refine X0 ?_ | (refine JR ?_; (repeat first | refine Z1 ?_ | refine Z0 ?_ | refine ZB ?_ | refine ZC ?_ | refine Zl ?_ | refine Zr ?_ | refine ZA (γ := 100) ?_ | refine Zn ?_ | refine Zq ?_ | refine Zo ?_); refine JD ?_)
 exact QN
theorem Xd8 (v : Val) (hok : YD v) (ih : ∀ x ∈ v.l, X3z x) : X3z v := by
 obtain ⟨k, n, d, s, l⟩ := v
 intro m hm
 rw [YD] at hok
 simp only [Val.l] at ih
 refine Xa (xs := [ab (X8 m (.mk k n d s l))]) Tryz.func161 rfl Tryz.ntmps161 rfl rfl rfl (fun E => ?_)
 have hlen := Vr l
 by_cases hk0 : k = 0
 ·subst hk0
  have hb := XhI 0 n d s l
  by_cases hn0 : n = 0
  case neg =>
   rw [show (decide (n = 0) && decide (d = 0) && decide (s = []) && decide (l.length = 0)) = false by simp [*]] at hb
   rw [show X8 m (.mk 0 n d s l) = false by rw [X8]; simp [*]]
   exact QBb
  by_cases hd0 : d = 0
  case neg =>
   rw [show (decide (n = 0) && decide (d = 0) && decide (s = []) && decide (l.length = 0)) = false by simp [*]] at hb
   rw [show X8 m (.mk 0 n d s l) = false by rw [X8]; simp [*]]
   exact QBb
  by_cases hs0 : s = []
  case neg =>
   rw [show (decide (n = 0) && decide (d = 0) && decide (s = []) && decide (l.length = 0)) = false by simp [*]] at hb
   rw [show X8 m (.mk 0 n d s l) = false by rw [X8]; simp [*]]
   exact QBb
  by_cases hl0 : l.length = 0
  case neg =>
   rw [show (decide (n = 0) && decide (d = 0) && decide (s = []) && decide (l.length = 0)) = false by simp [*]] at hb
   have hl1 : 0 < l.length := by omega
   rw [show X8 m (.mk 0 n d s l) = false by rw [X8]; simp [*]]
   exact QBb
  rw [show (decide (n = 0) && decide (d = 0) && decide (s = []) && decide (l.length = 0)) = true by simp [*]] at hb
  rw [show X8 m (.mk 0 n d s l) = true by rw [X8]; simp [*]]
  exact QBb
 by_cases hk1 : k = 1
 ·subst hk1
  have hb := X5c 1 n d s l
  by_cases hd0 : d = 0
  case neg =>
   rw [show (decide (d = 0) && decide (s = []) && decide (l.length = 0)) = false by simp [*]] at hb
   rw [show X8 m (.mk 1 n d s l) = false by rw [X8]; simp [*]]
   exact QDb
  by_cases hs0 : s = []
  case neg =>
   rw [show (decide (d = 0) && decide (s = []) && decide (l.length = 0)) = false by simp [*]] at hb
   rw [show X8 m (.mk 1 n d s l) = false by rw [X8]; simp [*]]
   exact QDb
  by_cases hl0 : l.length = 0
  case neg =>
   rw [show (decide (d = 0) && decide (s = []) && decide (l.length = 0)) = false by simp [*]] at hb
   have hl1 : 0 < l.length := by omega
   rw [show X8 m (.mk 1 n d s l) = false by rw [X8]; simp [*]]
   exact QDb
  rw [show (decide (d = 0) && decide (s = []) && decide (l.length = 0)) = true by simp [*]] at hb
  by_cases hn : n = 0
  ·rw [show X8 m (.mk 1 n d s l) = true by rw [X8]; simp [*]]
   repeat first | refine X0 ?_ | (refine JR ?_; (repeat first | refine Z1 ?_ | refine Z0 ?_ | refine ZB ?_ | refine ZC ?_ | refine ZL ?_ | refine Zl ?_ | refine ZA (γ := 100) ?_ | refine Zn ?_ | refine Zo ?_ | refine Z9 (hcon := hb) ?_); refine JD ?_) | refine JT ?_ | refine JF ?_ | refine X5 ?_
   exact QN
  by_cases hn1 : n = 1
  ·rw [show X8 m (.mk 1 n d s l) = true by rw [X8]; simp [*]]
   repeat first | refine X0 ?_ | (refine JR ?_; (repeat first | refine Z1 ?_ | refine Z0 ?_ | refine ZB ?_ | refine ZC ?_ | refine ZL ?_ | refine Zl ?_ | refine ZA (γ := 100) ?_ | refine Zn ?_ | refine Zq ?_ | refine Z9 (hcon := hb) ?_); refine JD ?_) | refine JT ?_ | refine JF ?_ | refine X5 ?_
   exact Qdb
  ·rw [show X8 m (.mk 1 n d s l) = false by rw [X8]; simp [*]]
   repeat first | refine X0 ?_ | (refine JR ?_; (repeat first | refine Z1 ?_ | refine Z0 ?_ | refine ZB ?_ | refine ZC ?_ | refine ZL ?_ | refine Zl ?_ | refine ZA (γ := 100) ?_ | refine Zn ?_ | refine Zq ?_ | refine Z9 (hcon := hb) ?_); refine JD ?_) | refine JT ?_ | refine JF ?_ | refine X5 ?_
   exact Qeb
 by_cases hk2 : k = 2
 ·subst hk2
  have hb := X5c 2 n d s l
  by_cases hd0 : d = 0
  case neg =>
   rw [show (decide (d = 0) && decide (s = []) && decide (l.length = 0)) = false by simp [*]] at hb
   rw [show X8 m (.mk 2 n d s l) = false by rw [X8]; simp [*]]
   repeat first | refine X0 ?_ | (refine JR ?_; (repeat first | refine Z1 ?_ | refine Z0 ?_ | refine ZB ?_ | refine ZC ?_ | refine ZL ?_ | refine Zl ?_ | refine ZA (γ := 100) ?_ | refine Zq ?_ | refine Zo ?_ | refine Z9 (hcon := hb) ?_); refine JD ?_) | refine JT ?_ | refine JF ?_ | refine X5 ?_
   exact QN
  by_cases hs0 : s = []
  case neg =>
   rw [show (decide (d = 0) && decide (s = []) && decide (l.length = 0)) = false by simp [*]] at hb
   rw [show X8 m (.mk 2 n d s l) = false by rw [X8]; simp [*]]
   repeat first | refine X0 ?_ | (refine JR ?_; (repeat first | refine Z1 ?_ | refine Z0 ?_ | refine ZB ?_ | refine ZC ?_ | refine ZL ?_ | refine Zl ?_ | refine ZA (γ := 100) ?_ | refine Zq ?_ | refine Zo ?_ | refine Z9 (hcon := hb) ?_); refine JD ?_) | refine JT ?_ | refine JF ?_ | refine X5 ?_
   exact QN
  by_cases hl0 : l.length = 0
  case neg =>
   rw [show (decide (d = 0) && decide (s = []) && decide (l.length = 0)) = false by simp [*]] at hb
   have hl1 : 0 < l.length := by omega
   rw [show X8 m (.mk 2 n d s l) = false by rw [X8]; simp [*]]
   repeat first | refine X0 ?_ | (refine JR ?_; (repeat first | refine Z1 ?_ | refine Z0 ?_ | refine ZB ?_ | refine ZC ?_ | refine ZL ?_ | refine Zl ?_ | refine ZA (γ := 100) ?_ | refine Zq ?_ | refine Zo ?_ | refine Z9 (hcon := hb) ?_); refine JD ?_) | refine JT ?_ | refine JF ?_ | refine X5 ?_
   exact QN
  rw [show (decide (d = 0) && decide (s = []) && decide (l.length = 0)) = true by simp [*]] at hb
  rw [show X8 m (.mk 2 n d s l) = inV n by rw [X8]; simp [inV, *]]
  repeat first | refine X0 ?_ | (refine JR ?_; (repeat first | refine Z1 ?_ | refine Z0 ?_ | refine ZB ?_ | refine ZC ?_ | refine ZL ?_ | refine Zl ?_ | refine ZA (γ := 100) ?_ | refine Zn ?_ | refine Z9 (hcon := hb) ?_ | refine Z9 (hcon := Xgt n) ?_); refine JD ?_) | refine JT ?_ | refine JF ?_ | refine X5 ?_
  exact QN
 by_cases hk3 : k = 3
 ·subst hk3
  have hb := Xgp 3 n d s l
  by_cases hs0 : s = []
  case neg =>
   rw [show (decide (s = []) && decide (l.length = 0)) = false by simp [*]] at hb
   rw [show X8 m (.mk 3 n d s l) = false by rw [X8]; simp [*]]
   repeat first | refine X0 ?_ | (refine JR ?_; (repeat first | refine Z1 ?_ | refine Z0 ?_ | refine ZB ?_ | refine ZC ?_ | refine ZL ?_ | refine Zl ?_ | refine ZA (γ := 100) ?_ | refine Zq ?_ | refine Zo ?_ | refine Z9 (hcon := hb) ?_); refine JD ?_) | refine JT ?_ | refine JF ?_ | refine X5 ?_
   exact QN
  by_cases hl0 : l.length = 0
  case neg =>
   rw [show (decide (s = []) && decide (l.length = 0)) = false by simp [*]] at hb
   have hl1 : 0 < l.length := by omega
   rw [show X8 m (.mk 3 n d s l) = false by rw [X8]; simp [*]]
   repeat first | refine X0 ?_ | (refine JR ?_; (repeat first | refine Z1 ?_ | refine Z0 ?_ | refine ZB ?_ | refine ZC ?_ | refine ZL ?_ | refine Zl ?_ | refine ZA (γ := 100) ?_ | refine Zq ?_ | refine Zo ?_ | refine Z9 (hcon := hb) ?_); refine JD ?_) | refine JT ?_ | refine JF ?_ | refine X5 ?_
   exact QN
  rw [show (decide (s = []) && decide (l.length = 0)) = true by simp [*]] at hb
  by_cases hd : 2 ≤ d
  ·rw [show X8 m (.mk 3 n d s l) = Vc n d by rw [X8]; simp [*]]
   repeat first | refine X0 ?_ | (refine JR ?_; (repeat first | refine Z1 ?_ | refine Z0 ?_ | refine ZB ?_ | refine ZC ?_ | refine ZL ?_ | refine Z2 ?_ | refine Zl ?_ | refine ZA (γ := 100) ?_ | refine Zx ?_ | refine Zn ?_ | refine Z9 (hcon := hb) ?_ | refine Z9 (hcon := Xby n d) ?_); refine JD ?_) | refine JT ?_ | refine JF ?_ | refine X5 ?_
   exact QN
  ·rw [show X8 m (.mk 3 n d s l) = false by rw [X8]; simp [*]]
   repeat first | refine X0 ?_ | (refine JR ?_; (repeat first | refine Z1 ?_ | refine Z0 ?_ | refine ZB ?_ | refine ZC ?_ | refine ZL ?_ | refine Z2 ?_ | refine Zl ?_ | refine ZA (γ := 100) ?_ | refine Zn ?_ | refine Zq ?_ | refine Zo ?_ | refine Z9 (hcon := hb) ?_); refine JD ?_) | refine JT ?_ | refine JF ?_ | refine X5 ?_
   exact QN
 by_cases hk4 : k = 4
 ·subst hk4
  have hb := Xd5 4 n d s l
  by_cases hn0 : n = 0
  case neg =>
   rw [show (decide (n = 0) && decide (d = 0) && decide (l.length = 0)) = false by simp [*]] at hb
   rw [show X8 m (.mk 4 n d s l) = false by rw [X8]; simp [*]]
   repeat first | refine X0 ?_ | (refine JR ?_; (repeat first | refine Z1 ?_ | refine Z0 ?_ | refine ZB ?_ | refine ZC ?_ | refine ZL ?_ | refine Zl ?_ | refine ZA (γ := 100) ?_ | refine Zq ?_ | refine Zo ?_ | refine Z9 (hcon := hb) ?_); refine JD ?_) | refine JT ?_ | refine JF ?_ | refine X5 ?_
   exact QN
  by_cases hd0 : d = 0
  case neg =>
   rw [show (decide (n = 0) && decide (d = 0) && decide (l.length = 0)) = false by simp [*]] at hb
   rw [show X8 m (.mk 4 n d s l) = false by rw [X8]; simp [*]]
   repeat first | refine X0 ?_ | (refine JR ?_; (repeat first | refine Z1 ?_ | refine Z0 ?_ | refine ZB ?_ | refine ZC ?_ | refine ZL ?_ | refine Zl ?_ | refine ZA (γ := 100) ?_ | refine Zq ?_ | refine Zo ?_ | refine Z9 (hcon := hb) ?_); refine JD ?_) | refine JT ?_ | refine JF ?_ | refine X5 ?_
   exact QN
  by_cases hl0 : l.length = 0
  case neg =>
   rw [show (decide (n = 0) && decide (d = 0) && decide (l.length = 0)) = false by simp [*]] at hb
   have hl1 : 0 < l.length := by omega
   rw [show X8 m (.mk 4 n d s l) = false by rw [X8]; simp [*]]
   repeat first | refine X0 ?_ | (refine JR ?_; (repeat first | refine Z1 ?_ | refine Z0 ?_ | refine ZB ?_ | refine ZC ?_ | refine ZL ?_ | refine Zl ?_ | refine ZA (γ := 100) ?_ | refine Zq ?_ | refine Zo ?_ | refine Z9 (hcon := hb) ?_); refine JD ?_) | refine JT ?_ | refine JF ?_ | refine X5 ?_
   exact QN
  rw [show (decide (n = 0) && decide (d = 0) && decide (l.length = 0)) = true by simp [*]] at hb
  rw [show X8 m (.mk 4 n d s l) = (V7 s && decide (s.length ≤ 100)) by rw [X8]; simp [*, Bool.and_comm]]
  repeat first | refine X0 ?_ | (refine JR ?_; (repeat first | refine Z1 ?_ | refine Z0 ?_ | refine ZB ?_ | refine ZC ?_ | refine ZL ?_ | refine Zl ?_ | refine ZA (γ := 100) ?_ | refine Zn ?_ | refine Z9 (hcon := hb) ?_ | refine Z9 (hcon := XeD s hok.1) ?_); refine JD ?_) | refine JT ?_ | refine JF ?_ | refine X5 ?_
  exact QN
 by_cases hk5 : k = 5
 ·subst hk5
  have hb := X5c 5 n d s l
  by_cases hd0 : d = 0
  case neg =>
   rw [show (decide (d = 0) && decide (s = []) && decide (l.length = 0)) = false by simp [*]] at hb
   rw [show X8 m (.mk 5 n d s l) = false by rw [X8]; simp [*]]
   repeat first | refine X0 ?_ | (refine JR ?_; (repeat first | refine Z1 ?_ | refine Z0 ?_ | refine ZB ?_ | refine ZC ?_ | refine ZL ?_ | refine Zl ?_ | refine ZA (γ := 100) ?_ | refine Zq ?_ | refine Zo ?_ | refine Z9 (hcon := hb) ?_); refine JD ?_) | refine JT ?_ | refine JF ?_ | refine X5 ?_ | refine X4 ?_
   exact QN
  by_cases hs0 : s = []
  case neg =>
   rw [show (decide (d = 0) && decide (s = []) && decide (l.length = 0)) = false by simp [*]] at hb
   rw [show X8 m (.mk 5 n d s l) = false by rw [X8]; simp [*]]
   repeat first | refine X0 ?_ | (refine JR ?_; (repeat first | refine Z1 ?_ | refine Z0 ?_ | refine ZB ?_ | refine ZC ?_ | refine ZL ?_ | refine Zl ?_ | refine ZA (γ := 100) ?_ | refine Zq ?_ | refine Zo ?_ | refine Z9 (hcon := hb) ?_); refine JD ?_) | refine JT ?_ | refine JF ?_ | refine X5 ?_ | refine X4 ?_
   exact QN
  by_cases hl0 : l.length = 0
  case neg =>
   rw [show (decide (d = 0) && decide (s = []) && decide (l.length = 0)) = false by simp [*]] at hb
   have hl1 : 0 < l.length := by omega
   rw [show X8 m (.mk 5 n d s l) = false by rw [X8]; simp [*]]
   repeat first | refine X0 ?_ | (refine JR ?_; (repeat first | refine Z1 ?_ | refine Z0 ?_ | refine ZB ?_ | refine ZC ?_ | refine ZL ?_ | refine Zl ?_ | refine ZA (γ := 100) ?_ | refine Zq ?_ | refine Zo ?_ | refine Z9 (hcon := hb) ?_); refine JD ?_) | refine JT ?_ | refine JF ?_ | refine X5 ?_ | refine X4 ?_
   exact QN
  rw [show (decide (d = 0) && decide (s = []) && decide (l.length = 0)) = true by simp [*]] at hb
  by_cases hn : 1 ≤ n
  case neg =>
   rw [show X8 m (.mk 5 n d s l) = false by rw [X8]; simp [*]]
   repeat first | refine X0 ?_ | (refine JR ?_; (repeat first | refine Z1 ?_ | refine Z0 ?_ | refine ZB ?_ | refine ZC ?_ | refine ZL ?_ | refine Z2 ?_ | refine Zl ?_ | refine ZA (γ := 100) ?_ | refine Zn ?_ | refine Zq ?_ | refine Zo ?_ | refine Z9 (hcon := hb) ?_); refine JD ?_) | refine JT ?_ | refine JF ?_ | refine X5 ?_ | refine X4 ?_
   exact QN
  rw [show X8 m (.mk 5 n d s l) = decide (n ≤ 1000000) by rw [X8]; simp [*]]
  repeat first | refine X0 ?_ | (refine JR ?_; (repeat first | refine Z1 ?_ | refine Z0 ?_ | refine ZB ?_ | refine ZC ?_ | refine ZL ?_ | refine Zm ?_ | refine Z2 ?_ | refine Zl ?_ | refine ZA (γ := 100) ?_ | refine Zn ?_ | refine Z9 (hcon := hb) ?_); refine JD ?_) | refine JT ?_ | refine JF ?_ | refine X5 ?_ | refine X4 ?_
  exact QN
 by_cases hk6 : k = 6
 ·subst hk6
  have hb := X5c 6 n d s l
  by_cases hd0 : d = 0
  case neg =>
   rw [show (decide (d = 0) && decide (s = []) && decide (l.length = 0)) = false by simp [*]] at hb
   rw [show X8 m (.mk 6 n d s l) = false by rw [X8]; simp [*]]
   repeat first | refine X0 ?_ | (refine JR ?_; (repeat first | refine Z1 ?_ | refine Z0 ?_ | refine ZB ?_ | refine ZC ?_ | refine ZL ?_ | refine Zl ?_ | refine ZA (γ := 100) ?_ | refine Zq ?_ | refine Zo ?_ | refine Z9 (hcon := hb) ?_); refine JD ?_) | refine JT ?_ | refine JF ?_ | refine X5 ?_
   exact QN
  by_cases hs0 : s = []
  case neg =>
   rw [show (decide (d = 0) && decide (s = []) && decide (l.length = 0)) = false by simp [*]] at hb
   rw [show X8 m (.mk 6 n d s l) = false by rw [X8]; simp [*]]
   repeat first | refine X0 ?_ | (refine JR ?_; (repeat first | refine Z1 ?_ | refine Z0 ?_ | refine ZB ?_ | refine ZC ?_ | refine ZL ?_ | refine Zl ?_ | refine ZA (γ := 100) ?_ | refine Zq ?_ | refine Zo ?_ | refine Z9 (hcon := hb) ?_); refine JD ?_) | refine JT ?_ | refine JF ?_ | refine X5 ?_
   exact QN
  by_cases hl0 : l.length = 0
  case neg =>
   rw [show (decide (d = 0) && decide (s = []) && decide (l.length = 0)) = false by simp [*]] at hb
   have hl1 : 0 < l.length := by omega
   rw [show X8 m (.mk 6 n d s l) = false by rw [X8]; simp [*]]
   repeat first | refine X0 ?_ | (refine JR ?_; (repeat first | refine Z1 ?_ | refine Z0 ?_ | refine ZB ?_ | refine ZC ?_ | refine ZL ?_ | refine Zl ?_ | refine ZA (γ := 100) ?_ | refine Zq ?_ | refine Zo ?_ | refine Z9 (hcon := hb) ?_); refine JD ?_) | refine JT ?_ | refine JF ?_ | refine X5 ?_
   exact QN
  rw [show (decide (d = 0) && decide (s = []) && decide (l.length = 0)) = true by simp [*]] at hb
  by_cases hn : 1 ≤ n
  case neg =>
   rw [show X8 m (.mk 6 n d s l) = false by rw [X8]; simp [*]]
   repeat first | refine X0 ?_ | (refine JR ?_; (repeat first | refine Z1 ?_ | refine Z0 ?_ | refine ZB ?_ | refine ZC ?_ | refine ZL ?_ | refine Z2 ?_ | refine Zl ?_ | refine ZA (γ := 100) ?_ | refine Zn ?_ | refine Zq ?_ | refine Zo ?_ | refine Z9 (hcon := hb) ?_); refine JD ?_) | refine JT ?_ | refine JF ?_ | refine X5 ?_
   exact QN
  rw [show X8 m (.mk 6 n d s l) = decide (n ≤ 1000000) by rw [X8]; simp [*]]
  repeat first | refine X0 ?_ | (refine JR ?_; (repeat first | refine Z1 ?_ | refine Z0 ?_ | refine ZB ?_ | refine ZC ?_ | refine ZL ?_ | refine Zm ?_ | refine Z2 ?_ | refine Zl ?_ | refine ZA (γ := 100) ?_ | refine Zn ?_ | refine Z9 (hcon := hb) ?_); refine JD ?_) | refine JT ?_ | refine JF ?_ | refine X5 ?_
  exact QN
 by_cases hk7 : k = 7
 ·subst hk7
  have hb := XbC 7 n d s l
  by_cases hn0 : n = 0
  case neg =>
   rw [show (decide (n = 0) && decide (d = 0) && decide (s = [])) = false by simp [*]] at hb
   rw [show X8 m (.mk 7 n d s l) = false by rw [X8]; simp [*]]
   repeat first | refine X0 ?_ | (refine JR ?_; (repeat first | refine Z1 ?_ | refine Z0 ?_ | refine ZB ?_ | refine ZC ?_ | refine ZL ?_ | refine Zl ?_ | refine ZA (γ := 100) ?_ | refine Zq ?_ | refine Zo ?_ | refine Z9 (hcon := hb) ?_); refine JD ?_) | refine JT ?_ | refine JF ?_ | refine X5 ?_
   exact QN
  by_cases hd0 : d = 0
  case neg =>
   rw [show (decide (n = 0) && decide (d = 0) && decide (s = [])) = false by simp [*]] at hb
   rw [show X8 m (.mk 7 n d s l) = false by rw [X8]; simp [*]]
   repeat first | refine X0 ?_ | (refine JR ?_; (repeat first | refine Z1 ?_ | refine Z0 ?_ | refine ZB ?_ | refine ZC ?_ | refine ZL ?_ | refine Zl ?_ | refine ZA (γ := 100) ?_ | refine Zq ?_ | refine Zo ?_ | refine Z9 (hcon := hb) ?_); refine JD ?_) | refine JT ?_ | refine JF ?_ | refine X5 ?_
   exact QN
  by_cases hs0 : s = []
  case neg =>
   rw [show (decide (n = 0) && decide (d = 0) && decide (s = [])) = false by simp [*]] at hb
   rw [show X8 m (.mk 7 n d s l) = false by rw [X8]; simp [*]]
   repeat first | refine X0 ?_ | (refine JR ?_; (repeat first | refine Z1 ?_ | refine Z0 ?_ | refine ZB ?_ | refine ZC ?_ | refine ZL ?_ | refine Zl ?_ | refine ZA (γ := 100) ?_ | refine Zq ?_ | refine Zo ?_ | refine Z9 (hcon := hb) ?_); refine JD ?_) | refine JT ?_ | refine JF ?_ | refine X5 ?_
   exact QN
  rw [show (decide (n = 0) && decide (d = 0) && decide (s = [])) = true by simp [*]] at hb
  rw [show X8 m (.mk 7 n d s l) = UI l by rw [X8]; simp [UI, *]]
  repeat first | refine X0 ?_ | (refine JR ?_; (repeat first | refine Z1 ?_ | refine Z0 ?_ | refine ZB ?_ | refine ZC ?_ | refine ZL ?_ | refine Zl ?_ | refine ZA (γ := 100) ?_ | refine Zn ?_ | refine Z9 (hcon := hb) ?_ | refine Z9 (hcon := Xhz l hok.2.1 ih) ?_); refine JD ?_) | refine JT ?_ | refine JF ?_ | refine X5 ?_
  exact QN
 by_cases hk8 : k = 8
 ·subst hk8
  have hb := XbC 8 n d s l
  by_cases hn0 : n = 0
  case neg =>
   rw [show (decide (n = 0) && decide (d = 0) && decide (s = [])) = false by simp [*]] at hb
   rw [show X8 m (.mk 8 n d s l) = false by rw [X8]; simp [*]]
   repeat first | refine X0 ?_ | (refine JR ?_; (repeat first | refine Z1 ?_ | refine Z0 ?_ | refine ZB ?_ | refine ZC ?_ | refine ZL ?_ | refine Zl ?_ | refine ZA (γ := 100) ?_ | refine Zq ?_ | refine Zo ?_ | refine Z9 (hcon := hb) ?_); refine JD ?_) | refine JT ?_ | refine JF ?_ | refine X5 ?_
   exact QN
  by_cases hd0 : d = 0
  case neg =>
   rw [show (decide (n = 0) && decide (d = 0) && decide (s = [])) = false by simp [*]] at hb
   rw [show X8 m (.mk 8 n d s l) = false by rw [X8]; simp [*]]
   repeat first | refine X0 ?_ | (refine JR ?_; (repeat first | refine Z1 ?_ | refine Z0 ?_ | refine ZB ?_ | refine ZC ?_ | refine ZL ?_ | refine Zl ?_ | refine ZA (γ := 100) ?_ | refine Zq ?_ | refine Zo ?_ | refine Z9 (hcon := hb) ?_); refine JD ?_) | refine JT ?_ | refine JF ?_ | refine X5 ?_
   exact QN
  by_cases hs0 : s = []
  case neg =>
   rw [show (decide (n = 0) && decide (d = 0) && decide (s = [])) = false by simp [*]] at hb
   rw [show X8 m (.mk 8 n d s l) = false by rw [X8]; simp [*]]
   repeat first | refine X0 ?_ | (refine JR ?_; (repeat first | refine Z1 ?_ | refine Z0 ?_ | refine ZB ?_ | refine ZC ?_ | refine ZL ?_ | refine Zl ?_ | refine ZA (γ := 100) ?_ | refine Zq ?_ | refine Zo ?_ | refine Z9 (hcon := hb) ?_); refine JD ?_) | refine JT ?_ | refine JF ?_ | refine X5 ?_
   exact QN
  rw [show (decide (n = 0) && decide (d = 0) && decide (s = [])) = true by simp [*]] at hb
  rw [show X8 m (.mk 8 n d s l) = (decide (1 ≤ m ∧ l.length ≤ 64) && Un (m - 1) l) by rw [X8]; simp [*, and_comm]]
  repeat first | refine X0 ?_ | (refine JR ?_; (repeat first | refine Z1 ?_ | refine Z0 ?_ | refine ZB ?_ | refine ZC ?_ | refine ZL ?_ | refine Zl ?_ | refine ZA (γ := 100) ?_ | refine Zn ?_ | refine Z9 (hcon := hb) ?_ | refine Z9 (hcon := Xhc l m hm hok.2.1 ih) ?_); refine JD ?_) | refine JT ?_ | refine JF ?_ | refine X5 ?_
  exact QN
 rw [show X8 m (.mk k n d s l) = false by rw [X8]; simp [*]]
 repeat first | refine X0 ?_ | (refine JR ?_; (repeat first | refine Z0 ?_ | refine ZB ?_ | refine ZC ?_ | refine Zl ?_ | refine ZA (γ := 100) ?_); refine JD ?_) | refine JF ?_ | refine X5 ?_ | refine X4 ?_
 exact QN
theorem Xb7 : ∀ v : Val, XdC v
 | .mk k n d s l => fun hok => Xd8 (.mk k n d s l) hok fun x hx => Xb7 x (X4F (by rw [YD] at hok; exact hok.2.2) hx)
termination_by v => SizeOf.sizeOf v
decreasing_by
 have h1 := List.sizeOf_lt_of_mem (show x ∈ l from hx)
 simp only [Val.mk.sizeOf_spec]
 omega
theorem X2V (v : Val) (hok : YD v) : Con Tryz.prog 139 [] [Xo v] [] (ab (X8 8 v)) := by
 refine Xa (xs := [ab (X8 8 v)]) Tryz.func139 rfl Tryz.ntmps139 rfl rfl rfl (fun E => ?_)
 have h := Xb7 v hok 8 (by omega)
 obtain ⟨k, n, d, s, l⟩ := v
 simp only [Xo] at h
 refine QGa ?_; refine Qgb ?_; refine Z9 (hcon := h) ?_; exact QO
def YL (x y : Int) : Int := if x < y then -1 else if y < x then 1 else 0
theorem Xbk (x : Int) : Con Tryz.prog 192 [] [ai x] [] (ab false) := by
 refine Xa (xs := [ab false]) Tryz.func192 rfl Tryz.ntmps192 rfl rfl rfl (fun E => ?_)
 refine Qd ?_; refine Qi ?_; refine Zv ?_; refine Qc ?_; exact X1 ⟨_, Xb 2 (y := ab false) (AVal.le_of_eq (by refine Eq.trans (b := ab (decide (x ≠ x))) rfl ?_; exact congrArg ab (by simp))), ⟨rfl, trivial⟩, X3 _⟩
theorem Xfl (s : List UInt8) : Con Tryz.prog 193 [] [.d (.v (.string (X7 s)))] [] (ab false) := by
 refine Xa (xs := [ab false]) Tryz.func193 rfl Tryz.ntmps193 rfl rfl rfl (fun E => ?_)
 refine Qd ?_; refine Qi ?_; refine ZM ?_; refine Qc ?_; exact X1 ⟨_, Xb 2 (y := ab false) (AVal.le_of_eq (by refine Eq.trans (b := ab (decide (s ≠ s))) rfl ?_; exact congrArg ab (by simp))), ⟨rfl, trivial⟩, X3 _⟩
theorem Xaf (x y : Int) : Con Tryz.prog 171 [] [ai x, ai y] [] (ai (YL x y)) := by
 refine Xa (xs := [ai (YL x y)]) Tryz.func171 rfl Tryz.ntmps171 rfl rfl rfl (fun E => ?_)
 have n1 := Xbk x
 have n2 := Xbk y
 by_cases h1 : x < y
 ·rw [show YL x y = -1 by simp [YL, h1]]
  repeat first | refine X0 ?_ | (refine JR ?_; (repeat first | refine Z1 ?_ | refine Z0 ?_ | refine Z8 ?_ | refine Z9 (hcon := n1) ?_ | refine Z9 (hcon := n2) ?_); refine JD ?_) | refine JT ?_ | refine JF ?_ | refine X4 ?_
  exact QN
 by_cases h2 : y < x
 ·rw [show YL x y = 1 by simp [YL, h1, h2]]
  repeat first | refine X0 ?_ | (refine JR ?_; (repeat first | refine Z1 ?_ | refine Z0 ?_ | refine Z8 ?_ | refine Zs ?_ | refine Z9 (hcon := n1) ?_ | refine Z9 (hcon := n2) ?_); refine JD ?_) | refine JT ?_ | refine JF ?_ | refine X4 ?_
  exact QN
 rw [show YL x y = 0 by simp [YL, h1, h2]]
 repeat first | refine X0 ?_ | (refine JR ?_; (repeat first | refine Z1 ?_ | refine Z0 ?_ | refine Z8 ?_ | refine Zs ?_ | refine Z9 (hcon := n1) ?_ | refine Z9 (hcon := n2) ?_); refine JD ?_) | refine JF ?_ | refine X4 ?_
 exact QN
theorem X72 : ∀ s : List UInt8, Op.bytesLess s s = false
 | [] => rfl
 | b :: s => by simp [Op.bytesLess, X72 s]
theorem Xh3 {t : TypeId} {x y : Operand} {s : List UInt8} (w : World) : (do eqGuard .lss t x y (.string (X7 s)) (.string (X7 s)); binOp .lss t (.string (X7 s)) (.string (X7 s)) : Sem Value).run Tryz.prog w = .ok (.bool false) w := by
 simp [go_sem, binOp, Op.stringOp, X2Q, X72]
theorem Xhy {t : TypeId} {x y : Operand} {s : List UInt8} (w : World) : (do eqGuard .gtr t x y (.string (X7 s)) (.string (X7 s)); binOp .gtr t (.string (X7 s)) (.string (X7 s)) : Sem Value).run Tryz.prog w = .ok (.bool false) w := by
 simp [go_sem, binOp, Op.stringOp, X2Q, X72]
theorem Xig (s : List UInt8) : Con Tryz.prog 172 [] [.d (.v (.string (X7 s))), .d (.v (.string (X7 s)))] [] (ai 0) := by
 refine Xa (xs := [ai 0]) Tryz.func172 rfl Tryz.ntmps172 rfl rfl rfl (fun E => ?_)
 have n1 := Xfl s
 repeat first | refine X0 ?_ | (refine JR ?_; (repeat first | refine Z7 (op := .lss) (r' := .bool false) (u := .string (X7 s)) (v := .string (X7 s)) ?_ (hr := by exact Xh3) | refine Z7 (op := .gtr) (r' := .bool false) (u := .string (X7 s)) (v := .string (X7 s)) ?_ (hr := by exact Xhy) | refine Z1 ?_ | refine Z0 ?_ | refine Z9 (hcon := n1) ?_); refine JD ?_) | refine JF ?_ | refine X4 ?_
 exact QN
abbrev cI (n : Int) : List D := [.v (.int .i64 n)]
def orI : List Int → Int
 | [] => 0
 | x :: r => if x ≠ 0 then x else orI r
theorem XhR {l : List Int} {i : Nat} {x : Int} (h : l[i]? = some x) : orI (l.drop i) = if x ≠ 0 then x else orI (l.drop (i + 1)) := by
 rw [List.drop_eq_getElem_cons (List.getElem?_eq_some_iff.1 h).1, (List.getElem?_eq_some_iff.1 h).2, orI]
theorem XgN (l : List Int) (hl : l.length ≤ 1000) : Con Tryz.prog 170 [] [.d (.sl 1 (l.map cI))] [] (ai (orI l)) := by
 refine Xa (xs := [ai (orI l)]) Tryz.func170 rfl Tryz.ntmps170 rfl rfl rfl (fun E => ?_)
 have hlm : (l.map cI).length = l.length := by simp
 refine Qd ?_; refine Qo ?_; refine QA ?_
 generalize hG : orI l = G
 refine Xu (fun i : Nat => i ≤ l.length ∧ orI (l.drop i) = G) (fun i => ⟨18, [(3, ai 0), (6, .d (.sl 1 (l.map cI))), (7, ai (l.map cI).length), (8, ai i)], []⟩) (fun i => l.length - i) 0 ⟨by omega, hG⟩
  (X9 rfl ⟨JL, JL, JL, JL, trivial⟩ trivial) ?_
 rintro i ⟨hi, hg⟩
 by_cases hil : i < l.length
 case neg =>
  obtain rfl : i = l.length := by omega
  rw [List.drop_length, orI] at hg
  subst hg
  have hn : ¬ ((l.length : Nat) : Int) < (l.map cI).length := by omega
  refine QM ?_; exact QBa
 have hn : (i : Int) < (l.map cI).length := by omega
 obtain ⟨x, hx⟩ := Xx (l := l) hil
 have hxm : (l.map cI)[i]? = some (cI x) := YR hx
 rw [XhR hx] at hg
 by_cases h0 : x = 0
 ·rw [if_neg (by simpa using h0)] at hg
  refine QD ?_; refine QF ?_; refine Qi ?_; refine QEb ?_; refine QK ?_; exact ⟨i + 1, ⟨by omega, hg⟩, by omega, X9 rfl ⟨JL, JL, JL, JL, trivial⟩ trivial⟩
 ·rw [if_pos h0] at hg
  subst hg
  refine QD ?_; refine QF ?_; refine Qi ?_; refine Zv ?_; refine Qh ?_; exact QBa
def UR (k : Int) : Int := if k = 3 then 2 else if k = 7 then 9 else k
theorem X6d (k n d : Int) (s : List UInt8) (l : List Val) : Con Tryz.prog 189 [] [Xo (.mk k n d s l)] [] (ai (UR k)) := by
 refine Xa (xs := [ai (UR k)]) Tryz.func189 rfl Tryz.ntmps189 rfl rfl rfl (fun E => ?_)
 simp only [Xo]
 by_cases h3 : k = 3
 ·subst h3
  refine QAb ?_; refine QG ?_; exact QGb
 by_cases h7 : k = 7
 ·subst h7
  repeat first | refine X0 ?_ | (refine JR ?_; (repeat first | refine Z0 ?_ | refine ZB ?_ | refine ZC ?_ | refine Zl ?_ | refine ZA (γ := 100) ?_); refine JD ?_) | refine JT ?_ | refine JF ?_ | refine X5 ?_
  exact QN
 rw [show UR k = k by simp [UR, h3, h7]]
 repeat first | refine X0 ?_ | (refine JR ?_; (repeat first | refine Z0 ?_ | refine ZB ?_ | refine ZC ?_ | refine Zl ?_ | refine ZA (γ := 100) ?_); refine JD ?_) | refine JF ?_ | refine X5 ?_ | refine X4 ?_
 exact QN
open Go
abbrev YP (x : Nat) : List D := [.v (.int .i64 (x : Int))]
abbrev UL (l : List Nat) : D := .sl 1 (l.map YP)
def UG : List Nat → Nat
 | [] => 0
 | x :: r => x + 1000 * UG r
def UB : Nat → Nat → List Nat
 | 0, _ => []
 | n + 1, v => v % 1000 :: UB n (v / 1000)
def VT (l : List Nat) : Prop := ∀ d ∈ l, d < 1000
theorem X3a {l : List Nat} (h : VT l) {k x : Nat} (hx : l[k]? = some x) : x < 1000 := h x (List.mem_of_getElem? hx)
theorem X6t : ∀ n v, (UB n v).length = n
 | 0, _ => rfl
 | n + 1, v => by rw [UB, List.length_cons, X6t n]
theorem X6x : ∀ n v, VT (UB n v)
 | 0, _ => fun d h => by simp [UB] at h
 | n + 1, v => fun d h => by
  rw [UB] at h
  rcases List.mem_cons.1 h with rfl | h
  ·exact Nat.mod_lt _ (by omega)
  ·exact X6x n _ d h
theorem X9Q : ∀ l : List Nat, VT l → UB l.length (UG l) = l
 | [], _ => rfl
 | x :: r, h => by
  have hx := h x (by simp)
  rw [List.length_cons, UB, UG, show (x + 1000 * UG r) % 1000 = x by omega, show (x + 1000 * UG r) / 1000 = UG r by omega, X9Q r fun d hd => h d (by simp [hd])]
theorem X8O : ∀ (l : List Nat) (k x y : Nat), l[k]? = some x → UG (l.set k y) + x * 1000 ^ k = UG l + y * 1000 ^ k
 | [], k, x, y, h => by simp at h
 | z :: r, 0, x, y, h => by
  simp at h
  subst h
  simp only [List.set_cons_zero, UG, Nat.pow_zero, Nat.mul_one]
  omega
 | z :: r, k + 1, x, y, h => by
  have ih := X8O r k x y (by simpa using h)
  simp only [List.set_cons_succ, UG, Nat.pow_succ, ← Nat.mul_assoc]
  omega
theorem X8b : ∀ n, UG (List.replicate n 0) = 0
 | 0 => rfl
 | n + 1 => by rw [List.replicate_succ, UG, X8b n]
theorem X5R (n : Nat) : VT (List.replicate n 0) := fun d h => by
 have := (List.mem_replicate.1 h).2
 omega
theorem X9l {l : List Nat} (h : VT l) (k : Nat) {y : Nat} (hy : y < 1000) : VT (l.set k y) := fun d hd => by
 rcases List.mem_or_eq_of_mem_set hd with h1 | rfl
 ·exact h d h1
 ·exact hy
theorem Xdh {l : List Nat} {k x V d c carry : Nat} (hV : UG l + (d * c + carry) * 1000 ^ k = V) (hx : l[k]? = some x) :
  UG (l.set k ((carry + x + d * (c % 1000)) % 1000)) + (d * (c / 1000) + (carry + x + d * (c % 1000)) / 1000) * 1000 ^ (k + 1) = V := by
 have h1 := X8O l k x ((carry + x + d * (c % 1000)) % 1000) hx
 have ht := Nat.mod_add_div (carry + x + d * (c % 1000)) 1000
 have e1 : d * c = d * (c % 1000) + 1000 * (d * (c / 1000)) := by
  have hc := Nat.mod_add_div c 1000
  calc d * c = d * (c % 1000 + 1000 * (c / 1000)) := by rw [hc]
   _ = _ := by rw [Nat.mul_add, Nat.mul_left_comm]
 rw [e1] at hV
 rw [Nat.pow_succ]
 generalize UG (l.set k ((carry + x + d * (c % 1000)) % 1000)) = A at *
 generalize d * (c % 1000) = u at *
 generalize d * (c / 1000) = w at *
 generalize (carry + x + u) / 1000 = q at *
 generalize (carry + x + u) % 1000 = r at *
 generalize 1000 ^ k = p at *
 have e2 : (r + 1000 * q) * p = (carry + x + u) * p := by rw [ht]
 have e3 : (w + q) * (p * 1000) = 1000 * (w * p) + 1000 * (q * p) := by rw [← Nat.mul_assoc, Nat.mul_comm, Nat.add_mul, Nat.mul_add]
 rw [e3]
 simp only [Nat.add_mul, Nat.mul_assoc] at *
 omega
theorem Xfm {A A' a b i V : Nat} (hV : A + a * b * 1000 ^ i = V) (h : A' = A + a % 1000 * b * 1000 ^ i) : A' + a / 1000 * b * 1000 ^ (i + 1) = V := by
 have e1 : a * b = a % 1000 * b + 1000 * (a / 1000 * b) := by
  have hc := Nat.mod_add_div a 1000
  calc a * b = (a % 1000 + 1000 * (a / 1000)) * b := by rw [hc]
   _ = _ := by rw [Nat.add_mul, Nat.mul_assoc]
 rw [e1] at hV
 rw [Nat.pow_succ]
 generalize a % 1000 * b = u at *
 generalize a / 1000 * b = w at *
 generalize 1000 ^ i = p at *
 have e3 : w * (p * 1000) = 1000 * (w * p) := by rw [← Nat.mul_assoc, Nat.mul_comm]
 rw [e3]
 simp only [Nat.add_mul, Nat.mul_assoc] at *
 omega
theorem X5J {k m : Nat} (h : 1000 ^ k ≤ 1000 ^ m) : k ≤ m := (Nat.pow_le_pow_iff_right (by decide)).1 h
theorem XeH {a i a0 : Nat} (h : a * 1000 ^ i ≤ a0) (ha : 0 < a) (h0 : a0 ≤ 1000000000000000) : i ≤ 5 := by
 refine X5J (Nat.le_trans ?_ (Nat.le_trans h h0))
 exact Nat.le_mul_of_pos_left _ ha
theorem XfT {c k b i : Nat} (h : c * 1000 ^ k ≤ b * 1000 ^ i) (hc : 0 < c) (hb : b ≤ 1000000000000000) (hi : i ≤ 5) : k ≤ 10 := by
 have h1 : 1000 ^ k ≤ c * 1000 ^ k := Nat.le_mul_of_pos_left _ hc
 have h2 : b * 1000 ^ i ≤ 1000 ^ 5 * 1000 ^ 5 := Nat.mul_le_mul hb (Nat.pow_le_pow_right (by decide) hi)
 exact X5J (Nat.le_trans h1 (Nat.le_trans h h2))
theorem Xdd {A u carry k V W : Nat} (h : A + (u + carry) * 1000 ^ k = V) (hV : V ≤ W) (hW : W ≤ 1000 ^ 10) (hc : 0 < carry) : k ≤ 10 := by
 have h1 : 1000 ^ k ≤ (u + carry) * 1000 ^ k := Nat.le_mul_of_pos_left _ (by omega)
 exact X5J (Nat.le_trans h1 (by omega))
theorem X9f {c k X : Nat} (h : c * 1000 ^ k ≤ X) : c / 1000 * 1000 ^ (k + 1) ≤ X := by
 refine Nat.le_trans ?_ h
 rw [Nat.pow_succ, Nat.mul_comm (1000 ^ k), ← Nat.mul_assoc]
 exact Nat.mul_le_mul_right _ (Nat.div_mul_le_self c 1000)
theorem XeK {a b a0 : Nat} (ha : a ≤ 1000000000000000) (hb : b ≤ 1000000000000000) : a * b ≤ 1000 ^ 10 := by
 have h : a * b ≤ 1000000000000000 * 1000000000000000 := Nat.mul_le_mul ha hb
 exact h
theorem Xik {A a b i V : Nat} (h : A + a * b * 1000 ^ i = V) : A + a % 1000 * b * 1000 ^ i ≤ V := by
 rw [← h]
 exact Nat.add_le_add_left (Nat.mul_le_mul_right _ (Nat.mul_le_mul_right _ (Nat.mod_le _ _))) _
def Ve (x y : List Nat) : Nat → List Nat × Nat
 | 0 => (List.replicate x.length 0, 0)
 | k + 1 => let p := Ve x y k; let t := p.2 + (x[k]?).getD 0 + (y[k]?).getD 0; (p.1.set k (t % 1000), t / 1000)
theorem Xbi (x y : List Nat) : ∀ k, (Ve x y k).1.length = x.length
 | 0 => by simp [Ve]
 | k + 1 => by simp only [Ve, List.length_set]; exact Xbi x y k
theorem XaA {x y : List Nat} (hx : VT x) (hy : VT y) : ∀ k, (Ve x y k).2 ≤ 1
 | 0 => by simp [Ve]
 | k + 1 => by
  have ih := XaA hx hy k
  have h1 : (x[k]?).getD 0 < 1000 := by
   cases h : x[k]? with
   | none => simp
   | some a => exact X3a hx h
  have h2 : (y[k]?).getD 0 < 1000 := by
   cases h : y[k]? with
   | none => simp
   | some a => exact X3a hy h
  simp only [Ve]
  omega
def X0i (x y : List Nat) : List Nat := (Ve x y x.length).1
end Go.Fw

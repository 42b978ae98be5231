/- The reference's Valid. -/
import Derived.Test.YtaoggblfedekeaaGreatDoorG08
import Derived.Test.YtaoggblfedekeaaGreatDoorG12
import Derived.Test.YtaoggblfedekeaaGreatDoorG10
import Derived.Test.YtaoggblfedekeaaGreatDoorG09
set_option maxHeartbeats 8000000
namespace Go.Fw
open Go Go.Proofs
set_option maxRecDepth 100000
set_option linter.unusedVariables false
set_option linter.unusedSimpArgs false
mutual
def XH : Val → Prop
 | .mk k n d s l => s.length ≤ 9223372036854775807 ∧ l.length ≤ 9223372036854775807 ∧ Uh l
def Uh : List Val → Prop
 | [] => True
 | v :: r => XH v ∧ Uh r
end
theorem VN : ∀ {l : List Val} {x : Val}, Uh l → x ∈ l → XH x
 | [], _, _, h => by simp at h
 | v :: r, x, h, hx => by
  rw [Uh] at h
  rcases List.mem_cons.1 hx with rfl | hx
  ·exact h.1
  ·exact VN h.2 hx
def Xb9 (v : Val) : Prop := XH v → X19 v
theorem Xbu (k n d : Int) (s : List UInt8) (l : List Val) : Con Tryz.prog 115 [] [Xb (.mk k n d s l), ab false, ab false, ab false, ab false] [] (ab (decide (n = 0) && decide (d = 0) && decide (s = []) && decide (l.length = 0))) := by
 refine X8 (xs := [ab (decide (n = 0) && decide (d = 0) && decide (s = []) && decide (l.length = 0))]) Tryz.func115 rfl Tryz.ntmps115 rfl rfl rfl (fun E => ?_)
 have hlen := U2 l
 by_cases hn : n = 0
 case neg =>
  rw [show (decide (n = 0) && decide (d = 0) && decide (s = []) && decide (l.length = 0)) = false by simp [*]]
  repeat first | refine X0 ?_ | (refine JR ?_; (repeat first | refine Z1 ?_ | refine Z0 ?_ | refine Zz ?_ | refine ZA ?_ | refine Zu ?_ | refine Zy (γ := 100) ?_ | refine Zn ?_ | refine Zl ?_ | refine Zm ?_); refine JD ?_)
  exact X1 ⟨_, St.le_refl _, ⟨rfl, trivial⟩, X2 _⟩
 by_cases hd : d = 0
 case neg =>
  rw [show (decide (n = 0) && decide (d = 0) && decide (s = []) && decide (l.length = 0)) = false by simp [*]]
  repeat first | refine X0 ?_ | (refine JR ?_; (repeat first | refine Z1 ?_ | refine Z0 ?_ | refine Zz ?_ | refine ZA ?_ | refine Zu ?_ | refine Zy (γ := 100) ?_ | refine Zk ?_ | refine Zn ?_ | refine Zl ?_ | refine Zm ?_); refine JD ?_)
  exact X1 ⟨_, St.le_refl _, ⟨rfl, trivial⟩, X2 _⟩
 by_cases hs : s = []
 case neg =>
  rw [show (decide (n = 0) && decide (d = 0) && decide (s = []) && decide (l.length = 0)) = false by simp [*]]
  repeat first | refine X0 ?_ | (refine JR ?_; (repeat first | refine Z1 ?_ | refine Z0 ?_ | refine Zz ?_ | refine ZA ?_ | refine Zu ?_ | refine Zo ?_ | refine Zy (γ := 100) ?_ | refine Zk ?_ | refine Zn ?_ | refine Zl ?_ | refine Zm ?_); refine JD ?_)
  exact X1 ⟨_, St.le_refl _, ⟨rfl, trivial⟩, X2 _⟩
 by_cases hl : l.length = 0
 case neg =>
  have hl' : ¬ ((l.length : Int) = 0) := by omega
  rw [show (decide (n = 0) && decide (d = 0) && decide (s = []) && decide (l.length = 0)) = false by simp [*]]
  repeat first | refine X0 ?_ | (refine JR ?_; (repeat first | refine Z1 ?_ | refine Z0 ?_ | refine Zz ?_ | refine ZA ?_ | refine Zd ?_ | refine Zu ?_ | refine Zo ?_ | refine Zy (γ := 100) ?_ | refine Zk ?_ | refine Zn ?_); refine JD ?_)
  exact X1 ⟨_, X9 10 (y := ab false) (AVal.le_of_eq (by refine Eq.trans (b := ab (decide (((Xs l).length : Int) = 0))) rfl ?_; exact congrArg ab (decide_eq_false (by rw [hlen]; exact hl')))), ⟨rfl, trivial⟩, X2 _⟩
 rw [show (decide (n = 0) && decide (d = 0) && decide (s = []) && decide (l.length = 0)) = true by simp [*]]
 repeat first | refine X0 ?_ | (refine JR ?_; (repeat first | refine Z1 ?_ | refine Z0 ?_ | refine Zz ?_ | refine ZA ?_ | refine Zd ?_ | refine Zu ?_ | refine Zo ?_ | refine Zy (γ := 100) ?_ | refine Zk ?_ | refine Zn ?_); refine JD ?_)
 exact X1 ⟨_, X9 10 (y := ab true) (AVal.le_of_eq (by refine Eq.trans (b := ab (decide (((Xs l).length : Int) = 0))) rfl ?_; exact congrArg ab (decide_eq_true (by omega)))), ⟨rfl, trivial⟩, X2 _⟩
theorem X1W (k n d : Int) (s : List UInt8) (l : List Val) : Con Tryz.prog 115 [] [Xb (.mk k n d s l), ab true, ab false, ab false, ab false] [] (ab (decide (d = 0) && decide (s = []) && decide (l.length = 0))) := by
 refine X8 (xs := [ab (decide (d = 0) && decide (s = []) && decide (l.length = 0))]) Tryz.func115 rfl Tryz.ntmps115 rfl rfl rfl (fun E => ?_)
 have hlen := U2 l
 by_cases hd : d = 0
 case neg =>
  rw [show (decide (d = 0) && decide (s = []) && decide (l.length = 0)) = false by simp [*]]
  repeat first | refine X0 ?_ | (refine JR ?_; (repeat first | refine Z1 ?_ | refine Z0 ?_ | refine Zz ?_ | refine ZA ?_ | refine Zu ?_ | refine Zy (γ := 100) ?_ | refine Zk ?_ | refine Zn ?_ | refine Zl ?_ | refine Zm ?_); refine JD ?_)
  exact X1 ⟨_, St.le_refl _, ⟨rfl, trivial⟩, X2 _⟩
 by_cases hs : s = []
 case neg =>
  rw [show (decide (d = 0) && decide (s = []) && decide (l.length = 0)) = false by simp [*]]
  repeat first | refine X0 ?_ | (refine JR ?_; (repeat first | refine Z1 ?_ | refine Z0 ?_ | refine Zz ?_ | refine ZA ?_ | refine Zu ?_ | refine Zo ?_ | refine Zy (γ := 100) ?_ | refine Zk ?_ | refine Zn ?_ | refine Zl ?_ | refine Zm ?_); refine JD ?_)
  exact X1 ⟨_, St.le_refl _, ⟨rfl, trivial⟩, X2 _⟩
 by_cases hl : l.length = 0
 case neg =>
  have hl' : ¬ ((l.length : Int) = 0) := by omega
  rw [show (decide (d = 0) && decide (s = []) && decide (l.length = 0)) = false by simp [*]]
  repeat first | refine X0 ?_ | (refine JR ?_; (repeat first | refine Z1 ?_ | refine Z0 ?_ | refine Zz ?_ | refine ZA ?_ | refine Zd ?_ | refine Zu ?_ | refine Zo ?_ | refine Zy (γ := 100) ?_ | refine Zk ?_ | refine Zn ?_ | refine Zl ?_); refine JD ?_)
  exact X1 ⟨_, X9 10 (y := ab false) (AVal.le_of_eq (by refine Eq.trans (b := ab (decide (((Xs l).length : Int) = 0))) rfl ?_; exact congrArg ab (decide_eq_false (by rw [hlen]; exact hl')))), ⟨rfl, trivial⟩, X2 _⟩
 rw [show (decide (d = 0) && decide (s = []) && decide (l.length = 0)) = true by simp [*]]
 repeat first | refine X0 ?_ | (refine JR ?_; (repeat first | refine Z1 ?_ | refine Z0 ?_ | refine Zz ?_ | refine ZA ?_ | refine Zd ?_ | refine Zu ?_ | refine Zo ?_ | refine Zy (γ := 100) ?_ | refine Zk ?_ | refine Zn ?_ | refine Zl ?_); refine JD ?_)
 exact X1 ⟨_, X9 10 (y := ab true) (AVal.le_of_eq (by refine Eq.trans (b := ab (decide (((Xs l).length : Int) = 0))) rfl ?_; exact congrArg ab (decide_eq_true (by omega)))), ⟨rfl, trivial⟩, X2 _⟩
theorem Xan (k n d : Int) (s : List UInt8) (l : List Val) : Con Tryz.prog 115 [] [Xb (.mk k n d s l), ab true, ab true, ab false, ab false] [] (ab (decide (s = []) && decide (l.length = 0))) := by
 refine X8 (xs := [ab (decide (s = []) && decide (l.length = 0))]) Tryz.func115 rfl Tryz.ntmps115 rfl rfl rfl (fun E => ?_)
 have hlen := U2 l
 by_cases hs : s = []
 case neg =>
  rw [show (decide (s = []) && decide (l.length = 0)) = false by simp [*]]
  repeat first | refine X0 ?_ | (refine JR ?_; (repeat first | refine Z1 ?_ | refine Z0 ?_ | refine Zz ?_ | refine ZA ?_ | refine Zo ?_ | refine Zy (γ := 100) ?_ | refine Zk ?_ | refine Zn ?_ | refine Zl ?_ | refine Zm ?_); refine JD ?_)
  exact X1 ⟨_, St.le_refl _, ⟨rfl, trivial⟩, X2 _⟩
 by_cases hl : l.length = 0
 case neg =>
  have hl' : ¬ ((l.length : Int) = 0) := by omega
  rw [show (decide (s = []) && decide (l.length = 0)) = false by simp [*]]
  repeat first | refine X0 ?_ | (refine JR ?_; (repeat first | refine Z1 ?_ | refine Z0 ?_ | refine Zz ?_ | refine ZA ?_ | refine Zd ?_ | refine Zu ?_ | refine Zo ?_ | refine Zy (γ := 100) ?_ | refine Zk ?_ | refine Zn ?_ | refine Zl ?_); refine JD ?_)
  exact X1 ⟨_, X9 10 (y := ab false) (AVal.le_of_eq (by refine Eq.trans (b := ab (decide (((Xs l).length : Int) = 0))) rfl ?_; exact congrArg ab (decide_eq_false (by rw [hlen]; exact hl')))), ⟨rfl, trivial⟩, X2 _⟩
 rw [show (decide (s = []) && decide (l.length = 0)) = true by simp [*]]
 repeat first | refine X0 ?_ | (refine JR ?_; (repeat first | refine Z1 ?_ | refine Z0 ?_ | refine Zz ?_ | refine ZA ?_ | refine Zd ?_ | refine Zu ?_ | refine Zo ?_ | refine Zy (γ := 100) ?_ | refine Zk ?_ | refine Zn ?_ | refine Zl ?_); refine JD ?_)
 exact X1 ⟨_, X9 10 (y := ab true) (AVal.le_of_eq (by refine Eq.trans (b := ab (decide (((Xs l).length : Int) = 0))) rfl ?_; exact congrArg ab (decide_eq_true (by omega)))), ⟨rfl, trivial⟩, X2 _⟩
theorem X9h (k n d : Int) (s : List UInt8) (l : List Val) : Con Tryz.prog 115 [] [Xb (.mk k n d s l), ab false, ab false, ab true, ab false] [] (ab (decide (n = 0) && decide (d = 0) && decide (l.length = 0))) := by
 refine X8 (xs := [ab (decide (n = 0) && decide (d = 0) && decide (l.length = 0))]) Tryz.func115 rfl Tryz.ntmps115 rfl rfl rfl (fun E => ?_)
 have hlen := U2 l
 by_cases hn : n = 0
 case neg =>
  rw [show (decide (n = 0) && decide (d = 0) && decide (l.length = 0)) = false by simp [*]]
  repeat first | refine X0 ?_ | (refine JR ?_; (repeat first | refine Z1 ?_ | refine Z0 ?_ | refine Zz ?_ | refine ZA ?_ | refine Zu ?_ | refine Zy (γ := 100) ?_ | refine Zn ?_ | refine Zl ?_ | refine Zm ?_); refine JD ?_)
  exact X1 ⟨_, St.le_refl _, ⟨rfl, trivial⟩, X2 _⟩
 by_cases hd : d = 0
 case neg =>
  rw [show (decide (n = 0) && decide (d = 0) && decide (l.length = 0)) = false by simp [*]]
  repeat first | refine X0 ?_ | (refine JR ?_; (repeat first | refine Z1 ?_ | refine Z0 ?_ | refine Zz ?_ | refine ZA ?_ | refine Zu ?_ | refine Zy (γ := 100) ?_ | refine Zk ?_ | refine Zn ?_ | refine Zl ?_ | refine Zm ?_); refine JD ?_)
  exact X1 ⟨_, St.le_refl _, ⟨rfl, trivial⟩, X2 _⟩
 by_cases hl : l.length = 0
 case neg =>
  have hl' : ¬ ((l.length : Int) = 0) := by omega
  rw [show (decide (n = 0) && decide (d = 0) && decide (l.length = 0)) = false by simp [*]]
  repeat first | refine X0 ?_ | (refine JR ?_; (repeat first | refine Z1 ?_ | refine Z0 ?_ | refine Zz ?_ | refine ZA ?_ | refine Zd ?_ | refine Zu ?_ | refine Zy (γ := 100) ?_ | refine Zk ?_ | refine Zn ?_ | refine Zl ?_); refine JD ?_)
  exact X1 ⟨_, X9 10 (y := ab false) (AVal.le_of_eq (by refine Eq.trans (b := ab (decide (((Xs l).length : Int) = 0))) rfl ?_; exact congrArg ab (decide_eq_false (by rw [hlen]; exact hl')))), ⟨rfl, trivial⟩, X2 _⟩
 rw [show (decide (n = 0) && decide (d = 0) && decide (l.length = 0)) = true by simp [*]]
 repeat first | refine X0 ?_ | (refine JR ?_; (repeat first | refine Z1 ?_ | refine Z0 ?_ | refine Zz ?_ | refine ZA ?_ | refine Zd ?_ | refine Zu ?_ | refine Zy (γ := 100) ?_ | refine Zk ?_ | refine Zn ?_ | refine Zl ?_); refine JD ?_)
 exact X1 ⟨_, X9 10 (y := ab true) (AVal.le_of_eq (by refine Eq.trans (b := ab (decide (((Xs l).length : Int) = 0))) rfl ?_; exact congrArg ab (decide_eq_true (by omega)))), ⟨rfl, trivial⟩, X2 _⟩
theorem X4D (k n d : Int) (s : List UInt8) (l : List Val) : Con Tryz.prog 115 [] [Xb (.mk k n d s l), ab false, ab false, ab false, ab true] [] (ab (decide (n = 0) && decide (d = 0) && decide (s = []))) := by
 refine X8 (xs := [ab (decide (n = 0) && decide (d = 0) && decide (s = []))]) Tryz.func115 rfl Tryz.ntmps115 rfl rfl rfl (fun E => ?_)
 have hlen := U2 l
 by_cases hn : n = 0
 case neg =>
  rw [show (decide (n = 0) && decide (d = 0) && decide (s = [])) = false by simp [*]]
  repeat first | refine X0 ?_ | (refine JR ?_; (repeat first | refine Z1 ?_ | refine Z0 ?_ | refine Zz ?_ | refine ZA ?_ | refine Zu ?_ | refine Zy (γ := 100) ?_ | refine Zn ?_ | refine Zl ?_ | refine Zm ?_); refine JD ?_)
  exact X1 ⟨_, St.le_refl _, ⟨rfl, trivial⟩, X2 _⟩
 by_cases hd : d = 0
 case neg =>
  rw [show (decide (n = 0) && decide (d = 0) && decide (s = [])) = false by simp [*]]
  repeat first | refine X0 ?_ | (refine JR ?_; (repeat first | refine Z1 ?_ | refine Z0 ?_ | refine Zz ?_ | refine ZA ?_ | refine Zu ?_ | refine Zy (γ := 100) ?_ | refine Zk ?_ | refine Zn ?_ | refine Zl ?_ | refine Zm ?_); refine JD ?_)
  exact X1 ⟨_, St.le_refl _, ⟨rfl, trivial⟩, X2 _⟩
 by_cases hs : s = []
 case neg =>
  rw [show (decide (n = 0) && decide (d = 0) && decide (s = [])) = false by simp [*]]
  repeat first | refine X0 ?_ | (refine JR ?_; (repeat first | refine Z1 ?_ | refine Z0 ?_ | refine Zz ?_ | refine ZA ?_ | refine Zu ?_ | refine Zo ?_ | refine Zy (γ := 100) ?_ | refine Zk ?_ | refine Zn ?_ | refine Zl ?_ | refine Zm ?_); refine JD ?_)
  exact X1 ⟨_, St.le_refl _, ⟨rfl, trivial⟩, X2 _⟩
 rw [show (decide (n = 0) && decide (d = 0) && decide (s = [])) = true by simp [*]]
 repeat first | refine X0 ?_ | (refine JR ?_; (repeat first | refine Z1 ?_ | refine Z0 ?_ | refine Zz ?_ | refine ZA ?_ | refine Zu ?_ | refine Zo ?_ | refine Zy (γ := 100) ?_ | refine Zk ?_ | refine Zn ?_ | refine Zl ?_); refine JD ?_)
 exact X1 ⟨_, St.le_refl _, ⟨rfl, trivial⟩, X2 _⟩
end Go.Fw
namespace Go.Fw
open Go Go.Proofs
set_option maxRecDepth 100000
set_option linter.unusedVariables false
set_option linter.unusedSimpArgs false
theorem XaX (v : Val) (hok : XH v) (ih : ∀ x ∈ v.l, X19 x) : X19 v := by
 obtain ⟨k, n, d, s, l⟩ := v
 intro m hm
 rw [XH] at hok
 simp only [Val.l] at ih
 refine X8 (xs := [ab (X6 m (.mk k n d s l))]) Tryz.func93 rfl Tryz.ntmps93 rfl rfl rfl (fun E => ?_)
 have hlen := U2 l
 by_cases hk0 : k = 0
 ·subst hk0
  have hb := Xbu 0 n d s l
  by_cases hn0 : n = 0
  case neg =>
   rw [show (decide (n = 0) && decide (d = 0) && decide (s = []) && decide (l.length = 0)) = false by simp [*]] at hb
   rw [show X6 m (.mk 0 n d s l) = false by rw [X6]; simp [*]]
   refine X0 ?_; refine JR ?_; refine Zy (γ := 100) ?_; refine Z0 ?_; refine JD ?_; refine X0 ?_; refine X0 ?_; refine JR ?_; refine Zz ?_; refine ZA ?_; refine JD ?_; refine X5 ?_; refine X0 ?_
   refine JR ?_; refine Zu ?_; refine Z0 ?_; refine JD ?_; refine JT ?_; refine X0 ?_; refine JR ?_; refine ZL ?_; refine Z9 (hcon := hb) ?_; refine Z0 ?_; refine JD ?_
   exact X1 ⟨_, St.le_refl _, ⟨rfl, trivial⟩, X2 _⟩
  by_cases hd0 : d = 0
  case neg =>
   rw [show (decide (n = 0) && decide (d = 0) && decide (s = []) && decide (l.length = 0)) = false by simp [*]] at hb
   rw [show X6 m (.mk 0 n d s l) = false by rw [X6]; simp [*]]
   refine X0 ?_; refine JR ?_; refine Zy (γ := 100) ?_; refine Z0 ?_; refine JD ?_; refine X0 ?_; refine X0 ?_; refine JR ?_; refine Zz ?_; refine ZA ?_; refine JD ?_; refine X5 ?_; refine X0 ?_
   refine JR ?_; refine Zu ?_; refine Z0 ?_; refine JD ?_; refine JT ?_; refine X0 ?_; refine JR ?_; refine ZL ?_; refine Z9 (hcon := hb) ?_; refine Z0 ?_; refine JD ?_
   exact X1 ⟨_, St.le_refl _, ⟨rfl, trivial⟩, X2 _⟩
  by_cases hs0 : s = []
  case neg =>
   rw [show (decide (n = 0) && decide (d = 0) && decide (s = []) && decide (l.length = 0)) = false by simp [*]] at hb
   rw [show X6 m (.mk 0 n d s l) = false by rw [X6]; simp [*]]
   refine X0 ?_; refine JR ?_; refine Zy (γ := 100) ?_; refine Z0 ?_; refine JD ?_; refine X0 ?_; refine X0 ?_; refine JR ?_; refine Zz ?_; refine ZA ?_; refine JD ?_; refine X5 ?_; refine X0 ?_
   refine JR ?_; refine Zu ?_; refine Z0 ?_; refine JD ?_; refine JT ?_; refine X0 ?_; refine JR ?_; refine ZL ?_; refine Z9 (hcon := hb) ?_; refine Z0 ?_; refine JD ?_
   exact X1 ⟨_, St.le_refl _, ⟨rfl, trivial⟩, X2 _⟩
  by_cases hl0 : l.length = 0
  case neg =>
   rw [show (decide (n = 0) && decide (d = 0) && decide (s = []) && decide (l.length = 0)) = false by simp [*]] at hb
   have hl1 : 0 < l.length := by omega
   rw [show X6 m (.mk 0 n d s l) = false by rw [X6]; simp [*]]
   refine X0 ?_; refine JR ?_; refine Zy (γ := 100) ?_; refine Z0 ?_; refine JD ?_; refine X0 ?_; refine X0 ?_; refine JR ?_; refine Zz ?_; refine ZA ?_; refine JD ?_; refine X5 ?_; refine X0 ?_
   refine JR ?_; refine Zu ?_; refine Z0 ?_; refine JD ?_; refine JT ?_; refine X0 ?_; refine JR ?_; refine ZL ?_; refine Z9 (hcon := hb) ?_; refine Z0 ?_; refine JD ?_
   exact X1 ⟨_, St.le_refl _, ⟨rfl, trivial⟩, X2 _⟩
  rw [show (decide (n = 0) && decide (d = 0) && decide (s = []) && decide (l.length = 0)) = true by simp [*]] at hb
  rw [show X6 m (.mk 0 n d s l) = true by rw [X6]; simp [*]]
  refine X0 ?_; refine JR ?_; refine Zy (γ := 100) ?_; refine Z0 ?_; refine JD ?_; refine X0 ?_; refine X0 ?_; refine JR ?_; refine Zz ?_; refine ZA ?_; refine JD ?_; refine X5 ?_; refine X0 ?_
  refine JR ?_; refine Zu ?_; refine Z0 ?_; refine JD ?_; refine JT ?_; refine X0 ?_; refine JR ?_; refine ZL ?_; refine Z9 (hcon := hb) ?_; refine Z0 ?_; refine JD ?_
  exact X1 ⟨_, St.le_refl _, ⟨rfl, trivial⟩, X2 _⟩
 by_cases hk1 : k = 1
 ·subst hk1
  have hb := X1W 1 n d s l
  by_cases hd0 : d = 0
  case neg =>
   rw [show (decide (d = 0) && decide (s = []) && decide (l.length = 0)) = false by simp [*]] at hb
   rw [show X6 m (.mk 1 n d s l) = false by rw [X6]; simp [*]]
   refine X0 ?_; refine JR ?_; refine Zy (γ := 100) ?_; refine Z0 ?_; refine JD ?_; refine X0 ?_; refine X0 ?_; refine JR ?_; refine Zz ?_; refine ZA ?_; refine JD ?_; refine X5 ?_; refine X0 ?_
   refine JR ?_; refine Zu ?_; refine Z0 ?_; refine JD ?_; refine JF ?_; refine X0 ?_; refine JR ?_; refine Zu ?_; refine Z0 ?_; refine JD ?_; refine JT ?_; refine X0 ?_; refine JR ?_; refine ZL ?_
   refine Z9 (hcon := hb) ?_; refine Z1 ?_; refine Zl ?_; refine Zl ?_; refine Zl ?_; refine Zl ?_; refine Zm ?_; refine Zm ?_; refine Zm ?_; refine Zl ?_; refine Zn ?_; refine Z0 ?_; refine JD ?_
   exact X1 ⟨_, St.le_refl _, ⟨rfl, trivial⟩, X2 _⟩
  by_cases hs0 : s = []
  case neg =>
   rw [show (decide (d = 0) && decide (s = []) && decide (l.length = 0)) = false by simp [*]] at hb
   rw [show X6 m (.mk 1 n d s l) = false by rw [X6]; simp [*]]
   refine X0 ?_; refine JR ?_; refine Zy (γ := 100) ?_; refine Z0 ?_; refine JD ?_; refine X0 ?_; refine X0 ?_; refine JR ?_; refine Zz ?_; refine ZA ?_; refine JD ?_; refine X5 ?_; refine X0 ?_
   refine JR ?_; refine Zu ?_; refine Z0 ?_; refine JD ?_; refine JF ?_; refine X0 ?_; refine JR ?_; refine Zu ?_; refine Z0 ?_; refine JD ?_; refine JT ?_; refine X0 ?_; refine JR ?_; refine ZL ?_
   refine Z9 (hcon := hb) ?_; refine Z1 ?_; refine Zl ?_; refine Zl ?_; refine Zl ?_; refine Zl ?_; refine Zm ?_; refine Zm ?_; refine Zm ?_; refine Zl ?_; refine Zn ?_; refine Z0 ?_; refine JD ?_
   exact X1 ⟨_, St.le_refl _, ⟨rfl, trivial⟩, X2 _⟩
  by_cases hl0 : l.length = 0
  case neg =>
   rw [show (decide (d = 0) && decide (s = []) && decide (l.length = 0)) = false by simp [*]] at hb
   have hl1 : 0 < l.length := by omega
   rw [show X6 m (.mk 1 n d s l) = false by rw [X6]; simp [*]]
   refine X0 ?_; refine JR ?_; refine Zy (γ := 100) ?_; refine Z0 ?_; refine JD ?_; refine X0 ?_; refine X0 ?_; refine JR ?_; refine Zz ?_; refine ZA ?_; refine JD ?_; refine X5 ?_; refine X0 ?_
   refine JR ?_; refine Zu ?_; refine Z0 ?_; refine JD ?_; refine JF ?_; refine X0 ?_; refine JR ?_; refine Zu ?_; refine Z0 ?_; refine JD ?_; refine JT ?_; refine X0 ?_; refine JR ?_; refine ZL ?_
   refine Z9 (hcon := hb) ?_; refine Z1 ?_; refine Zl ?_; refine Zl ?_; refine Zl ?_; refine Zl ?_; refine Zm ?_; refine Zm ?_; refine Zm ?_; refine Zl ?_; refine Zn ?_; refine Z0 ?_; refine JD ?_
   exact X1 ⟨_, St.le_refl _, ⟨rfl, trivial⟩, X2 _⟩
  rw [show (decide (d = 0) && decide (s = []) && decide (l.length = 0)) = true by simp [*]] at hb
  by_cases hn : n = 0
  ·rw [show X6 m (.mk 1 n d s l) = true by rw [X6]; simp [*]]
   repeat first | refine X0 ?_ | (refine JR ?_; (repeat first | refine Z1 ?_ | refine Z0 ?_ | refine Zz ?_ | refine ZA ?_ | refine ZL ?_ | refine Zu ?_ | refine Zy (γ := 100) ?_ | refine Zk ?_ | refine Zl ?_ | refine Z9 (hcon := hb) ?_); refine JD ?_) | refine JT ?_ | refine JF ?_ | refine X5 ?_
   exact X1 ⟨_, St.le_refl _, ⟨rfl, trivial⟩, X2 _⟩
  by_cases hn1 : n = 1
  ·rw [show X6 m (.mk 1 n d s l) = true by rw [X6]; simp [*]]
   repeat first | refine X0 ?_ | (refine JR ?_; (repeat first | refine Z1 ?_ | refine Z0 ?_ | refine Zz ?_ | refine ZA ?_ | refine ZL ?_ | refine Zu ?_ | refine Zy (γ := 100) ?_ | refine Zk ?_ | refine Zn ?_ | refine Z9 (hcon := hb) ?_); refine JD ?_) | refine JT ?_ | refine JF ?_ | refine X5 ?_
   exact X1 ⟨_, X9 4 (y := ab true) (AVal.le_of_eq (by refine Eq.trans (b := ab (decide (n = 1))) rfl ?_; exact congrArg ab (decide_eq_true hn1))), ⟨rfl, trivial⟩, X2 _⟩
  ·rw [show X6 m (.mk 1 n d s l) = false by rw [X6]; simp [*]]
   repeat first | refine X0 ?_ | (refine JR ?_; (repeat first | refine Z1 ?_ | refine Z0 ?_ | refine Zz ?_ | refine ZA ?_ | refine ZL ?_ | refine Zu ?_ | refine Zy (γ := 100) ?_ | refine Zk ?_ | refine Zn ?_ | refine Z9 (hcon := hb) ?_); refine JD ?_) | refine JT ?_ | refine JF ?_ | refine X5 ?_
   exact X1 ⟨_, X9 4 (y := ab false) (AVal.le_of_eq (by refine Eq.trans (b := ab (decide (n = 1))) rfl ?_; exact congrArg ab (decide_eq_false hn1))), ⟨rfl, trivial⟩, X2 _⟩
 by_cases hk2 : k = 2
 ·subst hk2
  have hb := X1W 2 n d s l
  by_cases hd0 : d = 0
  case neg =>
   rw [show (decide (d = 0) && decide (s = []) && decide (l.length = 0)) = false by simp [*]] at hb
   rw [show X6 m (.mk 2 n d s l) = false by rw [X6]; simp [*]]
   repeat first | refine X0 ?_ | (refine JR ?_; (repeat first | refine Z1 ?_ | refine Z0 ?_ | refine Zz ?_ | refine ZA ?_ | refine ZL ?_ | refine Zu ?_ | refine Zy (γ := 100) ?_ | refine Zn ?_ | refine Zl ?_ | refine Z9 (hcon := hb) ?_); refine JD ?_) | refine JT ?_ | refine JF ?_ | refine X5 ?_
   exact X1 ⟨_, St.le_refl _, ⟨rfl, trivial⟩, X2 _⟩
  by_cases hs0 : s = []
  case neg =>
   rw [show (decide (d = 0) && decide (s = []) && decide (l.length = 0)) = false by simp [*]] at hb
   rw [show X6 m (.mk 2 n d s l) = false by rw [X6]; simp [*]]
   repeat first | refine X0 ?_ | (refine JR ?_; (repeat first | refine Z1 ?_ | refine Z0 ?_ | refine Zz ?_ | refine ZA ?_ | refine ZL ?_ | refine Zu ?_ | refine Zy (γ := 100) ?_ | refine Zn ?_ | refine Zl ?_ | refine Z9 (hcon := hb) ?_); refine JD ?_) | refine JT ?_ | refine JF ?_ | refine X5 ?_
   exact X1 ⟨_, St.le_refl _, ⟨rfl, trivial⟩, X2 _⟩
  by_cases hl0 : l.length = 0
  case neg =>
   rw [show (decide (d = 0) && decide (s = []) && decide (l.length = 0)) = false by simp [*]] at hb
   have hl1 : 0 < l.length := by omega
   rw [show X6 m (.mk 2 n d s l) = false by rw [X6]; simp [*]]
   repeat first | refine X0 ?_ | (refine JR ?_; (repeat first | refine Z1 ?_ | refine Z0 ?_ | refine Zz ?_ | refine ZA ?_ | refine ZL ?_ | refine Zu ?_ | refine Zy (γ := 100) ?_ | refine Zn ?_ | refine Zl ?_ | refine Z9 (hcon := hb) ?_); refine JD ?_) | refine JT ?_ | refine JF ?_ | refine X5 ?_
   exact X1 ⟨_, St.le_refl _, ⟨rfl, trivial⟩, X2 _⟩
  rw [show (decide (d = 0) && decide (s = []) && decide (l.length = 0)) = true by simp [*]] at hb
  rw [show X6 m (.mk 2 n d s l) = inV n by rw [X6]; simp [inV, *]]
  repeat first | refine X0 ?_ | (refine JR ?_; (repeat first | refine Z1 ?_ | refine Z0 ?_ | refine Zz ?_ | refine ZA ?_ | refine ZL ?_ | refine Zu ?_ | refine Zy (γ := 100) ?_ | refine Zk ?_ | refine Z9 (hcon := hb) ?_ | refine Z9 (hcon := Xat n) ?_); refine JD ?_) | refine JT ?_ | refine JF ?_ | refine X5 ?_
  exact X1 ⟨_, St.le_refl _, ⟨rfl, trivial⟩, X2 _⟩
 by_cases hk3 : k = 3
 ·subst hk3
  have hb := Xan 3 n d s l
  by_cases hs0 : s = []
  case neg =>
   rw [show (decide (s = []) && decide (l.length = 0)) = false by simp [*]] at hb
   rw [show X6 m (.mk 3 n d s l) = false by rw [X6]; simp [*]]
   repeat first | refine X0 ?_ | (refine JR ?_; (repeat first | refine Z1 ?_ | refine Z0 ?_ | refine Zz ?_ | refine ZA ?_ | refine ZL ?_ | refine Zu ?_ | refine Zy (γ := 100) ?_ | refine Zn ?_ | refine Zl ?_ | refine Z9 (hcon := hb) ?_); refine JD ?_) | refine JT ?_ | refine JF ?_ | refine X5 ?_
   exact X1 ⟨_, St.le_refl _, ⟨rfl, trivial⟩, X2 _⟩
  by_cases hl0 : l.length = 0
  case neg =>
   rw [show (decide (s = []) && decide (l.length = 0)) = false by simp [*]] at hb
   have hl1 : 0 < l.length := by omega
   rw [show X6 m (.mk 3 n d s l) = false by rw [X6]; simp [*]]
   repeat first | refine X0 ?_ | (refine JR ?_; (repeat first | refine Z1 ?_ | refine Z0 ?_ | refine Zz ?_ | refine ZA ?_ | refine ZL ?_ | refine Zu ?_ | refine Zy (γ := 100) ?_ | refine Zn ?_ | refine Zl ?_ | refine Z9 (hcon := hb) ?_); refine JD ?_) | refine JT ?_ | refine JF ?_ | refine X5 ?_
   exact X1 ⟨_, St.le_refl _, ⟨rfl, trivial⟩, X2 _⟩
  rw [show (decide (s = []) && decide (l.length = 0)) = true by simp [*]] at hb
  by_cases hd : 2 ≤ d
  ·rw [show X6 m (.mk 3 n d s l) = Ub n d by rw [X6]; simp [*]]
   repeat first | refine X0 ?_ | (refine JR ?_; (repeat first | refine Z1 ?_ | refine Z0 ?_ | refine Zz ?_ | refine ZA ?_ | refine ZL ?_ | refine Z2 ?_ | refine Zu ?_ | refine Zy (γ := 100) ?_ | refine Zv ?_ | refine Zk ?_ | refine Z9 (hcon := hb) ?_ | refine Z9 (hcon := X5G n d) ?_); refine JD ?_) | refine JT ?_ | refine JF ?_ | refine X5 ?_
   exact X1 ⟨_, St.le_refl _, ⟨rfl, trivial⟩, X2 _⟩
  ·rw [show X6 m (.mk 3 n d s l) = false by rw [X6]; simp [*]]
   repeat first | refine X0 ?_ | (refine JR ?_; (repeat first | refine Z1 ?_ | refine Z0 ?_ | refine Zz ?_ | refine ZA ?_ | refine ZL ?_ | refine Z2 ?_ | refine Zu ?_ | refine Zy (γ := 100) ?_ | refine Zk ?_ | refine Zn ?_ | refine Zl ?_ | refine Z9 (hcon := hb) ?_); refine JD ?_) | refine JT ?_ | refine JF ?_ | refine X5 ?_
   exact X1 ⟨_, St.le_refl _, ⟨rfl, trivial⟩, X2 _⟩
 by_cases hk4 : k = 4
 ·subst hk4
  have hb := X9h 4 n d s l
  by_cases hn0 : n = 0
  case neg =>
   rw [show (decide (n = 0) && decide (d = 0) && decide (l.length = 0)) = false by simp [*]] at hb
   rw [show X6 m (.mk 4 n d s l) = false by rw [X6]; simp [*]]
   repeat first | refine X0 ?_ | (refine JR ?_; (repeat first | refine Z1 ?_ | refine Z0 ?_ | refine Zz ?_ | refine ZA ?_ | refine ZL ?_ | refine Zu ?_ | refine Zy (γ := 100) ?_ | refine Zn ?_ | refine Zl ?_ | refine Z9 (hcon := hb) ?_); refine JD ?_) | refine JT ?_ | refine JF ?_ | refine X5 ?_
   exact X1 ⟨_, St.le_refl _, ⟨rfl, trivial⟩, X2 _⟩
  by_cases hd0 : d = 0
  case neg =>
   rw [show (decide (n = 0) && decide (d = 0) && decide (l.length = 0)) = false by simp [*]] at hb
   rw [show X6 m (.mk 4 n d s l) = false by rw [X6]; simp [*]]
   repeat first | refine X0 ?_ | (refine JR ?_; (repeat first | refine Z1 ?_ | refine Z0 ?_ | refine Zz ?_ | refine ZA ?_ | refine ZL ?_ | refine Zu ?_ | refine Zy (γ := 100) ?_ | refine Zn ?_ | refine Zl ?_ | refine Z9 (hcon := hb) ?_); refine JD ?_) | refine JT ?_ | refine JF ?_ | refine X5 ?_
   exact X1 ⟨_, St.le_refl _, ⟨rfl, trivial⟩, X2 _⟩
  by_cases hl0 : l.length = 0
  case neg =>
   rw [show (decide (n = 0) && decide (d = 0) && decide (l.length = 0)) = false by simp [*]] at hb
   have hl1 : 0 < l.length := by omega
   rw [show X6 m (.mk 4 n d s l) = false by rw [X6]; simp [*]]
   repeat first | refine X0 ?_ | (refine JR ?_; (repeat first | refine Z1 ?_ | refine Z0 ?_ | refine Zz ?_ | refine ZA ?_ | refine ZL ?_ | refine Zu ?_ | refine Zy (γ := 100) ?_ | refine Zn ?_ | refine Zl ?_ | refine Z9 (hcon := hb) ?_); refine JD ?_) | refine JT ?_ | refine JF ?_ | refine X5 ?_
   exact X1 ⟨_, St.le_refl _, ⟨rfl, trivial⟩, X2 _⟩
  rw [show (decide (n = 0) && decide (d = 0) && decide (l.length = 0)) = true by simp [*]] at hb
  rw [show X6 m (.mk 4 n d s l) = (YZ s && decide (s.length ≤ 100)) by rw [X6]; simp [*, Bool.and_comm]]
  repeat first | refine X0 ?_ | (refine JR ?_; (repeat first | refine Z1 ?_ | refine Z0 ?_ | refine Zz ?_ | refine ZA ?_ | refine ZL ?_ | refine Zu ?_ | refine Zy (γ := 100) ?_ | refine Zk ?_ | refine Z9 (hcon := hb) ?_ | refine Z9 (hcon := X8l s hok.1) ?_); refine JD ?_) | refine JT ?_ | refine JF ?_ | refine X5 ?_
  exact X1 ⟨_, St.le_refl _, ⟨rfl, trivial⟩, X2 _⟩
 by_cases hk5 : k = 5
 ·subst hk5
  have hb := X1W 5 n d s l
  by_cases hd0 : d = 0
  case neg =>
   rw [show (decide (d = 0) && decide (s = []) && decide (l.length = 0)) = false by simp [*]] at hb
   rw [show X6 m (.mk 5 n d s l) = false by rw [X6]; simp [*]]
   repeat first | refine X0 ?_ | (refine JR ?_; (repeat first | refine Z1 ?_ | refine Z0 ?_ | refine Zz ?_ | refine ZA ?_ | refine ZL ?_ | refine Zu ?_ | refine Zy (γ := 100) ?_ | refine Zn ?_ | refine Zl ?_ | refine Z9 (hcon := hb) ?_); refine JD ?_) | refine JT ?_ | refine JF ?_ | refine X5 ?_ | refine X3 ?_
   exact X1 ⟨_, St.le_refl _, ⟨rfl, trivial⟩, X2 _⟩
  by_cases hs0 : s = []
  case neg =>
   rw [show (decide (d = 0) && decide (s = []) && decide (l.length = 0)) = false by simp [*]] at hb
   rw [show X6 m (.mk 5 n d s l) = false by rw [X6]; simp [*]]
   repeat first | refine X0 ?_ | (refine JR ?_; (repeat first | refine Z1 ?_ | refine Z0 ?_ | refine Zz ?_ | refine ZA ?_ | refine ZL ?_ | refine Zu ?_ | refine Zy (γ := 100) ?_ | refine Zn ?_ | refine Zl ?_ | refine Z9 (hcon := hb) ?_); refine JD ?_) | refine JT ?_ | refine JF ?_ | refine X5 ?_ | refine X3 ?_
   exact X1 ⟨_, St.le_refl _, ⟨rfl, trivial⟩, X2 _⟩
  by_cases hl0 : l.length = 0
  case neg =>
   rw [show (decide (d = 0) && decide (s = []) && decide (l.length = 0)) = false by simp [*]] at hb
   have hl1 : 0 < l.length := by omega
   rw [show X6 m (.mk 5 n d s l) = false by rw [X6]; simp [*]]
   repeat first | refine X0 ?_ | (refine JR ?_; (repeat first | refine Z1 ?_ | refine Z0 ?_ | refine Zz ?_ | refine ZA ?_ | refine ZL ?_ | refine Zu ?_ | refine Zy (γ := 100) ?_ | refine Zn ?_ | refine Zl ?_ | refine Z9 (hcon := hb) ?_); refine JD ?_) | refine JT ?_ | refine JF ?_ | refine X5 ?_ | refine X3 ?_
   exact X1 ⟨_, St.le_refl _, ⟨rfl, trivial⟩, X2 _⟩
  rw [show (decide (d = 0) && decide (s = []) && decide (l.length = 0)) = true by simp [*]] at hb
  by_cases hn : 1 ≤ n
  case neg =>
   rw [show X6 m (.mk 5 n d s l) = false by rw [X6]; simp [*]]
   repeat first | refine X0 ?_ | (refine JR ?_; (repeat first | refine Z1 ?_ | refine Z0 ?_ | refine Zz ?_ | refine ZA ?_ | refine ZL ?_ | refine Z2 ?_ | refine Zu ?_ | refine Zy (γ := 100) ?_ | refine Zk ?_ | refine Zn ?_ | refine Zl ?_ | refine Z9 (hcon := hb) ?_); refine JD ?_) | refine JT ?_ | refine JF ?_ | refine X5 ?_ | refine X3 ?_
   exact X1 ⟨_, St.le_refl _, ⟨rfl, trivial⟩, X2 _⟩
  rw [show X6 m (.mk 5 n d s l) = decide (n ≤ 1000000) by rw [X6]; simp [*]]
  repeat first | refine X0 ?_ | (refine JR ?_; (repeat first | refine Z1 ?_ | refine Z0 ?_ | refine Zz ?_ | refine ZA ?_ | refine ZL ?_ | refine Zj ?_ | refine Z2 ?_ | refine Zu ?_ | refine Zy (γ := 100) ?_ | refine Zk ?_ | refine Z9 (hcon := hb) ?_); refine JD ?_) | refine JT ?_ | refine JF ?_ | refine X5 ?_ | refine X3 ?_
  exact X1 ⟨_, St.le_refl _, ⟨rfl, trivial⟩, X2 _⟩
 by_cases hk6 : k = 6
 ·subst hk6
  have hb := X1W 6 n d s l
  by_cases hd0 : d = 0
  case neg =>
   rw [show (decide (d = 0) && decide (s = []) && decide (l.length = 0)) = false by simp [*]] at hb
   rw [show X6 m (.mk 6 n d s l) = false by rw [X6]; simp [*]]
   repeat first | refine X0 ?_ | (refine JR ?_; (repeat first | refine Z1 ?_ | refine Z0 ?_ | refine Zz ?_ | refine ZA ?_ | refine ZL ?_ | refine Zu ?_ | refine Zy (γ := 100) ?_ | refine Zn ?_ | refine Zl ?_ | refine Z9 (hcon := hb) ?_); refine JD ?_) | refine JT ?_ | refine JF ?_ | refine X5 ?_
   exact X1 ⟨_, St.le_refl _, ⟨rfl, trivial⟩, X2 _⟩
  by_cases hs0 : s = []
  case neg =>
   rw [show (decide (d = 0) && decide (s = []) && decide (l.length = 0)) = false by simp [*]] at hb
   rw [show X6 m (.mk 6 n d s l) = false by rw [X6]; simp [*]]
   repeat first | refine X0 ?_ | (refine JR ?_; (repeat first | refine Z1 ?_ | refine Z0 ?_ | refine Zz ?_ | refine ZA ?_ | refine ZL ?_ | refine Zu ?_ | refine Zy (γ := 100) ?_ | refine Zn ?_ | refine Zl ?_ | refine Z9 (hcon := hb) ?_); refine JD ?_) | refine JT ?_ | refine JF ?_ | refine X5 ?_
   exact X1 ⟨_, St.le_refl _, ⟨rfl, trivial⟩, X2 _⟩
  by_cases hl0 : l.length = 0
  case neg =>
   rw [show (decide (d = 0) && decide (s = []) && decide (l.length = 0)) = false by simp [*]] at hb
   have hl1 : 0 < l.length := by omega
   rw [show X6 m (.mk 6 n d s l) = false by rw [X6]; simp [*]]
   repeat first | refine X0 ?_ | (refine JR ?_; (repeat first | refine Z1 ?_ | refine Z0 ?_ | refine Zz ?_ | refine ZA ?_ | refine ZL ?_ | refine Zu ?_ | refine Zy (γ := 100) ?_ | refine Zn ?_ | refine Zl ?_ | refine Z9 (hcon := hb) ?_); refine JD ?_) | refine JT ?_ | refine JF ?_ | refine X5 ?_
   exact X1 ⟨_, St.le_refl _, ⟨rfl, trivial⟩, X2 _⟩
  rw [show (decide (d = 0) && decide (s = []) && decide (l.length = 0)) = true by simp [*]] at hb
  by_cases hn : 1 ≤ n
  case neg =>
   rw [show X6 m (.mk 6 n d s l) = false by rw [X6]; simp [*]]
   repeat first | refine X0 ?_ | (refine JR ?_; (repeat first | refine Z1 ?_ | refine Z0 ?_ | refine Zz ?_ | refine ZA ?_ | refine ZL ?_ | refine Z2 ?_ | refine Zu ?_ | refine Zy (γ := 100) ?_ | refine Zk ?_ | refine Zn ?_ | refine Zl ?_ | refine Z9 (hcon := hb) ?_); refine JD ?_) | refine JT ?_ | refine JF ?_ | refine X5 ?_
   exact X1 ⟨_, St.le_refl _, ⟨rfl, trivial⟩, X2 _⟩
  rw [show X6 m (.mk 6 n d s l) = decide (n ≤ 1000000) by rw [X6]; simp [*]]
  repeat first | refine X0 ?_ | (refine JR ?_; (repeat first | refine Z1 ?_ | refine Z0 ?_ | refine Zz ?_ | refine ZA ?_ | refine ZL ?_ | refine Zj ?_ | refine Z2 ?_ | refine Zu ?_ | refine Zy (γ := 100) ?_ | refine Zk ?_ | refine Z9 (hcon := hb) ?_); refine JD ?_) | refine JT ?_ | refine JF ?_ | refine X5 ?_
  exact X1 ⟨_, St.le_refl _, ⟨rfl, trivial⟩, X2 _⟩
 by_cases hk7 : k = 7
 ·subst hk7
  have hb := X4D 7 n d s l
  by_cases hn0 : n = 0
  case neg =>
   rw [show (decide (n = 0) && decide (d = 0) && decide (s = [])) = false by simp [*]] at hb
   rw [show X6 m (.mk 7 n d s l) = false by rw [X6]; simp [*]]
   repeat first | refine X0 ?_ | (refine JR ?_; (repeat first | refine Z1 ?_ | refine Z0 ?_ | refine Zz ?_ | refine ZA ?_ | refine ZL ?_ | refine Zu ?_ | refine Zy (γ := 100) ?_ | refine Zn ?_ | refine Zl ?_ | refine Z9 (hcon := hb) ?_); refine JD ?_) | refine JT ?_ | refine JF ?_ | refine X5 ?_
   exact X1 ⟨_, St.le_refl _, ⟨rfl, trivial⟩, X2 _⟩
  by_cases hd0 : d = 0
  case neg =>
   rw [show (decide (n = 0) && decide (d = 0) && decide (s = [])) = false by simp [*]] at hb
   rw [show X6 m (.mk 7 n d s l) = false by rw [X6]; simp [*]]
   repeat first | refine X0 ?_ | (refine JR ?_; (repeat first | refine Z1 ?_ | refine Z0 ?_ | refine Zz ?_ | refine ZA ?_ | refine ZL ?_ | refine Zu ?_ | refine Zy (γ := 100) ?_ | refine Zn ?_ | refine Zl ?_ | refine Z9 (hcon := hb) ?_); refine JD ?_) | refine JT ?_ | refine JF ?_ | refine X5 ?_
   exact X1 ⟨_, St.le_refl _, ⟨rfl, trivial⟩, X2 _⟩
  by_cases hs0 : s = []
  case neg =>
   rw [show (decide (n = 0) && decide (d = 0) && decide (s = [])) = false by simp [*]] at hb
   rw [show X6 m (.mk 7 n d s l) = false by rw [X6]; simp [*]]
   repeat first | refine X0 ?_ | (refine JR ?_; (repeat first | refine Z1 ?_ | refine Z0 ?_ | refine Zz ?_ | refine ZA ?_ | refine ZL ?_ | refine Zu ?_ | refine Zy (γ := 100) ?_ | refine Zn ?_ | refine Zl ?_ | refine Z9 (hcon := hb) ?_); refine JD ?_) | refine JT ?_ | refine JF ?_ | refine X5 ?_
   exact X1 ⟨_, St.le_refl _, ⟨rfl, trivial⟩, X2 _⟩
  rw [show (decide (n = 0) && decide (d = 0) && decide (s = [])) = true by simp [*]] at hb
  rw [show X6 m (.mk 7 n d s l) = YN l by rw [X6]; simp [YN, *]]
  repeat first | refine X0 ?_ | (refine JR ?_; (repeat first | refine Z1 ?_ | refine Z0 ?_ | refine Zz ?_ | refine ZA ?_ | refine ZL ?_ | refine Zu ?_ | refine Zy (γ := 100) ?_ | refine Zk ?_ | refine Z9 (hcon := hb) ?_ | refine Z9 (hcon := X87 l hok.2.1 ih) ?_); refine JD ?_) | refine JT ?_ | refine JF ?_ | refine X5 ?_
  exact X1 ⟨_, St.le_refl _, ⟨rfl, trivial⟩, X2 _⟩
 by_cases hk8 : k = 8
 ·subst hk8
  have hb := X4D 8 n d s l
  by_cases hn0 : n = 0
  case neg =>
   rw [show (decide (n = 0) && decide (d = 0) && decide (s = [])) = false by simp [*]] at hb
   rw [show X6 m (.mk 8 n d s l) = false by rw [X6]; simp [*]]
   repeat first | refine X0 ?_ | (refine JR ?_; (repeat first | refine Z1 ?_ | refine Z0 ?_ | refine Zz ?_ | refine ZA ?_ | refine ZL ?_ | refine Zu ?_ | refine Zy (γ := 100) ?_ | refine Zn ?_ | refine Zl ?_ | refine Z9 (hcon := hb) ?_); refine JD ?_) | refine JT ?_ | refine JF ?_ | refine X5 ?_
   exact X1 ⟨_, St.le_refl _, ⟨rfl, trivial⟩, X2 _⟩
  by_cases hd0 : d = 0
  case neg =>
   rw [show (decide (n = 0) && decide (d = 0) && decide (s = [])) = false by simp [*]] at hb
   rw [show X6 m (.mk 8 n d s l) = false by rw [X6]; simp [*]]
   repeat first | refine X0 ?_ | (refine JR ?_; (repeat first | refine Z1 ?_ | refine Z0 ?_ | refine Zz ?_ | refine ZA ?_ | refine ZL ?_ | refine Zu ?_ | refine Zy (γ := 100) ?_ | refine Zn ?_ | refine Zl ?_ | refine Z9 (hcon := hb) ?_); refine JD ?_) | refine JT ?_ | refine JF ?_ | refine X5 ?_
   exact X1 ⟨_, St.le_refl _, ⟨rfl, trivial⟩, X2 _⟩
  by_cases hs0 : s = []
  case neg =>
   rw [show (decide (n = 0) && decide (d = 0) && decide (s = [])) = false by simp [*]] at hb
   rw [show X6 m (.mk 8 n d s l) = false by rw [X6]; simp [*]]
   repeat first | refine X0 ?_ | (refine JR ?_; (repeat first | refine Z1 ?_ | refine Z0 ?_ | refine Zz ?_ | refine ZA ?_ | refine ZL ?_ | refine Zu ?_ | refine Zy (γ := 100) ?_ | refine Zn ?_ | refine Zl ?_ | refine Z9 (hcon := hb) ?_); refine JD ?_) | refine JT ?_ | refine JF ?_ | refine X5 ?_
   exact X1 ⟨_, St.le_refl _, ⟨rfl, trivial⟩, X2 _⟩
  rw [show (decide (n = 0) && decide (d = 0) && decide (s = [])) = true by simp [*]] at hb
  rw [show X6 m (.mk 8 n d s l) = (decide (1 ≤ m ∧ l.length ≤ 64) && YA (m - 1) l) by rw [X6]; simp [*, and_comm]]
  repeat first | refine X0 ?_ | (refine JR ?_; (repeat first | refine Z1 ?_ | refine Z0 ?_ | refine Zz ?_ | refine ZA ?_ | refine ZL ?_ | refine Zu ?_ | refine Zy (γ := 100) ?_ | refine Zk ?_ | refine Z9 (hcon := hb) ?_ | refine Z9 (hcon := Xcn l m hm hok.2.1 ih) ?_); refine JD ?_) | refine JT ?_ | refine JF ?_ | refine X5 ?_
  exact X1 ⟨_, St.le_refl _, ⟨rfl, trivial⟩, X2 _⟩
 rw [show X6 m (.mk k n d s l) = false by rw [X6]; simp [*]]
 repeat first | refine X0 ?_ | (refine JR ?_; (repeat first | refine Z0 ?_ | refine Zz ?_ | refine ZA ?_ | refine Zu ?_ | refine Zy (γ := 100) ?_); refine JD ?_) | refine JF ?_ | refine X5 ?_ | refine X3 ?_
 exact X1 ⟨_, St.le_refl _, ⟨rfl, trivial⟩, X2 _⟩
theorem X5h : ∀ v : Val, Xb9 v
 | .mk k n d s l => fun hok => XaX (.mk k n d s l) hok fun x hx => X5h x (VN (by rw [XH] at hok; exact hok.2.2) hx)
termination_by v => SizeOf.sizeOf v
decreasing_by
 have h1 := List.sizeOf_lt_of_mem (show x ∈ l from hx)
 simp only [Val.mk.sizeOf_spec]
 omega
theorem X04 (v : Val) (hok : XH v) : Con Tryz.prog 66 [] [Xb v] [] (ab (X6 8 v)) := by
 refine X8 (xs := [ab (X6 8 v)]) Tryz.func66 rfl Tryz.ntmps66 rfl rfl rfl (fun E => ?_)
 have h := X5h v hok 8 (by omega)
 obtain ⟨k, n, d, s, l⟩ := v
 simp only [Xb] at h
 refine X0 ?_; refine JR ?_; refine Zy (γ := 100) ?_; refine Z0 ?_; refine JD ?_; refine X0 ?_; refine JR ?_; refine ZL ?_; refine Z9 (hcon := h) ?_; refine Z0 ?_; refine JD ?_
 exact X1 ⟨_, St.le_refl _, ⟨rfl, trivial⟩, X2 _⟩
end Go.Fw
namespace Go.Fw
open Go Go.Proofs
set_option maxRecDepth 100000
set_option linter.unusedVariables false
set_option linter.unusedSimpArgs false
def Yc (x y : Int) : Int := if x < y then -1 else if y < x then 1 else 0
theorem X7f (x : Int) : Con Tryz.prog 131 [] [ai x] [] (ab false) := by
 refine X8 (xs := [ab false]) Tryz.func131 rfl Tryz.ntmps131 rfl rfl rfl (fun E => ?_)
 refine X0 ?_; refine JR ?_; refine Z0 ?_; refine JD ?_; refine X0 ?_; refine JR ?_; refine Z1 ?_; refine Z1 ?_; refine Zs ?_; refine Z0 ?_; refine JD ?_
 exact X1 ⟨_, X9 2 (y := ab false) (AVal.le_of_eq (by refine Eq.trans (b := ab (decide (x ≠ x))) rfl ?_; exact congrArg ab (by simp))), ⟨rfl, trivial⟩, X2 _⟩
theorem XaT (s : List UInt8) : Con Tryz.prog 132 [] [.d (.v (.string (X4 s)))] [] (ab false) := by
 refine X8 (xs := [ab false]) Tryz.func132 rfl Tryz.ntmps132 rfl rfl rfl (fun E => ?_)
 refine X0 ?_; refine JR ?_; refine Z0 ?_; refine JD ?_; refine X0 ?_; refine JR ?_; refine Z1 ?_; refine Z1 ?_; refine ZM ?_; refine Z0 ?_; refine JD ?_
 exact X1 ⟨_, X9 2 (y := ab false) (AVal.le_of_eq (by refine Eq.trans (b := ab (decide (s ≠ s))) rfl ?_; exact congrArg ab (by simp))), ⟨rfl, trivial⟩, X2 _⟩
theorem X5t (x y : Int) : Con Tryz.prog 111 [] [ai x, ai y] [] (ai (Yc x y)) := by
 refine X8 (xs := [ai (Yc x y)]) Tryz.func111 rfl Tryz.ntmps111 rfl rfl rfl (fun E => ?_)
 have n1 := X7f x
 have n2 := X7f y
 by_cases h1 : x < y
 ·rw [show Yc x y = -1 by simp [Yc, h1]]
  repeat first | refine X0 ?_ | (refine JR ?_; (repeat first | refine Z1 ?_ | refine Z0 ?_ | refine Z8 ?_ | refine Z9 (hcon := n1) ?_ | refine Z9 (hcon := n2) ?_); refine JD ?_) | refine JT ?_ | refine JF ?_ | refine X3 ?_
  exact X1 ⟨_, St.le_refl _, ⟨rfl, trivial⟩, X2 _⟩
 by_cases h2 : y < x
 ·rw [show Yc x y = 1 by simp [Yc, h1, h2]]
  repeat first | refine X0 ?_ | (refine JR ?_; (repeat first | refine Z1 ?_ | refine Z0 ?_ | refine Z8 ?_ | refine Zp ?_ | refine Z9 (hcon := n1) ?_ | refine Z9 (hcon := n2) ?_); refine JD ?_) | refine JT ?_ | refine JF ?_ | refine X3 ?_
  exact X1 ⟨_, St.le_refl _, ⟨rfl, trivial⟩, X2 _⟩
 rw [show Yc x y = 0 by simp [Yc, h1, h2]]
 repeat first | refine X0 ?_ | (refine JR ?_; (repeat first | refine Z1 ?_ | refine Z0 ?_ | refine Z8 ?_ | refine Zp ?_ | refine Z9 (hcon := n1) ?_ | refine Z9 (hcon := n2) ?_); refine JD ?_) | refine JF ?_ | refine X3 ?_
 exact X1 ⟨_, St.le_refl _, ⟨rfl, trivial⟩, X2 _⟩
theorem X45 : ∀ s : List UInt8, Op.bytesLess s s = false
 | [] => rfl
 | b :: s => by simp [Op.bytesLess, X45 s]
theorem Xci {t : TypeId} {x y : Operand} {s : List UInt8} (w : World) : (do eqGuard .lss t x y (.string (X4 s)) (.string (X4 s)); binOp .lss t (.string (X4 s)) (.string (X4 s)) : Sem Value).run Tryz.prog w = .ok (.bool false) w := by
 simp [go_sem, binOp, Op.stringOp, X0M, X45]
theorem X7X {t : TypeId} {x y : Operand} {s : List UInt8} (w : World) : (do eqGuard .gtr t x y (.string (X4 s)) (.string (X4 s)); binOp .gtr t (.string (X4 s)) (.string (X4 s)) : Sem Value).run Tryz.prog w = .ok (.bool false) w := by
 simp [go_sem, binOp, Op.stringOp, X0M, X45]
theorem X8e (s : List UInt8) : Con Tryz.prog 112 [] [.d (.v (.string (X4 s))), .d (.v (.string (X4 s)))] [] (ai 0) := by
 refine X8 (xs := [ai 0]) Tryz.func112 rfl Tryz.ntmps112 rfl rfl rfl (fun E => ?_)
 have n1 := XaT s
 repeat first | refine X0 ?_ | (refine JR ?_; (repeat first | refine Z7 (op := .lss) (r' := .bool false) (u := .string (X4 s)) (v := .string (X4 s)) ?_ (hr := by exact Xci) | refine Z7 (op := .gtr) (r' := .bool false) (u := .string (X4 s)) (v := .string (X4 s)) ?_ (hr := by exact X7X) | refine Z1 ?_ | refine Z0 ?_ | refine Z9 (hcon := n1) ?_); refine JD ?_) | refine JF ?_ | refine X3 ?_
 exact X1 ⟨_, St.le_refl _, ⟨rfl, trivial⟩, X2 _⟩
abbrev cI (n : Int) : List D := [.v (.int .i64 n)]
def orI : List Int → Int
 | [] => 0
 | x :: r => if x ≠ 0 then x else orI r
theorem X8N {l : List Int} {i : Nat} {x : Int} (h : l[i]? = some x) : orI (l.drop i) = if x ≠ 0 then x else orI (l.drop (i + 1)) := by
 rw [List.drop_eq_getElem_cons (List.getElem?_eq_some_iff.1 h).1, (List.getElem?_eq_some_iff.1 h).2, orI]
theorem X8o (l : List Int) (hl : l.length ≤ 1000) : Con Tryz.prog 110 [] [.d (.sl 1 (l.map cI))] [] (ai (orI l)) := by
 refine X8 (xs := [ai (orI l)]) Tryz.func110 rfl Tryz.ntmps110 rfl rfl rfl (fun E => ?_)
 have hlm : (l.map cI).length = l.length := by simp
 refine X0 ?_; refine JR ?_; refine Z0 ?_; refine JD ?_; refine X0 ?_; refine JR ?_; refine Z0 ?_; refine JD ?_; refine X0 ?_; refine X0 ?_; refine JR ?_; refine Z1 ?_; refine Zd ?_; refine Z1 ?_
 refine JD ?_; refine X5 ?_
 generalize hG : orI l = G
 refine XR (fun i : Nat => i ≤ l.length ∧ orI (l.drop i) = G) (fun i => ⟨18, [(3, ai 0), (6, .d (.sl 1 (l.map cI))), (7, ai (l.map cI).length), (8, ai i)], []⟩) (fun i => l.length - i) 0 ⟨by omega, hG⟩
  (Xc rfl ⟨JL, JL, JL, JL, trivial⟩ trivial) ?_
 rintro i ⟨hi, hg⟩
 by_cases hil : i < l.length
 case neg =>
  obtain rfl : i = l.length := by omega
  rw [List.drop_length, orI] at hg
  subst hg
  have hn : ¬ ((l.length : Nat) : Int) < (l.map cI).length := by omega
  refine X0 ?_; refine JR ?_; refine Z8 ?_; refine JD ?_; refine X0 ?_; refine JF ?_; refine Xv ?_; refine X0 ?_; refine JR ?_; refine Z1 ?_; refine Z0 ?_; refine JD ?_
  exact X1 ⟨_, St.le_refl _, ⟨rfl, trivial⟩, X2 _⟩
 have hn : (i : Int) < (l.map cI).length := by omega
 obtain ⟨x, hx⟩ := XT (l := l) hil
 have hxm : (l.map cI)[i]? = some (cI x) := YR hx
 rw [X8N hx] at hg
 by_cases h0 : x = 0
 ·rw [if_neg (by simpa using h0)] at hg
  refine X0 ?_; refine JR ?_; refine Z8 ?_; refine JD ?_; refine X0 ?_; refine JT ?_; refine X3 ?_; refine X0 ?_; refine X5 ?_; refine X0 ?_; refine JR ?_; refine ZI ?_; refine ZK ?_
  refine Z0 ?_; refine JD ?_; refine X0 ?_; refine JR ?_; refine Z1 ?_; refine Z1 ?_; refine Zs ?_; refine JD ?_; refine JF ?_; refine X3 ?_; refine JR ?_; refine Zb ?_; refine Z1 ?_; refine JD ?_
  exact ⟨i + 1, ⟨by omega, hg⟩, by omega, Xc rfl ⟨JL, JL, JL, JL, trivial⟩ trivial⟩
 ·rw [if_pos h0] at hg
  subst hg
  refine X0 ?_; refine JR ?_; refine Z8 ?_; refine JD ?_; refine X0 ?_; refine JT ?_; refine X3 ?_; refine X0 ?_; refine X5 ?_; refine X0 ?_; refine JR ?_; refine ZI ?_; refine ZK ?_
  refine Z0 ?_; refine JD ?_; refine X0 ?_; refine JR ?_; refine Z1 ?_; refine Z1 ?_; refine Zs ?_; refine JD ?_; refine JT ?_; refine X0 ?_; refine JR ?_; refine Z1 ?_; refine Z0 ?_; refine JD ?_
  exact X1 ⟨_, St.le_refl _, ⟨rfl, trivial⟩, X2 _⟩
def YX (k : Int) : Int := if k = 3 then 2 else if k = 7 then 9 else k
theorem X46 (k n d : Int) (s : List UInt8) (l : List Val) : Con Tryz.prog 128 [] [Xb (.mk k n d s l)] [] (ai (YX k)) := by
 refine X8 (xs := [ai (YX k)]) Tryz.func128 rfl Tryz.ntmps128 rfl rfl rfl (fun E => ?_)
 simp only [Xb]
 by_cases h3 : k = 3
 ·subst h3
  refine X0 ?_; refine JR ?_; refine Zy (γ := 100) ?_; refine Z0 ?_; refine JD ?_; refine X0 ?_; refine X0 ?_; refine JR ?_; refine Zz ?_; refine ZA ?_; refine JD ?_; refine X5 ?_; refine X0 ?_
  refine JR ?_; refine Zu ?_; refine Z0 ?_; refine JD ?_; refine JT ?_; refine X0 ?_; refine JR ?_; refine Z0 ?_; refine JD ?_
  exact X1 ⟨_, St.le_refl _, ⟨rfl, trivial⟩, X2 _⟩
 by_cases h7 : k = 7
 ·subst h7
  repeat first | refine X0 ?_ | (refine JR ?_; (repeat first | refine Z0 ?_ | refine Zz ?_ | refine ZA ?_ | refine Zu ?_ | refine Zy (γ := 100) ?_); refine JD ?_) | refine JT ?_ | refine JF ?_ | refine X5 ?_
  exact X1 ⟨_, St.le_refl _, ⟨rfl, trivial⟩, X2 _⟩
 rw [show YX k = k by simp [YX, h3, h7]]
 repeat first | refine X0 ?_ | (refine JR ?_; (repeat first | refine Z0 ?_ | refine Zz ?_ | refine ZA ?_ | refine Zu ?_ | refine Zy (γ := 100) ?_); refine JD ?_) | refine JF ?_ | refine X5 ?_ | refine X3 ?_
 exact X1 ⟨_, St.le_refl _, ⟨rfl, trivial⟩, X2 _⟩
end Go.Fw
namespace Go.Fw
open Go
set_option linter.unusedVariables false
abbrev Ye (x : Nat) : List D := [.v (.int .i64 (x : Int))]
abbrev YT (l : List Nat) : D := .sl 1 (l.map Ye)
def YU : List Nat → Nat
 | [] => 0
 | x :: r => x + 1000 * YU r
def YJ : Nat → Nat → List Nat
 | 0, _ => []
 | n + 1, v => v % 1000 :: YJ n (v / 1000)
def UH (l : List Nat) : Prop := ∀ d ∈ l, d < 1000
theorem X1x {l : List Nat} (h : UH l) {k x : Nat} (hx : l[k]? = some x) : x < 1000 := h x (List.mem_of_getElem? hx)
theorem X41 : ∀ n v, (YJ n v).length = n
 | 0, _ => rfl
 | n + 1, v => by rw [YJ, List.length_cons, X41 n]
theorem X2J : ∀ n v, UH (YJ n v)
 | 0, _ => fun d h => by simp [YJ] at h
 | n + 1, v => fun d h => by
  rw [YJ] at h
  rcases List.mem_cons.1 h with rfl | h
  ·exact Nat.mod_lt _ (by omega)
  ·exact X2J n _ d h
theorem X6J : ∀ l : List Nat, UH l → YJ l.length (YU l) = l
 | [], _ => rfl
 | x :: r, h => by
  have hx := h x (by simp)
  rw [List.length_cons, YJ, YU, show (x + 1000 * YU r) % 1000 = x by omega, show (x + 1000 * YU r) / 1000 = YU r by omega, X6J r fun d hd => h d (by simp [hd])]
theorem X6S : ∀ (l : List Nat) (k x y : Nat), l[k]? = some x → YU (l.set k y) + x * 1000 ^ k = YU l + y * 1000 ^ k
 | [], k, x, y, h => by simp at h
 | z :: r, 0, x, y, h => by
  simp at h
  subst h
  simp only [List.set_cons_zero, YU, Nat.pow_zero, Nat.mul_one]
  omega
 | z :: r, k + 1, x, y, h => by
  have ih := X6S r k x y (by simpa using h)
  simp only [List.set_cons_succ, YU, Nat.pow_succ, ← Nat.mul_assoc]
  omega
theorem X6A : ∀ n, YU (List.replicate n 0) = 0
 | 0 => rfl
 | n + 1 => by rw [List.replicate_succ, YU, X6A n]
theorem X4d (n : Nat) : UH (List.replicate n 0) := fun d h => by
 have := (List.mem_replicate.1 h).2
 omega
theorem X6p {l : List Nat} (h : UH l) (k : Nat) {y : Nat} (hy : y < 1000) : UH (l.set k y) := fun d hd => by
 rcases List.mem_or_eq_of_mem_set hd with h1 | rfl
 ·exact h d h1
 ·exact hy
theorem Xc0 {l : List Nat} {k x V d c carry : Nat} (hV : YU l + (d * c + carry) * 1000 ^ k = V) (hx : l[k]? = some x) :
  YU (l.set k ((carry + x + d * (c % 1000)) % 1000)) + (d * (c / 1000) + (carry + x + d * (c % 1000)) / 1000) * 1000 ^ (k + 1) = V := by
 have h1 := X6S l k x ((carry + x + d * (c % 1000)) % 1000) hx
 have ht := Nat.mod_add_div (carry + x + d * (c % 1000)) 1000
 have e1 : d * c = d * (c % 1000) + 1000 * (d * (c / 1000)) := by
  have hc := Nat.mod_add_div c 1000
  calc d * c = d * (c % 1000 + 1000 * (c / 1000)) := by rw [hc]
   _ = _ := by rw [Nat.mul_add, Nat.mul_left_comm]
 rw [e1] at hV
 rw [Nat.pow_succ]
 generalize YU (l.set k ((carry + x + d * (c % 1000)) % 1000)) = A at *
 generalize d * (c % 1000) = u at *
 generalize d * (c / 1000) = w at *
 generalize (carry + x + u) / 1000 = q at *
 generalize (carry + x + u) % 1000 = r at *
 generalize 1000 ^ k = p at *
 have e2 : (r + 1000 * q) * p = (carry + x + u) * p := by rw [ht]
 have e3 : (w + q) * (p * 1000) = 1000 * (w * p) + 1000 * (q * p) := by rw [← Nat.mul_assoc, Nat.mul_comm, Nat.add_mul, Nat.mul_add]
 rw [e3]
 simp only [Nat.add_mul, Nat.mul_assoc] at *
 omega
theorem X8C {A A' a b i V : Nat} (hV : A + a * b * 1000 ^ i = V) (h : A' = A + a % 1000 * b * 1000 ^ i) : A' + a / 1000 * b * 1000 ^ (i + 1) = V := by
 have e1 : a * b = a % 1000 * b + 1000 * (a / 1000 * b) := by
  have hc := Nat.mod_add_div a 1000
  calc a * b = (a % 1000 + 1000 * (a / 1000)) * b := by rw [hc]
   _ = _ := by rw [Nat.add_mul, Nat.mul_assoc]
 rw [e1] at hV
 rw [Nat.pow_succ]
 generalize a % 1000 * b = u at *
 generalize a / 1000 * b = w at *
 generalize 1000 ^ i = p at *
 have e3 : w * (p * 1000) = 1000 * (w * p) := by rw [← Nat.mul_assoc, Nat.mul_comm]
 rw [e3]
 simp only [Nat.add_mul, Nat.mul_assoc] at *
 omega
theorem X3I {k m : Nat} (h : 1000 ^ k ≤ 1000 ^ m) : k ≤ m := (Nat.pow_le_pow_iff_right (by decide)).1 h
theorem Xap {a i a0 : Nat} (h : a * 1000 ^ i ≤ a0) (ha : 0 < a) (h0 : a0 ≤ 1000000000000000) : i ≤ 5 := by
 refine X3I (Nat.le_trans ?_ (Nat.le_trans h h0))
 exact Nat.le_mul_of_pos_left _ ha
theorem X96 {c k b i : Nat} (h : c * 1000 ^ k ≤ b * 1000 ^ i) (hc : 0 < c) (hb : b ≤ 1000000000000000) (hi : i ≤ 5) : k ≤ 10 := by
 have h1 : 1000 ^ k ≤ c * 1000 ^ k := Nat.le_mul_of_pos_left _ hc
 have h2 : b * 1000 ^ i ≤ 1000 ^ 5 * 1000 ^ 5 := Nat.mul_le_mul hb (Nat.pow_le_pow_right (by decide) hi)
 exact X3I (Nat.le_trans h1 (Nat.le_trans h h2))
theorem X9Z {A u carry k V W : Nat} (h : A + (u + carry) * 1000 ^ k = V) (hV : V ≤ W) (hW : W ≤ 1000 ^ 10) (hc : 0 < carry) : k ≤ 10 := by
 have h1 : 1000 ^ k ≤ (u + carry) * 1000 ^ k := Nat.le_mul_of_pos_left _ (by omega)
 exact X3I (Nat.le_trans h1 (by omega))
theorem X4S {c k X : Nat} (h : c * 1000 ^ k ≤ X) : c / 1000 * 1000 ^ (k + 1) ≤ X := by
 refine Nat.le_trans ?_ h
 rw [Nat.pow_succ, Nat.mul_comm (1000 ^ k), ← Nat.mul_assoc]
 exact Nat.mul_le_mul_right _ (Nat.div_mul_le_self c 1000)
theorem X98 {a b a0 : Nat} (ha : a ≤ 1000000000000000) (hb : b ≤ 1000000000000000) : a * b ≤ 1000 ^ 10 := by
 have h : a * b ≤ 1000000000000000 * 1000000000000000 := Nat.mul_le_mul ha hb
 exact h
theorem X9i {A a b i V : Nat} (h : A + a * b * 1000 ^ i = V) : A + a % 1000 * b * 1000 ^ i ≤ V := by
 rw [← h]
 exact Nat.add_le_add_left (Nat.mul_le_mul_right _ (Nat.mul_le_mul_right _ (Nat.mod_le _ _))) _
def U7 (x y : List Nat) : Nat → List Nat × Nat
 | 0 => (List.replicate x.length 0, 0)
 | k + 1 => let p := U7 x y k; let t := p.2 + (x[k]?).getD 0 + (y[k]?).getD 0; (p.1.set k (t % 1000), t / 1000)
theorem X5J (x y : List Nat) : ∀ k, (U7 x y k).1.length = x.length
 | 0 => by simp [U7]
 | k + 1 => by simp only [U7, List.length_set]; exact X5J x y k
theorem X77 {x y : List Nat} (hx : UH x) (hy : UH y) : ∀ k, (U7 x y k).2 ≤ 1
 | 0 => by simp [U7]
 | k + 1 => by
  have ih := X77 hx hy k
  have h1 : (x[k]?).getD 0 < 1000 := by
   cases h : x[k]? with
   | none => simp
   | some a => exact X1x hx h
  have h2 : (y[k]?).getD 0 < 1000 := by
   cases h : y[k]? with
   | none => simp
   | some a => exact X1x hy h
  simp only [U7]
  omega
def V1 (x y : List Nat) : List Nat := (U7 x y x.length).1
end Go.Fw

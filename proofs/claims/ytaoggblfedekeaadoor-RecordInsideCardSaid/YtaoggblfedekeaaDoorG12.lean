/- The reference's Valid. -/
import Derived.Test.YtaoggblfedekeaaDoorG08
import Derived.Test.YtaoggblfedekeaaDoorG11
import Derived.Test.YtaoggblfedekeaaDoorG10
import Derived.Test.YtaoggblfedekeaaDoorG09
set_option maxHeartbeats 8000000
namespace Go.Fw
open Go Go.Proofs
set_option maxRecDepth 100000
set_option linter.unusedVariables false
set_option linter.unusedSimpArgs false
mutual
def XU : Val → Prop
 | .mk k n d s l => s.length ≤ 9223372036854775807 ∧ l.length ≤ 9223372036854775807 ∧ Vq l
def Vq : List Val → Prop
 | [] => True
 | v :: r => XU v ∧ Vq r
end
theorem VS : ∀ {l : List Val} {x : Val}, Vq l → x ∈ l → XU x
 | [], _, _, h => by simp at h
 | v :: r, x, h, hx => by
  rw [Vq] at h
  rcases List.mem_cons.1 hx with rfl | hx
  ·exact h.1
  ·exact VS h.2 hx
def X7C (v : Val) : Prop := XU v → X0P v
theorem XaM (k n d : Int) (s : List UInt8) (l : List Val) : Con Tryd.prog 74 [] [Xh (.mk k n d s l), ab false, ab false, ab false, ab false] [] (ab (decide (n = 0) && decide (d = 0) && decide (s = []) && decide (l.length = 0))) := by
 refine Xb (xs := [ab (decide (n = 0) && decide (d = 0) && decide (s = []) && decide (l.length = 0))]) Tryd.func74 rfl Tryd.ntmps74 rfl rfl rfl (fun E => ?_)
 have hlen := U3 l
 by_cases hn : n = 0
 case neg =>
  rw [show (decide (n = 0) && decide (d = 0) && decide (s = []) && decide (l.length = 0)) = false by simp [*]]
  repeat first | refine X0 ?_ | (refine JR ?_; (repeat first | refine Z1 ?_ | refine Z0 ?_ | refine Zy ?_ | refine Zz ?_ | refine Zs ?_ | refine Zx (γ := 100) ?_ | refine Zl ?_ | refine Zj ?_ | refine Zk ?_); refine JD ?_)
  exact X1 ⟨_, St.le_refl _, ⟨rfl, trivial⟩, X2 _⟩
 by_cases hd : d = 0
 case neg =>
  rw [show (decide (n = 0) && decide (d = 0) && decide (s = []) && decide (l.length = 0)) = false by simp [*]]
  repeat first | refine X0 ?_ | (refine JR ?_; (repeat first | refine Z1 ?_ | refine Z0 ?_ | refine Zy ?_ | refine Zz ?_ | refine Zs ?_ | refine Zx (γ := 100) ?_ | refine Zi ?_ | refine Zl ?_ | refine Zj ?_ | refine Zk ?_); refine JD ?_)
  exact X1 ⟨_, St.le_refl _, ⟨rfl, trivial⟩, X2 _⟩
 by_cases hs : s = []
 case neg =>
  rw [show (decide (n = 0) && decide (d = 0) && decide (s = []) && decide (l.length = 0)) = false by simp [*]]
  repeat first | refine X0 ?_ | (refine JR ?_; (repeat first | refine Z1 ?_ | refine Z0 ?_ | refine Zy ?_ | refine Zz ?_ | refine Zs ?_ | refine Zm ?_ | refine Zx (γ := 100) ?_ | refine Zi ?_ | refine Zl ?_ | refine Zj ?_ | refine Zk ?_); refine JD ?_)
  exact X1 ⟨_, St.le_refl _, ⟨rfl, trivial⟩, X2 _⟩
 by_cases hl : l.length = 0
 case neg =>
  have hl' : ¬ ((l.length : Int) = 0) := by omega
  rw [show (decide (n = 0) && decide (d = 0) && decide (s = []) && decide (l.length = 0)) = false by simp [*]]
  repeat first | refine X0 ?_ | (refine JR ?_; (repeat first | refine Z1 ?_ | refine Z0 ?_ | refine Zy ?_ | refine Zz ?_ | refine Zb ?_ | refine Zs ?_ | refine Zm ?_ | refine Zx (γ := 100) ?_ | refine Zi ?_ | refine Zl ?_); refine JD ?_)
  exact X1 ⟨_, Xi 10 (y := ab false) (AVal.le_of_eq (by refine Eq.trans (b := ab (decide (((Xm l).length : Int) = 0))) rfl ?_; exact congrArg ab (decide_eq_false (by rw [hlen]; exact hl')))), ⟨rfl, trivial⟩, X2 _⟩
 rw [show (decide (n = 0) && decide (d = 0) && decide (s = []) && decide (l.length = 0)) = true by simp [*]]
 repeat first | refine X0 ?_ | (refine JR ?_; (repeat first | refine Z1 ?_ | refine Z0 ?_ | refine Zy ?_ | refine Zz ?_ | refine Zb ?_ | refine Zs ?_ | refine Zm ?_ | refine Zx (γ := 100) ?_ | refine Zi ?_ | refine Zl ?_); refine JD ?_)
 exact X1 ⟨_, Xi 10 (y := ab true) (AVal.le_of_eq (by refine Eq.trans (b := ab (decide (((Xm l).length : Int) = 0))) rfl ?_; exact congrArg ab (decide_eq_true (by omega)))), ⟨rfl, trivial⟩, X2 _⟩
theorem X1v (k n d : Int) (s : List UInt8) (l : List Val) : Con Tryd.prog 74 [] [Xh (.mk k n d s l), ab true, ab false, ab false, ab false] [] (ab (decide (d = 0) && decide (s = []) && decide (l.length = 0))) := by
 refine Xb (xs := [ab (decide (d = 0) && decide (s = []) && decide (l.length = 0))]) Tryd.func74 rfl Tryd.ntmps74 rfl rfl rfl (fun E => ?_)
 have hlen := U3 l
 by_cases hd : d = 0
 case neg =>
  rw [show (decide (d = 0) && decide (s = []) && decide (l.length = 0)) = false by simp [*]]
  repeat first | refine X0 ?_ | (refine JR ?_; (repeat first | refine Z1 ?_ | refine Z0 ?_ | refine Zy ?_ | refine Zz ?_ | refine Zs ?_ | refine Zx (γ := 100) ?_ | refine Zi ?_ | refine Zl ?_ | refine Zj ?_ | refine Zk ?_); refine JD ?_)
  exact X1 ⟨_, St.le_refl _, ⟨rfl, trivial⟩, X2 _⟩
 by_cases hs : s = []
 case neg =>
  rw [show (decide (d = 0) && decide (s = []) && decide (l.length = 0)) = false by simp [*]]
  repeat first | refine X0 ?_ | (refine JR ?_; (repeat first | refine Z1 ?_ | refine Z0 ?_ | refine Zy ?_ | refine Zz ?_ | refine Zs ?_ | refine Zm ?_ | refine Zx (γ := 100) ?_ | refine Zi ?_ | refine Zl ?_ | refine Zj ?_ | refine Zk ?_); refine JD ?_)
  exact X1 ⟨_, St.le_refl _, ⟨rfl, trivial⟩, X2 _⟩
 by_cases hl : l.length = 0
 case neg =>
  have hl' : ¬ ((l.length : Int) = 0) := by omega
  rw [show (decide (d = 0) && decide (s = []) && decide (l.length = 0)) = false by simp [*]]
  repeat first | refine X0 ?_ | (refine JR ?_; (repeat first | refine Z1 ?_ | refine Z0 ?_ | refine Zy ?_ | refine Zz ?_ | refine Zb ?_ | refine Zs ?_ | refine Zm ?_ | refine Zx (γ := 100) ?_ | refine Zi ?_ | refine Zl ?_ | refine Zj ?_); refine JD ?_)
  exact X1 ⟨_, Xi 10 (y := ab false) (AVal.le_of_eq (by refine Eq.trans (b := ab (decide (((Xm l).length : Int) = 0))) rfl ?_; exact congrArg ab (decide_eq_false (by rw [hlen]; exact hl')))), ⟨rfl, trivial⟩, X2 _⟩
 rw [show (decide (d = 0) && decide (s = []) && decide (l.length = 0)) = true by simp [*]]
 repeat first | refine X0 ?_ | (refine JR ?_; (repeat first | refine Z1 ?_ | refine Z0 ?_ | refine Zy ?_ | refine Zz ?_ | refine Zb ?_ | refine Zs ?_ | refine Zm ?_ | refine Zx (γ := 100) ?_ | refine Zi ?_ | refine Zl ?_ | refine Zj ?_); refine JD ?_)
 exact X1 ⟨_, Xi 10 (y := ab true) (AVal.le_of_eq (by refine Eq.trans (b := ab (decide (((Xm l).length : Int) = 0))) rfl ?_; exact congrArg ab (decide_eq_true (by omega)))), ⟨rfl, trivial⟩, X2 _⟩
theorem Xa2 (k n d : Int) (s : List UInt8) (l : List Val) : Con Tryd.prog 74 [] [Xh (.mk k n d s l), ab true, ab true, ab false, ab false] [] (ab (decide (s = []) && decide (l.length = 0))) := by
 refine Xb (xs := [ab (decide (s = []) && decide (l.length = 0))]) Tryd.func74 rfl Tryd.ntmps74 rfl rfl rfl (fun E => ?_)
 have hlen := U3 l
 by_cases hs : s = []
 case neg =>
  rw [show (decide (s = []) && decide (l.length = 0)) = false by simp [*]]
  repeat first | refine X0 ?_ | (refine JR ?_; (repeat first | refine Z1 ?_ | refine Z0 ?_ | refine Zy ?_ | refine Zz ?_ | refine Zm ?_ | refine Zx (γ := 100) ?_ | refine Zi ?_ | refine Zl ?_ | refine Zj ?_ | refine Zk ?_); refine JD ?_)
  exact X1 ⟨_, St.le_refl _, ⟨rfl, trivial⟩, X2 _⟩
 by_cases hl : l.length = 0
 case neg =>
  have hl' : ¬ ((l.length : Int) = 0) := by omega
  rw [show (decide (s = []) && decide (l.length = 0)) = false by simp [*]]
  repeat first | refine X0 ?_ | (refine JR ?_; (repeat first | refine Z1 ?_ | refine Z0 ?_ | refine Zy ?_ | refine Zz ?_ | refine Zb ?_ | refine Zs ?_ | refine Zm ?_ | refine Zx (γ := 100) ?_ | refine Zi ?_ | refine Zl ?_ | refine Zj ?_); refine JD ?_)
  exact X1 ⟨_, Xi 10 (y := ab false) (AVal.le_of_eq (by refine Eq.trans (b := ab (decide (((Xm l).length : Int) = 0))) rfl ?_; exact congrArg ab (decide_eq_false (by rw [hlen]; exact hl')))), ⟨rfl, trivial⟩, X2 _⟩
 rw [show (decide (s = []) && decide (l.length = 0)) = true by simp [*]]
 repeat first | refine X0 ?_ | (refine JR ?_; (repeat first | refine Z1 ?_ | refine Z0 ?_ | refine Zy ?_ | refine Zz ?_ | refine Zb ?_ | refine Zs ?_ | refine Zm ?_ | refine Zx (γ := 100) ?_ | refine Zi ?_ | refine Zl ?_ | refine Zj ?_); refine JD ?_)
 exact X1 ⟨_, Xi 10 (y := ab true) (AVal.le_of_eq (by refine Eq.trans (b := ab (decide (((Xm l).length : Int) = 0))) rfl ?_; exact congrArg ab (decide_eq_true (by omega)))), ⟨rfl, trivial⟩, X2 _⟩
theorem X86 (k n d : Int) (s : List UInt8) (l : List Val) : Con Tryd.prog 74 [] [Xh (.mk k n d s l), ab false, ab false, ab true, ab false] [] (ab (decide (n = 0) && decide (d = 0) && decide (l.length = 0))) := by
 refine Xb (xs := [ab (decide (n = 0) && decide (d = 0) && decide (l.length = 0))]) Tryd.func74 rfl Tryd.ntmps74 rfl rfl rfl (fun E => ?_)
 have hlen := U3 l
 by_cases hn : n = 0
 case neg =>
  rw [show (decide (n = 0) && decide (d = 0) && decide (l.length = 0)) = false by simp [*]]
  repeat first | refine X0 ?_ | (refine JR ?_; (repeat first | refine Z1 ?_ | refine Z0 ?_ | refine Zy ?_ | refine Zz ?_ | refine Zs ?_ | refine Zx (γ := 100) ?_ | refine Zl ?_ | refine Zj ?_ | refine Zk ?_); refine JD ?_)
  exact X1 ⟨_, St.le_refl _, ⟨rfl, trivial⟩, X2 _⟩
 by_cases hd : d = 0
 case neg =>
  rw [show (decide (n = 0) && decide (d = 0) && decide (l.length = 0)) = false by simp [*]]
  repeat first | refine X0 ?_ | (refine JR ?_; (repeat first | refine Z1 ?_ | refine Z0 ?_ | refine Zy ?_ | refine Zz ?_ | refine Zs ?_ | refine Zx (γ := 100) ?_ | refine Zi ?_ | refine Zl ?_ | refine Zj ?_ | refine Zk ?_); refine JD ?_)
  exact X1 ⟨_, St.le_refl _, ⟨rfl, trivial⟩, X2 _⟩
 by_cases hl : l.length = 0
 case neg =>
  have hl' : ¬ ((l.length : Int) = 0) := by omega
  rw [show (decide (n = 0) && decide (d = 0) && decide (l.length = 0)) = false by simp [*]]
  repeat first | refine X0 ?_ | (refine JR ?_; (repeat first | refine Z1 ?_ | refine Z0 ?_ | refine Zy ?_ | refine Zz ?_ | refine Zb ?_ | refine Zs ?_ | refine Zx (γ := 100) ?_ | refine Zi ?_ | refine Zl ?_ | refine Zj ?_); refine JD ?_)
  exact X1 ⟨_, Xi 10 (y := ab false) (AVal.le_of_eq (by refine Eq.trans (b := ab (decide (((Xm l).length : Int) = 0))) rfl ?_; exact congrArg ab (decide_eq_false (by rw [hlen]; exact hl')))), ⟨rfl, trivial⟩, X2 _⟩
 rw [show (decide (n = 0) && decide (d = 0) && decide (l.length = 0)) = true by simp [*]]
 repeat first | refine X0 ?_ | (refine JR ?_; (repeat first | refine Z1 ?_ | refine Z0 ?_ | refine Zy ?_ | refine Zz ?_ | refine Zb ?_ | refine Zs ?_ | refine Zx (γ := 100) ?_ | refine Zi ?_ | refine Zl ?_ | refine Zj ?_); refine JD ?_)
 exact X1 ⟨_, Xi 10 (y := ab true) (AVal.le_of_eq (by refine Eq.trans (b := ab (decide (((Xm l).length : Int) = 0))) rfl ?_; exact congrArg ab (decide_eq_true (by omega)))), ⟨rfl, trivial⟩, X2 _⟩
theorem X4z (k n d : Int) (s : List UInt8) (l : List Val) : Con Tryd.prog 74 [] [Xh (.mk k n d s l), ab false, ab false, ab false, ab true] [] (ab (decide (n = 0) && decide (d = 0) && decide (s = []))) := by
 refine Xb (xs := [ab (decide (n = 0) && decide (d = 0) && decide (s = []))]) Tryd.func74 rfl Tryd.ntmps74 rfl rfl rfl (fun E => ?_)
 have hlen := U3 l
 by_cases hn : n = 0
 case neg =>
  rw [show (decide (n = 0) && decide (d = 0) && decide (s = [])) = false by simp [*]]
  repeat first | refine X0 ?_ | (refine JR ?_; (repeat first | refine Z1 ?_ | refine Z0 ?_ | refine Zy ?_ | refine Zz ?_ | refine Zs ?_ | refine Zx (γ := 100) ?_ | refine Zl ?_ | refine Zj ?_ | refine Zk ?_); refine JD ?_)
  exact X1 ⟨_, St.le_refl _, ⟨rfl, trivial⟩, X2 _⟩
 by_cases hd : d = 0
 case neg =>
  rw [show (decide (n = 0) && decide (d = 0) && decide (s = [])) = false by simp [*]]
  repeat first | refine X0 ?_ | (refine JR ?_; (repeat first | refine Z1 ?_ | refine Z0 ?_ | refine Zy ?_ | refine Zz ?_ | refine Zs ?_ | refine Zx (γ := 100) ?_ | refine Zi ?_ | refine Zl ?_ | refine Zj ?_ | refine Zk ?_); refine JD ?_)
  exact X1 ⟨_, St.le_refl _, ⟨rfl, trivial⟩, X2 _⟩
 by_cases hs : s = []
 case neg =>
  rw [show (decide (n = 0) && decide (d = 0) && decide (s = [])) = false by simp [*]]
  repeat first | refine X0 ?_ | (refine JR ?_; (repeat first | refine Z1 ?_ | refine Z0 ?_ | refine Zy ?_ | refine Zz ?_ | refine Zs ?_ | refine Zm ?_ | refine Zx (γ := 100) ?_ | refine Zi ?_ | refine Zl ?_ | refine Zj ?_ | refine Zk ?_); refine JD ?_)
  exact X1 ⟨_, St.le_refl _, ⟨rfl, trivial⟩, X2 _⟩
 rw [show (decide (n = 0) && decide (d = 0) && decide (s = [])) = true by simp [*]]
 repeat first | refine X0 ?_ | (refine JR ?_; (repeat first | refine Z1 ?_ | refine Z0 ?_ | refine Zy ?_ | refine Zz ?_ | refine Zs ?_ | refine Zm ?_ | refine Zx (γ := 100) ?_ | refine Zi ?_ | refine Zl ?_ | refine Zj ?_); refine JD ?_)
 exact X1 ⟨_, St.le_refl _, ⟨rfl, trivial⟩, X2 _⟩
end Go.Fw
namespace Go.Fw
open Go Go.Proofs
set_option maxRecDepth 100000
set_option linter.unusedVariables false
set_option linter.unusedSimpArgs false
theorem X7U (v : Val) (hok : XU v) (ih : ∀ x ∈ v.l, X0P x) : X0P v := by
 obtain ⟨k, n, d, s, l⟩ := v
 intro m hm
 rw [XU] at hok
 simp only [Val.l] at ih
 refine Xb (xs := [ab (X6 m (.mk k n d s l))]) Tryd.func57 rfl Tryd.ntmps57 rfl rfl rfl (fun E => ?_)
 have hlen := U3 l
 by_cases hk0 : k = 0
 ·subst hk0
  have hb := XaM 0 n d s l
  by_cases hn0 : n = 0
  case neg =>
   rw [show (decide (n = 0) && decide (d = 0) && decide (s = []) && decide (l.length = 0)) = false by simp [*]] at hb
   rw [show X6 m (.mk 0 n d s l) = false by rw [X6]; simp [*]]
   refine X0 ?_; refine JR ?_; refine Zx (γ := 100) ?_; refine Z0 ?_; refine JD ?_; refine X0 ?_; refine X0 ?_; refine JR ?_; refine Zy ?_; refine Zz ?_; refine JD ?_; refine X5 ?_; refine X0 ?_
   refine JR ?_; refine Zs ?_; refine Z0 ?_; refine JD ?_; refine JT ?_; refine X0 ?_; refine JR ?_; refine ZK ?_; refine Z8 (hcon := hb) ?_; refine Z0 ?_; refine JD ?_
   exact X1 ⟨_, St.le_refl _, ⟨rfl, trivial⟩, X2 _⟩
  by_cases hd0 : d = 0
  case neg =>
   rw [show (decide (n = 0) && decide (d = 0) && decide (s = []) && decide (l.length = 0)) = false by simp [*]] at hb
   rw [show X6 m (.mk 0 n d s l) = false by rw [X6]; simp [*]]
   refine X0 ?_; refine JR ?_; refine Zx (γ := 100) ?_; refine Z0 ?_; refine JD ?_; refine X0 ?_; refine X0 ?_; refine JR ?_; refine Zy ?_; refine Zz ?_; refine JD ?_; refine X5 ?_; refine X0 ?_
   refine JR ?_; refine Zs ?_; refine Z0 ?_; refine JD ?_; refine JT ?_; refine X0 ?_; refine JR ?_; refine ZK ?_; refine Z8 (hcon := hb) ?_; refine Z0 ?_; refine JD ?_
   exact X1 ⟨_, St.le_refl _, ⟨rfl, trivial⟩, X2 _⟩
  by_cases hs0 : s = []
  case neg =>
   rw [show (decide (n = 0) && decide (d = 0) && decide (s = []) && decide (l.length = 0)) = false by simp [*]] at hb
   rw [show X6 m (.mk 0 n d s l) = false by rw [X6]; simp [*]]
   refine X0 ?_; refine JR ?_; refine Zx (γ := 100) ?_; refine Z0 ?_; refine JD ?_; refine X0 ?_; refine X0 ?_; refine JR ?_; refine Zy ?_; refine Zz ?_; refine JD ?_; refine X5 ?_; refine X0 ?_
   refine JR ?_; refine Zs ?_; refine Z0 ?_; refine JD ?_; refine JT ?_; refine X0 ?_; refine JR ?_; refine ZK ?_; refine Z8 (hcon := hb) ?_; refine Z0 ?_; refine JD ?_
   exact X1 ⟨_, St.le_refl _, ⟨rfl, trivial⟩, X2 _⟩
  by_cases hl0 : l.length = 0
  case neg =>
   rw [show (decide (n = 0) && decide (d = 0) && decide (s = []) && decide (l.length = 0)) = false by simp [*]] at hb
   have hl1 : 0 < l.length := by omega
   rw [show X6 m (.mk 0 n d s l) = false by rw [X6]; simp [*]]
   refine X0 ?_; refine JR ?_; refine Zx (γ := 100) ?_; refine Z0 ?_; refine JD ?_; refine X0 ?_; refine X0 ?_; refine JR ?_; refine Zy ?_; refine Zz ?_; refine JD ?_; refine X5 ?_; refine X0 ?_
   refine JR ?_; refine Zs ?_; refine Z0 ?_; refine JD ?_; refine JT ?_; refine X0 ?_; refine JR ?_; refine ZK ?_; refine Z8 (hcon := hb) ?_; refine Z0 ?_; refine JD ?_
   exact X1 ⟨_, St.le_refl _, ⟨rfl, trivial⟩, X2 _⟩
  rw [show (decide (n = 0) && decide (d = 0) && decide (s = []) && decide (l.length = 0)) = true by simp [*]] at hb
  rw [show X6 m (.mk 0 n d s l) = true by rw [X6]; simp [*]]
  refine X0 ?_; refine JR ?_; refine Zx (γ := 100) ?_; refine Z0 ?_; refine JD ?_; refine X0 ?_; refine X0 ?_; refine JR ?_; refine Zy ?_; refine Zz ?_; refine JD ?_; refine X5 ?_; refine X0 ?_
  refine JR ?_; refine Zs ?_; refine Z0 ?_; refine JD ?_; refine JT ?_; refine X0 ?_; refine JR ?_; refine ZK ?_; refine Z8 (hcon := hb) ?_; refine Z0 ?_; refine JD ?_
  exact X1 ⟨_, St.le_refl _, ⟨rfl, trivial⟩, X2 _⟩
 by_cases hk1 : k = 1
 ·subst hk1
  have hb := X1v 1 n d s l
  by_cases hd0 : d = 0
  case neg =>
   rw [show (decide (d = 0) && decide (s = []) && decide (l.length = 0)) = false by simp [*]] at hb
   rw [show X6 m (.mk 1 n d s l) = false by rw [X6]; simp [*]]
   refine X0 ?_; refine JR ?_; refine Zx (γ := 100) ?_; refine Z0 ?_; refine JD ?_; refine X0 ?_; refine X0 ?_; refine JR ?_; refine Zy ?_; refine Zz ?_; refine JD ?_; refine X5 ?_; refine X0 ?_
   refine JR ?_; refine Zs ?_; refine Z0 ?_; refine JD ?_; refine JF ?_; refine X0 ?_; refine JR ?_; refine Zs ?_; refine Z0 ?_; refine JD ?_; refine JT ?_; refine X0 ?_; refine JR ?_; refine ZK ?_
   refine Z8 (hcon := hb) ?_; refine Z1 ?_; refine Zj ?_; refine Zj ?_; refine Zj ?_; refine Zj ?_; refine Zk ?_; refine Zk ?_; refine Zk ?_; refine Zj ?_; refine Zl ?_; refine Z0 ?_; refine JD ?_
   exact X1 ⟨_, St.le_refl _, ⟨rfl, trivial⟩, X2 _⟩
  by_cases hs0 : s = []
  case neg =>
   rw [show (decide (d = 0) && decide (s = []) && decide (l.length = 0)) = false by simp [*]] at hb
   rw [show X6 m (.mk 1 n d s l) = false by rw [X6]; simp [*]]
   refine X0 ?_; refine JR ?_; refine Zx (γ := 100) ?_; refine Z0 ?_; refine JD ?_; refine X0 ?_; refine X0 ?_; refine JR ?_; refine Zy ?_; refine Zz ?_; refine JD ?_; refine X5 ?_; refine X0 ?_
   refine JR ?_; refine Zs ?_; refine Z0 ?_; refine JD ?_; refine JF ?_; refine X0 ?_; refine JR ?_; refine Zs ?_; refine Z0 ?_; refine JD ?_; refine JT ?_; refine X0 ?_; refine JR ?_; refine ZK ?_
   refine Z8 (hcon := hb) ?_; refine Z1 ?_; refine Zj ?_; refine Zj ?_; refine Zj ?_; refine Zj ?_; refine Zk ?_; refine Zk ?_; refine Zk ?_; refine Zj ?_; refine Zl ?_; refine Z0 ?_; refine JD ?_
   exact X1 ⟨_, St.le_refl _, ⟨rfl, trivial⟩, X2 _⟩
  by_cases hl0 : l.length = 0
  case neg =>
   rw [show (decide (d = 0) && decide (s = []) && decide (l.length = 0)) = false by simp [*]] at hb
   have hl1 : 0 < l.length := by omega
   rw [show X6 m (.mk 1 n d s l) = false by rw [X6]; simp [*]]
   refine X0 ?_; refine JR ?_; refine Zx (γ := 100) ?_; refine Z0 ?_; refine JD ?_; refine X0 ?_; refine X0 ?_; refine JR ?_; refine Zy ?_; refine Zz ?_; refine JD ?_; refine X5 ?_; refine X0 ?_
   refine JR ?_; refine Zs ?_; refine Z0 ?_; refine JD ?_; refine JF ?_; refine X0 ?_; refine JR ?_; refine Zs ?_; refine Z0 ?_; refine JD ?_; refine JT ?_; refine X0 ?_; refine JR ?_; refine ZK ?_
   refine Z8 (hcon := hb) ?_; refine Z1 ?_; refine Zj ?_; refine Zj ?_; refine Zj ?_; refine Zj ?_; refine Zk ?_; refine Zk ?_; refine Zk ?_; refine Zj ?_; refine Zl ?_; refine Z0 ?_; refine JD ?_
   exact X1 ⟨_, St.le_refl _, ⟨rfl, trivial⟩, X2 _⟩
  rw [show (decide (d = 0) && decide (s = []) && decide (l.length = 0)) = true by simp [*]] at hb
  by_cases hn : n = 0
  ·rw [show X6 m (.mk 1 n d s l) = true by rw [X6]; simp [*]]
   repeat first | refine X0 ?_ | (refine JR ?_; (repeat first | refine Z1 ?_ | refine Z0 ?_ | refine Zy ?_ | refine Zz ?_ | refine ZK ?_ | refine Zs ?_ | refine Zx (γ := 100) ?_ | refine Zi ?_ | refine Zj ?_ | refine Z8 (hcon := hb) ?_); refine JD ?_) | refine JT ?_ | refine JF ?_ | refine X5 ?_
   exact X1 ⟨_, St.le_refl _, ⟨rfl, trivial⟩, X2 _⟩
  by_cases hn1 : n = 1
  ·rw [show X6 m (.mk 1 n d s l) = true by rw [X6]; simp [*]]
   repeat first | refine X0 ?_ | (refine JR ?_; (repeat first | refine Z1 ?_ | refine Z0 ?_ | refine Zy ?_ | refine Zz ?_ | refine ZK ?_ | refine Zs ?_ | refine Zx (γ := 100) ?_ | refine Zi ?_ | refine Zl ?_ | refine Z8 (hcon := hb) ?_); refine JD ?_) | refine JT ?_ | refine JF ?_ | refine X5 ?_
   exact X1 ⟨_, Xi 4 (y := ab true) (AVal.le_of_eq (by refine Eq.trans (b := ab (decide (n = 1))) rfl ?_; exact congrArg ab (decide_eq_true hn1))), ⟨rfl, trivial⟩, X2 _⟩
  ·rw [show X6 m (.mk 1 n d s l) = false by rw [X6]; simp [*]]
   repeat first | refine X0 ?_ | (refine JR ?_; (repeat first | refine Z1 ?_ | refine Z0 ?_ | refine Zy ?_ | refine Zz ?_ | refine ZK ?_ | refine Zs ?_ | refine Zx (γ := 100) ?_ | refine Zi ?_ | refine Zl ?_ | refine Z8 (hcon := hb) ?_); refine JD ?_) | refine JT ?_ | refine JF ?_ | refine X5 ?_
   exact X1 ⟨_, Xi 4 (y := ab false) (AVal.le_of_eq (by refine Eq.trans (b := ab (decide (n = 1))) rfl ?_; exact congrArg ab (decide_eq_false hn1))), ⟨rfl, trivial⟩, X2 _⟩
 by_cases hk2 : k = 2
 ·subst hk2
  have hb := X1v 2 n d s l
  by_cases hd0 : d = 0
  case neg =>
   rw [show (decide (d = 0) && decide (s = []) && decide (l.length = 0)) = false by simp [*]] at hb
   rw [show X6 m (.mk 2 n d s l) = false by rw [X6]; simp [*]]
   repeat first | refine X0 ?_ | (refine JR ?_; (repeat first | refine Z1 ?_ | refine Z0 ?_ | refine Zy ?_ | refine Zz ?_ | refine ZK ?_ | refine Zs ?_ | refine Zx (γ := 100) ?_ | refine Zl ?_ | refine Zj ?_ | refine Z8 (hcon := hb) ?_); refine JD ?_) | refine JT ?_ | refine JF ?_ | refine X5 ?_
   exact X1 ⟨_, St.le_refl _, ⟨rfl, trivial⟩, X2 _⟩
  by_cases hs0 : s = []
  case neg =>
   rw [show (decide (d = 0) && decide (s = []) && decide (l.length = 0)) = false by simp [*]] at hb
   rw [show X6 m (.mk 2 n d s l) = false by rw [X6]; simp [*]]
   repeat first | refine X0 ?_ | (refine JR ?_; (repeat first | refine Z1 ?_ | refine Z0 ?_ | refine Zy ?_ | refine Zz ?_ | refine ZK ?_ | refine Zs ?_ | refine Zx (γ := 100) ?_ | refine Zl ?_ | refine Zj ?_ | refine Z8 (hcon := hb) ?_); refine JD ?_) | refine JT ?_ | refine JF ?_ | refine X5 ?_
   exact X1 ⟨_, St.le_refl _, ⟨rfl, trivial⟩, X2 _⟩
  by_cases hl0 : l.length = 0
  case neg =>
   rw [show (decide (d = 0) && decide (s = []) && decide (l.length = 0)) = false by simp [*]] at hb
   have hl1 : 0 < l.length := by omega
   rw [show X6 m (.mk 2 n d s l) = false by rw [X6]; simp [*]]
   repeat first | refine X0 ?_ | (refine JR ?_; (repeat first | refine Z1 ?_ | refine Z0 ?_ | refine Zy ?_ | refine Zz ?_ | refine ZK ?_ | refine Zs ?_ | refine Zx (γ := 100) ?_ | refine Zl ?_ | refine Zj ?_ | refine Z8 (hcon := hb) ?_); refine JD ?_) | refine JT ?_ | refine JF ?_ | refine X5 ?_
   exact X1 ⟨_, St.le_refl _, ⟨rfl, trivial⟩, X2 _⟩
  rw [show (decide (d = 0) && decide (s = []) && decide (l.length = 0)) = true by simp [*]] at hb
  rw [show X6 m (.mk 2 n d s l) = inV n by rw [X6]; simp [inV, *]]
  repeat first | refine X0 ?_ | (refine JR ?_; (repeat first | refine Z1 ?_ | refine Z0 ?_ | refine Zy ?_ | refine Zz ?_ | refine ZK ?_ | refine Zs ?_ | refine Zx (γ := 100) ?_ | refine Zi ?_ | refine Z8 (hcon := hb) ?_ | refine Z8 (hcon := X9j n) ?_); refine JD ?_) | refine JT ?_ | refine JF ?_ | refine X5 ?_
  exact X1 ⟨_, St.le_refl _, ⟨rfl, trivial⟩, X2 _⟩
 by_cases hk3 : k = 3
 ·subst hk3
  have hb := Xa2 3 n d s l
  by_cases hs0 : s = []
  case neg =>
   rw [show (decide (s = []) && decide (l.length = 0)) = false by simp [*]] at hb
   rw [show X6 m (.mk 3 n d s l) = false by rw [X6]; simp [*]]
   repeat first | refine X0 ?_ | (refine JR ?_; (repeat first | refine Z1 ?_ | refine Z0 ?_ | refine Zy ?_ | refine Zz ?_ | refine ZK ?_ | refine Zs ?_ | refine Zx (γ := 100) ?_ | refine Zl ?_ | refine Zj ?_ | refine Z8 (hcon := hb) ?_); refine JD ?_) | refine JT ?_ | refine JF ?_ | refine X5 ?_
   exact X1 ⟨_, St.le_refl _, ⟨rfl, trivial⟩, X2 _⟩
  by_cases hl0 : l.length = 0
  case neg =>
   rw [show (decide (s = []) && decide (l.length = 0)) = false by simp [*]] at hb
   have hl1 : 0 < l.length := by omega
   rw [show X6 m (.mk 3 n d s l) = false by rw [X6]; simp [*]]
   repeat first | refine X0 ?_ | (refine JR ?_; (repeat first | refine Z1 ?_ | refine Z0 ?_ | refine Zy ?_ | refine Zz ?_ | refine ZK ?_ | refine Zs ?_ | refine Zx (γ := 100) ?_ | refine Zl ?_ | refine Zj ?_ | refine Z8 (hcon := hb) ?_); refine JD ?_) | refine JT ?_ | refine JF ?_ | refine X5 ?_
   exact X1 ⟨_, St.le_refl _, ⟨rfl, trivial⟩, X2 _⟩
  rw [show (decide (s = []) && decide (l.length = 0)) = true by simp [*]] at hb
  by_cases hd : 2 ≤ d
  ·rw [show X6 m (.mk 3 n d s l) = YV n d by rw [X6]; simp [*]]
   repeat first | refine X0 ?_ | (refine JR ?_; (repeat first | refine Z1 ?_ | refine Z0 ?_ | refine Zy ?_ | refine Zz ?_ | refine ZK ?_ | refine Z2 ?_ | refine Zs ?_ | refine Zx (γ := 100) ?_ | refine Zt ?_ | refine Zi ?_ | refine Z8 (hcon := hb) ?_ | refine Z8 (hcon := X43 n d) ?_); refine JD ?_) | refine JT ?_ | refine JF ?_ | refine X5 ?_
   exact X1 ⟨_, St.le_refl _, ⟨rfl, trivial⟩, X2 _⟩
  ·rw [show X6 m (.mk 3 n d s l) = false by rw [X6]; simp [*]]
   repeat first | refine X0 ?_ | (refine JR ?_; (repeat first | refine Z1 ?_ | refine Z0 ?_ | refine Zy ?_ | refine Zz ?_ | refine ZK ?_ | refine Z2 ?_ | refine Zs ?_ | refine Zx (γ := 100) ?_ | refine Zi ?_ | refine Zl ?_ | refine Zj ?_ | refine Z8 (hcon := hb) ?_); refine JD ?_) | refine JT ?_ | refine JF ?_ | refine X5 ?_
   exact X1 ⟨_, St.le_refl _, ⟨rfl, trivial⟩, X2 _⟩
 by_cases hk4 : k = 4
 ·subst hk4
  have hb := X86 4 n d s l
  by_cases hn0 : n = 0
  case neg =>
   rw [show (decide (n = 0) && decide (d = 0) && decide (l.length = 0)) = false by simp [*]] at hb
   rw [show X6 m (.mk 4 n d s l) = false by rw [X6]; simp [*]]
   repeat first | refine X0 ?_ | (refine JR ?_; (repeat first | refine Z1 ?_ | refine Z0 ?_ | refine Zy ?_ | refine Zz ?_ | refine ZK ?_ | refine Zs ?_ | refine Zx (γ := 100) ?_ | refine Zl ?_ | refine Zj ?_ | refine Z8 (hcon := hb) ?_); refine JD ?_) | refine JT ?_ | refine JF ?_ | refine X5 ?_
   exact X1 ⟨_, St.le_refl _, ⟨rfl, trivial⟩, X2 _⟩
  by_cases hd0 : d = 0
  case neg =>
   rw [show (decide (n = 0) && decide (d = 0) && decide (l.length = 0)) = false by simp [*]] at hb
   rw [show X6 m (.mk 4 n d s l) = false by rw [X6]; simp [*]]
   repeat first | refine X0 ?_ | (refine JR ?_; (repeat first | refine Z1 ?_ | refine Z0 ?_ | refine Zy ?_ | refine Zz ?_ | refine ZK ?_ | refine Zs ?_ | refine Zx (γ := 100) ?_ | refine Zl ?_ | refine Zj ?_ | refine Z8 (hcon := hb) ?_); refine JD ?_) | refine JT ?_ | refine JF ?_ | refine X5 ?_
   exact X1 ⟨_, St.le_refl _, ⟨rfl, trivial⟩, X2 _⟩
  by_cases hl0 : l.length = 0
  case neg =>
   rw [show (decide (n = 0) && decide (d = 0) && decide (l.length = 0)) = false by simp [*]] at hb
   have hl1 : 0 < l.length := by omega
   rw [show X6 m (.mk 4 n d s l) = false by rw [X6]; simp [*]]
   repeat first | refine X0 ?_ | (refine JR ?_; (repeat first | refine Z1 ?_ | refine Z0 ?_ | refine Zy ?_ | refine Zz ?_ | refine ZK ?_ | refine Zs ?_ | refine Zx (γ := 100) ?_ | refine Zl ?_ | refine Zj ?_ | refine Z8 (hcon := hb) ?_); refine JD ?_) | refine JT ?_ | refine JF ?_ | refine X5 ?_
   exact X1 ⟨_, St.le_refl _, ⟨rfl, trivial⟩, X2 _⟩
  rw [show (decide (n = 0) && decide (d = 0) && decide (l.length = 0)) = true by simp [*]] at hb
  rw [show X6 m (.mk 4 n d s l) = (YJ s && decide (s.length ≤ 100)) by rw [X6]; simp [*, Bool.and_comm]]
  repeat first | refine X0 ?_ | (refine JR ?_; (repeat first | refine Z1 ?_ | refine Z0 ?_ | refine Zy ?_ | refine Zz ?_ | refine ZK ?_ | refine Zs ?_ | refine Zx (γ := 100) ?_ | refine Zi ?_ | refine Z8 (hcon := hb) ?_ | refine Z8 (hcon := XaG s hok.1) ?_); refine JD ?_) | refine JT ?_ | refine JF ?_ | refine X5 ?_
  exact X1 ⟨_, St.le_refl _, ⟨rfl, trivial⟩, X2 _⟩
 by_cases hk5 : k = 5
 ·subst hk5
  have hb := X1v 5 n d s l
  by_cases hd0 : d = 0
  case neg =>
   rw [show (decide (d = 0) && decide (s = []) && decide (l.length = 0)) = false by simp [*]] at hb
   rw [show X6 m (.mk 5 n d s l) = false by rw [X6]; simp [*]]
   repeat first | refine X0 ?_ | (refine JR ?_; (repeat first | refine Z1 ?_ | refine Z0 ?_ | refine Zy ?_ | refine Zz ?_ | refine ZK ?_ | refine Zs ?_ | refine Zx (γ := 100) ?_ | refine Zl ?_ | refine Zj ?_ | refine Z8 (hcon := hb) ?_); refine JD ?_) | refine JT ?_ | refine JF ?_ | refine X5 ?_ | refine X3 ?_
   exact X1 ⟨_, St.le_refl _, ⟨rfl, trivial⟩, X2 _⟩
  by_cases hs0 : s = []
  case neg =>
   rw [show (decide (d = 0) && decide (s = []) && decide (l.length = 0)) = false by simp [*]] at hb
   rw [show X6 m (.mk 5 n d s l) = false by rw [X6]; simp [*]]
   repeat first | refine X0 ?_ | (refine JR ?_; (repeat first | refine Z1 ?_ | refine Z0 ?_ | refine Zy ?_ | refine Zz ?_ | refine ZK ?_ | refine Zs ?_ | refine Zx (γ := 100) ?_ | refine Zl ?_ | refine Zj ?_ | refine Z8 (hcon := hb) ?_); refine JD ?_) | refine JT ?_ | refine JF ?_ | refine X5 ?_ | refine X3 ?_
   exact X1 ⟨_, St.le_refl _, ⟨rfl, trivial⟩, X2 _⟩
  by_cases hl0 : l.length = 0
  case neg =>
   rw [show (decide (d = 0) && decide (s = []) && decide (l.length = 0)) = false by simp [*]] at hb
   have hl1 : 0 < l.length := by omega
   rw [show X6 m (.mk 5 n d s l) = false by rw [X6]; simp [*]]
   repeat first | refine X0 ?_ | (refine JR ?_; (repeat first | refine Z1 ?_ | refine Z0 ?_ | refine Zy ?_ | refine Zz ?_ | refine ZK ?_ | refine Zs ?_ | refine Zx (γ := 100) ?_ | refine Zl ?_ | refine Zj ?_ | refine Z8 (hcon := hb) ?_); refine JD ?_) | refine JT ?_ | refine JF ?_ | refine X5 ?_ | refine X3 ?_
   exact X1 ⟨_, St.le_refl _, ⟨rfl, trivial⟩, X2 _⟩
  rw [show (decide (d = 0) && decide (s = []) && decide (l.length = 0)) = true by simp [*]] at hb
  by_cases hn : 1 ≤ n
  case neg =>
   rw [show X6 m (.mk 5 n d s l) = false by rw [X6]; simp [*]]
   repeat first | refine X0 ?_ | (refine JR ?_; (repeat first | refine Z1 ?_ | refine Z0 ?_ | refine Zy ?_ | refine Zz ?_ | refine ZK ?_ | refine Z2 ?_ | refine Zs ?_ | refine Zx (γ := 100) ?_ | refine Zi ?_ | refine Zl ?_ | refine Zj ?_ | refine Z8 (hcon := hb) ?_); refine JD ?_) | refine JT ?_ | refine JF ?_ | refine X5 ?_ | refine X3 ?_
   exact X1 ⟨_, St.le_refl _, ⟨rfl, trivial⟩, X2 _⟩
  rw [show X6 m (.mk 5 n d s l) = decide (n ≤ 1000000) by rw [X6]; simp [*]]
  repeat first | refine X0 ?_ | (refine JR ?_; (repeat first | refine Z1 ?_ | refine Z0 ?_ | refine Zy ?_ | refine Zz ?_ | refine ZK ?_ | refine Zh ?_ | refine Z2 ?_ | refine Zs ?_ | refine Zx (γ := 100) ?_ | refine Zi ?_ | refine Z8 (hcon := hb) ?_); refine JD ?_) | refine JT ?_ | refine JF ?_ | refine X5 ?_ | refine X3 ?_
  exact X1 ⟨_, St.le_refl _, ⟨rfl, trivial⟩, X2 _⟩
 by_cases hk6 : k = 6
 ·subst hk6
  have hb := X1v 6 n d s l
  by_cases hd0 : d = 0
  case neg =>
   rw [show (decide (d = 0) && decide (s = []) && decide (l.length = 0)) = false by simp [*]] at hb
   rw [show X6 m (.mk 6 n d s l) = false by rw [X6]; simp [*]]
   repeat first | refine X0 ?_ | (refine JR ?_; (repeat first | refine Z1 ?_ | refine Z0 ?_ | refine Zy ?_ | refine Zz ?_ | refine ZK ?_ | refine Zs ?_ | refine Zx (γ := 100) ?_ | refine Zl ?_ | refine Zj ?_ | refine Z8 (hcon := hb) ?_); refine JD ?_) | refine JT ?_ | refine JF ?_ | refine X5 ?_
   exact X1 ⟨_, St.le_refl _, ⟨rfl, trivial⟩, X2 _⟩
  by_cases hs0 : s = []
  case neg =>
   rw [show (decide (d = 0) && decide (s = []) && decide (l.length = 0)) = false by simp [*]] at hb
   rw [show X6 m (.mk 6 n d s l) = false by rw [X6]; simp [*]]
   repeat first | refine X0 ?_ | (refine JR ?_; (repeat first | refine Z1 ?_ | refine Z0 ?_ | refine Zy ?_ | refine Zz ?_ | refine ZK ?_ | refine Zs ?_ | refine Zx (γ := 100) ?_ | refine Zl ?_ | refine Zj ?_ | refine Z8 (hcon := hb) ?_); refine JD ?_) | refine JT ?_ | refine JF ?_ | refine X5 ?_
   exact X1 ⟨_, St.le_refl _, ⟨rfl, trivial⟩, X2 _⟩
  by_cases hl0 : l.length = 0
  case neg =>
   rw [show (decide (d = 0) && decide (s = []) && decide (l.length = 0)) = false by simp [*]] at hb
   have hl1 : 0 < l.length := by omega
   rw [show X6 m (.mk 6 n d s l) = false by rw [X6]; simp [*]]
   repeat first | refine X0 ?_ | (refine JR ?_; (repeat first | refine Z1 ?_ | refine Z0 ?_ | refine Zy ?_ | refine Zz ?_ | refine ZK ?_ | refine Zs ?_ | refine Zx (γ := 100) ?_ | refine Zl ?_ | refine Zj ?_ | refine Z8 (hcon := hb) ?_); refine JD ?_) | refine JT ?_ | refine JF ?_ | refine X5 ?_
   exact X1 ⟨_, St.le_refl _, ⟨rfl, trivial⟩, X2 _⟩
  rw [show (decide (d = 0) && decide (s = []) && decide (l.length = 0)) = true by simp [*]] at hb
  by_cases hn : 1 ≤ n
  case neg =>
   rw [show X6 m (.mk 6 n d s l) = false by rw [X6]; simp [*]]
   repeat first | refine X0 ?_ | (refine JR ?_; (repeat first | refine Z1 ?_ | refine Z0 ?_ | refine Zy ?_ | refine Zz ?_ | refine ZK ?_ | refine Z2 ?_ | refine Zs ?_ | refine Zx (γ := 100) ?_ | refine Zi ?_ | refine Zl ?_ | refine Zj ?_ | refine Z8 (hcon := hb) ?_); refine JD ?_) | refine JT ?_ | refine JF ?_ | refine X5 ?_
   exact X1 ⟨_, St.le_refl _, ⟨rfl, trivial⟩, X2 _⟩
  rw [show X6 m (.mk 6 n d s l) = decide (n ≤ 1000000) by rw [X6]; simp [*]]
  repeat first | refine X0 ?_ | (refine JR ?_; (repeat first | refine Z1 ?_ | refine Z0 ?_ | refine Zy ?_ | refine Zz ?_ | refine ZK ?_ | refine Zh ?_ | refine Z2 ?_ | refine Zs ?_ | refine Zx (γ := 100) ?_ | refine Zi ?_ | refine Z8 (hcon := hb) ?_); refine JD ?_) | refine JT ?_ | refine JF ?_ | refine X5 ?_
  exact X1 ⟨_, St.le_refl _, ⟨rfl, trivial⟩, X2 _⟩
 by_cases hk7 : k = 7
 ·subst hk7
  have hb := X4z 7 n d s l
  by_cases hn0 : n = 0
  case neg =>
   rw [show (decide (n = 0) && decide (d = 0) && decide (s = [])) = false by simp [*]] at hb
   rw [show X6 m (.mk 7 n d s l) = false by rw [X6]; simp [*]]
   repeat first | refine X0 ?_ | (refine JR ?_; (repeat first | refine Z1 ?_ | refine Z0 ?_ | refine Zy ?_ | refine Zz ?_ | refine ZK ?_ | refine Zs ?_ | refine Zx (γ := 100) ?_ | refine Zl ?_ | refine Zj ?_ | refine Z8 (hcon := hb) ?_); refine JD ?_) | refine JT ?_ | refine JF ?_ | refine X5 ?_
   exact X1 ⟨_, St.le_refl _, ⟨rfl, trivial⟩, X2 _⟩
  by_cases hd0 : d = 0
  case neg =>
   rw [show (decide (n = 0) && decide (d = 0) && decide (s = [])) = false by simp [*]] at hb
   rw [show X6 m (.mk 7 n d s l) = false by rw [X6]; simp [*]]
   repeat first | refine X0 ?_ | (refine JR ?_; (repeat first | refine Z1 ?_ | refine Z0 ?_ | refine Zy ?_ | refine Zz ?_ | refine ZK ?_ | refine Zs ?_ | refine Zx (γ := 100) ?_ | refine Zl ?_ | refine Zj ?_ | refine Z8 (hcon := hb) ?_); refine JD ?_) | refine JT ?_ | refine JF ?_ | refine X5 ?_
   exact X1 ⟨_, St.le_refl _, ⟨rfl, trivial⟩, X2 _⟩
  by_cases hs0 : s = []
  case neg =>
   rw [show (decide (n = 0) && decide (d = 0) && decide (s = [])) = false by simp [*]] at hb
   rw [show X6 m (.mk 7 n d s l) = false by rw [X6]; simp [*]]
   repeat first | refine X0 ?_ | (refine JR ?_; (repeat first | refine Z1 ?_ | refine Z0 ?_ | refine Zy ?_ | refine Zz ?_ | refine ZK ?_ | refine Zs ?_ | refine Zx (γ := 100) ?_ | refine Zl ?_ | refine Zj ?_ | refine Z8 (hcon := hb) ?_); refine JD ?_) | refine JT ?_ | refine JF ?_ | refine X5 ?_
   exact X1 ⟨_, St.le_refl _, ⟨rfl, trivial⟩, X2 _⟩
  rw [show (decide (n = 0) && decide (d = 0) && decide (s = [])) = true by simp [*]] at hb
  rw [show X6 m (.mk 7 n d s l) = Yx l by rw [X6]; simp [Yx, *]]
  repeat first | refine X0 ?_ | (refine JR ?_; (repeat first | refine Z1 ?_ | refine Z0 ?_ | refine Zy ?_ | refine Zz ?_ | refine ZK ?_ | refine Zs ?_ | refine Zx (γ := 100) ?_ | refine Zi ?_ | refine Z8 (hcon := hb) ?_ | refine Z8 (hcon := Xah l hok.2.1 ih) ?_); refine JD ?_) | refine JT ?_ | refine JF ?_ | refine X5 ?_
  exact X1 ⟨_, St.le_refl _, ⟨rfl, trivial⟩, X2 _⟩
 by_cases hk8 : k = 8
 ·subst hk8
  have hb := X4z 8 n d s l
  by_cases hn0 : n = 0
  case neg =>
   rw [show (decide (n = 0) && decide (d = 0) && decide (s = [])) = false by simp [*]] at hb
   rw [show X6 m (.mk 8 n d s l) = false by rw [X6]; simp [*]]
   repeat first | refine X0 ?_ | (refine JR ?_; (repeat first | refine Z1 ?_ | refine Z0 ?_ | refine Zy ?_ | refine Zz ?_ | refine ZK ?_ | refine Zs ?_ | refine Zx (γ := 100) ?_ | refine Zl ?_ | refine Zj ?_ | refine Z8 (hcon := hb) ?_); refine JD ?_) | refine JT ?_ | refine JF ?_ | refine X5 ?_
   exact X1 ⟨_, St.le_refl _, ⟨rfl, trivial⟩, X2 _⟩
  by_cases hd0 : d = 0
  case neg =>
   rw [show (decide (n = 0) && decide (d = 0) && decide (s = [])) = false by simp [*]] at hb
   rw [show X6 m (.mk 8 n d s l) = false by rw [X6]; simp [*]]
   repeat first | refine X0 ?_ | (refine JR ?_; (repeat first | refine Z1 ?_ | refine Z0 ?_ | refine Zy ?_ | refine Zz ?_ | refine ZK ?_ | refine Zs ?_ | refine Zx (γ := 100) ?_ | refine Zl ?_ | refine Zj ?_ | refine Z8 (hcon := hb) ?_); refine JD ?_) | refine JT ?_ | refine JF ?_ | refine X5 ?_
   exact X1 ⟨_, St.le_refl _, ⟨rfl, trivial⟩, X2 _⟩
  by_cases hs0 : s = []
  case neg =>
   rw [show (decide (n = 0) && decide (d = 0) && decide (s = [])) = false by simp [*]] at hb
   rw [show X6 m (.mk 8 n d s l) = false by rw [X6]; simp [*]]
   repeat first | refine X0 ?_ | (refine JR ?_; (repeat first | refine Z1 ?_ | refine Z0 ?_ | refine Zy ?_ | refine Zz ?_ | refine ZK ?_ | refine Zs ?_ | refine Zx (γ := 100) ?_ | refine Zl ?_ | refine Zj ?_ | refine Z8 (hcon := hb) ?_); refine JD ?_) | refine JT ?_ | refine JF ?_ | refine X5 ?_
   exact X1 ⟨_, St.le_refl _, ⟨rfl, trivial⟩, X2 _⟩
  rw [show (decide (n = 0) && decide (d = 0) && decide (s = [])) = true by simp [*]] at hb
  rw [show X6 m (.mk 8 n d s l) = (decide (1 ≤ m ∧ l.length ≤ 64) && Yk (m - 1) l) by rw [X6]; simp [*, and_comm]]
  repeat first | refine X0 ?_ | (refine JR ?_; (repeat first | refine Z1 ?_ | refine Z0 ?_ | refine Zy ?_ | refine Zz ?_ | refine ZK ?_ | refine Zs ?_ | refine Zx (γ := 100) ?_ | refine Zi ?_ | refine Z8 (hcon := hb) ?_ | refine Z8 (hcon := X9R l m hm hok.2.1 ih) ?_); refine JD ?_) | refine JT ?_ | refine JF ?_ | refine X5 ?_
  exact X1 ⟨_, St.le_refl _, ⟨rfl, trivial⟩, X2 _⟩
 rw [show X6 m (.mk k n d s l) = false by rw [X6]; simp [*]]
 repeat first | refine X0 ?_ | (refine JR ?_; (repeat first | refine Z0 ?_ | refine Zy ?_ | refine Zz ?_ | refine Zs ?_ | refine Zx (γ := 100) ?_); refine JD ?_) | refine JF ?_ | refine X5 ?_ | refine X3 ?_
 exact X1 ⟨_, St.le_refl _, ⟨rfl, trivial⟩, X2 _⟩
theorem X3Y : ∀ v : Val, X7C v
 | .mk k n d s l => fun hok => X7U (.mk k n d s l) hok fun x hx => X3Y x (VS (by rw [XU] at hok; exact hok.2.2) hx)
termination_by v => SizeOf.sizeOf v
decreasing_by
 have h1 := List.sizeOf_lt_of_mem (show x ∈ l from hx)
 simp only [Val.mk.sizeOf_spec]
 omega
theorem X4m (v : Val) (hok : XU v) : Con Tryd.prog 43 [] [Xh v] [] (ab (X6 8 v)) := by
 refine Xb (xs := [ab (X6 8 v)]) Tryd.func43 rfl Tryd.ntmps43 rfl rfl rfl (fun E => ?_)
 have h := X3Y v hok 8 (by omega)
 obtain ⟨k, n, d, s, l⟩ := v
 simp only [Xh] at h
 refine X0 ?_; refine JR ?_; refine Zx (γ := 100) ?_; refine Z0 ?_; refine JD ?_; refine X0 ?_; refine JR ?_; refine ZK ?_; refine Z8 (hcon := h) ?_; refine Z0 ?_; refine JD ?_
 exact X1 ⟨_, St.le_refl _, ⟨rfl, trivial⟩, X2 _⟩
end Go.Fw
namespace Go.Fw
open Go Go.Proofs
set_option maxRecDepth 100000
set_option linter.unusedVariables false
set_option linter.unusedSimpArgs false
def YN (x y : Int) : Int := if x < y then -1 else if y < x then 1 else 0
theorem X5F (x : Int) : Con Tryd.prog 92 [] [ai x] [] (ab false) := by
 refine Xb (xs := [ab false]) Tryd.func92 rfl Tryd.ntmps92 rfl rfl rfl (fun E => ?_)
 refine X0 ?_; refine JR ?_; refine Z0 ?_; refine JD ?_; refine X0 ?_; refine JR ?_; refine Z1 ?_; refine Z1 ?_; refine Zq ?_; refine Z0 ?_; refine JD ?_
 exact X1 ⟨_, Xi 2 (y := ab false) (AVal.le_of_eq (by refine Eq.trans (b := ab (decide (x ≠ x))) rfl ?_; exact congrArg ab (by simp))), ⟨rfl, trivial⟩, X2 _⟩
theorem X9S (s : List UInt8) : Con Tryd.prog 93 [] [.d (.v (.string (X4 s)))] [] (ab false) := by
 refine Xb (xs := [ab false]) Tryd.func93 rfl Tryd.ntmps93 rfl rfl rfl (fun E => ?_)
 refine X0 ?_; refine JR ?_; refine Z0 ?_; refine JD ?_; refine X0 ?_; refine JR ?_; refine Z1 ?_; refine Z1 ?_; refine ZL ?_; refine Z0 ?_; refine JD ?_
 exact X1 ⟨_, Xi 2 (y := ab false) (AVal.le_of_eq (by refine Eq.trans (b := ab (decide (s ≠ s))) rfl ?_; exact congrArg ab (by simp))), ⟨rfl, trivial⟩, X2 _⟩
theorem X4b (x y : Int) : Con Tryd.prog 71 [] [ai x, ai y] [] (ai (YN x y)) := by
 refine Xb (xs := [ai (YN x y)]) Tryd.func71 rfl Tryd.ntmps71 rfl rfl rfl (fun E => ?_)
 have n1 := X5F x
 have n2 := X5F y
 by_cases h1 : x < y
 ·rw [show YN x y = -1 by simp [YN, h1]]
  repeat first | refine X0 ?_ | (refine JR ?_; (repeat first | refine Z1 ?_ | refine Z0 ?_ | refine Z7 ?_ | refine Z8 (hcon := n1) ?_ | refine Z8 (hcon := n2) ?_); refine JD ?_) | refine JT ?_ | refine JF ?_ | refine X3 ?_
  exact X1 ⟨_, St.le_refl _, ⟨rfl, trivial⟩, X2 _⟩
 by_cases h2 : y < x
 ·rw [show YN x y = 1 by simp [YN, h1, h2]]
  repeat first | refine X0 ?_ | (refine JR ?_; (repeat first | refine Z1 ?_ | refine Z0 ?_ | refine Z7 ?_ | refine Zn ?_ | refine Z8 (hcon := n1) ?_ | refine Z8 (hcon := n2) ?_); refine JD ?_) | refine JT ?_ | refine JF ?_ | refine X3 ?_
  exact X1 ⟨_, St.le_refl _, ⟨rfl, trivial⟩, X2 _⟩
 rw [show YN x y = 0 by simp [YN, h1, h2]]
 repeat first | refine X0 ?_ | (refine JR ?_; (repeat first | refine Z1 ?_ | refine Z0 ?_ | refine Z7 ?_ | refine Zn ?_ | refine Z8 (hcon := n1) ?_ | refine Z8 (hcon := n2) ?_); refine JD ?_) | refine JF ?_ | refine X3 ?_
 exact X1 ⟨_, St.le_refl _, ⟨rfl, trivial⟩, X2 _⟩
theorem X2V : ∀ s : List UInt8, Op.bytesLess s s = false
 | [] => rfl
 | b :: s => by simp [Op.bytesLess, X2V s]
theorem XaI {t : TypeId} {x y : Operand} {s : List UInt8} (w : World) : (do eqGuard .lss t x y (.string (X4 s)) (.string (X4 s)); binOp .lss t (.string (X4 s)) (.string (X4 s)) : Sem Value).run Tryd.prog w = .ok (.bool false) w := by
 simp [go_sem, binOp, Op.stringOp, X09, X2V]
theorem X7h {t : TypeId} {x y : Operand} {s : List UInt8} (w : World) : (do eqGuard .gtr t x y (.string (X4 s)) (.string (X4 s)); binOp .gtr t (.string (X4 s)) (.string (X4 s)) : Sem Value).run Tryd.prog w = .ok (.bool false) w := by
 simp [go_sem, binOp, Op.stringOp, X09, X2V]
theorem X96 (s : List UInt8) : Con Tryd.prog 72 [] [.d (.v (.string (X4 s))), .d (.v (.string (X4 s)))] [] (ai 0) := by
 refine Xb (xs := [ai 0]) Tryd.func72 rfl Tryd.ntmps72 rfl rfl rfl (fun E => ?_)
 have n1 := X9S s
 repeat first | refine X0 ?_ | (refine JR ?_; (repeat first | refine Zw (op := .lss) (r' := .bool false) (u := .string (X4 s)) (v := .string (X4 s)) ?_ (hr := by exact XaI) | refine Zw (op := .gtr) (r' := .bool false) (u := .string (X4 s)) (v := .string (X4 s)) ?_ (hr := by exact X7h) | refine Z1 ?_ | refine Z0 ?_ | refine Z8 (hcon := n1) ?_); refine JD ?_) | refine JF ?_ | refine X3 ?_
 exact X1 ⟨_, St.le_refl _, ⟨rfl, trivial⟩, X2 _⟩
abbrev cI (n : Int) : List D := [.v (.int .i64 n)]
def orI : List Int → Int
 | [] => 0
 | x :: r => if x ≠ 0 then x else orI r
theorem X7x {l : List Int} {i : Nat} {x : Int} (h : l[i]? = some x) : orI (l.drop i) = if x ≠ 0 then x else orI (l.drop (i + 1)) := by
 rw [List.drop_eq_getElem_cons (List.getElem?_eq_some_iff.1 h).1, (List.getElem?_eq_some_iff.1 h).2, orI]
theorem X8a (l : List Int) (hl : l.length ≤ 1000) : Con Tryd.prog 70 [] [.d (.sl 1 (l.map cI))] [] (ai (orI l)) := by
 refine Xb (xs := [ai (orI l)]) Tryd.func70 rfl Tryd.ntmps70 rfl rfl rfl (fun E => ?_)
 have hlm : (l.map cI).length = l.length := by simp
 refine X0 ?_; refine JR ?_; refine Z0 ?_; refine JD ?_; refine X0 ?_; refine JR ?_; refine Z0 ?_; refine JD ?_; refine X0 ?_; refine X0 ?_; refine JR ?_; refine Z1 ?_; refine Zb ?_; refine Z1 ?_
 refine JD ?_; refine X5 ?_
 generalize hG : orI l = G
 refine XR (fun i : Nat => i ≤ l.length ∧ orI (l.drop i) = G) (fun i => ⟨18, [(3, ai 0), (6, .d (.sl 1 (l.map cI))), (7, ai (l.map cI).length), (8, ai i)], []⟩) (fun i => l.length - i) 0 ⟨by omega, hG⟩
  (Xg rfl ⟨JL, JL, JL, JL, trivial⟩ trivial) ?_
 rintro i ⟨hi, hg⟩
 by_cases hil : i < l.length
 case neg =>
  obtain rfl : i = l.length := by omega
  rw [List.drop_length, orI] at hg
  subst hg
  have hn : ¬ ((l.length : Nat) : Int) < (l.map cI).length := by omega
  refine X0 ?_; refine JR ?_; refine Z7 ?_; refine JD ?_; refine X0 ?_; refine JF ?_; refine Xt ?_; refine X0 ?_; refine JR ?_; refine Z1 ?_; refine Z0 ?_; refine JD ?_
  exact X1 ⟨_, St.le_refl _, ⟨rfl, trivial⟩, X2 _⟩
 have hn : (i : Int) < (l.map cI).length := by omega
 obtain ⟨x, hx⟩ := XX (l := l) hil
 have hxm : (l.map cI)[i]? = some (cI x) := Ua hx
 rw [X7x hx] at hg
 by_cases h0 : x = 0
 ·rw [if_neg (by simpa using h0)] at hg
  refine X0 ?_; refine JR ?_; refine Z7 ?_; refine JD ?_; refine X0 ?_; refine JT ?_; refine X3 ?_; refine X0 ?_; refine X5 ?_; refine X0 ?_; refine JR ?_; refine ZH ?_; refine ZJ ?_
  refine Z0 ?_; refine JD ?_; refine X0 ?_; refine JR ?_; refine Z1 ?_; refine Z1 ?_; refine Zq ?_; refine JD ?_; refine JF ?_; refine X3 ?_; refine JR ?_; refine Zc ?_; refine Z1 ?_; refine JD ?_
  exact ⟨i + 1, ⟨by omega, hg⟩, by omega, Xg rfl ⟨JL, JL, JL, JL, trivial⟩ trivial⟩
 ·rw [if_pos h0] at hg
  subst hg
  refine X0 ?_; refine JR ?_; refine Z7 ?_; refine JD ?_; refine X0 ?_; refine JT ?_; refine X3 ?_; refine X0 ?_; refine X5 ?_; refine X0 ?_; refine JR ?_; refine ZH ?_; refine ZJ ?_
  refine Z0 ?_; refine JD ?_; refine X0 ?_; refine JR ?_; refine Z1 ?_; refine Z1 ?_; refine Zq ?_; refine JD ?_; refine JT ?_; refine X0 ?_; refine JR ?_; refine Z1 ?_; refine Z0 ?_; refine JD ?_
  exact X1 ⟨_, St.le_refl _, ⟨rfl, trivial⟩, X2 _⟩
def YC (k : Int) : Int := if k = 3 then 2 else if k = 7 then 9 else k
theorem X32 (k n d : Int) (s : List UInt8) (l : List Val) : Con Tryd.prog 89 [] [Xh (.mk k n d s l)] [] (ai (YC k)) := by
 refine Xb (xs := [ai (YC k)]) Tryd.func89 rfl Tryd.ntmps89 rfl rfl rfl (fun E => ?_)
 simp only [Xh]
 by_cases h3 : k = 3
 ·subst h3
  refine X0 ?_; refine JR ?_; refine Zx (γ := 100) ?_; refine Z0 ?_; refine JD ?_; refine X0 ?_; refine X0 ?_; refine JR ?_; refine Zy ?_; refine Zz ?_; refine JD ?_; refine X5 ?_; refine X0 ?_
  refine JR ?_; refine Zs ?_; refine Z0 ?_; refine JD ?_; refine JT ?_; refine X0 ?_; refine JR ?_; refine Z0 ?_; refine JD ?_
  exact X1 ⟨_, St.le_refl _, ⟨rfl, trivial⟩, X2 _⟩
 by_cases h7 : k = 7
 ·subst h7
  repeat first | refine X0 ?_ | (refine JR ?_; (repeat first | refine Z0 ?_ | refine Zy ?_ | refine Zz ?_ | refine Zs ?_ | refine Zx (γ := 100) ?_); refine JD ?_) | refine JT ?_ | refine JF ?_ | refine X5 ?_
  exact X1 ⟨_, St.le_refl _, ⟨rfl, trivial⟩, X2 _⟩
 rw [show YC k = k by simp [YC, h3, h7]]
 repeat first | refine X0 ?_ | (refine JR ?_; (repeat first | refine Z0 ?_ | refine Zy ?_ | refine Zz ?_ | refine Zs ?_ | refine Zx (γ := 100) ?_); refine JD ?_) | refine JF ?_ | refine X5 ?_ | refine X3 ?_
 exact X1 ⟨_, St.le_refl _, ⟨rfl, trivial⟩, X2 _⟩
end Go.Fw
namespace Go.Fw
open Go
set_option linter.unusedVariables false
abbrev Y2 (x : Nat) : List D := [.v (.int .i64 (x : Int))]
abbrev Yw (l : List Nat) : D := .sl 1 (l.map Y2)
def YA : List Nat → Nat
 | [] => 0
 | x :: r => x + 1000 * YA r
def Ys : Nat → Nat → List Nat
 | 0, _ => []
 | n + 1, v => v % 1000 :: Ys n (v / 1000)
def Uk (l : List Nat) : Prop := ∀ d ∈ l, d < 1000
theorem X0E {l : List Nat} (h : Uk l) {k x : Nat} (hx : l[k]? = some x) : x < 1000 := h x (List.mem_of_getElem? hx)
theorem X2D : ∀ n v, (Ys n v).length = n
 | 0, _ => rfl
 | n + 1, v => by rw [Ys, List.length_cons, X2D n]
theorem X2r : ∀ n v, Uk (Ys n v)
 | 0, _ => fun d h => by simp [Ys] at h
 | n + 1, v => fun d h => by
  rw [Ys] at h
  rcases List.mem_cons.1 h with rfl | h
  ·exact Nat.mod_lt _ (by omega)
  ·exact X2r n _ d h
theorem X5x : ∀ l : List Nat, Uk l → Ys l.length (YA l) = l
 | [], _ => rfl
 | x :: r, h => by
  have hx := h x (by simp)
  rw [List.length_cons, Ys, YA, show (x + 1000 * YA r) % 1000 = x by omega, show (x + 1000 * YA r) / 1000 = YA r by omega, X5x r fun d hd => h d (by simp [hd])]
theorem X5b : ∀ (l : List Nat) (k x y : Nat), l[k]? = some x → YA (l.set k y) + x * 1000 ^ k = YA l + y * 1000 ^ k
 | [], k, x, y, h => by simp at h
 | z :: r, 0, x, y, h => by
  simp at h
  subst h
  simp only [List.set_cons_zero, YA, Nat.pow_zero, Nat.mul_one]
  omega
 | z :: r, k + 1, x, y, h => by
  have ih := X5b r k x y (by simpa using h)
  simp only [List.set_cons_succ, YA, Nat.pow_succ, ← Nat.mul_assoc]
  omega
theorem X4U : ∀ n, YA (List.replicate n 0) = 0
 | 0 => rfl
 | n + 1 => by rw [List.replicate_succ, YA, X4U n]
theorem X2O (n : Nat) : Uk (List.replicate n 0) := fun d h => by
 have := (List.mem_replicate.1 h).2
 omega
theorem X4W {l : List Nat} (h : Uk l) (k : Nat) {y : Nat} (hy : y < 1000) : Uk (l.set k y) := fun d hd => by
 rcases List.mem_or_eq_of_mem_set hd with h1 | rfl
 ·exact h d h1
 ·exact hy
theorem X81 {l : List Nat} {k x V d c carry : Nat} (hV : YA l + (d * c + carry) * 1000 ^ k = V) (hx : l[k]? = some x) :
  YA (l.set k ((carry + x + d * (c % 1000)) % 1000)) + (d * (c / 1000) + (carry + x + d * (c % 1000)) / 1000) * 1000 ^ (k + 1) = V := by
 have h1 := X5b l k x ((carry + x + d * (c % 1000)) % 1000) hx
 have ht := Nat.mod_add_div (carry + x + d * (c % 1000)) 1000
 have e1 : d * c = d * (c % 1000) + 1000 * (d * (c / 1000)) := by
  have hc := Nat.mod_add_div c 1000
  calc d * c = d * (c % 1000 + 1000 * (c / 1000)) := by rw [hc]
   _ = _ := by rw [Nat.mul_add, Nat.mul_left_comm]
 rw [e1] at hV
 rw [Nat.pow_succ]
 generalize YA (l.set k ((carry + x + d * (c % 1000)) % 1000)) = A at *
 generalize d * (c % 1000) = u at *
 generalize d * (c / 1000) = w at *
 generalize (carry + x + u) / 1000 = q at *
 generalize (carry + x + u) % 1000 = r at *
 generalize 1000 ^ k = p at *
 have e2 : (r + 1000 * q) * p = (carry + x + u) * p := by rw [ht]
 have e3 : (w + q) * (p * 1000) = 1000 * (w * p) + 1000 * (q * p) := by rw [← Nat.mul_assoc, Nat.mul_comm, Nat.add_mul, Nat.mul_add]
 rw [e3]
 simp only [Nat.add_mul, Nat.mul_assoc] at *
 omega
theorem X9o {A A' a b i V : Nat} (hV : A + a * b * 1000 ^ i = V) (h : A' = A + a % 1000 * b * 1000 ^ i) : A' + a / 1000 * b * 1000 ^ (i + 1) = V := by
 have e1 : a * b = a % 1000 * b + 1000 * (a / 1000 * b) := by
  have hc := Nat.mod_add_div a 1000
  calc a * b = (a % 1000 + 1000 * (a / 1000)) * b := by rw [hc]
   _ = _ := by rw [Nat.add_mul, Nat.mul_assoc]
 rw [e1] at hV
 rw [Nat.pow_succ]
 generalize a % 1000 * b = u at *
 generalize a / 1000 * b = w at *
 generalize 1000 ^ i = p at *
 have e3 : w * (p * 1000) = 1000 * (w * p) := by rw [← Nat.mul_assoc, Nat.mul_comm]
 rw [e3]
 simp only [Nat.add_mul, Nat.mul_assoc] at *
 omega
theorem X36 {k m : Nat} (h : 1000 ^ k ≤ 1000 ^ m) : k ≤ m := (Nat.pow_le_pow_iff_right (by decide)).1 h
theorem XaU {a i a0 : Nat} (h : a * 1000 ^ i ≤ a0) (ha : 0 < a) (h0 : a0 ≤ 1000000000000000) : i ≤ 5 := by
 refine X36 (Nat.le_trans ?_ (Nat.le_trans h h0))
 exact Nat.le_mul_of_pos_left _ ha
theorem X7Q {c k b i : Nat} (h : c * 1000 ^ k ≤ b * 1000 ^ i) (hc : 0 < c) (hb : b ≤ 1000000000000000) (hi : i ≤ 5) : k ≤ 10 := by
 have h1 : 1000 ^ k ≤ c * 1000 ^ k := Nat.le_mul_of_pos_left _ hc
 have h2 : b * 1000 ^ i ≤ 1000 ^ 5 * 1000 ^ 5 := Nat.mul_le_mul hb (Nat.pow_le_pow_right (by decide) hi)
 exact X36 (Nat.le_trans h1 (Nat.le_trans h h2))
theorem X7i {A u carry k V W : Nat} (h : A + (u + carry) * 1000 ^ k = V) (hV : V ≤ W) (hW : W ≤ 1000 ^ 10) (hc : 0 < carry) : k ≤ 10 := by
 have h1 : 1000 ^ k ≤ (u + carry) * 1000 ^ k := Nat.le_mul_of_pos_left _ (by omega)
 exact X36 (Nat.le_trans h1 (by omega))
theorem X4i {c k X : Nat} (h : c * 1000 ^ k ≤ X) : c / 1000 * 1000 ^ (k + 1) ≤ X := by
 refine Nat.le_trans ?_ h
 rw [Nat.pow_succ, Nat.mul_comm (1000 ^ k), ← Nat.mul_assoc]
 exact Nat.mul_le_mul_right _ (Nat.div_mul_le_self c 1000)
theorem X9l {a b a0 : Nat} (ha : a ≤ 1000000000000000) (hb : b ≤ 1000000000000000) : a * b ≤ 1000 ^ 10 := by
 have h : a * b ≤ 1000000000000000 * 1000000000000000 := Nat.mul_le_mul ha hb
 exact h
theorem X70 {A a b i V : Nat} (h : A + a * b * 1000 ^ i = V) : A + a % 1000 * b * 1000 ^ i ≤ V := by
 rw [← h]
 exact Nat.add_le_add_left (Nat.mul_le_mul_right _ (Nat.mul_le_mul_right _ (Nat.mod_le _ _))) _
def YQ (x y : List Nat) : Nat → List Nat × Nat
 | 0 => (List.replicate x.length 0, 0)
 | k + 1 => let p := YQ x y k; let t := p.2 + (x[k]?).getD 0 + (y[k]?).getD 0; (p.1.set k (t % 1000), t / 1000)
theorem X3n (x y : List Nat) : ∀ k, (YQ x y k).1.length = x.length
 | 0 => by simp [YQ]
 | k + 1 => by simp only [YQ, List.length_set]; exact X3n x y k
theorem X6e {x y : List Nat} (hx : Uk x) (hy : Uk y) : ∀ k, (YQ x y k).2 ≤ 1
 | 0 => by simp [YQ]
 | k + 1 => by
  have ih := X6e hx hy k
  have h1 : (x[k]?).getD 0 < 1000 := by
   cases h : x[k]? with
   | none => simp
   | some a => exact X0E hx h
  have h2 : (y[k]?).getD 0 < 1000 := by
   cases h : y[k]? with
   | none => simp
   | some a => exact X0E hy h
  simp only [YQ]
  omega
def UG (x y : List Nat) : List Nat := (YQ x y x.length).1
end Go.Fw

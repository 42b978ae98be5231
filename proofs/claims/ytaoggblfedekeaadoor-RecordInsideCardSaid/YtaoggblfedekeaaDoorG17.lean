/- The check of a rule: the program's. -/
import Derived.Test.YtaoggblfedekeaaDoorG08
import Derived.Test.YtaoggblfedekeaaDoorG15
import Derived.Test.YtaoggblfedekeaaDoorG07
import Derived.Test.YtaoggblfedekeaaDoorG16
set_option maxHeartbeats 32000000
namespace Go.Fw
open Go Go.Proofs
set_option maxRecDepth 100000
set_option linter.unusedVariables false
set_option linter.unusedSimpArgs false
def X0v (k n : Int) : Bool := if k = 3 ∨ k = 5 then decide (n = 1 ∨ n = 2 ∨ n = 4) else if k = 7 then decide (0 ≤ n ∧ n ≤ 4000) else decide (n = 0)
def X0Z (k : Int) (nb : Bool) (key src dst : List UInt8) (vn vk vs vd : Bool) : Int :=
 if decide (1 ≤ k ∧ k ≤ 7) = false ∨ nb = false then 1
 else if (Vm k = false ∧ key ≠ []) ∨ (k ≠ 6 ∧ (src ≠ [] ∨ dst ≠ [])) then 1
 else if vn = false ∨ (Vm k = true ∧ vk = false) ∨ (src ≠ [] ∧ vs = false) ∨ (dst ≠ [] ∧ vd = false) then 6 else 0
theorem X5y (r : Rul) : YU r = X0Z r.kind (X0v r.kind r.n) r.key r.src r.dst (XM r.name) (XM r.key) (XM r.src) (XM r.dst) := rfl
abbrev Xac (k n : Int) (name key src dst : List UInt8) : AVal := .agg [ai k, ai n, .d (.v (.string (X4 name))), .d (.v (.string (X4 key))), .d (.v (.string (X4 src))), .d (.v (.string (X4 dst)))]
def Y3 (r : Rul) : AVal := Xac r.kind r.n r.name r.key r.src r.dst
def ktS (n : Int) : List UInt8 := if n = 1 then [98, 111, 111, 108] else if n = 2 then [105, 110, 116] else if n = 4 then [115, 116, 114] else []
theorem X7d (n : Int) : Con Tryd.prog 42 [] [ai n] [] (.d (.v (.string (X4 (ktS n))))) := by
 refine Xb (xs := [.d (.v (.string (X4 (ktS n))))]) Tryd.func42 rfl Tryd.ntmps42 rfl rfl rfl (fun E => ?_)
 by_cases h1 : n = 1
 ·subst h1
  refine X0 ?_; refine JR ?_; refine Z0 ?_; refine JD ?_; refine X0 ?_; refine X0 ?_; refine JR ?_; refine Z1 ?_; refine JD ?_; refine X5 ?_; refine X0 ?_; refine JR ?_; refine Zs ?_
  refine Z0 ?_; refine JD ?_; refine JT ?_; refine X0 ?_; refine JR ?_; refine Z0 ?_; refine JD ?_
  exact X1 ⟨_, St.le_refl _, ⟨rfl, trivial⟩, X2 _⟩
 by_cases h2 : n = 2
 ·subst h2
  repeat first | refine X0 ?_ | (refine JR ?_; (repeat first | refine Z1 ?_ | refine Z0 ?_ | refine Zs ?_); refine JD ?_) | refine JT ?_ | refine JF ?_ | refine X5 ?_
  exact X1 ⟨_, St.le_refl _, ⟨rfl, trivial⟩, X2 _⟩
 by_cases h4 : n = 4
 ·subst h4
  repeat first | refine X0 ?_ | (refine JR ?_; (repeat first | refine Z1 ?_ | refine Z0 ?_ | refine Zs ?_); refine JD ?_) | refine JT ?_ | refine JF ?_ | refine X5 ?_
  exact X1 ⟨_, St.le_refl _, ⟨rfl, trivial⟩, X2 _⟩
 rw [show ktS n = [] by simp [ktS, h1, h2, h4]]
 repeat first | refine X0 ?_ | (refine JR ?_; (repeat first | refine Z1 ?_ | refine Z0 ?_ | refine Zs ?_); refine JD ?_) | refine JF ?_ | refine X5 ?_ | refine X3 ?_
 exact X1 ⟨_, St.le_refl _, ⟨rfl, trivial⟩, X2 _⟩
def Yo (ky nu en ok : Bool) (n : Int) (key src dst : List UInt8) : Bool := !ok || (!ky && decide (key ≠ [])) || (!nu && decide (n ≠ 0)) || (!en && (decide (src ≠ []) || decide (dst ≠ [])))
def Xl (a ky nu : Bool) (k n : Int) (kt src dst : List UInt8) (vn vk vs vd : Bool) : Int :=
 if a = true then 1 else if k = 7 ∧ (n < 0 ∨ 4000 < n) then 1 else if ky = true ∧ nu = true ∧ kt = [] then 1
 else if vn = false ∨ (ky = true ∧ vk = false) then 6 else if (src ≠ [] ∧ vs = false) ∨ (dst ≠ [] ∧ vd = false) then 6 else 0
theorem Xau (k n : Int) (key src dst : List UInt8) (vn vk vs vd : Bool) : X0Z k (X0v k n) key src dst vn vk vs vd =
  Xl (Yo (YF k).1 (YF k).2.1 (YF k).2.2.1 (YF k).2.2.2 n key src dst) (YF k).1 (YF k).2.1 k n (ktS n) src dst vn vk vs vd := by
 by_cases hk : 1 ≤ k ∧ k ≤ 7
 ·have h7 : k = 1 ∨ k = 2 ∨ k = 3 ∨ k = 4 ∨ k = 5 ∨ k = 6 ∨ k = 7 := by omega
  have hn : n = 0 ∨ n = 1 ∨ n = 2 ∨ n = 4 ∨ (n ≠ 0 ∧ n ≠ 1 ∧ n ≠ 2 ∧ n ≠ 4) := by omega
  rcases h7 with rfl | rfl | rfl | rfl | rfl | rfl | rfl
  all_goals
   unfold X0Z Xl Yo YF X0v Vm
   by_cases h1 : key = [] <;> by_cases h2 : src = [] <;> by_cases h3 : dst = []
   all_goals rcases hn with rfl | rfl | rfl | rfl | ⟨n0, n1, n2, n4⟩
   all_goals first
    | (simp [ktS, *]; done)
    | (by_cases m1 : n < 0 <;> by_cases m2 : 4000 < n <;> simp [ktS, *] <;> omega)
    | (cases vn <;> cases vk <;> cases vs <;> cases vd <;> simp [ktS, *])
 ·unfold X0Z Xl Yo YF
  simp [hk]
theorem X2M (r : Rul) : Con Tryd.prog 25 [] [Y3 r] [] (ai (YU r)) := by
 rw [X5y, Xau]
 obtain ⟨k, n, name, key, src, dst⟩ := r
 simp only [Y3]
 have hn := X10 name
 have hk := X10 key
 have hs := X10 src
 have hd := X10 dst
 have ht := X7d n
 have hf := X9u k
 generalize XM name = vn at *
 generalize XM key = vk at *
 generalize XM src = vs at *
 generalize XM dst = vd at *
 generalize ktS n = kt at *
 generalize YF k = u at *
 obtain ⟨ky, nu, en, ok⟩ := u
 simp only at hf
 show Con _ _ _ _ _ (ai (Xl (Yo ky nu en ok n key src dst) ky nu k n kt src dst vn vk vs vd))
 generalize ha : Yo ky nu en ok n key src dst = a
 refine Xb (xs := [ai (Xl a ky nu k n kt src dst vn vk vs vd)]) Tryd.func25 rfl Tryd.ntmps25 rfl rfl rfl (fun E => ?_)
 refine X0 ?_; refine JR ?_; refine Zx (γ := 100) ?_; refine Z0 ?_; refine JD ?_; refine X0 ?_; refine JR ?_; refine Zy ?_; refine Zz ?_; refine Z8 (hcon := hf) ?_; refine Z1 ?_; refine ZC ?_; refine ZC ?_
 refine Zr (γ := 101) ?_; refine Zu ?_; refine Z0 ?_; refine JD ?_; refine X0 ?_
 refine X5 ?_
 refine X0 ?_
 refine X3T ⟨102, [(1, .ptr 100 0), (3, .ptr 101 0), (11, ab a)], [(100, .box [ai k, ai n, .d (.v (.string (X4 name))), .d (.v (.string (X4 key))), .d (.v (.string (X4 src))), .d (.v (.string (X4 dst)))]), (101, .box [ab ky, ab nu, ab en])]⟩ ?_ ?_
 ·refine X0 ?_; refine JR ?_; refine Z1 ?_; refine Zp ?_; refine Z0 ?_; refine JD ?_; refine XB rfl (fun hq => ?_) (fun hq => ?_); refine X3 ?_
  ((clear hf ht hn hk hs hd; refine Xg rfl ⟨AVal.le_refl _, AVal.le_refl _, AVal.le_of_eq (congrArg ab (by subst ha; simp [Yo, *])), trivial⟩ ⟨rfl, rfl, trivial⟩)); refine X0 ?_; refine JR ?_; refine Zy ?_
  refine Zz ?_; refine Zp ?_; refine Z1 ?_; refine Yv rfl rfl (fun hq => ?_) (fun hq => ?_); refine Zj ?_; refine Zj ?_; refine Zj ?_; refine Zl ?_; refine Z0 ?_; refine JD ?_; refine JF ?_; refine X0 ?_
  refine JR ?_; refine Zy ?_; refine Zz ?_; refine Zp ?_; refine Z1 ?_; refine Yv rfl rfl (fun hq => ?_) (fun hq => ?_); refine Zj ?_; refine Zj ?_; refine Zj ?_; refine Zl ?_; refine Z0 ?_; refine JD ?_
  refine JF ?_; refine JR ?_; refine Zy ?_; refine Zz ?_; refine Zp ?_; refine Z1 ?_; refine Yv rfl rfl (fun hq => ?_) (fun hq => ?_); refine Zj ?_; refine Zj ?_; refine Zj ?_; refine Zj ?_; refine Zk ?_
  refine Zk ?_; refine Zk ?_; refine Zj ?_; refine Zl ?_; refine Z0 ?_; refine JD ?_
  ((clear hf ht hn hk hs hd; refine Xg rfl ⟨AVal.le_refl _, AVal.le_refl _, AVal.le_of_eq (congrArg ab (by subst ha; simp [Yo, *])), trivial⟩ ⟨rfl, rfl, trivial⟩)); refine Zy ?_; refine Zz ?_; refine ZL ?_
  refine Z1 ?_; refine XV rfl rfl (fun hq => ?_) (fun hq => ?_); refine Zj ?_; refine Zj ?_; refine Zj ?_; refine Zi ?_; refine Zi ?_; refine Z0 ?_; refine JD ?_
  ((clear hf ht hn hk hs hd; refine Xg rfl ⟨AVal.le_refl _, AVal.le_refl _, AVal.le_of_eq (congrArg ab (by subst ha; simp [Yo, *])), trivial⟩ ⟨rfl, rfl, trivial⟩)); refine Zy ?_; refine Zz ?_; refine ZL ?_
  refine Zl ?_; refine Zi ?_; refine Z0 ?_; refine JD ?_
  ((clear hf ht hn hk hs hd; refine Xg rfl ⟨AVal.le_refl _, AVal.le_refl _, AVal.le_of_eq (congrArg ab (by subst ha; simp [Yo, *])), trivial⟩ ⟨rfl, rfl, trivial⟩)); refine Zy ?_; refine Zz ?_; refine Zq ?_
  refine Zi ?_; refine Z0 ?_; refine JD ?_; refine Vj rfl (fun hq => ?_) (fun hq => ?_); refine X3 ?_
  ((clear hf ht hn hk hs hd; refine Xg rfl ⟨AVal.le_refl _, AVal.le_refl _, AVal.le_of_eq (congrArg ab (by subst ha; simp [Yo, *])), trivial⟩ ⟨rfl, rfl, trivial⟩)); refine JR ?_; refine Zy ?_; refine Zz ?_
  refine Zp ?_; refine Z1 ?_; refine Yv rfl rfl (fun hq => ?_) (fun hq => ?_); refine Zj ?_; refine Zj ?_; refine Zj ?_; refine Zj ?_; refine Zk ?_; refine Zk ?_; refine Zk ?_; refine Zj ?_; refine Zl ?_
  refine Z0 ?_; refine JD ?_; ((clear hf ht hn hk hs hd; refine Xg rfl ⟨AVal.le_refl _, AVal.le_refl _, AVal.le_of_eq (congrArg ab (by subst ha; simp [Yo, *])), trivial⟩ ⟨rfl, rfl, trivial⟩)); refine Zy ?_
  refine Zz ?_; refine ZL ?_; refine Z1 ?_; refine XV rfl rfl (fun hq => ?_) (fun hq => ?_); refine Zj ?_; refine Zj ?_; refine Zj ?_; refine Zi ?_; refine Zi ?_; refine Z0 ?_; refine JD ?_
  ((clear hf ht hn hk hs hd; refine Xg rfl ⟨AVal.le_refl _, AVal.le_refl _, AVal.le_of_eq (congrArg ab (by subst ha; simp [Yo, *])), trivial⟩ ⟨rfl, rfl, trivial⟩)); refine Zy ?_; refine Zz ?_; refine ZL ?_
  refine Zl ?_; refine Zi ?_; refine Z0 ?_; refine JD ?_
  ((clear hf ht hn hk hs hd; refine Xg rfl ⟨AVal.le_refl _, AVal.le_refl _, AVal.le_of_eq (congrArg ab (by subst ha; simp [Yo, *])), trivial⟩ ⟨rfl, rfl, trivial⟩)); refine Zy ?_; refine Zz ?_; refine ZL ?_
  refine Zi ?_; refine Z0 ?_; refine JD ?_; refine Vj rfl (fun hq => ?_) (fun hq => ?_); refine X3 ?_
  ((clear hf ht hn hk hs hd; refine Xg rfl ⟨AVal.le_refl _, AVal.le_refl _, AVal.le_of_eq (congrArg ab (by subst ha; simp [Yo, *])), trivial⟩ ⟨rfl, rfl, trivial⟩)); refine X0 ?_; refine JR ?_; refine Zy ?_
  refine Zz ?_; refine Zp ?_; refine Z1 ?_; refine Yv rfl rfl (fun hq => ?_) (fun hq => ?_); refine Zj ?_; refine Zj ?_; refine Zj ?_; refine Zl ?_; refine Z0 ?_; refine JD ?_; refine JF ?_; refine JR ?_
  refine Zy ?_; refine Zz ?_; refine Zp ?_; refine Z1 ?_; refine Yv rfl rfl (fun hq => ?_) (fun hq => ?_); refine Zj ?_; refine Zj ?_; refine Zj ?_; refine Zj ?_; refine Zk ?_; refine Zk ?_; refine Zk ?_
  refine Zj ?_; refine Zl ?_; refine Z0 ?_; refine JD ?_
  ((clear hf ht hn hk hs hd; refine Xg rfl ⟨AVal.le_refl _, AVal.le_refl _, AVal.le_of_eq (congrArg ab (by subst ha; simp [Yo, *])), trivial⟩ ⟨rfl, rfl, trivial⟩)); refine Zy ?_; refine Zz ?_; refine ZL ?_
  refine Z1 ?_; refine XV rfl rfl (fun hq => ?_) (fun hq => ?_); refine Zj ?_; refine Zj ?_; refine Zj ?_; refine Zi ?_; refine Zi ?_; refine Z0 ?_; refine JD ?_
  ((clear hf ht hn hk hs hd; refine Xg rfl ⟨AVal.le_refl _, AVal.le_refl _, AVal.le_of_eq (congrArg ab (by subst ha; simp [Yo, *])), trivial⟩ ⟨rfl, rfl, trivial⟩)); refine Zy ?_; refine Zz ?_; refine ZL ?_
  refine Zl ?_; refine Zi ?_; refine Z0 ?_; refine JD ?_
  ((clear hf ht hn hk hs hd; refine Xg rfl ⟨AVal.le_refl _, AVal.le_refl _, AVal.le_of_eq (congrArg ab (by subst ha; simp [Yo, *])), trivial⟩ ⟨rfl, rfl, trivial⟩)); refine Zy ?_; refine Zz ?_; refine Zq ?_
  refine Zi ?_; refine Z0 ?_; refine JD ?_; refine Vj rfl (fun hq => ?_) (fun hq => ?_); refine X3 ?_
  ((clear hf ht hn hk hs hd; refine Xg rfl ⟨AVal.le_refl _, AVal.le_refl _, AVal.le_of_eq (congrArg ab (by subst ha; simp [Yo, *])), trivial⟩ ⟨rfl, rfl, trivial⟩)); refine JR ?_; refine Zy ?_; refine Zz ?_
  refine Zp ?_; refine Z1 ?_; refine Yv rfl rfl (fun hq => ?_) (fun hq => ?_); refine Zj ?_; refine Zj ?_; refine Zj ?_; refine Zj ?_; refine Zk ?_; refine Zk ?_; refine Zk ?_; refine Zj ?_; refine Zl ?_
  refine Z0 ?_; refine JD ?_; ((clear hf ht hn hk hs hd; refine Xg rfl ⟨AVal.le_refl _, AVal.le_refl _, AVal.le_of_eq (congrArg ab (by subst ha; simp [Yo, *])), trivial⟩ ⟨rfl, rfl, trivial⟩)); refine Zy ?_
  refine Zz ?_; refine ZL ?_; refine Z1 ?_; refine XV rfl rfl (fun hq => ?_) (fun hq => ?_); refine Zj ?_; refine Zj ?_; refine Zj ?_; refine Zi ?_; refine Zi ?_; refine Z0 ?_; refine JD ?_
  ((clear hf ht hn hk hs hd; refine Xg rfl ⟨AVal.le_refl _, AVal.le_refl _, AVal.le_of_eq (congrArg ab (by subst ha; simp [Yo, *])), trivial⟩ ⟨rfl, rfl, trivial⟩)); refine Zy ?_; refine Zz ?_; refine ZL ?_
  refine Zl ?_; refine Zi ?_; refine Z0 ?_; refine JD ?_
  ((clear hf ht hn hk hs hd; refine Xg rfl ⟨AVal.le_refl _, AVal.le_refl _, AVal.le_of_eq (congrArg ab (by subst ha; simp [Yo, *])), trivial⟩ ⟨rfl, rfl, trivial⟩))
 clear ha hf
 obtain ⟨r, hr⟩ : ∃ r, r = Xl a ky nu k n kt src dst vn vk vs vd := ⟨_, rfl⟩
 rw [← hr]
 refine X0I rfl (fun hq => ?_) (fun hq => ?_); refine X0 ?_; refine JR ?_; refine Z0 ?_; refine JD ?_
 (clear ht hn hk hs hd; simp [Xl, *] at hr; subst hr; exact X1 ⟨_, St.le_refl _, ⟨rfl, trivial⟩, X2 _⟩); refine X0 ?_; refine JR ?_; refine Zy ?_; refine Zz ?_; refine Zs ?_; refine Z1 ?_
 refine XV rfl rfl (fun hq => ?_) (fun hq => ?_); refine Zy ?_; refine Zz ?_; refine Z7 ?_; refine Z1 ?_; refine XV rfl rfl (fun hq => ?_) (fun hq => ?_); refine Zj ?_; refine Zj ?_; refine Zj ?_; refine Zi ?_
 refine Zi ?_; refine Z0 ?_; refine JD ?_; refine JT ?_; refine X0 ?_; refine JR ?_; refine Z0 ?_; refine JD ?_
 (clear ht hn hk hs hd; simp [Xl, *] at hr; subst hr; exact X1 ⟨_, St.le_refl _, ⟨rfl, trivial⟩, X2 _⟩); refine Zy ?_; refine Zz ?_; refine Zn ?_; refine Zl ?_; refine Zi ?_; refine Z0 ?_; refine JD ?_
 refine Vj rfl (fun hq => ?_) (fun hq => ?_); refine X0 ?_; refine JR ?_; refine Z0 ?_; refine JD ?_
 (clear ht hn hk hs hd; simp [Xl, *] at hr; subst hr; exact X1 ⟨_, St.le_refl _, ⟨rfl, trivial⟩, X2 _⟩); refine X0 ?_; refine JR ?_; refine Zy ?_; refine Zz ?_; refine Z1 ?_
 refine VO rfl rfl (fun hq => ?_) (fun hq => ?_); refine Zy ?_; refine Zz ?_; refine Zi ?_; refine Z1 ?_; refine VO rfl rfl (fun hq => ?_) (fun hq => ?_); refine Zy ?_; refine Zz ?_
 refine Z8 (hcon := ht) ?_; refine Zm ?_; refine Zi ?_; refine Z0 ?_; refine JD ?_; refine Vj rfl (fun hq => ?_) (fun hq => ?_); refine X0 ?_; refine JR ?_; refine Z0 ?_; refine JD ?_
 (clear ht hn hk hs hd; simp [Xl, *] at hr; subst hr; exact X1 ⟨_, St.le_refl _, ⟨rfl, trivial⟩, X2 _⟩); refine X0 ?_; refine X0 ?_; refine JR ?_; refine Zy ?_; refine Zz ?_
 refine Z8 (hcon := hn) ?_; refine Zp ?_; refine Z0 ?_; refine JD ?_; refine XB rfl (fun hq => ?_) (fun hq => ?_); refine X3 ?_; refine JT ?_; refine X0 ?_; refine JR ?_; refine Z0 ?_; refine JD ?_
 (clear ht hn hk hs hd; simp [Xl, *] at hr; subst hr; exact X1 ⟨_, St.le_refl _, ⟨rfl, trivial⟩, X2 _⟩); refine JR ?_; refine Zy ?_; refine Zz ?_; refine Z1 ?_; refine Zy ?_; refine Zz ?_
 refine Z8 (hcon := hk) ?_; refine Zp ?_; refine Zi ?_; refine Z0 ?_; refine JD ?_; refine XB rfl (fun hq => ?_) (fun hq => ?_); refine X0 ?_; refine JR ?_; refine Z0 ?_; refine JD ?_
 (clear ht hn hk hs hd; simp [Xl, *] at hr; subst hr; exact X1 ⟨_, St.le_refl _, ⟨rfl, trivial⟩, X2 _⟩); refine X0 ?_; refine X0 ?_; refine JR ?_; refine Zy ?_; refine Zz ?_; refine ZL ?_
 refine Z1 ?_; refine XV rfl rfl (fun hq => ?_) (fun hq => ?_); refine Zy ?_; refine Zz ?_; refine Z8 (hcon := hs) ?_; refine Zp ?_; refine Zi ?_; refine Z0 ?_; refine JD ?_
 refine XB rfl (fun hq => ?_) (fun hq => ?_); refine X3 ?_; refine JT ?_; refine X0 ?_; refine JR ?_; refine Z0 ?_; refine JD ?_
 (clear ht hn hk hs hd; simp [Xl, *] at hr; subst hr; exact X1 ⟨_, St.le_refl _, ⟨rfl, trivial⟩, X2 _⟩); refine JR ?_; refine Zy ?_; refine Zz ?_; refine ZL ?_; refine Z1 ?_
 refine XV rfl rfl (fun hq => ?_) (fun hq => ?_); refine Zy ?_; refine Zz ?_; refine Z8 (hcon := hd) ?_; refine Zp ?_; refine Zi ?_; refine Z0 ?_; refine JD ?_; refine XB rfl (fun hq => ?_) (fun hq => ?_)
 refine X0 ?_; refine JR ?_; refine Z0 ?_; refine JD ?_; (clear ht hn hk hs hd; simp [Xl, *] at hr; subst hr; exact X1 ⟨_, St.le_refl _, ⟨rfl, trivial⟩, X2 _⟩); refine X3 ?_; refine X0 ?_
 refine JR ?_; refine Z0 ?_; refine JD ?_; (clear ht hn hk hs hd; simp [Xl, *] at hr; subst hr; exact X1 ⟨_, St.le_refl _, ⟨rfl, trivial⟩, X2 _⟩); refine Zj ?_; refine Zj ?_; refine Zj ?_; refine Zj ?_
 refine Zl ?_; refine Z0 ?_; refine JD ?_; refine JF ?_; refine X3 ?_; refine X0 ?_; refine JR ?_; refine Z0 ?_; refine JD ?_
 (clear ht hn hk hs hd; simp [Xl, *] at hr; subst hr; exact X1 ⟨_, St.le_refl _, ⟨rfl, trivial⟩, X2 _⟩); refine Zj ?_; refine Zj ?_; refine Zj ?_; refine Zj ?_; refine Zl ?_; refine Z0 ?_; refine JD ?_
 refine JF ?_; refine JR ?_; refine Zy ?_; refine Zz ?_; refine ZL ?_; refine Z1 ?_; refine XV rfl rfl (fun hq => ?_) (fun hq => ?_); refine Zy ?_; refine Zz ?_; refine Z8 (hcon := hd) ?_; refine Zp ?_; refine Zi ?_
 refine Z0 ?_; refine JD ?_; refine XB rfl (fun hq => ?_) (fun hq => ?_); refine X0 ?_; refine JR ?_; refine Z0 ?_; refine JD ?_
 (clear ht hn hk hs hd; simp [Xl, *] at hr; subst hr; exact X1 ⟨_, St.le_refl _, ⟨rfl, trivial⟩, X2 _⟩); refine X3 ?_; refine X0 ?_; refine JR ?_; refine Z0 ?_; refine JD ?_
 (clear ht hn hk hs hd; simp [Xl, *] at hr; subst hr; exact X1 ⟨_, St.le_refl _, ⟨rfl, trivial⟩, X2 _⟩); refine Zj ?_; refine Zj ?_; refine Zj ?_; refine Zj ?_; refine Zl ?_; refine Z0 ?_; refine JD ?_
 refine JF ?_; refine X3 ?_; refine X0 ?_; refine JR ?_; refine Z0 ?_; refine JD ?_; (clear ht hn hk hs hd; simp [Xl, *] at hr; subst hr; exact X1 ⟨_, St.le_refl _, ⟨rfl, trivial⟩, X2 _⟩)
 refine Zj ?_; refine Zj ?_; refine Zj ?_; refine Zj ?_; refine Zl ?_; refine Z0 ?_; refine JD ?_; refine JF ?_; refine X0 ?_; refine X0 ?_; refine JR ?_; refine Zy ?_; refine Zz ?_; refine Z8 (hcon := hn) ?_
 refine Zp ?_; refine Z0 ?_; refine JD ?_; refine XB rfl (fun hq => ?_) (fun hq => ?_); refine X3 ?_; refine JT ?_; refine X0 ?_; refine JR ?_; refine Z0 ?_; refine JD ?_
 (clear ht hn hk hs hd; simp [Xl, *] at hr; subst hr; exact X1 ⟨_, St.le_refl _, ⟨rfl, trivial⟩, X2 _⟩); refine JR ?_; refine Zy ?_; refine Zz ?_; refine Z1 ?_; refine Zy ?_; refine Zz ?_
 refine Z8 (hcon := hk) ?_; refine Zp ?_; refine Zi ?_; refine Z0 ?_; refine JD ?_; refine XB rfl (fun hq => ?_) (fun hq => ?_); refine X0 ?_; refine JR ?_; refine Z0 ?_; refine JD ?_
 (clear ht hn hk hs hd; simp [Xl, *] at hr; subst hr; exact X1 ⟨_, St.le_refl _, ⟨rfl, trivial⟩, X2 _⟩); refine X0 ?_; refine X0 ?_; refine JR ?_; refine Zy ?_; refine Zz ?_; refine ZL ?_
 refine Z1 ?_; refine XV rfl rfl (fun hq => ?_) (fun hq => ?_); refine Zy ?_; refine Zz ?_; refine Z8 (hcon := hs) ?_; refine Zp ?_; refine Zi ?_; refine Z0 ?_; refine JD ?_
 refine XB rfl (fun hq => ?_) (fun hq => ?_); refine X3 ?_; refine JT ?_; refine X0 ?_; refine JR ?_; refine Z0 ?_; refine JD ?_
 (clear ht hn hk hs hd; simp [Xl, *] at hr; subst hr; exact X1 ⟨_, St.le_refl _, ⟨rfl, trivial⟩, X2 _⟩); refine JR ?_; refine Zy ?_; refine Zz ?_; refine ZL ?_; refine Z1 ?_
 refine XV rfl rfl (fun hq => ?_) (fun hq => ?_); refine Zy ?_; refine Zz ?_; refine Z8 (hcon := hd) ?_; refine Zp ?_; refine Zi ?_; refine Z0 ?_; refine JD ?_; refine XB rfl (fun hq => ?_) (fun hq => ?_)
 refine X0 ?_; refine JR ?_; refine Z0 ?_; refine JD ?_; (clear ht hn hk hs hd; simp [Xl, *] at hr; subst hr; exact X1 ⟨_, St.le_refl _, ⟨rfl, trivial⟩, X2 _⟩); refine X3 ?_; refine X0 ?_
 refine JR ?_; refine Z0 ?_; refine JD ?_; (clear ht hn hk hs hd; simp [Xl, *] at hr; subst hr; exact X1 ⟨_, St.le_refl _, ⟨rfl, trivial⟩, X2 _⟩); refine Zj ?_; refine Zj ?_; refine Zj ?_; refine Zj ?_
 refine Zl ?_; refine Z0 ?_; refine JD ?_; refine JF ?_; refine X3 ?_; refine X0 ?_; refine JR ?_; refine Z0 ?_; refine JD ?_
 (clear ht hn hk hs hd; simp [Xl, *] at hr; subst hr; exact X1 ⟨_, St.le_refl _, ⟨rfl, trivial⟩, X2 _⟩); refine Zj ?_; refine Zj ?_; refine Zj ?_; refine Zj ?_; refine Zl ?_; refine Z0 ?_; refine JD ?_
 refine JF ?_; refine JR ?_; refine Zy ?_; refine Zz ?_; refine ZL ?_; refine Z1 ?_; refine XV rfl rfl (fun hq => ?_) (fun hq => ?_); refine Zy ?_; refine Zz ?_; refine Z8 (hcon := hd) ?_; refine Zp ?_; refine Zi ?_
 refine Z0 ?_; refine JD ?_; refine XB rfl (fun hq => ?_) (fun hq => ?_); refine X0 ?_; refine JR ?_; refine Z0 ?_; refine JD ?_
 (clear ht hn hk hs hd; simp [Xl, *] at hr; subst hr; exact X1 ⟨_, St.le_refl _, ⟨rfl, trivial⟩, X2 _⟩); refine X3 ?_; refine X0 ?_; refine JR ?_; refine Z0 ?_; refine JD ?_
 (clear ht hn hk hs hd; simp [Xl, *] at hr; subst hr; exact X1 ⟨_, St.le_refl _, ⟨rfl, trivial⟩, X2 _⟩); refine Zj ?_; refine Zj ?_; refine Zj ?_; refine Zj ?_; refine Zl ?_; refine Z0 ?_; refine JD ?_
 refine JF ?_; refine X3 ?_; refine X0 ?_; refine JR ?_; refine Z0 ?_; refine JD ?_; (clear ht hn hk hs hd; simp [Xl, *] at hr; subst hr; exact X1 ⟨_, St.le_refl _, ⟨rfl, trivial⟩, X2 _⟩)
 refine Zj ?_; refine Zj ?_; refine Zl ?_; refine Z1 ?_; refine Zj ?_; refine Zj ?_; refine Zj ?_; refine Zj ?_; refine Zl ?_; refine Z0 ?_; refine JD ?_; refine JF ?_; refine X0 ?_; refine X0 ?_; refine JR ?_
 refine Zy ?_; refine Zz ?_; refine Z8 (hcon := hn) ?_; refine Zp ?_; refine Z0 ?_; refine JD ?_; refine XB rfl (fun hq => ?_) (fun hq => ?_); refine X3 ?_; refine JT ?_; refine X0 ?_; refine JR ?_
 refine Z0 ?_; refine JD ?_; (clear ht hn hk hs hd; simp [Xl, *] at hr; subst hr; exact X1 ⟨_, St.le_refl _, ⟨rfl, trivial⟩, X2 _⟩); refine JR ?_; refine Zy ?_; refine Zz ?_; refine Z1 ?_; refine Zj ?_
 refine Zj ?_; refine Zj ?_; refine Zj ?_; refine Zl ?_; refine Z0 ?_; refine JD ?_; refine JF ?_; refine X0 ?_; refine X0 ?_; refine JR ?_; refine Zy ?_; refine Zz ?_; refine ZL ?_; refine Z1 ?_
 refine XV rfl rfl (fun hq => ?_) (fun hq => ?_); refine Zy ?_; refine Zz ?_; refine Z8 (hcon := hs) ?_; refine Zp ?_; refine Zi ?_; refine Z0 ?_; refine JD ?_; refine XB rfl (fun hq => ?_) (fun hq => ?_)
 refine X3 ?_; refine JT ?_; refine X0 ?_; refine JR ?_; refine Z0 ?_; refine JD ?_; (clear ht hn hk hs hd; simp [Xl, *] at hr; subst hr; exact X1 ⟨_, St.le_refl _, ⟨rfl, trivial⟩, X2 _⟩)
 refine JR ?_; refine Zy ?_; refine Zz ?_; refine ZL ?_; refine Z1 ?_; refine XV rfl rfl (fun hq => ?_) (fun hq => ?_); refine Zy ?_; refine Zz ?_; refine Z8 (hcon := hd) ?_; refine Zp ?_; refine Zi ?_; refine Z0 ?_
 refine JD ?_; refine XB rfl (fun hq => ?_) (fun hq => ?_); refine X0 ?_; refine JR ?_; refine Z0 ?_; refine JD ?_
 (clear ht hn hk hs hd; simp [Xl, *] at hr; subst hr; exact X1 ⟨_, St.le_refl _, ⟨rfl, trivial⟩, X2 _⟩); refine X3 ?_; refine X0 ?_; refine JR ?_; refine Z0 ?_; refine JD ?_
 (clear ht hn hk hs hd; simp [Xl, *] at hr; subst hr; exact X1 ⟨_, St.le_refl _, ⟨rfl, trivial⟩, X2 _⟩); refine Zj ?_; refine Zj ?_; refine Zj ?_; refine Zj ?_; refine Zl ?_; refine Z0 ?_; refine JD ?_
 refine JF ?_; refine X3 ?_; refine X0 ?_; refine JR ?_; refine Z0 ?_; refine JD ?_; (clear ht hn hk hs hd; simp [Xl, *] at hr; subst hr; exact X1 ⟨_, St.le_refl _, ⟨rfl, trivial⟩, X2 _⟩)
 refine Zj ?_; refine Zj ?_; refine Zj ?_; refine Zj ?_; refine Zl ?_; refine Z0 ?_; refine JD ?_; refine JF ?_; refine JR ?_; refine Zy ?_; refine Zz ?_; refine ZL ?_; refine Z1 ?_
 refine XV rfl rfl (fun hq => ?_) (fun hq => ?_); refine Zy ?_; refine Zz ?_; refine Z8 (hcon := hd) ?_; refine Zp ?_; refine Zi ?_; refine Z0 ?_; refine JD ?_; refine XB rfl (fun hq => ?_) (fun hq => ?_)
 refine X0 ?_; refine JR ?_; refine Z0 ?_; refine JD ?_; (clear ht hn hk hs hd; simp [Xl, *] at hr; subst hr; exact X1 ⟨_, St.le_refl _, ⟨rfl, trivial⟩, X2 _⟩); refine X3 ?_; refine X0 ?_
 refine JR ?_; refine Z0 ?_; refine JD ?_; (clear ht hn hk hs hd; simp [Xl, *] at hr; subst hr; exact X1 ⟨_, St.le_refl _, ⟨rfl, trivial⟩, X2 _⟩); refine Zj ?_; refine Zj ?_; refine Zj ?_; refine Zj ?_
 refine Zl ?_; refine Z0 ?_; refine JD ?_; refine JF ?_; refine X3 ?_; refine X0 ?_; refine JR ?_; refine Z0 ?_; refine JD ?_
 (clear ht hn hk hs hd; simp [Xl, *] at hr; subst hr; exact X1 ⟨_, St.le_refl _, ⟨rfl, trivial⟩, X2 _⟩); refine Zj ?_; refine Zj ?_; refine Zj ?_; refine Zj ?_; refine Zk ?_; refine Zk ?_; refine Zk ?_
 refine Zj ?_; refine Zl ?_; refine Z0 ?_; refine JD ?_; refine JF ?_; refine X0 ?_; refine JR ?_; refine Zy ?_; refine Zz ?_; refine Z1 ?_; refine VO rfl rfl (fun hq => ?_) (fun hq => ?_); refine Zy ?_
 refine Zz ?_; refine Zi ?_; refine Z1 ?_; refine VO rfl rfl (fun hq => ?_) (fun hq => ?_); refine Zy ?_; refine Zz ?_; refine Z8 (hcon := ht) ?_; refine Zm ?_; refine Zi ?_; refine Z0 ?_; refine JD ?_
 refine Vj rfl (fun hq => ?_) (fun hq => ?_); refine X0 ?_; refine JR ?_; refine Z0 ?_; refine JD ?_
 (clear ht hn hk hs hd; simp [Xl, *] at hr; subst hr; exact X1 ⟨_, St.le_refl _, ⟨rfl, trivial⟩, X2 _⟩); refine X0 ?_; refine X0 ?_; refine JR ?_; refine Zy ?_; refine Zz ?_
 refine Z8 (hcon := hn) ?_; refine Zp ?_; refine Z0 ?_; refine JD ?_; refine XB rfl (fun hq => ?_) (fun hq => ?_); refine X3 ?_; refine JT ?_; refine X0 ?_; refine JR ?_; refine Z0 ?_; refine JD ?_
 (clear ht hn hk hs hd; simp [Xl, *] at hr; subst hr; exact X1 ⟨_, St.le_refl _, ⟨rfl, trivial⟩, X2 _⟩); refine JR ?_; refine Zy ?_; refine Zz ?_; refine Z1 ?_; refine Zy ?_; refine Zz ?_
 refine Z8 (hcon := hk) ?_; refine Zp ?_; refine Zi ?_; refine Z0 ?_; refine JD ?_; refine XB rfl (fun hq => ?_) (fun hq => ?_); refine X0 ?_; refine JR ?_; refine Z0 ?_; refine JD ?_
 (clear ht hn hk hs hd; simp [Xl, *] at hr; subst hr; exact X1 ⟨_, St.le_refl _, ⟨rfl, trivial⟩, X2 _⟩); refine X0 ?_; refine X0 ?_; refine JR ?_; refine Zy ?_; refine Zz ?_; refine ZL ?_
 refine Z1 ?_; refine XV rfl rfl (fun hq => ?_) (fun hq => ?_); refine Zy ?_; refine Zz ?_; refine Z8 (hcon := hs) ?_; refine Zp ?_; refine Zi ?_; refine Z0 ?_; refine JD ?_
 refine XB rfl (fun hq => ?_) (fun hq => ?_); refine X3 ?_; refine JT ?_; refine X0 ?_; refine JR ?_; refine Z0 ?_; refine JD ?_
 (clear ht hn hk hs hd; simp [Xl, *] at hr; subst hr; exact X1 ⟨_, St.le_refl _, ⟨rfl, trivial⟩, X2 _⟩); refine JR ?_; refine Zy ?_; refine Zz ?_; refine ZL ?_; refine Z1 ?_
 refine XV rfl rfl (fun hq => ?_) (fun hq => ?_); refine Zy ?_; refine Zz ?_; refine Z8 (hcon := hd) ?_; refine Zp ?_; refine Zi ?_; refine Z0 ?_; refine JD ?_; refine XB rfl (fun hq => ?_) (fun hq => ?_)
 refine X0 ?_; refine JR ?_; refine Z0 ?_; refine JD ?_; (clear ht hn hk hs hd; simp [Xl, *] at hr; subst hr; exact X1 ⟨_, St.le_refl _, ⟨rfl, trivial⟩, X2 _⟩); refine X3 ?_; refine X0 ?_
 refine JR ?_; refine Z0 ?_; refine JD ?_; (clear ht hn hk hs hd; simp [Xl, *] at hr; subst hr; exact X1 ⟨_, St.le_refl _, ⟨rfl, trivial⟩, X2 _⟩); refine Zj ?_; refine Zj ?_; refine Zj ?_; refine Zj ?_
 refine Zl ?_; refine Z0 ?_; refine JD ?_; refine JF ?_; refine X3 ?_; refine X0 ?_; refine JR ?_; refine Z0 ?_; refine JD ?_
 (clear ht hn hk hs hd; simp [Xl, *] at hr; subst hr; exact X1 ⟨_, St.le_refl _, ⟨rfl, trivial⟩, X2 _⟩); refine Zj ?_; refine Zj ?_; refine Zj ?_; refine Zj ?_; refine Zl ?_; refine Z0 ?_; refine JD ?_
 refine JF ?_; refine JR ?_; refine Zy ?_; refine Zz ?_; refine ZL ?_; refine Z1 ?_; refine XV rfl rfl (fun hq => ?_) (fun hq => ?_); refine Zy ?_; refine Zz ?_; refine Z8 (hcon := hd) ?_; refine Zp ?_; refine Zi ?_
 refine Z0 ?_; refine JD ?_; refine XB rfl (fun hq => ?_) (fun hq => ?_); refine X0 ?_; refine JR ?_; refine Z0 ?_; refine JD ?_
 (clear ht hn hk hs hd; simp [Xl, *] at hr; subst hr; exact X1 ⟨_, St.le_refl _, ⟨rfl, trivial⟩, X2 _⟩); refine X3 ?_; refine X0 ?_; refine JR ?_; refine Z0 ?_; refine JD ?_
 (clear ht hn hk hs hd; simp [Xl, *] at hr; subst hr; exact X1 ⟨_, St.le_refl _, ⟨rfl, trivial⟩, X2 _⟩); refine Zj ?_; refine Zj ?_; refine Zj ?_; refine Zj ?_; refine Zl ?_; refine Z0 ?_; refine JD ?_
 refine JF ?_; refine X3 ?_; refine X0 ?_; refine JR ?_; refine Z0 ?_; refine JD ?_; (clear ht hn hk hs hd; simp [Xl, *] at hr; subst hr; exact X1 ⟨_, St.le_refl _, ⟨rfl, trivial⟩, X2 _⟩)
 refine Zj ?_; refine Zj ?_; refine Zj ?_; refine Zj ?_; refine Zl ?_; refine Z0 ?_; refine JD ?_; refine JF ?_; refine X0 ?_; refine X0 ?_; refine JR ?_; refine Zy ?_; refine Zz ?_; refine Z8 (hcon := hn) ?_
 refine Zp ?_; refine Z0 ?_; refine JD ?_; refine XB rfl (fun hq => ?_) (fun hq => ?_); refine X3 ?_; refine JT ?_; refine X0 ?_; refine JR ?_; refine Z0 ?_; refine JD ?_
 (clear ht hn hk hs hd; simp [Xl, *] at hr; subst hr; exact X1 ⟨_, St.le_refl _, ⟨rfl, trivial⟩, X2 _⟩); refine JR ?_; refine Zy ?_; refine Zz ?_; refine Z1 ?_; refine Zy ?_; refine Zz ?_
 refine Z8 (hcon := hk) ?_; refine Zp ?_; refine Zi ?_; refine Z0 ?_; refine JD ?_; refine XB rfl (fun hq => ?_) (fun hq => ?_); refine X0 ?_; refine JR ?_; refine Z0 ?_; refine JD ?_
 (clear ht hn hk hs hd; simp [Xl, *] at hr; subst hr; exact X1 ⟨_, St.le_refl _, ⟨rfl, trivial⟩, X2 _⟩); refine X0 ?_; refine X0 ?_; refine JR ?_; refine Zy ?_; refine Zz ?_; refine ZL ?_
 refine Z1 ?_; refine XV rfl rfl (fun hq => ?_) (fun hq => ?_); refine Zy ?_; refine Zz ?_; refine Z8 (hcon := hs) ?_; refine Zp ?_; refine Zi ?_; refine Z0 ?_; refine JD ?_
 refine XB rfl (fun hq => ?_) (fun hq => ?_); refine X3 ?_; refine JT ?_; refine X0 ?_; refine JR ?_; refine Z0 ?_; refine JD ?_
 (clear ht hn hk hs hd; simp [Xl, *] at hr; subst hr; exact X1 ⟨_, St.le_refl _, ⟨rfl, trivial⟩, X2 _⟩); refine JR ?_; refine Zy ?_; refine Zz ?_; refine ZL ?_; refine Z1 ?_
 refine XV rfl rfl (fun hq => ?_) (fun hq => ?_); refine Zy ?_; refine Zz ?_; refine Z8 (hcon := hd) ?_; refine Zp ?_; refine Zi ?_; refine Z0 ?_; refine JD ?_; refine XB rfl (fun hq => ?_) (fun hq => ?_)
 refine X0 ?_; refine JR ?_; refine Z0 ?_; refine JD ?_; (clear ht hn hk hs hd; simp [Xl, *] at hr; subst hr; exact X1 ⟨_, St.le_refl _, ⟨rfl, trivial⟩, X2 _⟩); refine X3 ?_; refine X0 ?_
 refine JR ?_; refine Z0 ?_; refine JD ?_; (clear ht hn hk hs hd; simp [Xl, *] at hr; subst hr; exact X1 ⟨_, St.le_refl _, ⟨rfl, trivial⟩, X2 _⟩); refine Zj ?_; refine Zj ?_; refine Zj ?_; refine Zj ?_
 refine Zl ?_; refine Z0 ?_; refine JD ?_; refine JF ?_; refine X3 ?_; refine X0 ?_; refine JR ?_; refine Z0 ?_; refine JD ?_
 (clear ht hn hk hs hd; simp [Xl, *] at hr; subst hr; exact X1 ⟨_, St.le_refl _, ⟨rfl, trivial⟩, X2 _⟩); refine Zj ?_; refine Zj ?_; refine Zj ?_; refine Zj ?_; refine Zl ?_; refine Z0 ?_; refine JD ?_
 refine JF ?_; refine JR ?_; refine Zy ?_; refine Zz ?_; refine ZL ?_; refine Z1 ?_; refine XV rfl rfl (fun hq => ?_) (fun hq => ?_); refine Zy ?_; refine Zz ?_; refine Z8 (hcon := hd) ?_; refine Zp ?_; refine Zi ?_
 refine Z0 ?_; refine JD ?_; refine XB rfl (fun hq => ?_) (fun hq => ?_); refine X0 ?_; refine JR ?_; refine Z0 ?_; refine JD ?_
 (clear ht hn hk hs hd; simp [Xl, *] at hr; subst hr; exact X1 ⟨_, St.le_refl _, ⟨rfl, trivial⟩, X2 _⟩); refine X3 ?_; refine X0 ?_; refine JR ?_; refine Z0 ?_; refine JD ?_
 (clear ht hn hk hs hd; simp [Xl, *] at hr; subst hr; exact X1 ⟨_, St.le_refl _, ⟨rfl, trivial⟩, X2 _⟩); refine Zj ?_; refine Zj ?_; refine Zj ?_; refine Zj ?_; refine Zl ?_; refine Z0 ?_; refine JD ?_
 refine JF ?_; refine X3 ?_; refine X0 ?_; refine JR ?_; refine Z0 ?_; refine JD ?_; (clear ht hn hk hs hd; simp [Xl, *] at hr; subst hr; exact X1 ⟨_, St.le_refl _, ⟨rfl, trivial⟩, X2 _⟩)
 refine Zj ?_; refine Zj ?_; refine Zl ?_; refine Z1 ?_; refine Zj ?_; refine Zj ?_; refine Zj ?_; refine Zj ?_; refine Zl ?_; refine Z0 ?_; refine JD ?_; refine JF ?_; refine X0 ?_; refine X0 ?_; refine JR ?_
 refine Zy ?_; refine Zz ?_; refine Z8 (hcon := hn) ?_; refine Zp ?_; refine Z0 ?_; refine JD ?_; refine XB rfl (fun hq => ?_) (fun hq => ?_); refine X3 ?_; refine JT ?_; refine X0 ?_; refine JR ?_
 refine Z0 ?_; refine JD ?_; (clear ht hn hk hs hd; simp [Xl, *] at hr; subst hr; exact X1 ⟨_, St.le_refl _, ⟨rfl, trivial⟩, X2 _⟩); refine JR ?_; refine Zy ?_; refine Zz ?_; refine Z1 ?_; refine Zj ?_
 refine Zj ?_; refine Zj ?_; refine Zj ?_; refine Zl ?_; refine Z0 ?_; refine JD ?_; refine JF ?_; refine X0 ?_; refine X0 ?_; refine JR ?_; refine Zy ?_; refine Zz ?_; refine ZL ?_; refine Z1 ?_
 refine XV rfl rfl (fun hq => ?_) (fun hq => ?_); refine Zy ?_; refine Zz ?_; refine Z8 (hcon := hs) ?_; refine Zp ?_; refine Zi ?_; refine Z0 ?_; refine JD ?_; refine XB rfl (fun hq => ?_) (fun hq => ?_)
 refine X3 ?_; refine JT ?_; refine X0 ?_; refine JR ?_; refine Z0 ?_; refine JD ?_; (clear ht hn hk hs hd; simp [Xl, *] at hr; subst hr; exact X1 ⟨_, St.le_refl _, ⟨rfl, trivial⟩, X2 _⟩)
 refine JR ?_; refine Zy ?_; refine Zz ?_; refine ZL ?_; refine Z1 ?_; refine XV rfl rfl (fun hq => ?_) (fun hq => ?_); refine Zy ?_; refine Zz ?_; refine Z8 (hcon := hd) ?_; refine Zp ?_; refine Zi ?_; refine Z0 ?_
 refine JD ?_; refine XB rfl (fun hq => ?_) (fun hq => ?_); refine X0 ?_; refine JR ?_; refine Z0 ?_; refine JD ?_
 (clear ht hn hk hs hd; simp [Xl, *] at hr; subst hr; exact X1 ⟨_, St.le_refl _, ⟨rfl, trivial⟩, X2 _⟩); refine X3 ?_; refine X0 ?_; refine JR ?_; refine Z0 ?_; refine JD ?_
 (clear ht hn hk hs hd; simp [Xl, *] at hr; subst hr; exact X1 ⟨_, St.le_refl _, ⟨rfl, trivial⟩, X2 _⟩); refine Zj ?_; refine Zj ?_; refine Zj ?_; refine Zj ?_; refine Zl ?_; refine Z0 ?_; refine JD ?_
 refine JF ?_; refine X3 ?_; refine X0 ?_; refine JR ?_; refine Z0 ?_; refine JD ?_; (clear ht hn hk hs hd; simp [Xl, *] at hr; subst hr; exact X1 ⟨_, St.le_refl _, ⟨rfl, trivial⟩, X2 _⟩)
 refine Zj ?_; refine Zj ?_; refine Zj ?_; refine Zj ?_; refine Zl ?_; refine Z0 ?_; refine JD ?_; refine JF ?_; refine JR ?_; refine Zy ?_; refine Zz ?_; refine ZL ?_; refine Z1 ?_
 refine XV rfl rfl (fun hq => ?_) (fun hq => ?_); refine Zy ?_; refine Zz ?_; refine Z8 (hcon := hd) ?_; refine Zp ?_; refine Zi ?_; refine Z0 ?_; refine JD ?_; refine XB rfl (fun hq => ?_) (fun hq => ?_)
 refine X0 ?_; refine JR ?_; refine Z0 ?_; refine JD ?_; (clear ht hn hk hs hd; simp [Xl, *] at hr; subst hr; exact X1 ⟨_, St.le_refl _, ⟨rfl, trivial⟩, X2 _⟩); refine X3 ?_; refine X0 ?_
 refine JR ?_; refine Z0 ?_; refine JD ?_; (clear ht hn hk hs hd; simp [Xl, *] at hr; subst hr; exact X1 ⟨_, St.le_refl _, ⟨rfl, trivial⟩, X2 _⟩); refine Zj ?_; refine Zj ?_; refine Zj ?_; refine Zj ?_
 refine Zl ?_; refine Z0 ?_; refine JD ?_; refine JF ?_; refine X3 ?_; refine X0 ?_; refine JR ?_; refine Z0 ?_; refine JD ?_
 (clear ht hn hk hs hd; simp [Xl, *] at hr; subst hr; exact X1 ⟨_, St.le_refl _, ⟨rfl, trivial⟩, X2 _⟩)
end Go.Fw
namespace Go.Fw
open Go Go.Proofs
set_option maxRecDepth 100000
set_option linter.unusedVariables false
set_option linter.unusedSimpArgs false
theorem X4R (c : Chg) : Con Tryd.prog 9 [] [Xy c] [] (.d (Xv (Vk c))) := by
 refine Xb (xs := [.d (Xv (Vk c))]) Tryd.func9 rfl Tryd.ntmps9 rfl rfl rfl (fun E => ?_)
 have hc := X2c c
 unfold Vk
 by_cases h : Y9 c = 0
 ·have hp := X63 c h
  rw [h] at hc
  rw [if_pos h]
  generalize XI c = w at *
  obtain ⟨op, id, src, dst, name, ⟨k, n, d, s, l⟩⟩ := c
  simp only [Xy] at *
  refine X0 ?_; refine JR ?_; refine Zx (γ := 100) ?_; refine Z0 ?_; refine JD ?_; refine X0 ?_; refine X0 ?_; refine JR ?_; refine ZK ?_; refine Z8 (hcon := hc) ?_; refine Zq ?_; refine JD ?_; refine JF ?_
  refine X3 ?_; refine X0 ?_; refine JR ?_; refine ZK ?_; refine Z8 (hcon := hp) ?_; refine Z0 ?_; refine JD ?_
  exact X1 ⟨_, St.le_refl _, ⟨rfl, trivial⟩, X2 _⟩
 ·rw [if_neg h]
  generalize Y9 c = e at *
  obtain ⟨op, id, src, dst, name, ⟨k, n, d, s, l⟩⟩ := c
  simp only [Xy] at *
  refine X0 ?_; refine JR ?_; refine Zx (γ := 100) ?_; refine Z0 ?_; refine JD ?_; refine X0 ?_; refine X0 ?_; refine JR ?_; refine ZK ?_; refine Z8 (hcon := hc) ?_; refine Zq ?_; refine JD ?_; refine JT ?_
  refine X0 ?_; refine JR ?_; refine Z0 ?_; refine JD ?_
  exact X1 ⟨_, Xi 2 (y := .d (Xv [])) (AVal.le_nil 1), ⟨rfl, trivial⟩, X2 _⟩
abbrev cS (s : List UInt8) : List D := [.v (.string (X4 s))]
def Uy (l : List (List UInt8)) : List UInt8 := (l.map Xo).flatten
theorem X7m {l : List (List UInt8)} {i : Nat} {x : List UInt8} (h : l[i]? = some x) : Uy (l.take (i + 1)) = Uy (l.take i) ++ Xo x := by
 unfold Uy
 rw [List.take_add_one, h]
 simp
theorem VQ {s : List UInt8} (h : s.length ≤ 20) : (Xo s).length ≤ 30 := by
 have := VW (n := s.length) (by omega)
 unfold Xo
 rw [List.length_append]
 omega
theorem X3V : ∀ {l : List (List UInt8)}, (∀ x ∈ l, x.length ≤ 20) → (Uy l).length ≤ 30 * l.length
 | [], _ => by simp [Uy]
 | x :: r, h => by
  have h1 := VQ (h x (by simp))
  have h2 := X3V (l := r) fun y hy => h y (by simp [hy])
  unfold Uy at *
  simp only [List.map_cons, List.flatten_cons, List.length_append, List.length_cons]
  omega
theorem X8Z (r : Rul) (h : YU r = 0) (hn : -9223372036854775808 ≤ r.n ∧ r.n ≤ 9223372036854775807) (hl : r.name.length ≤ 20 ∧ r.key.length ≤ 20 ∧ r.src.length ≤ 20 ∧ r.dst.length ≤ 20) (hk : 1 ≤ r.kind ∧ r.kind ≤ 7) :
  Con Tryd.prog 22 [] [Y3 r] [(130, .row 1 ((Yc r).map Xa))] (.own 130 ((Yc r).map Xa).length) := by
 obtain ⟨k, n, name, key, src, dst⟩ := r
 simp only at hn hl hk
 obtain ⟨m, rfl⟩ : ∃ m : Nat, k = m := ⟨k.toNat, by omega⟩
 simp only [Y3] at *
 clear h
 refine Xb (xs := [.own 130 ((Yc ⟨m, n, name, key, src, dst⟩).map Xa).length]) Tryd.func22 rfl Tryd.ntmps22 rfl rfl rfl (fun E => ?_)
 have e8 : n8 (m % 256) = n8 (UInt8.ofNat m).toNat := by rw [Ve (by omega), Nat.mod_eq_of_lt (by omega)]
 have hL : ∀ x ∈ [name, key, src, dst], x.length ≤ 20 := by
  intro x hx
  simp only [List.mem_cons, List.not_mem_nil, or_false] at hx
  rcases hx with rfl | rfl | rfl | rfl <;> omega
 have hput : Yc ⟨m, n, name, key, src, dst⟩ = (UInt8.ofNat m :: Uy [name, key, src, dst]) ++ XF n := by
  unfold Yc Uy
  simp
 have hpi := VG n hn
 have hpl := X0H hn
 rw [hput]
 clear hput
 refine X0 ?_; refine JR ?_; refine Zx (γ := 100) ?_; refine Z0 ?_; refine JD ?_; refine X0 ?_; refine JR ?_; refine Zy ?_; refine Zz ?_
 refine Z3 (u := nj m) (r := n8 (UInt8.ofNat m).toNat) ?_ (hr := by exact by rw [← e8]; exact Yi rfl rfl); refine ZX (γ := 130) ?_; refine Z0 ?_; refine JD ?_; refine X0 ?_; refine X0 ?_; refine JR ?_
 refine Zy ?_; refine Zz ?_; refine Zy ?_; refine Zz ?_; refine Zy ?_; refine Zz ?_; refine Zy ?_; refine Zz ?_; refine Z5 ?_; refine Zb ?_; refine Z1 ?_; refine JD ?_; refine X5 ?_
 generalize hLL : [name, key, src, dst] = L at *
 have hL4 : L.length = 4 := by rw [← hLL]; rfl
 have hlm : (L.map cS).length = L.length := by simp
 refine XR (fun i : Nat => i ≤ L.length) (fun i => ⟨34, [(1, .ptr 100 0), (3, .own 130 ((UInt8.ofNat m :: Uy (L.take i)).map Xa).length), (18, .d (.sl 1 (L.map cS))), (19, ai (L.map cS).length), (20, ai i)],
   [(100, .box [ai m, ai n, .d (.v (.string (X4 name))), .d (.v (.string (X4 key))), .d (.v (.string (X4 src))), .d (.v (.string (X4 dst)))]), (130, .row 1 ((UInt8.ofNat m :: Uy (L.take i)).map Xa))]⟩) (fun i => L.length - i) 0 (by omega)
  (by subst hLL; exact Xg rfl ⟨JL, JL, JL, JL, JL, trivial⟩ ⟨rfl, rfl, trivial⟩) ?_
 intro i hi
 have hlen : ((UInt8.ofNat m :: Uy (L.take i)).map Xa).length ≤ 200 := by
  have h1 := X3V (l := L.take i) fun x hx => hL x (List.mem_of_mem_take hx)
  have h2 : (L.take i).length ≤ 4 := by simp; omega
  simp only [List.length_map, List.length_cons]
  omega
 by_cases hil : i < L.length
 case neg =>
  obtain rfl : i = L.length := by omega
  rw [List.take_length] at hlen ⊢
  have hnn : ¬ ((L.length : Nat) : Int) < (L.map cS).length := by omega
  generalize UInt8.ofNat m :: Uy L = B at *
  generalize XF n = w at *
  refine X0 ?_; refine JR ?_; refine Z7 ?_; refine JD ?_; refine X0 ?_; refine JF ?_; refine Xt ?_; refine X0 ?_; refine JR ?_; refine Z1 ?_; refine Zy ?_; refine Zz ?_; refine Z8 (hcon := hpi) ?_
  refine Z6 ?_; refine Z0 ?_; refine JD ?_
  refine X1 ⟨_, Xi 2 (y := .own 130 ((B ++ w).map Xa).length) (AVal.le_of_eq ?_), ⟨rfl, trivial⟩, Xc ⟨?_, trivial⟩⟩
  ·refine Eq.trans (b := AVal.own 130 (_ + _)) rfl ?_
   congr 1
   simp only [List.length_append, List.length_map] <;> omega
  ·refine Eq.trans (b := AObj.row 1 (_ ++ _)) rfl ?_
   simp only [List.map_append]
 have hnn : (i : Int) < (L.map cS).length := by omega
 obtain ⟨x, hx⟩ := XX (l := L) hil
 have hxm : (L.map cS)[i]? = some (cS x) := Ua hx
 have hxl := hL x (List.mem_of_getElem? hx)
 have hps := VB x (by omega)
 have hpsl := VQ hxl
 have htk := X7m hx
 generalize Xo x = w at *
 refine X0 ?_; refine JR ?_; refine Z7 ?_; refine JD ?_; refine X0 ?_; refine JT ?_; refine X3 ?_; refine X0 ?_; refine X5 ?_; refine X0 ?_; refine JR ?_; refine ZH ?_; refine ZJ ?_
 refine Z0 ?_; refine JD ?_; refine JR ?_; refine Z1 ?_; refine Z1 ?_; refine Z8 (hcon := hps) ?_; refine Z6 ?_; refine Z0 ?_; refine JD ?_; refine JR ?_; refine Zc ?_; refine Z1 ?_; refine JD ?_
 refine ⟨i + 1, by omega, by omega, ?_⟩
 try dsimp only
 rw [htk]
 refine Xg rfl ⟨JL, (by refine AVal.le_of_eq ?_; refine Eq.trans (b := AVal.own 130 (_ + _)) rfl ?_; congr 1; simp only [List.length_append, List.length_map, List.length_cons] <;> omega), JL, JL, JL, trivial⟩ ⟨rfl, ?_, trivial⟩
 refine Eq.trans (b := AObj.row 1 (_ ++ _)) rfl ?_
 simp only [List.map_append, List.map_cons, List.cons_append]
theorem X1t {s : List UInt8} (h : XM s = true) : s.length ≤ 20 := by
 unfold XM at h
 simp at h
 omega
theorem X0T {r : Rul} (h : YU r = 0) : (-9223372036854775808 ≤ r.n ∧ r.n ≤ 9223372036854775807) ∧ (r.name.length ≤ 20 ∧ r.key.length ≤ 20 ∧ r.src.length ≤ 20 ∧ r.dst.length ≤ 20) ∧ (1 ≤ r.kind ∧ r.kind ≤ 7) := by
 rw [X5y] at h
 unfold X0Z at h
 split at h
 ·omega
 rename_i h1
 split at h
 ·omega
 rename_i h2
 split at h
 ·omega
 rename_i h3
 have i1 : 1 ≤ r.kind ∧ r.kind ≤ 7 := by
  cases hd : decide (1 ≤ r.kind ∧ r.kind ≤ 7) with
  | true => exact of_decide_eq_true hd
  | false => exact absurd (.inl hd) h1
 have i2 : X0v r.kind r.n = true := by
  cases hd : X0v r.kind r.n with
  | true => rfl
  | false => exact absurd (.inr hd) h1
 have nm : XM r.name = true := by
  cases hd : XM r.name with
  | true => rfl
  | false => exact absurd (.inl hd) h3
 have ky : r.key.length ≤ 20 := by
  by_cases hk : Vm r.kind = true
  ·refine X1t (s := r.key) ?_
   cases hd : XM r.key with
   | true => rfl
   | false => exact absurd (.inr (.inl ⟨hk, hd⟩)) h3
  ·by_cases he : r.key = []
   ·rw [he]; simp
   ·exact absurd (.inl ⟨by simpa using hk, he⟩) h2
 have sr : r.src.length ≤ 20 := by
  by_cases he : r.src = []
  ·rw [he]; simp
  ·refine X1t (s := r.src) ?_
   cases hd : XM r.src with
   | true => rfl
   | false => exact absurd (.inr (.inr (.inl ⟨he, hd⟩))) h3
 have ds : r.dst.length ≤ 20 := by
  by_cases he : r.dst = []
  ·rw [he]; simp
  ·refine X1t (s := r.dst) ?_
   cases hd : XM r.dst with
   | true => rfl
   | false => exact absurd (.inr (.inr (.inr ⟨he, hd⟩))) h3
 refine ⟨?_, ⟨X1t nm, ky, sr, ds⟩, i1⟩
 unfold X0v at i2
 split at i2
 ·have := of_decide_eq_true i2; omega
 ·split at i2
  ·have := of_decide_eq_true i2; omega
  ·have := of_decide_eq_true i2; omega
theorem X5a (r : Rul) (h : YU r = 0) : Con Tryd.prog 22 [] [Y3 r] [] (.d (Xv (Yc r))) :=
 (X8Z r h (X0T h).1 (X0T h).2.1 (X0T h).2.2).data (by simp)
theorem X4P (r : Rul) : Con Tryd.prog 10 [] [Y3 r] [] (.d (Xv (Vh r))) := by
 refine Xb (xs := [.d (Xv (Vh r))]) Tryd.func10 rfl Tryd.ntmps10 rfl rfl rfl (fun E => ?_)
 have hc := X2M r
 unfold Vh
 by_cases h : YU r = 0
 ·have hp := X5a r h
  rw [h] at hc
  rw [if_pos h]
  generalize Yc r = w at *
  obtain ⟨k, n, name, key, src, dst⟩ := r
  simp only [Y3] at *
  refine X0 ?_; refine JR ?_; refine Zx (γ := 100) ?_; refine Z0 ?_; refine JD ?_; refine X0 ?_; refine X0 ?_; refine JR ?_; refine ZK ?_; refine Z8 (hcon := hc) ?_; refine Zq ?_; refine JD ?_; refine JF ?_
  refine X3 ?_; refine X0 ?_; refine JR ?_; refine ZK ?_; refine Z8 (hcon := hp) ?_; refine Z0 ?_; refine JD ?_
  exact X1 ⟨_, St.le_refl _, ⟨rfl, trivial⟩, X2 _⟩
 ·rw [if_neg h]
  generalize YU r = e at *
  obtain ⟨k, n, name, key, src, dst⟩ := r
  simp only [Y3] at *
  refine X0 ?_; refine JR ?_; refine Zx (γ := 100) ?_; refine Z0 ?_; refine JD ?_; refine X0 ?_; refine X0 ?_; refine JR ?_; refine ZK ?_; refine Z8 (hcon := hc) ?_; refine Zq ?_; refine JD ?_; refine JT ?_
  refine X0 ?_; refine JR ?_; refine Z0 ?_; refine JD ?_
  exact X1 ⟨_, Xi 2 (y := .d (Xv [])) (AVal.le_nil 1), ⟨rfl, trivial⟩, X2 _⟩
end Go.Fw
namespace Go.Fw
open Go Go.Proofs
set_option maxRecDepth 100000
set_option linter.unusedVariables false
set_option linter.unusedSimpArgs false
mutual
def YR : Nat → Val → Int → Int
 | dp, .mk k n d s l, left => if dp = 0 then -1 else U8 (dp - 1) l (left - 1 - (s.length / 50 : Nat))
def U8 : Nat → List Val → Int → Int
 | _, [], left => left
 | dp, x :: r, left => if left < 0 then left else U8 dp r (YR dp x left)
end
theorem X7S {dp : Nat} {l : List Val} {left : Int} (h : left < 0) : U8 dp l left = left := by
 cases l with
 | nil => rw [U8]
 | cons x r => rw [U8, if_pos h]
theorem X2m {dp : Nat} : ∀ {l : List Val} {left : Int}, -400000000000000000 ≤ left → left ≤ 1000000 → (∀ x ∈ l, ∀ q : Int, 0 ≤ q → q ≤ 1000000 → -400000000000000000 ≤ YR dp x q ∧ YR dp x q ≤ 1000000) → -400000000000000000 ≤ U8 dp l left ∧ U8 dp l left ≤ 1000000
 | [], left, h1, h2, _ => by rw [U8]; exact ⟨h1, h2⟩
 | x :: r, left, h1, h2, hx => by
  rw [U8]
  split
  ·exact ⟨h1, h2⟩
  ·have := hx x (by simp) left (by omega) h2
   exact X2m this.1 this.2 fun y hy => hx y (by simp [hy])
theorem X2a : ∀ (v : Val) (dp : Nat) (left : Int), XU v → 0 ≤ left → left ≤ 1000000 → -400000000000000000 ≤ YR dp v left ∧ YR dp v left ≤ 1000000
 | .mk k n d s l, dp, left, hok, h1, h2 => by
  rw [XU] at hok
  rw [YR]
  split
  ·omega
  ·exact X2m (by omega) (by omega) fun x hx q q1 q2 => X2a x (dp - 1) q (VS hok.2.2 hx) q1 q2
termination_by v => SizeOf.sizeOf v
decreasing_by
 have h1 := List.sizeOf_lt_of_mem (show x ∈ l from hx)
 simp only [Val.mk.sizeOf_spec]
 omega
def X2w (v : Val) : Prop := ∀ (dp : Nat) (left : Int), dp ≤ 100 → -400000000000000000 ≤ left → left ≤ 1000000 → Con Tryd.prog 23 [] [Xh v, ai left, ai dp] [] (ai (YR dp v left))
theorem X9I {dp : Nat} {l : List Val} {i : Nat} {x : Val} {left : Int} (h : l[i]? = some x) (h0 : ¬ left < 0) : U8 dp (l.drop i) left = U8 dp (l.drop (i + 1)) (YR dp x left) := by
 rw [List.drop_eq_getElem_cons (List.getElem?_eq_some_iff.1 h).1, (List.getElem?_eq_some_iff.1 h).2, U8, if_neg h0]
theorem Xap (v : Val) (hok : XU v) (ih : ∀ x ∈ v.l, X2w x) : X2w v := by
 obtain ⟨k, n, d, s, l⟩ := v
 intro dp left hdp hl1 hl2
 rw [XU] at hok
 simp only [Val.l] at ih
 have hlen := U3 l
 have hsz : (X4 s).size = s.length := rfl
 refine Xb (xs := [ai (YR dp (.mk k n d s l) left)]) Tryd.func23 rfl Tryd.ntmps23 rfl rfl rfl (fun E => ?_)
 rw [YR]
 by_cases h0 : dp = 0
 ·subst h0
  rw [if_pos rfl]
  refine X0 ?_; refine JR ?_; refine Zx (γ := 100) ?_; refine Z0 ?_; refine JD ?_; refine X0 ?_; refine JR ?_; refine Z1 ?_; refine ZQ ?_; refine Zy ?_; refine Zz ?_; refine Za ?_
  refine Zw (op := .quo) (r' := nj ((X4 s).size / 50)) (u := nj (X4 s).size) (v := nj 50) ?_ (hr := by exact UV (by omega) (by rw [XJ]; omega)); refine ZQ ?_; refine Z0 ?_; refine JD ?_; refine X0 ?_
  refine X0 ?_; refine JR ?_; refine Z1 ?_; refine Z7 ?_; refine JD ?_; refine JT ?_; refine X0 ?_; refine JR ?_; refine Z0 ?_; refine JD ?_
  exact X1 ⟨_, St.le_refl _, ⟨rfl, trivial⟩, X2 _⟩
 rw [if_neg h0]
 have hdp1 : ¬ (dp : Int) < 1 := by omega
 obtain ⟨e, rfl⟩ : ∃ e, dp = e + 1 := ⟨dp - 1, by omega⟩
 rw [Nat.add_sub_cancel]
 refine X0 ?_; refine JR ?_; refine Zx (γ := 100) ?_; refine Z0 ?_; refine JD ?_; refine X0 ?_; refine JR ?_; refine Z1 ?_; refine ZQ ?_; refine Zy ?_; refine Zz ?_; refine Za ?_
 refine Zw (op := .quo) (r' := nj ((X4 s).size / 50)) (u := nj (X4 s).size) (v := nj 50) ?_ (hr := by exact UV (by omega) (by rw [XJ]; omega)); refine ZQ ?_; refine Z0 ?_; refine JD ?_; refine X0 ?_
 refine X0 ?_; refine JR ?_; refine Z1 ?_; refine Z7 ?_; refine JD ?_; refine JF ?_; refine X3 ?_; refine X0 ?_; refine X0 ?_; refine JR ?_; refine Z0 ?_; refine JD ?_; refine X5 ?_
 generalize hG : U8 e l (left - 1 - (s.length / 50 : Nat)) = G
 refine XR (ι := Nat × Int) (fun q => q.1 ≤ l.length ∧ -1000000000000000000 ≤ q.2 ∧ q.2 ≤ 1000000 ∧ U8 e (l.drop q.1) q.2 = G) (fun q => ⟨38, [(1, ai q.2), (2, ai (e + 1 : Nat)), (3, .ptr 100 0), (7, ai q.1)], [(100, .box [ai k, ai n, ai d, .d (.v (.string (X4 s))), .d (.sl 5 (Xm l))])]⟩) (fun q => l.length - q.1) (0, left - 1 - (s.length / 50 : Nat)) ⟨by omega, by omega, by omega, hG⟩
  (Xg rfl ⟨JL, JL, JL, JL, trivial⟩ ⟨rfl, trivial⟩) ?_
 rintro ⟨i, cur⟩ ⟨hi, c1, c2, hg⟩
 simp only at hi c1 c2 hg
 by_cases hil : i < l.length
 case neg =>
  obtain rfl : i = l.length := by omega
  rw [List.drop_length, U8] at hg
  subst hg
  have hn : ¬ ((l.length : Nat) : Int) < (Xm l).length := by omega
  refine X0 ?_; refine X0 ?_; refine JR ?_; refine Z1 ?_; refine Zy ?_; refine Zz ?_; refine Zb ?_; refine Z7 ?_; refine Z1 ?_; refine Zj ?_; refine Zj ?_; refine Zl ?_; refine JD ?_; refine JF ?_
  refine Xt ?_; refine X0 ?_; refine JR ?_; refine Z1 ?_; refine Z0 ?_; refine JD ?_
  exact X1 ⟨_, St.le_refl _, ⟨rfl, trivial⟩, X2 _⟩
 have hn : (i : Int) < (Xm l).length := by omega
 by_cases hneg : cur < 0
 ·rw [X7S hneg] at hg
  subst hg
  have hneg' : ¬ 0 ≤ cur := by omega
  refine X0 ?_; refine X0 ?_; refine JR ?_; refine Z1 ?_; refine Zy ?_; refine Zz ?_; refine Zb ?_; refine Z7 ?_; refine Z1 ?_; refine Z1 ?_; refine Z2 ?_; refine Zi ?_; refine JD ?_; refine JF ?_
  refine Xt ?_; refine X0 ?_; refine JR ?_; refine Z1 ?_; refine Z0 ?_; refine JD ?_
  exact X1 ⟨_, St.le_refl _, ⟨rfl, trivial⟩, X2 _⟩
 have hpos : 0 ≤ cur := by omega
 obtain ⟨x, hx⟩ := XX (l := l) hil
 have hxc : (Xm l)[i]? = some (YK x) := by rw [Vl]; exact Ua hx
 have hcall := ih x (List.mem_of_getElem? hx) e cur (by omega) (by omega) c2
 have hlow := X2a x e cur (VS hok.2.2 (List.mem_of_getElem? hx)) hpos c2
 rw [X9I hx hneg] at hg
 generalize YR e x cur = z at *
 obtain ⟨xk, xn, xd, xs, xl⟩ := x
 simp only [Xh, YK] at hcall hxc
 refine X0 ?_; refine X0 ?_; refine JR ?_; refine Z1 ?_; refine Zy ?_; refine Zz ?_; refine Zb ?_; refine Z7 ?_; refine Z1 ?_; refine Z1 ?_; refine Z2 ?_; refine Zi ?_; refine JD ?_; refine JT ?_
 refine X3 ?_; refine X0 ?_; refine X5 ?_; refine JR ?_; refine Zy ?_; refine Zz ?_; refine Z1 ?_; refine ZH ?_; refine ZI ?_; refine Z1 ?_; refine Z1 ?_
 refine Z4 (op := .sub) (r' := nj e) (u := .int .i64 ((e + 1 : Nat) : Int)) (v := .int .i64 1) ?_ (hr' := by exact congrArg (Value.int .i64) (show (((e + 1 : Nat) : Int) - 1) = (e : Int) by omega)) (hr := by exact VY (by unfold Uz; omega))
 refine Z8 (hcon := hcall) ?_; refine Z0 ?_; refine JD ?_; refine JR ?_; refine Z1 ?_; refine Zc ?_; refine Z0 ?_; refine JD ?_
 exact ⟨(i + 1, z), ⟨by show i + 1 ≤ l.length; omega, by show -1000000000000000000 ≤ z; omega, by show z ≤ 1000000; omega, hg⟩, by show l.length - (i + 1) < l.length - i; omega, Xg rfl ⟨JL, JL, JL, JL, trivial⟩ ⟨rfl, trivial⟩⟩
theorem X4f : ∀ v : Val, XU v → X2w v
 | .mk k n d s l => fun hok => Xap (.mk k n d s l) hok fun x hx => X4f x (VS (by rw [XU] at hok; exact hok.2.2) hx)
termination_by v => SizeOf.sizeOf v
decreasing_by
 have h1 := List.sizeOf_lt_of_mem (show x ∈ l from hx)
 simp only [Val.mk.sizeOf_spec]
 omega
end Go.Fw

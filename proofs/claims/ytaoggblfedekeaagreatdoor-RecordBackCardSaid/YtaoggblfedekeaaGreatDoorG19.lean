/- The check of a rule: the program's. -/
import Derived.Test.YtaoggblfedekeaaGreatDoorG08
import Derived.Test.YtaoggblfedekeaaGreatDoorG17
import Derived.Test.YtaoggblfedekeaaGreatDoorG07
import Derived.Test.YtaoggblfedekeaaGreatDoorG18
set_option maxHeartbeats 32000000
namespace Go.Fw
open Go Go.Proofs
set_option maxRecDepth 100000
set_option linter.unusedVariables false
set_option linter.unusedSimpArgs false
def Ul (k n : Int) : Bool := if k = 3 ∨ k = 5 then decide (n = 1 ∨ n = 2 ∨ n = 4) else if k = 7 then decide (0 ≤ n ∧ n ≤ 4000) else decide (n = 0)
def VV (k : Int) (nb : Bool) (key src dst : List UInt8) (vn vk vs vd : Bool) : Int :=
 if decide (1 ≤ k ∧ k ≤ 7) = false ∨ nb = false then 1
 else if (U4 k = false ∧ key ≠ []) ∨ (k ≠ 6 ∧ (src ≠ [] ∨ dst ≠ [])) then 1
 else if vn = false ∨ (U4 k = true ∧ vk = false) ∨ (src ≠ [] ∧ vs = false) ∨ (dst ≠ [] ∧ vd = false) then 6 else 0
theorem X4i (r : Rul) : YS r = VV r.kind (Ul r.kind r.n) r.key r.src r.dst (XW r.name) (XW r.key) (XW r.src) (XW r.dst) := rfl
abbrev X5Z (k n : Int) (name key src dst : List UInt8) : AVal := .agg [ai k, ai n, .d (.v (.string (X4 name))), .d (.v (.string (X4 key))), .d (.v (.string (X4 src))), .d (.v (.string (X4 dst)))]
def XY (r : Rul) : AVal := X5Z r.kind r.n r.name r.key r.src r.dst
def ktS (n : Int) : List UInt8 := if n = 1 then [98, 111, 111, 108] else if n = 2 then [105, 110, 116] else if n = 4 then [115, 116, 114] else []
theorem XaP (n : Int) : Con Tryz.prog 68 [] [ai n] [] (.d (.v (.string (X4 (ktS n))))) := by
 refine X8 (xs := [.d (.v (.string (X4 (ktS n))))]) Tryz.func68 rfl Tryz.ntmps68 rfl rfl rfl (fun E => ?_)
 by_cases h1 : n = 1
 ·subst h1
  refine X0 ?_; refine JR ?_; refine Z0 ?_; refine JD ?_; refine X0 ?_; refine X0 ?_; refine JR ?_; refine Z1 ?_; refine JD ?_; refine X5 ?_; refine X0 ?_; refine JR ?_; refine Zu ?_
  refine Z0 ?_; refine JD ?_; refine JT ?_; refine X0 ?_; refine JR ?_; refine Z0 ?_; refine JD ?_
  exact X1 ⟨_, St.le_refl _, ⟨rfl, trivial⟩, X2 _⟩
 by_cases h2 : n = 2
 ·subst h2
  repeat first | refine X0 ?_ | (refine JR ?_; (repeat first | refine Z1 ?_ | refine Z0 ?_ | refine Zu ?_); refine JD ?_) | refine JT ?_ | refine JF ?_ | refine X5 ?_
  exact X1 ⟨_, St.le_refl _, ⟨rfl, trivial⟩, X2 _⟩
 by_cases h4 : n = 4
 ·subst h4
  repeat first | refine X0 ?_ | (refine JR ?_; (repeat first | refine Z1 ?_ | refine Z0 ?_ | refine Zu ?_); refine JD ?_) | refine JT ?_ | refine JF ?_ | refine X5 ?_
  exact X1 ⟨_, St.le_refl _, ⟨rfl, trivial⟩, X2 _⟩
 rw [show ktS n = [] by simp [ktS, h1, h2, h4]]
 repeat first | refine X0 ?_ | (refine JR ?_; (repeat first | refine Z1 ?_ | refine Z0 ?_ | refine Zu ?_); refine JD ?_) | refine JF ?_ | refine X5 ?_ | refine X3 ?_
 exact X1 ⟨_, St.le_refl _, ⟨rfl, trivial⟩, X2 _⟩
def YL (ky nu en ok : Bool) (n : Int) (key src dst : List UInt8) : Bool := !ok || (!ky && decide (key ≠ [])) || (!nu && decide (n ≠ 0)) || (!en && (decide (src ≠ []) || decide (dst ≠ [])))
def XB (a ky nu : Bool) (k n : Int) (kt src dst : List UInt8) (vn vk vs vd : Bool) : Int :=
 if a = true then 1 else if k = 7 ∧ (n < 0 ∨ 4000 < n) then 1 else if ky = true ∧ nu = true ∧ kt = [] then 1
 else if vn = false ∨ (ky = true ∧ vk = false) then 6 else if (src ≠ [] ∧ vs = false) ∨ (dst ≠ [] ∧ vd = false) then 6 else 0
theorem X9p (k n : Int) (key src dst : List UInt8) (vn vk vs vd : Bool) : VV k (Ul k n) key src dst vn vk vs vd =
  XB (YL (YY k).1 (YY k).2.1 (YY k).2.2.1 (YY k).2.2.2 n key src dst) (YY k).1 (YY k).2.1 k n (ktS n) src dst vn vk vs vd := by
 by_cases hk : 1 ≤ k ∧ k ≤ 7
 ·have h7 : k = 1 ∨ k = 2 ∨ k = 3 ∨ k = 4 ∨ k = 5 ∨ k = 6 ∨ k = 7 := by omega
  have hn : n = 0 ∨ n = 1 ∨ n = 2 ∨ n = 4 ∨ (n ≠ 0 ∧ n ≠ 1 ∧ n ≠ 2 ∧ n ≠ 4) := by omega
  rcases h7 with rfl | rfl | rfl | rfl | rfl | rfl | rfl
  all_goals
   unfold VV XB YL YY Ul U4
   by_cases h1 : key = [] <;> by_cases h2 : src = [] <;> by_cases h3 : dst = []
   all_goals rcases hn with rfl | rfl | rfl | rfl | ⟨n0, n1, n2, n4⟩
   all_goals first
    | (simp [ktS, *]; done)
    | (by_cases m1 : n < 0 <;> by_cases m2 : 4000 < n <;> simp [ktS, *] <;> omega)
    | (cases vn <;> cases vk <;> cases vs <;> cases vd <;> simp [ktS, *])
 ·unfold VV XB YL YY
  simp [hk]
theorem X3N (r : Rul) : Con Tryz.prog 35 [] [XY r] [] (ai (YS r)) := by
 rw [X4i, X9p]
 obtain ⟨k, n, name, key, src, dst⟩ := r
 simp only [XY]
 have hn := X1t name
 have hk := X1t key
 have hs := X1t src
 have hd := X1t dst
 have ht := XaP n
 have hf := XbI k
 generalize XW name = vn at *
 generalize XW key = vk at *
 generalize XW src = vs at *
 generalize XW dst = vd at *
 generalize ktS n = kt at *
 generalize YY k = u at *
 obtain ⟨ky, nu, en, ok⟩ := u
 simp only at hf
 show Con _ _ _ _ _ (ai (XB (YL ky nu en ok n key src dst) ky nu k n kt src dst vn vk vs vd))
 generalize ha : YL ky nu en ok n key src dst = a
 refine X8 (xs := [ai (XB a ky nu k n kt src dst vn vk vs vd)]) Tryz.func35 rfl Tryz.ntmps35 rfl rfl rfl (fun E => ?_)
 refine X0 ?_; refine JR ?_; refine Zy (γ := 100) ?_; refine Z0 ?_; refine JD ?_; refine X0 ?_; refine JR ?_; refine Zz ?_; refine ZA ?_; refine Z9 (hcon := hf) ?_; refine Z1 ?_; refine ZD ?_; refine ZD ?_
 refine Zt (γ := 101) ?_; refine Zw ?_; refine Z0 ?_; refine JD ?_; refine X0 ?_
 refine X5 ?_
 refine X0 ?_
 refine X2l ⟨102, [(1, .ptr 100 0), (3, .ptr 101 0), (11, ab a)], [(100, .box [ai k, ai n, .d (.v (.string (X4 name))), .d (.v (.string (X4 key))), .d (.v (.string (X4 src))), .d (.v (.string (X4 dst)))]), (101, .box [ab ky, ab nu, ab en])]⟩ ?_ ?_
 ·refine X0 ?_; refine JR ?_; refine Z1 ?_; refine Zr ?_; refine Z0 ?_; refine JD ?_; refine XF rfl (fun hq => ?_) (fun hq => ?_); refine X3 ?_
  ((clear hf ht hn hk hs hd; refine Xc rfl ⟨AVal.le_refl _, AVal.le_refl _, AVal.le_of_eq (congrArg ab (by subst ha; simp [YL, *])), trivial⟩ ⟨rfl, rfl, trivial⟩)); refine X0 ?_; refine JR ?_; refine Zz ?_
  refine ZA ?_; refine Zr ?_; refine Z1 ?_; refine XU rfl rfl (fun hq => ?_) (fun hq => ?_); refine Zl ?_; refine Zl ?_; refine Zl ?_; refine Zn ?_; refine Z0 ?_; refine JD ?_; refine JF ?_; refine X0 ?_
  refine JR ?_; refine Zz ?_; refine ZA ?_; refine Zr ?_; refine Z1 ?_; refine XU rfl rfl (fun hq => ?_) (fun hq => ?_); refine Zl ?_; refine Zl ?_; refine Zl ?_; refine Zn ?_; refine Z0 ?_; refine JD ?_
  refine JF ?_; refine JR ?_; refine Zz ?_; refine ZA ?_; refine Zr ?_; refine Z1 ?_; refine XU rfl rfl (fun hq => ?_) (fun hq => ?_); refine Zl ?_; refine Zl ?_; refine Zl ?_; refine Zl ?_; refine Zm ?_
  refine Zm ?_; refine Zm ?_; refine Zl ?_; refine Zn ?_; refine Z0 ?_; refine JD ?_
  ((clear hf ht hn hk hs hd; refine Xc rfl ⟨AVal.le_refl _, AVal.le_refl _, AVal.le_of_eq (congrArg ab (by subst ha; simp [YL, *])), trivial⟩ ⟨rfl, rfl, trivial⟩)); refine Zz ?_; refine ZA ?_; refine ZM ?_
  refine Z1 ?_; refine XE rfl rfl (fun hq => ?_) (fun hq => ?_); refine Zl ?_; refine Zl ?_; refine Zl ?_; refine Zk ?_; refine Zk ?_; refine Z0 ?_; refine JD ?_
  ((clear hf ht hn hk hs hd; refine Xc rfl ⟨AVal.le_refl _, AVal.le_refl _, AVal.le_of_eq (congrArg ab (by subst ha; simp [YL, *])), trivial⟩ ⟨rfl, rfl, trivial⟩)); refine Zz ?_; refine ZA ?_; refine ZM ?_
  refine Zn ?_; refine Zk ?_; refine Z0 ?_; refine JD ?_
  ((clear hf ht hn hk hs hd; refine Xc rfl ⟨AVal.le_refl _, AVal.le_refl _, AVal.le_of_eq (congrArg ab (by subst ha; simp [YL, *])), trivial⟩ ⟨rfl, rfl, trivial⟩)); refine Zz ?_; refine ZA ?_; refine Zs ?_
  refine Zk ?_; refine Z0 ?_; refine JD ?_; refine Uy rfl (fun hq => ?_) (fun hq => ?_); refine X3 ?_
  ((clear hf ht hn hk hs hd; refine Xc rfl ⟨AVal.le_refl _, AVal.le_refl _, AVal.le_of_eq (congrArg ab (by subst ha; simp [YL, *])), trivial⟩ ⟨rfl, rfl, trivial⟩)); refine JR ?_; refine Zz ?_; refine ZA ?_
  refine Zr ?_; refine Z1 ?_; refine XU rfl rfl (fun hq => ?_) (fun hq => ?_); refine Zl ?_; refine Zl ?_; refine Zl ?_; refine Zl ?_; refine Zm ?_; refine Zm ?_; refine Zm ?_; refine Zl ?_; refine Zn ?_
  refine Z0 ?_; refine JD ?_; ((clear hf ht hn hk hs hd; refine Xc rfl ⟨AVal.le_refl _, AVal.le_refl _, AVal.le_of_eq (congrArg ab (by subst ha; simp [YL, *])), trivial⟩ ⟨rfl, rfl, trivial⟩)); refine Zz ?_
  refine ZA ?_; refine ZM ?_; refine Z1 ?_; refine XE rfl rfl (fun hq => ?_) (fun hq => ?_); refine Zl ?_; refine Zl ?_; refine Zl ?_; refine Zk ?_; refine Zk ?_; refine Z0 ?_; refine JD ?_
  ((clear hf ht hn hk hs hd; refine Xc rfl ⟨AVal.le_refl _, AVal.le_refl _, AVal.le_of_eq (congrArg ab (by subst ha; simp [YL, *])), trivial⟩ ⟨rfl, rfl, trivial⟩)); refine Zz ?_; refine ZA ?_; refine ZM ?_
  refine Zn ?_; refine Zk ?_; refine Z0 ?_; refine JD ?_
  ((clear hf ht hn hk hs hd; refine Xc rfl ⟨AVal.le_refl _, AVal.le_refl _, AVal.le_of_eq (congrArg ab (by subst ha; simp [YL, *])), trivial⟩ ⟨rfl, rfl, trivial⟩)); refine Zz ?_; refine ZA ?_; refine ZM ?_
  refine Zk ?_; refine Z0 ?_; refine JD ?_; refine Uy rfl (fun hq => ?_) (fun hq => ?_); refine X3 ?_
  ((clear hf ht hn hk hs hd; refine Xc rfl ⟨AVal.le_refl _, AVal.le_refl _, AVal.le_of_eq (congrArg ab (by subst ha; simp [YL, *])), trivial⟩ ⟨rfl, rfl, trivial⟩)); refine X0 ?_; refine JR ?_; refine Zz ?_
  refine ZA ?_; refine Zr ?_; refine Z1 ?_; refine XU rfl rfl (fun hq => ?_) (fun hq => ?_); refine Zl ?_; refine Zl ?_; refine Zl ?_; refine Zn ?_; refine Z0 ?_; refine JD ?_; refine JF ?_; refine JR ?_
  refine Zz ?_; refine ZA ?_; refine Zr ?_; refine Z1 ?_; refine XU rfl rfl (fun hq => ?_) (fun hq => ?_); refine Zl ?_; refine Zl ?_; refine Zl ?_; refine Zl ?_; refine Zm ?_; refine Zm ?_; refine Zm ?_
  refine Zl ?_; refine Zn ?_; refine Z0 ?_; refine JD ?_
  ((clear hf ht hn hk hs hd; refine Xc rfl ⟨AVal.le_refl _, AVal.le_refl _, AVal.le_of_eq (congrArg ab (by subst ha; simp [YL, *])), trivial⟩ ⟨rfl, rfl, trivial⟩)); refine Zz ?_; refine ZA ?_; refine ZM ?_
  refine Z1 ?_; refine XE rfl rfl (fun hq => ?_) (fun hq => ?_); refine Zl ?_; refine Zl ?_; refine Zl ?_; refine Zk ?_; refine Zk ?_; refine Z0 ?_; refine JD ?_
  ((clear hf ht hn hk hs hd; refine Xc rfl ⟨AVal.le_refl _, AVal.le_refl _, AVal.le_of_eq (congrArg ab (by subst ha; simp [YL, *])), trivial⟩ ⟨rfl, rfl, trivial⟩)); refine Zz ?_; refine ZA ?_; refine ZM ?_
  refine Zn ?_; refine Zk ?_; refine Z0 ?_; refine JD ?_
  ((clear hf ht hn hk hs hd; refine Xc rfl ⟨AVal.le_refl _, AVal.le_refl _, AVal.le_of_eq (congrArg ab (by subst ha; simp [YL, *])), trivial⟩ ⟨rfl, rfl, trivial⟩)); refine Zz ?_; refine ZA ?_; refine Zs ?_
  refine Zk ?_; refine Z0 ?_; refine JD ?_; refine Uy rfl (fun hq => ?_) (fun hq => ?_); refine X3 ?_
  ((clear hf ht hn hk hs hd; refine Xc rfl ⟨AVal.le_refl _, AVal.le_refl _, AVal.le_of_eq (congrArg ab (by subst ha; simp [YL, *])), trivial⟩ ⟨rfl, rfl, trivial⟩)); refine JR ?_; refine Zz ?_; refine ZA ?_
  refine Zr ?_; refine Z1 ?_; refine XU rfl rfl (fun hq => ?_) (fun hq => ?_); refine Zl ?_; refine Zl ?_; refine Zl ?_; refine Zl ?_; refine Zm ?_; refine Zm ?_; refine Zm ?_; refine Zl ?_; refine Zn ?_
  refine Z0 ?_; refine JD ?_; ((clear hf ht hn hk hs hd; refine Xc rfl ⟨AVal.le_refl _, AVal.le_refl _, AVal.le_of_eq (congrArg ab (by subst ha; simp [YL, *])), trivial⟩ ⟨rfl, rfl, trivial⟩)); refine Zz ?_
  refine ZA ?_; refine ZM ?_; refine Z1 ?_; refine XE rfl rfl (fun hq => ?_) (fun hq => ?_); refine Zl ?_; refine Zl ?_; refine Zl ?_; refine Zk ?_; refine Zk ?_; refine Z0 ?_; refine JD ?_
  ((clear hf ht hn hk hs hd; refine Xc rfl ⟨AVal.le_refl _, AVal.le_refl _, AVal.le_of_eq (congrArg ab (by subst ha; simp [YL, *])), trivial⟩ ⟨rfl, rfl, trivial⟩)); refine Zz ?_; refine ZA ?_; refine ZM ?_
  refine Zn ?_; refine Zk ?_; refine Z0 ?_; refine JD ?_
  ((clear hf ht hn hk hs hd; refine Xc rfl ⟨AVal.le_refl _, AVal.le_refl _, AVal.le_of_eq (congrArg ab (by subst ha; simp [YL, *])), trivial⟩ ⟨rfl, rfl, trivial⟩))
 clear ha hf
 obtain ⟨r, hr⟩ : ∃ r, r = XB a ky nu k n kt src dst vn vk vs vd := ⟨_, rfl⟩
 rw [← hr]
 refine X0u rfl (fun hq => ?_) (fun hq => ?_); refine X0 ?_; refine JR ?_; refine Z0 ?_; refine JD ?_
 (clear ht hn hk hs hd; simp [XB, *] at hr; subst hr; exact X1 ⟨_, St.le_refl _, ⟨rfl, trivial⟩, X2 _⟩); refine X0 ?_; refine JR ?_; refine Zz ?_; refine ZA ?_; refine Zu ?_; refine Z1 ?_
 refine XE rfl rfl (fun hq => ?_) (fun hq => ?_); refine Zz ?_; refine ZA ?_; refine Z8 ?_; refine Z1 ?_; refine XE rfl rfl (fun hq => ?_) (fun hq => ?_); refine Zl ?_; refine Zl ?_; refine Zl ?_; refine Zk ?_
 refine Zk ?_; refine Z0 ?_; refine JD ?_; refine JT ?_; refine X0 ?_; refine JR ?_; refine Z0 ?_; refine JD ?_
 (clear ht hn hk hs hd; simp [XB, *] at hr; subst hr; exact X1 ⟨_, St.le_refl _, ⟨rfl, trivial⟩, X2 _⟩); refine Zz ?_; refine ZA ?_; refine Zp ?_; refine Zn ?_; refine Zk ?_; refine Z0 ?_; refine JD ?_
 refine Uy rfl (fun hq => ?_) (fun hq => ?_); refine X0 ?_; refine JR ?_; refine Z0 ?_; refine JD ?_
 (clear ht hn hk hs hd; simp [XB, *] at hr; subst hr; exact X1 ⟨_, St.le_refl _, ⟨rfl, trivial⟩, X2 _⟩); refine X0 ?_; refine JR ?_; refine Zz ?_; refine ZA ?_; refine Z1 ?_
 refine X0t rfl rfl (fun hq => ?_) (fun hq => ?_); refine Zz ?_; refine ZA ?_; refine Zk ?_; refine Z1 ?_; refine X0t rfl rfl (fun hq => ?_) (fun hq => ?_); refine Zz ?_; refine ZA ?_
 refine Z9 (hcon := ht) ?_; refine Zo ?_; refine Zk ?_; refine Z0 ?_; refine JD ?_; refine Uy rfl (fun hq => ?_) (fun hq => ?_); refine X0 ?_; refine JR ?_; refine Z0 ?_; refine JD ?_
 (clear ht hn hk hs hd; simp [XB, *] at hr; subst hr; exact X1 ⟨_, St.le_refl _, ⟨rfl, trivial⟩, X2 _⟩); refine X0 ?_; refine X0 ?_; refine JR ?_; refine Zz ?_; refine ZA ?_
 refine Z9 (hcon := hn) ?_; refine Zr ?_; refine Z0 ?_; refine JD ?_; refine XF rfl (fun hq => ?_) (fun hq => ?_); refine X3 ?_; refine JT ?_; refine X0 ?_; refine JR ?_; refine Z0 ?_; refine JD ?_
 (clear ht hn hk hs hd; simp [XB, *] at hr; subst hr; exact X1 ⟨_, St.le_refl _, ⟨rfl, trivial⟩, X2 _⟩); refine JR ?_; refine Zz ?_; refine ZA ?_; refine Z1 ?_; refine Zz ?_; refine ZA ?_
 refine Z9 (hcon := hk) ?_; refine Zr ?_; refine Zk ?_; refine Z0 ?_; refine JD ?_; refine XF rfl (fun hq => ?_) (fun hq => ?_); refine X0 ?_; refine JR ?_; refine Z0 ?_; refine JD ?_
 (clear ht hn hk hs hd; simp [XB, *] at hr; subst hr; exact X1 ⟨_, St.le_refl _, ⟨rfl, trivial⟩, X2 _⟩); refine X0 ?_; refine X0 ?_; refine JR ?_; refine Zz ?_; refine ZA ?_; refine ZM ?_
 refine Z1 ?_; refine XE rfl rfl (fun hq => ?_) (fun hq => ?_); refine Zz ?_; refine ZA ?_; refine Z9 (hcon := hs) ?_; refine Zr ?_; refine Zk ?_; refine Z0 ?_; refine JD ?_
 refine XF rfl (fun hq => ?_) (fun hq => ?_); refine X3 ?_; refine JT ?_; refine X0 ?_; refine JR ?_; refine Z0 ?_; refine JD ?_
 (clear ht hn hk hs hd; simp [XB, *] at hr; subst hr; exact X1 ⟨_, St.le_refl _, ⟨rfl, trivial⟩, X2 _⟩); refine JR ?_; refine Zz ?_; refine ZA ?_; refine ZM ?_; refine Z1 ?_
 refine XE rfl rfl (fun hq => ?_) (fun hq => ?_); refine Zz ?_; refine ZA ?_; refine Z9 (hcon := hd) ?_; refine Zr ?_; refine Zk ?_; refine Z0 ?_; refine JD ?_; refine XF rfl (fun hq => ?_) (fun hq => ?_)
 refine X0 ?_; refine JR ?_; refine Z0 ?_; refine JD ?_; (clear ht hn hk hs hd; simp [XB, *] at hr; subst hr; exact X1 ⟨_, St.le_refl _, ⟨rfl, trivial⟩, X2 _⟩); refine X3 ?_; refine X0 ?_
 refine JR ?_; refine Z0 ?_; refine JD ?_; (clear ht hn hk hs hd; simp [XB, *] at hr; subst hr; exact X1 ⟨_, St.le_refl _, ⟨rfl, trivial⟩, X2 _⟩); refine Zl ?_; refine Zl ?_; refine Zl ?_; refine Zl ?_
 refine Zn ?_; refine Z0 ?_; refine JD ?_; refine JF ?_; refine X3 ?_; refine X0 ?_; refine JR ?_; refine Z0 ?_; refine JD ?_
 (clear ht hn hk hs hd; simp [XB, *] at hr; subst hr; exact X1 ⟨_, St.le_refl _, ⟨rfl, trivial⟩, X2 _⟩); refine Zl ?_; refine Zl ?_; refine Zl ?_; refine Zl ?_; refine Zn ?_; refine Z0 ?_; refine JD ?_
 refine JF ?_; refine JR ?_; refine Zz ?_; refine ZA ?_; refine ZM ?_; refine Z1 ?_; refine XE rfl rfl (fun hq => ?_) (fun hq => ?_); refine Zz ?_; refine ZA ?_; refine Z9 (hcon := hd) ?_; refine Zr ?_; refine Zk ?_
 refine Z0 ?_; refine JD ?_; refine XF rfl (fun hq => ?_) (fun hq => ?_); refine X0 ?_; refine JR ?_; refine Z0 ?_; refine JD ?_
 (clear ht hn hk hs hd; simp [XB, *] at hr; subst hr; exact X1 ⟨_, St.le_refl _, ⟨rfl, trivial⟩, X2 _⟩); refine X3 ?_; refine X0 ?_; refine JR ?_; refine Z0 ?_; refine JD ?_
 (clear ht hn hk hs hd; simp [XB, *] at hr; subst hr; exact X1 ⟨_, St.le_refl _, ⟨rfl, trivial⟩, X2 _⟩); refine Zl ?_; refine Zl ?_; refine Zl ?_; refine Zl ?_; refine Zn ?_; refine Z0 ?_; refine JD ?_
 refine JF ?_; refine X3 ?_; refine X0 ?_; refine JR ?_; refine Z0 ?_; refine JD ?_; (clear ht hn hk hs hd; simp [XB, *] at hr; subst hr; exact X1 ⟨_, St.le_refl _, ⟨rfl, trivial⟩, X2 _⟩)
 refine Zl ?_; refine Zl ?_; refine Zl ?_; refine Zl ?_; refine Zn ?_; refine Z0 ?_; refine JD ?_; refine JF ?_; refine X0 ?_; refine X0 ?_; refine JR ?_; refine Zz ?_; refine ZA ?_; refine Z9 (hcon := hn) ?_
 refine Zr ?_; refine Z0 ?_; refine JD ?_; refine XF rfl (fun hq => ?_) (fun hq => ?_); refine X3 ?_; refine JT ?_; refine X0 ?_; refine JR ?_; refine Z0 ?_; refine JD ?_
 (clear ht hn hk hs hd; simp [XB, *] at hr; subst hr; exact X1 ⟨_, St.le_refl _, ⟨rfl, trivial⟩, X2 _⟩); refine JR ?_; refine Zz ?_; refine ZA ?_; refine Z1 ?_; refine Zz ?_; refine ZA ?_
 refine Z9 (hcon := hk) ?_; refine Zr ?_; refine Zk ?_; refine Z0 ?_; refine JD ?_; refine XF rfl (fun hq => ?_) (fun hq => ?_); refine X0 ?_; refine JR ?_; refine Z0 ?_; refine JD ?_
 (clear ht hn hk hs hd; simp [XB, *] at hr; subst hr; exact X1 ⟨_, St.le_refl _, ⟨rfl, trivial⟩, X2 _⟩); refine X0 ?_; refine X0 ?_; refine JR ?_; refine Zz ?_; refine ZA ?_; refine ZM ?_
 refine Z1 ?_; refine XE rfl rfl (fun hq => ?_) (fun hq => ?_); refine Zz ?_; refine ZA ?_; refine Z9 (hcon := hs) ?_; refine Zr ?_; refine Zk ?_; refine Z0 ?_; refine JD ?_
 refine XF rfl (fun hq => ?_) (fun hq => ?_); refine X3 ?_; refine JT ?_; refine X0 ?_; refine JR ?_; refine Z0 ?_; refine JD ?_
 (clear ht hn hk hs hd; simp [XB, *] at hr; subst hr; exact X1 ⟨_, St.le_refl _, ⟨rfl, trivial⟩, X2 _⟩); refine JR ?_; refine Zz ?_; refine ZA ?_; refine ZM ?_; refine Z1 ?_
 refine XE rfl rfl (fun hq => ?_) (fun hq => ?_); refine Zz ?_; refine ZA ?_; refine Z9 (hcon := hd) ?_; refine Zr ?_; refine Zk ?_; refine Z0 ?_; refine JD ?_; refine XF rfl (fun hq => ?_) (fun hq => ?_)
 refine X0 ?_; refine JR ?_; refine Z0 ?_; refine JD ?_; (clear ht hn hk hs hd; simp [XB, *] at hr; subst hr; exact X1 ⟨_, St.le_refl _, ⟨rfl, trivial⟩, X2 _⟩); refine X3 ?_; refine X0 ?_
 refine JR ?_; refine Z0 ?_; refine JD ?_; (clear ht hn hk hs hd; simp [XB, *] at hr; subst hr; exact X1 ⟨_, St.le_refl _, ⟨rfl, trivial⟩, X2 _⟩); refine Zl ?_; refine Zl ?_; refine Zl ?_; refine Zl ?_
 refine Zn ?_; refine Z0 ?_; refine JD ?_; refine JF ?_; refine X3 ?_; refine X0 ?_; refine JR ?_; refine Z0 ?_; refine JD ?_
 (clear ht hn hk hs hd; simp [XB, *] at hr; subst hr; exact X1 ⟨_, St.le_refl _, ⟨rfl, trivial⟩, X2 _⟩); refine Zl ?_; refine Zl ?_; refine Zl ?_; refine Zl ?_; refine Zn ?_; refine Z0 ?_; refine JD ?_
 refine JF ?_; refine JR ?_; refine Zz ?_; refine ZA ?_; refine ZM ?_; refine Z1 ?_; refine XE rfl rfl (fun hq => ?_) (fun hq => ?_); refine Zz ?_; refine ZA ?_; refine Z9 (hcon := hd) ?_; refine Zr ?_; refine Zk ?_
 refine Z0 ?_; refine JD ?_; refine XF rfl (fun hq => ?_) (fun hq => ?_); refine X0 ?_; refine JR ?_; refine Z0 ?_; refine JD ?_
 (clear ht hn hk hs hd; simp [XB, *] at hr; subst hr; exact X1 ⟨_, St.le_refl _, ⟨rfl, trivial⟩, X2 _⟩); refine X3 ?_; refine X0 ?_; refine JR ?_; refine Z0 ?_; refine JD ?_
 (clear ht hn hk hs hd; simp [XB, *] at hr; subst hr; exact X1 ⟨_, St.le_refl _, ⟨rfl, trivial⟩, X2 _⟩); refine Zl ?_; refine Zl ?_; refine Zl ?_; refine Zl ?_; refine Zn ?_; refine Z0 ?_; refine JD ?_
 refine JF ?_; refine X3 ?_; refine X0 ?_; refine JR ?_; refine Z0 ?_; refine JD ?_; (clear ht hn hk hs hd; simp [XB, *] at hr; subst hr; exact X1 ⟨_, St.le_refl _, ⟨rfl, trivial⟩, X2 _⟩)
 refine Zl ?_; refine Zl ?_; refine Zn ?_; refine Z1 ?_; refine Zl ?_; refine Zl ?_; refine Zl ?_; refine Zl ?_; refine Zn ?_; refine Z0 ?_; refine JD ?_; refine JF ?_; refine X0 ?_; refine X0 ?_; refine JR ?_
 refine Zz ?_; refine ZA ?_; refine Z9 (hcon := hn) ?_; refine Zr ?_; refine Z0 ?_; refine JD ?_; refine XF rfl (fun hq => ?_) (fun hq => ?_); refine X3 ?_; refine JT ?_; refine X0 ?_; refine JR ?_
 refine Z0 ?_; refine JD ?_; (clear ht hn hk hs hd; simp [XB, *] at hr; subst hr; exact X1 ⟨_, St.le_refl _, ⟨rfl, trivial⟩, X2 _⟩); refine JR ?_; refine Zz ?_; refine ZA ?_; refine Z1 ?_; refine Zl ?_
 refine Zl ?_; refine Zl ?_; refine Zl ?_; refine Zn ?_; refine Z0 ?_; refine JD ?_; refine JF ?_; refine X0 ?_; refine X0 ?_; refine JR ?_; refine Zz ?_; refine ZA ?_; refine ZM ?_; refine Z1 ?_
 refine XE rfl rfl (fun hq => ?_) (fun hq => ?_); refine Zz ?_; refine ZA ?_; refine Z9 (hcon := hs) ?_; refine Zr ?_; refine Zk ?_; refine Z0 ?_; refine JD ?_; refine XF rfl (fun hq => ?_) (fun hq => ?_)
 refine X3 ?_; refine JT ?_; refine X0 ?_; refine JR ?_; refine Z0 ?_; refine JD ?_; (clear ht hn hk hs hd; simp [XB, *] at hr; subst hr; exact X1 ⟨_, St.le_refl _, ⟨rfl, trivial⟩, X2 _⟩)
 refine JR ?_; refine Zz ?_; refine ZA ?_; refine ZM ?_; refine Z1 ?_; refine XE rfl rfl (fun hq => ?_) (fun hq => ?_); refine Zz ?_; refine ZA ?_; refine Z9 (hcon := hd) ?_; refine Zr ?_; refine Zk ?_; refine Z0 ?_
 refine JD ?_; refine XF rfl (fun hq => ?_) (fun hq => ?_); refine X0 ?_; refine JR ?_; refine Z0 ?_; refine JD ?_
 (clear ht hn hk hs hd; simp [XB, *] at hr; subst hr; exact X1 ⟨_, St.le_refl _, ⟨rfl, trivial⟩, X2 _⟩); refine X3 ?_; refine X0 ?_; refine JR ?_; refine Z0 ?_; refine JD ?_
 (clear ht hn hk hs hd; simp [XB, *] at hr; subst hr; exact X1 ⟨_, St.le_refl _, ⟨rfl, trivial⟩, X2 _⟩); refine Zl ?_; refine Zl ?_; refine Zl ?_; refine Zl ?_; refine Zn ?_; refine Z0 ?_; refine JD ?_
 refine JF ?_; refine X3 ?_; refine X0 ?_; refine JR ?_; refine Z0 ?_; refine JD ?_; (clear ht hn hk hs hd; simp [XB, *] at hr; subst hr; exact X1 ⟨_, St.le_refl _, ⟨rfl, trivial⟩, X2 _⟩)
 refine Zl ?_; refine Zl ?_; refine Zl ?_; refine Zl ?_; refine Zn ?_; refine Z0 ?_; refine JD ?_; refine JF ?_; refine JR ?_; refine Zz ?_; refine ZA ?_; refine ZM ?_; refine Z1 ?_
 refine XE rfl rfl (fun hq => ?_) (fun hq => ?_); refine Zz ?_; refine ZA ?_; refine Z9 (hcon := hd) ?_; refine Zr ?_; refine Zk ?_; refine Z0 ?_; refine JD ?_; refine XF rfl (fun hq => ?_) (fun hq => ?_)
 refine X0 ?_; refine JR ?_; refine Z0 ?_; refine JD ?_; (clear ht hn hk hs hd; simp [XB, *] at hr; subst hr; exact X1 ⟨_, St.le_refl _, ⟨rfl, trivial⟩, X2 _⟩); refine X3 ?_; refine X0 ?_
 refine JR ?_; refine Z0 ?_; refine JD ?_; (clear ht hn hk hs hd; simp [XB, *] at hr; subst hr; exact X1 ⟨_, St.le_refl _, ⟨rfl, trivial⟩, X2 _⟩); refine Zl ?_; refine Zl ?_; refine Zl ?_; refine Zl ?_
 refine Zn ?_; refine Z0 ?_; refine JD ?_; refine JF ?_; refine X3 ?_; refine X0 ?_; refine JR ?_; refine Z0 ?_; refine JD ?_
 (clear ht hn hk hs hd; simp [XB, *] at hr; subst hr; exact X1 ⟨_, St.le_refl _, ⟨rfl, trivial⟩, X2 _⟩); refine Zl ?_; refine Zl ?_; refine Zl ?_; refine Zl ?_; refine Zm ?_; refine Zm ?_; refine Zm ?_
 refine Zl ?_; refine Zn ?_; refine Z0 ?_; refine JD ?_; refine JF ?_; refine X0 ?_; refine JR ?_; refine Zz ?_; refine ZA ?_; refine Z1 ?_; refine X0t rfl rfl (fun hq => ?_) (fun hq => ?_); refine Zz ?_
 refine ZA ?_; refine Zk ?_; refine Z1 ?_; refine X0t rfl rfl (fun hq => ?_) (fun hq => ?_); refine Zz ?_; refine ZA ?_; refine Z9 (hcon := ht) ?_; refine Zo ?_; refine Zk ?_; refine Z0 ?_; refine JD ?_
 refine Uy rfl (fun hq => ?_) (fun hq => ?_); refine X0 ?_; refine JR ?_; refine Z0 ?_; refine JD ?_
 (clear ht hn hk hs hd; simp [XB, *] at hr; subst hr; exact X1 ⟨_, St.le_refl _, ⟨rfl, trivial⟩, X2 _⟩); refine X0 ?_; refine X0 ?_; refine JR ?_; refine Zz ?_; refine ZA ?_
 refine Z9 (hcon := hn) ?_; refine Zr ?_; refine Z0 ?_; refine JD ?_; refine XF rfl (fun hq => ?_) (fun hq => ?_); refine X3 ?_; refine JT ?_; refine X0 ?_; refine JR ?_; refine Z0 ?_; refine JD ?_
 (clear ht hn hk hs hd; simp [XB, *] at hr; subst hr; exact X1 ⟨_, St.le_refl _, ⟨rfl, trivial⟩, X2 _⟩); refine JR ?_; refine Zz ?_; refine ZA ?_; refine Z1 ?_; refine Zz ?_; refine ZA ?_
 refine Z9 (hcon := hk) ?_; refine Zr ?_; refine Zk ?_; refine Z0 ?_; refine JD ?_; refine XF rfl (fun hq => ?_) (fun hq => ?_); refine X0 ?_; refine JR ?_; refine Z0 ?_; refine JD ?_
 (clear ht hn hk hs hd; simp [XB, *] at hr; subst hr; exact X1 ⟨_, St.le_refl _, ⟨rfl, trivial⟩, X2 _⟩); refine X0 ?_; refine X0 ?_; refine JR ?_; refine Zz ?_; refine ZA ?_; refine ZM ?_
 refine Z1 ?_; refine XE rfl rfl (fun hq => ?_) (fun hq => ?_); refine Zz ?_; refine ZA ?_; refine Z9 (hcon := hs) ?_; refine Zr ?_; refine Zk ?_; refine Z0 ?_; refine JD ?_
 refine XF rfl (fun hq => ?_) (fun hq => ?_); refine X3 ?_; refine JT ?_; refine X0 ?_; refine JR ?_; refine Z0 ?_; refine JD ?_
 (clear ht hn hk hs hd; simp [XB, *] at hr; subst hr; exact X1 ⟨_, St.le_refl _, ⟨rfl, trivial⟩, X2 _⟩); refine JR ?_; refine Zz ?_; refine ZA ?_; refine ZM ?_; refine Z1 ?_
 refine XE rfl rfl (fun hq => ?_) (fun hq => ?_); refine Zz ?_; refine ZA ?_; refine Z9 (hcon := hd) ?_; refine Zr ?_; refine Zk ?_; refine Z0 ?_; refine JD ?_; refine XF rfl (fun hq => ?_) (fun hq => ?_)
 refine X0 ?_; refine JR ?_; refine Z0 ?_; refine JD ?_; (clear ht hn hk hs hd; simp [XB, *] at hr; subst hr; exact X1 ⟨_, St.le_refl _, ⟨rfl, trivial⟩, X2 _⟩); refine X3 ?_; refine X0 ?_
 refine JR ?_; refine Z0 ?_; refine JD ?_; (clear ht hn hk hs hd; simp [XB, *] at hr; subst hr; exact X1 ⟨_, St.le_refl _, ⟨rfl, trivial⟩, X2 _⟩); refine Zl ?_; refine Zl ?_; refine Zl ?_; refine Zl ?_
 refine Zn ?_; refine Z0 ?_; refine JD ?_; refine JF ?_; refine X3 ?_; refine X0 ?_; refine JR ?_; refine Z0 ?_; refine JD ?_
 (clear ht hn hk hs hd; simp [XB, *] at hr; subst hr; exact X1 ⟨_, St.le_refl _, ⟨rfl, trivial⟩, X2 _⟩); refine Zl ?_; refine Zl ?_; refine Zl ?_; refine Zl ?_; refine Zn ?_; refine Z0 ?_; refine JD ?_
 refine JF ?_; refine JR ?_; refine Zz ?_; refine ZA ?_; refine ZM ?_; refine Z1 ?_; refine XE rfl rfl (fun hq => ?_) (fun hq => ?_); refine Zz ?_; refine ZA ?_; refine Z9 (hcon := hd) ?_; refine Zr ?_; refine Zk ?_
 refine Z0 ?_; refine JD ?_; refine XF rfl (fun hq => ?_) (fun hq => ?_); refine X0 ?_; refine JR ?_; refine Z0 ?_; refine JD ?_
 (clear ht hn hk hs hd; simp [XB, *] at hr; subst hr; exact X1 ⟨_, St.le_refl _, ⟨rfl, trivial⟩, X2 _⟩); refine X3 ?_; refine X0 ?_; refine JR ?_; refine Z0 ?_; refine JD ?_
 (clear ht hn hk hs hd; simp [XB, *] at hr; subst hr; exact X1 ⟨_, St.le_refl _, ⟨rfl, trivial⟩, X2 _⟩); refine Zl ?_; refine Zl ?_; refine Zl ?_; refine Zl ?_; refine Zn ?_; refine Z0 ?_; refine JD ?_
 refine JF ?_; refine X3 ?_; refine X0 ?_; refine JR ?_; refine Z0 ?_; refine JD ?_; (clear ht hn hk hs hd; simp [XB, *] at hr; subst hr; exact X1 ⟨_, St.le_refl _, ⟨rfl, trivial⟩, X2 _⟩)
 refine Zl ?_; refine Zl ?_; refine Zl ?_; refine Zl ?_; refine Zn ?_; refine Z0 ?_; refine JD ?_; refine JF ?_; refine X0 ?_; refine X0 ?_; refine JR ?_; refine Zz ?_; refine ZA ?_; refine Z9 (hcon := hn) ?_
 refine Zr ?_; refine Z0 ?_; refine JD ?_; refine XF rfl (fun hq => ?_) (fun hq => ?_); refine X3 ?_; refine JT ?_; refine X0 ?_; refine JR ?_; refine Z0 ?_; refine JD ?_
 (clear ht hn hk hs hd; simp [XB, *] at hr; subst hr; exact X1 ⟨_, St.le_refl _, ⟨rfl, trivial⟩, X2 _⟩); refine JR ?_; refine Zz ?_; refine ZA ?_; refine Z1 ?_; refine Zz ?_; refine ZA ?_
 refine Z9 (hcon := hk) ?_; refine Zr ?_; refine Zk ?_; refine Z0 ?_; refine JD ?_; refine XF rfl (fun hq => ?_) (fun hq => ?_); refine X0 ?_; refine JR ?_; refine Z0 ?_; refine JD ?_
 (clear ht hn hk hs hd; simp [XB, *] at hr; subst hr; exact X1 ⟨_, St.le_refl _, ⟨rfl, trivial⟩, X2 _⟩); refine X0 ?_; refine X0 ?_; refine JR ?_; refine Zz ?_; refine ZA ?_; refine ZM ?_
 refine Z1 ?_; refine XE rfl rfl (fun hq => ?_) (fun hq => ?_); refine Zz ?_; refine ZA ?_; refine Z9 (hcon := hs) ?_; refine Zr ?_; refine Zk ?_; refine Z0 ?_; refine JD ?_
 refine XF rfl (fun hq => ?_) (fun hq => ?_); refine X3 ?_; refine JT ?_; refine X0 ?_; refine JR ?_; refine Z0 ?_; refine JD ?_
 (clear ht hn hk hs hd; simp [XB, *] at hr; subst hr; exact X1 ⟨_, St.le_refl _, ⟨rfl, trivial⟩, X2 _⟩); refine JR ?_; refine Zz ?_; refine ZA ?_; refine ZM ?_; refine Z1 ?_
 refine XE rfl rfl (fun hq => ?_) (fun hq => ?_); refine Zz ?_; refine ZA ?_; refine Z9 (hcon := hd) ?_; refine Zr ?_; refine Zk ?_; refine Z0 ?_; refine JD ?_; refine XF rfl (fun hq => ?_) (fun hq => ?_)
 refine X0 ?_; refine JR ?_; refine Z0 ?_; refine JD ?_; (clear ht hn hk hs hd; simp [XB, *] at hr; subst hr; exact X1 ⟨_, St.le_refl _, ⟨rfl, trivial⟩, X2 _⟩); refine X3 ?_; refine X0 ?_
 refine JR ?_; refine Z0 ?_; refine JD ?_; (clear ht hn hk hs hd; simp [XB, *] at hr; subst hr; exact X1 ⟨_, St.le_refl _, ⟨rfl, trivial⟩, X2 _⟩); refine Zl ?_; refine Zl ?_; refine Zl ?_; refine Zl ?_
 refine Zn ?_; refine Z0 ?_; refine JD ?_; refine JF ?_; refine X3 ?_; refine X0 ?_; refine JR ?_; refine Z0 ?_; refine JD ?_
 (clear ht hn hk hs hd; simp [XB, *] at hr; subst hr; exact X1 ⟨_, St.le_refl _, ⟨rfl, trivial⟩, X2 _⟩); refine Zl ?_; refine Zl ?_; refine Zl ?_; refine Zl ?_; refine Zn ?_; refine Z0 ?_; refine JD ?_
 refine JF ?_; refine JR ?_; refine Zz ?_; refine ZA ?_; refine ZM ?_; refine Z1 ?_; refine XE rfl rfl (fun hq => ?_) (fun hq => ?_); refine Zz ?_; refine ZA ?_; refine Z9 (hcon := hd) ?_; refine Zr ?_; refine Zk ?_
 refine Z0 ?_; refine JD ?_; refine XF rfl (fun hq => ?_) (fun hq => ?_); refine X0 ?_; refine JR ?_; refine Z0 ?_; refine JD ?_
 (clear ht hn hk hs hd; simp [XB, *] at hr; subst hr; exact X1 ⟨_, St.le_refl _, ⟨rfl, trivial⟩, X2 _⟩); refine X3 ?_; refine X0 ?_; refine JR ?_; refine Z0 ?_; refine JD ?_
 (clear ht hn hk hs hd; simp [XB, *] at hr; subst hr; exact X1 ⟨_, St.le_refl _, ⟨rfl, trivial⟩, X2 _⟩); refine Zl ?_; refine Zl ?_; refine Zl ?_; refine Zl ?_; refine Zn ?_; refine Z0 ?_; refine JD ?_
 refine JF ?_; refine X3 ?_; refine X0 ?_; refine JR ?_; refine Z0 ?_; refine JD ?_; (clear ht hn hk hs hd; simp [XB, *] at hr; subst hr; exact X1 ⟨_, St.le_refl _, ⟨rfl, trivial⟩, X2 _⟩)
 refine Zl ?_; refine Zl ?_; refine Zn ?_; refine Z1 ?_; refine Zl ?_; refine Zl ?_; refine Zl ?_; refine Zl ?_; refine Zn ?_; refine Z0 ?_; refine JD ?_; refine JF ?_; refine X0 ?_; refine X0 ?_; refine JR ?_
 refine Zz ?_; refine ZA ?_; refine Z9 (hcon := hn) ?_; refine Zr ?_; refine Z0 ?_; refine JD ?_; refine XF rfl (fun hq => ?_) (fun hq => ?_); refine X3 ?_; refine JT ?_; refine X0 ?_; refine JR ?_
 refine Z0 ?_; refine JD ?_; (clear ht hn hk hs hd; simp [XB, *] at hr; subst hr; exact X1 ⟨_, St.le_refl _, ⟨rfl, trivial⟩, X2 _⟩); refine JR ?_; refine Zz ?_; refine ZA ?_; refine Z1 ?_; refine Zl ?_
 refine Zl ?_; refine Zl ?_; refine Zl ?_; refine Zn ?_; refine Z0 ?_; refine JD ?_; refine JF ?_; refine X0 ?_; refine X0 ?_; refine JR ?_; refine Zz ?_; refine ZA ?_; refine ZM ?_; refine Z1 ?_
 refine XE rfl rfl (fun hq => ?_) (fun hq => ?_); refine Zz ?_; refine ZA ?_; refine Z9 (hcon := hs) ?_; refine Zr ?_; refine Zk ?_; refine Z0 ?_; refine JD ?_; refine XF rfl (fun hq => ?_) (fun hq => ?_)
 refine X3 ?_; refine JT ?_; refine X0 ?_; refine JR ?_; refine Z0 ?_; refine JD ?_; (clear ht hn hk hs hd; simp [XB, *] at hr; subst hr; exact X1 ⟨_, St.le_refl _, ⟨rfl, trivial⟩, X2 _⟩)
 refine JR ?_; refine Zz ?_; refine ZA ?_; refine ZM ?_; refine Z1 ?_; refine XE rfl rfl (fun hq => ?_) (fun hq => ?_); refine Zz ?_; refine ZA ?_; refine Z9 (hcon := hd) ?_; refine Zr ?_; refine Zk ?_; refine Z0 ?_
 refine JD ?_; refine XF rfl (fun hq => ?_) (fun hq => ?_); refine X0 ?_; refine JR ?_; refine Z0 ?_; refine JD ?_
 (clear ht hn hk hs hd; simp [XB, *] at hr; subst hr; exact X1 ⟨_, St.le_refl _, ⟨rfl, trivial⟩, X2 _⟩); refine X3 ?_; refine X0 ?_; refine JR ?_; refine Z0 ?_; refine JD ?_
 (clear ht hn hk hs hd; simp [XB, *] at hr; subst hr; exact X1 ⟨_, St.le_refl _, ⟨rfl, trivial⟩, X2 _⟩); refine Zl ?_; refine Zl ?_; refine Zl ?_; refine Zl ?_; refine Zn ?_; refine Z0 ?_; refine JD ?_
 refine JF ?_; refine X3 ?_; refine X0 ?_; refine JR ?_; refine Z0 ?_; refine JD ?_; (clear ht hn hk hs hd; simp [XB, *] at hr; subst hr; exact X1 ⟨_, St.le_refl _, ⟨rfl, trivial⟩, X2 _⟩)
 refine Zl ?_; refine Zl ?_; refine Zl ?_; refine Zl ?_; refine Zn ?_; refine Z0 ?_; refine JD ?_; refine JF ?_; refine JR ?_; refine Zz ?_; refine ZA ?_; refine ZM ?_; refine Z1 ?_
 refine XE rfl rfl (fun hq => ?_) (fun hq => ?_); refine Zz ?_; refine ZA ?_; refine Z9 (hcon := hd) ?_; refine Zr ?_; refine Zk ?_; refine Z0 ?_; refine JD ?_; refine XF rfl (fun hq => ?_) (fun hq => ?_)
 refine X0 ?_; refine JR ?_; refine Z0 ?_; refine JD ?_; (clear ht hn hk hs hd; simp [XB, *] at hr; subst hr; exact X1 ⟨_, St.le_refl _, ⟨rfl, trivial⟩, X2 _⟩); refine X3 ?_; refine X0 ?_
 refine JR ?_; refine Z0 ?_; refine JD ?_; (clear ht hn hk hs hd; simp [XB, *] at hr; subst hr; exact X1 ⟨_, St.le_refl _, ⟨rfl, trivial⟩, X2 _⟩); refine Zl ?_; refine Zl ?_; refine Zl ?_; refine Zl ?_
 refine Zn ?_; refine Z0 ?_; refine JD ?_; refine JF ?_; refine X3 ?_; refine X0 ?_; refine JR ?_; refine Z0 ?_; refine JD ?_
 (clear ht hn hk hs hd; simp [XB, *] at hr; subst hr; exact X1 ⟨_, St.le_refl _, ⟨rfl, trivial⟩, X2 _⟩)
end Go.Fw
namespace Go.Fw
open Go Go.Proofs
set_option maxRecDepth 100000
set_option linter.unusedVariables false
set_option linter.unusedSimpArgs false
theorem X6O (c : Chg) : Con Tryz.prog 9 [] [Xy c] [] (.d (Xh (VB c))) := by
 refine X8 (xs := [.d (Xh (VB c))]) Tryz.func9 rfl Tryz.ntmps9 rfl rfl rfl (fun E => ?_)
 have hc := X44 c
 unfold VB
 by_cases h : Y8 c = 0
 ·have hp := X6F c h
  rw [h] at hc
  rw [if_pos h]
  generalize XK c = w at *
  obtain ⟨op, id, src, dst, name, ⟨k, n, d, s, l⟩⟩ := c
  simp only [Xy] at *
  refine X0 ?_; refine JR ?_; refine Zy (γ := 100) ?_; refine Z0 ?_; refine JD ?_; refine X0 ?_; refine X0 ?_; refine JR ?_; refine ZL ?_; refine Z9 (hcon := hc) ?_; refine Zs ?_; refine JD ?_; refine JF ?_
  refine X3 ?_; refine X0 ?_; refine JR ?_; refine ZL ?_; refine Z9 (hcon := hp) ?_; refine Z0 ?_; refine JD ?_
  exact X1 ⟨_, St.le_refl _, ⟨rfl, trivial⟩, X2 _⟩
 ·rw [if_neg h]
  generalize Y8 c = e at *
  obtain ⟨op, id, src, dst, name, ⟨k, n, d, s, l⟩⟩ := c
  simp only [Xy] at *
  refine X0 ?_; refine JR ?_; refine Zy (γ := 100) ?_; refine Z0 ?_; refine JD ?_; refine X0 ?_; refine X0 ?_; refine JR ?_; refine ZL ?_; refine Z9 (hcon := hc) ?_; refine Zs ?_; refine JD ?_; refine JT ?_
  refine X0 ?_; refine JR ?_; refine Z0 ?_; refine JD ?_
  exact X1 ⟨_, X9 2 (y := .d (Xh [])) (AVal.le_nil 1), ⟨rfl, trivial⟩, X2 _⟩
abbrev cS (s : List UInt8) : List D := [.v (.string (X4 s))]
def UU (l : List (List UInt8)) : List UInt8 := (l.map Xo).flatten
theorem X9k {l : List (List UInt8)} {i : Nat} {x : List UInt8} (h : l[i]? = some x) : UU (l.take (i + 1)) = UU (l.take i) ++ Xo x := by
 unfold UU
 rw [List.take_add_one, h]
 simp
theorem Ui {s : List UInt8} (h : s.length ≤ 20) : (Xo s).length ≤ 30 := by
 have := X09 (n := s.length) (by omega)
 unfold Xo
 rw [List.length_append]
 omega
theorem X6j : ∀ {l : List (List UInt8)}, (∀ x ∈ l, x.length ≤ 20) → (UU l).length ≤ 30 * l.length
 | [], _ => by simp [UU]
 | x :: r, h => by
  have h1 := Ui (h x (by simp))
  have h2 := X6j (l := r) fun y hy => h y (by simp [hy])
  unfold UU at *
  simp only [List.map_cons, List.flatten_cons, List.length_append, List.length_cons]
  omega
theorem XbV (r : Rul) (h : YS r = 0) (hn : -9223372036854775808 ≤ r.n ∧ r.n ≤ 9223372036854775807) (hl : r.name.length ≤ 20 ∧ r.key.length ≤ 20 ∧ r.src.length ≤ 20 ∧ r.dst.length ≤ 20) (hk : 1 ≤ r.kind ∧ r.kind ≤ 7) :
  Con Tryz.prog 36 [] [XY r] [(130, .row 1 ((Ym r).map Xa))] (.own 130 ((Ym r).map Xa).length) := by
 obtain ⟨k, n, name, key, src, dst⟩ := r
 simp only at hn hl hk
 obtain ⟨m, rfl⟩ : ∃ m : Nat, k = m := ⟨k.toNat, by omega⟩
 simp only [XY] at *
 clear h
 refine X8 (xs := [.own 130 ((Ym ⟨m, n, name, key, src, dst⟩).map Xa).length]) Tryz.func36 rfl Tryz.ntmps36 rfl rfl rfl (fun E => ?_)
 have e8 : n8 (m % 256) = n8 (UInt8.ofNat m).toNat := by rw [V4 (by omega), Nat.mod_eq_of_lt (by omega)]
 have hL : ∀ x ∈ [name, key, src, dst], x.length ≤ 20 := by
  intro x hx
  simp only [List.mem_cons, List.not_mem_nil, or_false] at hx
  rcases hx with rfl | rfl | rfl | rfl <;> omega
 have hput : Ym ⟨m, n, name, key, src, dst⟩ = (UInt8.ofNat m :: UU [name, key, src, dst]) ++ XD n := by
  unfold Ym UU
  simp
 have hpi := VY n hn
 have hpl := X0L hn
 rw [hput]
 clear hput
 refine X0 ?_; refine JR ?_; refine Zy (γ := 100) ?_; refine Z0 ?_; refine JD ?_; refine X0 ?_; refine JR ?_; refine Zz ?_; refine ZA ?_
 refine Z3 (u := nj m) (r := n8 (UInt8.ofNat m).toNat) ?_ (hr := by exact by rw [← e8]; exact XQ rfl rfl); refine ZX (γ := 130) ?_; refine Z0 ?_; refine JD ?_; refine X0 ?_; refine X0 ?_; refine JR ?_
 refine Zz ?_; refine ZA ?_; refine Zz ?_; refine ZA ?_; refine Zz ?_; refine ZA ?_; refine Zz ?_; refine ZA ?_; refine Z5 ?_; refine Zd ?_; refine Z1 ?_; refine JD ?_; refine X5 ?_
 generalize hLL : [name, key, src, dst] = L at *
 have hL4 : L.length = 4 := by rw [← hLL]; rfl
 have hlm : (L.map cS).length = L.length := by simp
 refine XR (fun i : Nat => i ≤ L.length) (fun i => ⟨34, [(1, .ptr 100 0), (3, .own 130 ((UInt8.ofNat m :: UU (L.take i)).map Xa).length), (18, .d (.sl 1 (L.map cS))), (19, ai (L.map cS).length), (20, ai i)],
   [(100, .box [ai m, ai n, .d (.v (.string (X4 name))), .d (.v (.string (X4 key))), .d (.v (.string (X4 src))), .d (.v (.string (X4 dst)))]), (130, .row 1 ((UInt8.ofNat m :: UU (L.take i)).map Xa))]⟩) (fun i => L.length - i) 0 (by omega)
  (by subst hLL; exact Xc rfl ⟨JL, JL, JL, JL, JL, trivial⟩ ⟨rfl, rfl, trivial⟩) ?_
 intro i hi
 have hlen : ((UInt8.ofNat m :: UU (L.take i)).map Xa).length ≤ 200 := by
  have h1 := X6j (l := L.take i) fun x hx => hL x (List.mem_of_mem_take hx)
  have h2 : (L.take i).length ≤ 4 := by simp; omega
  simp only [List.length_map, List.length_cons]
  omega
 by_cases hil : i < L.length
 case neg =>
  obtain rfl : i = L.length := by omega
  rw [List.take_length] at hlen ⊢
  have hnn : ¬ ((L.length : Nat) : Int) < (L.map cS).length := by omega
  generalize UInt8.ofNat m :: UU L = B at *
  generalize XD n = w at *
  refine X0 ?_; refine JR ?_; refine Z8 ?_; refine JD ?_; refine X0 ?_; refine JF ?_; refine Xv ?_; refine X0 ?_; refine JR ?_; refine Z1 ?_; refine Zz ?_; refine ZA ?_; refine Z9 (hcon := hpi) ?_
  refine Z6 ?_; refine Z0 ?_; refine JD ?_
  refine X1 ⟨_, X9 2 (y := .own 130 ((B ++ w).map Xa).length) (AVal.le_of_eq ?_), ⟨rfl, trivial⟩, Xi ⟨?_, trivial⟩⟩
  ·refine Eq.trans (b := AVal.own 130 (_ + _)) rfl ?_
   congr 1
   simp only [List.length_append, List.length_map] <;> omega
  ·refine Eq.trans (b := AObj.row 1 (_ ++ _)) rfl ?_
   simp only [List.map_append]
 have hnn : (i : Int) < (L.map cS).length := by omega
 obtain ⟨x, hx⟩ := XT (l := L) hil
 have hxm : (L.map cS)[i]? = some (cS x) := YR hx
 have hxl := hL x (List.mem_of_getElem? hx)
 have hps := X0i x (by omega)
 have hpsl := Ui hxl
 have htk := X9k hx
 generalize Xo x = w at *
 refine X0 ?_; refine JR ?_; refine Z8 ?_; refine JD ?_; refine X0 ?_; refine JT ?_; refine X3 ?_; refine X0 ?_; refine X5 ?_; refine X0 ?_; refine JR ?_; refine ZI ?_; refine ZK ?_
 refine Z0 ?_; refine JD ?_; refine JR ?_; refine Z1 ?_; refine Z1 ?_; refine Z9 (hcon := hps) ?_; refine Z6 ?_; refine Z0 ?_; refine JD ?_; refine JR ?_; refine Zb ?_; refine Z1 ?_; refine JD ?_
 refine ⟨i + 1, by omega, by omega, ?_⟩
 try dsimp only
 rw [htk]
 refine Xc rfl ⟨JL, (by refine AVal.le_of_eq ?_; refine Eq.trans (b := AVal.own 130 (_ + _)) rfl ?_; congr 1; simp only [List.length_append, List.length_map, List.length_cons] <;> omega), JL, JL, JL, trivial⟩ ⟨rfl, ?_, trivial⟩
 refine Eq.trans (b := AObj.row 1 (_ ++ _)) rfl ?_
 simp only [List.map_append, List.map_cons, List.cons_append]
theorem X1V {s : List UInt8} (h : XW s = true) : s.length ≤ 20 := by
 unfold XW at h
 simp at h
 omega
theorem X0y {r : Rul} (h : YS r = 0) : (-9223372036854775808 ≤ r.n ∧ r.n ≤ 9223372036854775807) ∧ (r.name.length ≤ 20 ∧ r.key.length ≤ 20 ∧ r.src.length ≤ 20 ∧ r.dst.length ≤ 20) ∧ (1 ≤ r.kind ∧ r.kind ≤ 7) := by
 rw [X4i] at h
 unfold VV at h
 split at h
 ·omega
 rename_i h1
 split at h
 ·omega
 rename_i h2
 split at h
 ·omega
 rename_i h3
 have i1 : 1 ≤ r.kind ∧ r.kind ≤ 7 := by
  cases hd : decide (1 ≤ r.kind ∧ r.kind ≤ 7) with
  | true => exact of_decide_eq_true hd
  | false => exact absurd (.inl hd) h1
 have i2 : Ul r.kind r.n = true := by
  cases hd : Ul r.kind r.n with
  | true => rfl
  | false => exact absurd (.inr hd) h1
 have nm : XW r.name = true := by
  cases hd : XW r.name with
  | true => rfl
  | false => exact absurd (.inl hd) h3
 have ky : r.key.length ≤ 20 := by
  by_cases hk : U4 r.kind = true
  ·refine X1V (s := r.key) ?_
   cases hd : XW r.key with
   | true => rfl
   | false => exact absurd (.inr (.inl ⟨hk, hd⟩)) h3
  ·by_cases he : r.key = []
   ·rw [he]; simp
   ·exact absurd (.inl ⟨by simpa using hk, he⟩) h2
 have sr : r.src.length ≤ 20 := by
  by_cases he : r.src = []
  ·rw [he]; simp
  ·refine X1V (s := r.src) ?_
   cases hd : XW r.src with
   | true => rfl
   | false => exact absurd (.inr (.inr (.inl ⟨he, hd⟩))) h3
 have ds : r.dst.length ≤ 20 := by
  by_cases he : r.dst = []
  ·rw [he]; simp
  ·refine X1V (s := r.dst) ?_
   cases hd : XW r.dst with
   | true => rfl
   | false => exact absurd (.inr (.inr (.inr ⟨he, hd⟩))) h3
 refine ⟨?_, ⟨X1V nm, ky, sr, ds⟩, i1⟩
 unfold Ul at i2
 split at i2
 ·have := of_decide_eq_true i2; omega
 ·split at i2
  ·have := of_decide_eq_true i2; omega
  ·have := of_decide_eq_true i2; omega
theorem X65 (r : Rul) (h : YS r = 0) : Con Tryz.prog 36 [] [XY r] [] (.d (Xh (Ym r))) :=
 (XbV r h (X0y h).1 (X0y h).2.1 (X0y h).2.2).data (by simp)
theorem X7E (r : Rul) : Con Tryz.prog 11 [] [XY r] [] (.d (Xh (Vy r))) := by
 refine X8 (xs := [.d (Xh (Vy r))]) Tryz.func11 rfl Tryz.ntmps11 rfl rfl rfl (fun E => ?_)
 have hc := X3N r
 unfold Vy
 by_cases h : YS r = 0
 ·have hp := X65 r h
  rw [h] at hc
  rw [if_pos h]
  generalize Ym r = w at *
  obtain ⟨k, n, name, key, src, dst⟩ := r
  simp only [XY] at *
  refine X0 ?_; refine JR ?_; refine Zy (γ := 100) ?_; refine Z0 ?_; refine JD ?_; refine X0 ?_; refine X0 ?_; refine JR ?_; refine ZL ?_; refine Z9 (hcon := hc) ?_; refine Zs ?_; refine JD ?_; refine JF ?_
  refine X3 ?_; refine X0 ?_; refine JR ?_; refine ZL ?_; refine Z9 (hcon := hp) ?_; refine Z0 ?_; refine JD ?_
  exact X1 ⟨_, St.le_refl _, ⟨rfl, trivial⟩, X2 _⟩
 ·rw [if_neg h]
  generalize YS r = e at *
  obtain ⟨k, n, name, key, src, dst⟩ := r
  simp only [XY] at *
  refine X0 ?_; refine JR ?_; refine Zy (γ := 100) ?_; refine Z0 ?_; refine JD ?_; refine X0 ?_; refine X0 ?_; refine JR ?_; refine ZL ?_; refine Z9 (hcon := hc) ?_; refine Zs ?_; refine JD ?_; refine JT ?_
  refine X0 ?_; refine JR ?_; refine Z0 ?_; refine JD ?_
  exact X1 ⟨_, X9 2 (y := .d (Xh [])) (AVal.le_nil 1), ⟨rfl, trivial⟩, X2 _⟩
end Go.Fw

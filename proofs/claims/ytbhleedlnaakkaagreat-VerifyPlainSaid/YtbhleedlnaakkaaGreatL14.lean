/- The check of a rule: the program's. -/
import Derived.Test.YtbhleedlnaakkaaGreatL13
set_option maxHeartbeats 32000000
namespace Go.Fw
open Go Go.Proofs
set_option maxRecDepth 100000
set_option linter.unusedVariables false
set_option linter.unusedSimpArgs false
def U6 (k n : Int) : Bool := if k = 3 ∨ k = 5 then decide (n = 1 ∨ n = 2 ∨ n = 4) else if k = 7 then decide (0 ≤ n ∧ n ≤ 4000) else decide (n = 0)
def Vo (k : Int) (nb : Bool) (key src dst : List UInt8) (vn vk vs vd : Bool) : Int :=
 if decide (1 ≤ k ∧ k ≤ 7) = false ∨ nb = false then 1
 else if (YW k = false ∧ key ≠ []) ∨ (k ≠ 6 ∧ (src ≠ [] ∨ dst ≠ [])) then 1
 else if vn = false ∨ (YW k = true ∧ vk = false) ∨ (src ≠ [] ∧ vs = false) ∨ (dst ≠ [] ∧ vd = false) then 6 else 0
theorem X2T (r : Rul) : Yq r = Vo r.kind (U6 r.kind r.n) r.key r.src r.dst (Xj r.name) (Xj r.key) (Xj r.src) (Xj r.dst) := rfl
abbrev X5B (k n : Int) (name key src dst : List UInt8) : AVal := .agg [ai k, ai n, .d (.v (.string (X6 name))), .d (.v (.string (X6 key))), .d (.v (.string (X6 src))), .d (.v (.string (X6 dst)))]
def Y0 (r : Rul) : AVal := X5B r.kind r.n r.name r.key r.src r.dst
def ktS (n : Int) : List UInt8 := if n = 1 then [98, 111, 111, 108] else if n = 2 then [105, 110, 116] else if n = 4 then [115, 116, 114] else []
theorem Xb5 (n : Int) : Con Tryz.prog 124 [] [ai n] [] (.d (.v (.string (X6 (ktS n))))) := by
 refine X9 (xs := [.d (.v (.string (X6 (ktS n))))]) Tryz.func124 rfl Tryz.ntmps124 rfl rfl rfl (fun E => ?_)
 by_cases h1 : n = 1
 ·subst h1
  refine X0 ?_; refine JR ?_; refine Z0 ?_; refine JD ?_; refine X0 ?_; refine X0 ?_; refine JR ?_; refine Z1 ?_; refine JD ?_; refine X4 ?_; refine X0 ?_; refine JR ?_; refine Zl ?_
  refine Z0 ?_; refine JD ?_; refine JT ?_; refine X0 ?_; refine JR ?_; refine Z0 ?_; refine JD ?_
  exact X1 ⟨_, St.le_refl _, ⟨rfl, trivial⟩, X2 _⟩
 by_cases h2 : n = 2
 ·subst h2
  repeat first | refine X0 ?_ | (refine JR ?_; (repeat first | refine Z1 ?_ | refine Z0 ?_ | refine Zl ?_); refine JD ?_) | refine JT ?_ | refine JF ?_ | refine X4 ?_
  exact X1 ⟨_, St.le_refl _, ⟨rfl, trivial⟩, X2 _⟩
 by_cases h4 : n = 4
 ·subst h4
  repeat first | refine X0 ?_ | (refine JR ?_; (repeat first | refine Z1 ?_ | refine Z0 ?_ | refine Zl ?_); refine JD ?_) | refine JT ?_ | refine JF ?_ | refine X4 ?_
  exact X1 ⟨_, St.le_refl _, ⟨rfl, trivial⟩, X2 _⟩
 rw [show ktS n = [] by simp [ktS, h1, h2, h4]]
 repeat first | refine X0 ?_ | (refine JR ?_; (repeat first | refine Z1 ?_ | refine Z0 ?_ | refine Zl ?_); refine JD ?_) | refine JF ?_ | refine X4 ?_ | refine X3 ?_
 exact X1 ⟨_, St.le_refl _, ⟨rfl, trivial⟩, X2 _⟩
def Yw (ky nu en ok : Bool) (n : Int) (key src dst : List UInt8) : Bool := !ok || (!ky && decide (key ≠ [])) || (!nu && decide (n ≠ 0)) || (!en && (decide (src ≠ []) || decide (dst ≠ [])))
def Xq (a ky nu : Bool) (k n : Int) (kt src dst : List UInt8) (vn vk vs vd : Bool) : Int :=
 if a = true then 1 else if k = 7 ∧ (n < 0 ∨ 4000 < n) then 1 else if ky = true ∧ nu = true ∧ kt = [] then 1
 else if vn = false ∨ (ky = true ∧ vk = false) then 6 else if (src ≠ [] ∧ vs = false) ∨ (dst ≠ [] ∧ vd = false) then 6 else 0
theorem XaK (k n : Int) (key src dst : List UInt8) (vn vk vs vd : Bool) : Vo k (U6 k n) key src dst vn vk vs vd =
  Xq (Yw (YH k).1 (YH k).2.1 (YH k).2.2.1 (YH k).2.2.2 n key src dst) (YH k).1 (YH k).2.1 k n (ktS n) src dst vn vk vs vd := by
 by_cases hk : 1 ≤ k ∧ k ≤ 7
 ·have h7 : k = 1 ∨ k = 2 ∨ k = 3 ∨ k = 4 ∨ k = 5 ∨ k = 6 ∨ k = 7 := by omega
  have hn : n = 0 ∨ n = 1 ∨ n = 2 ∨ n = 4 ∨ (n ≠ 0 ∧ n ≠ 1 ∧ n ≠ 2 ∧ n ≠ 4) := by omega
  rcases h7 with rfl | rfl | rfl | rfl | rfl | rfl | rfl
  all_goals
   unfold Vo Xq Yw YH U6 YW
   by_cases h1 : key = [] <;> by_cases h2 : src = [] <;> by_cases h3 : dst = []
   all_goals rcases hn with rfl | rfl | rfl | rfl | ⟨n0, n1, n2, n4⟩
   all_goals first
    | (simp [ktS, *]; done)
    | (by_cases m1 : n < 0 <;> by_cases m2 : 4000 < n <;> simp [ktS, *] <;> omega)
    | (cases vn <;> cases vk <;> cases vs <;> cases vd <;> simp [ktS, *])
 ·unfold Vo Xq Yw YH
  simp [hk]
theorem X3K (r : Rul) : Con Tryz.prog 74 [] [Y0 r] [] (ai (Yq r)) := by
 rw [X2T, XaK]
 obtain ⟨k, n, name, key, src, dst⟩ := r
 simp only [Y0]
 have hn := X09 name
 have hk := X09 key
 have hs := X09 src
 have hd := X09 dst
 have ht := Xb5 n
 have hf := X8p k
 generalize Xj name = vn at *
 generalize Xj key = vk at *
 generalize Xj src = vs at *
 generalize Xj dst = vd at *
 generalize ktS n = kt at *
 generalize YH k = u at *
 obtain ⟨ky, nu, en, ok⟩ := u
 simp only at hf
 show Con _ _ _ _ _ (ai (Xq (Yw ky nu en ok n key src dst) ky nu k n kt src dst vn vk vs vd))
 generalize ha : Yw ky nu en ok n key src dst = a
 refine X9 (xs := [ai (Xq a ky nu k n kt src dst vn vk vs vd)]) Tryz.func74 rfl Tryz.ntmps74 rfl rfl rfl (fun E => ?_)
 refine X0 ?_; refine JR ?_; refine ZA (γ := 100) ?_; refine Z0 ?_; refine JD ?_; refine X0 ?_; refine JR ?_; refine ZB ?_; refine ZC ?_; refine Z9 (hcon := hf) ?_; refine Z1 ?_; refine ZF ?_; refine ZF ?_
 refine Zw (γ := 101) ?_; refine Zy ?_; refine Z0 ?_; refine JD ?_; refine X0 ?_
 refine X4 ?_
 refine X0 ?_
 refine Xal ⟨102, [(1, .ptr 100 0), (3, .ptr 101 0), (11, ab a)], [(100, .box [ai k, ai n, .d (.v (.string (X6 name))), .d (.v (.string (X6 key))), .d (.v (.string (X6 src))), .d (.v (.string (X6 dst)))]), (101, .box [ab ky, ab nu, ab en])]⟩ ?_ ?_
 ·refine X0 ?_; refine JR ?_; refine Z1 ?_; refine Zu ?_; refine Z0 ?_; refine JD ?_; refine XD rfl (fun hq => ?_) (fun hq => ?_); refine X3 ?_
  ((clear hf ht hn hk hs hd; refine X7 rfl ⟨AVal.le_refl _, AVal.le_refl _, AVal.le_of_eq (congrArg ab (by subst ha; simp [Yw, *])), trivial⟩ ⟨rfl, rfl, trivial⟩)); refine X0 ?_; refine JR ?_; refine ZB ?_
  refine ZC ?_; refine Zu ?_; refine Z1 ?_; refine XW rfl rfl (fun hq => ?_) (fun hq => ?_); refine Zo ?_; refine Zo ?_; refine Zo ?_; refine Zq ?_; refine Z0 ?_; refine JD ?_; refine JF ?_; refine X0 ?_
  refine JR ?_; refine ZB ?_; refine ZC ?_; refine Zu ?_; refine Z1 ?_; refine XW rfl rfl (fun hq => ?_) (fun hq => ?_); refine Zo ?_; refine Zo ?_; refine Zo ?_; refine Zq ?_; refine Z0 ?_; refine JD ?_
  refine JF ?_; refine JR ?_; refine ZB ?_; refine ZC ?_; refine Zu ?_; refine Z1 ?_; refine XW rfl rfl (fun hq => ?_) (fun hq => ?_); refine Zo ?_; refine Zo ?_; refine Zo ?_; refine Zo ?_; refine Zp ?_
  refine Zp ?_; refine Zp ?_; refine Zo ?_; refine Zq ?_; refine Z0 ?_; refine JD ?_
  ((clear hf ht hn hk hs hd; refine X7 rfl ⟨AVal.le_refl _, AVal.le_refl _, AVal.le_of_eq (congrArg ab (by subst ha; simp [Yw, *])), trivial⟩ ⟨rfl, rfl, trivial⟩)); refine ZB ?_; refine ZC ?_; refine ZM ?_
  refine Z1 ?_; refine Xz rfl rfl (fun hq => ?_) (fun hq => ?_); refine Zo ?_; refine Zo ?_; refine Zo ?_; refine Zn ?_; refine Zn ?_; refine Z0 ?_; refine JD ?_
  ((clear hf ht hn hk hs hd; refine X7 rfl ⟨AVal.le_refl _, AVal.le_refl _, AVal.le_of_eq (congrArg ab (by subst ha; simp [Yw, *])), trivial⟩ ⟨rfl, rfl, trivial⟩)); refine ZB ?_; refine ZC ?_; refine ZM ?_
  refine Zq ?_; refine Zn ?_; refine Z0 ?_; refine JD ?_
  ((clear hf ht hn hk hs hd; refine X7 rfl ⟨AVal.le_refl _, AVal.le_refl _, AVal.le_of_eq (congrArg ab (by subst ha; simp [Yw, *])), trivial⟩ ⟨rfl, rfl, trivial⟩)); refine ZB ?_; refine ZC ?_; refine Zv ?_
  refine Zn ?_; refine Z0 ?_; refine JD ?_; refine Um rfl (fun hq => ?_) (fun hq => ?_); refine X3 ?_
  ((clear hf ht hn hk hs hd; refine X7 rfl ⟨AVal.le_refl _, AVal.le_refl _, AVal.le_of_eq (congrArg ab (by subst ha; simp [Yw, *])), trivial⟩ ⟨rfl, rfl, trivial⟩)); refine JR ?_; refine ZB ?_; refine ZC ?_
  refine Zu ?_; refine Z1 ?_; refine XW rfl rfl (fun hq => ?_) (fun hq => ?_); refine Zo ?_; refine Zo ?_; refine Zo ?_; refine Zo ?_; refine Zp ?_; refine Zp ?_; refine Zp ?_; refine Zo ?_; refine Zq ?_
  refine Z0 ?_; refine JD ?_; ((clear hf ht hn hk hs hd; refine X7 rfl ⟨AVal.le_refl _, AVal.le_refl _, AVal.le_of_eq (congrArg ab (by subst ha; simp [Yw, *])), trivial⟩ ⟨rfl, rfl, trivial⟩)); refine ZB ?_
  refine ZC ?_; refine ZM ?_; refine Z1 ?_; refine Xz rfl rfl (fun hq => ?_) (fun hq => ?_); refine Zo ?_; refine Zo ?_; refine Zo ?_; refine Zn ?_; refine Zn ?_; refine Z0 ?_; refine JD ?_
  ((clear hf ht hn hk hs hd; refine X7 rfl ⟨AVal.le_refl _, AVal.le_refl _, AVal.le_of_eq (congrArg ab (by subst ha; simp [Yw, *])), trivial⟩ ⟨rfl, rfl, trivial⟩)); refine ZB ?_; refine ZC ?_; refine ZM ?_
  refine Zq ?_; refine Zn ?_; refine Z0 ?_; refine JD ?_
  ((clear hf ht hn hk hs hd; refine X7 rfl ⟨AVal.le_refl _, AVal.le_refl _, AVal.le_of_eq (congrArg ab (by subst ha; simp [Yw, *])), trivial⟩ ⟨rfl, rfl, trivial⟩)); refine ZB ?_; refine ZC ?_; refine ZM ?_
  refine Zn ?_; refine Z0 ?_; refine JD ?_; refine Um rfl (fun hq => ?_) (fun hq => ?_); refine X3 ?_
  ((clear hf ht hn hk hs hd; refine X7 rfl ⟨AVal.le_refl _, AVal.le_refl _, AVal.le_of_eq (congrArg ab (by subst ha; simp [Yw, *])), trivial⟩ ⟨rfl, rfl, trivial⟩)); refine X0 ?_; refine JR ?_; refine ZB ?_
  refine ZC ?_; refine Zu ?_; refine Z1 ?_; refine XW rfl rfl (fun hq => ?_) (fun hq => ?_); refine Zo ?_; refine Zo ?_; refine Zo ?_; refine Zq ?_; refine Z0 ?_; refine JD ?_; refine JF ?_; refine JR ?_
  refine ZB ?_; refine ZC ?_; refine Zu ?_; refine Z1 ?_; refine XW rfl rfl (fun hq => ?_) (fun hq => ?_); refine Zo ?_; refine Zo ?_; refine Zo ?_; refine Zo ?_; refine Zp ?_; refine Zp ?_; refine Zp ?_
  refine Zo ?_; refine Zq ?_; refine Z0 ?_; refine JD ?_
  ((clear hf ht hn hk hs hd; refine X7 rfl ⟨AVal.le_refl _, AVal.le_refl _, AVal.le_of_eq (congrArg ab (by subst ha; simp [Yw, *])), trivial⟩ ⟨rfl, rfl, trivial⟩)); refine ZB ?_; refine ZC ?_; refine ZM ?_
  refine Z1 ?_; refine Xz rfl rfl (fun hq => ?_) (fun hq => ?_); refine Zo ?_; refine Zo ?_; refine Zo ?_; refine Zn ?_; refine Zn ?_; refine Z0 ?_; refine JD ?_
  ((clear hf ht hn hk hs hd; refine X7 rfl ⟨AVal.le_refl _, AVal.le_refl _, AVal.le_of_eq (congrArg ab (by subst ha; simp [Yw, *])), trivial⟩ ⟨rfl, rfl, trivial⟩)); refine ZB ?_; refine ZC ?_; refine ZM ?_
  refine Zq ?_; refine Zn ?_; refine Z0 ?_; refine JD ?_
  ((clear hf ht hn hk hs hd; refine X7 rfl ⟨AVal.le_refl _, AVal.le_refl _, AVal.le_of_eq (congrArg ab (by subst ha; simp [Yw, *])), trivial⟩ ⟨rfl, rfl, trivial⟩)); refine ZB ?_; refine ZC ?_; refine Zv ?_
  refine Zn ?_; refine Z0 ?_; refine JD ?_; refine Um rfl (fun hq => ?_) (fun hq => ?_); refine X3 ?_
  ((clear hf ht hn hk hs hd; refine X7 rfl ⟨AVal.le_refl _, AVal.le_refl _, AVal.le_of_eq (congrArg ab (by subst ha; simp [Yw, *])), trivial⟩ ⟨rfl, rfl, trivial⟩)); refine JR ?_; refine ZB ?_; refine ZC ?_
  refine Zu ?_; refine Z1 ?_; refine XW rfl rfl (fun hq => ?_) (fun hq => ?_); refine Zo ?_; refine Zo ?_; refine Zo ?_; refine Zo ?_; refine Zp ?_; refine Zp ?_; refine Zp ?_; refine Zo ?_; refine Zq ?_
  refine Z0 ?_; refine JD ?_; ((clear hf ht hn hk hs hd; refine X7 rfl ⟨AVal.le_refl _, AVal.le_refl _, AVal.le_of_eq (congrArg ab (by subst ha; simp [Yw, *])), trivial⟩ ⟨rfl, rfl, trivial⟩)); refine ZB ?_
  refine ZC ?_; refine ZM ?_; refine Z1 ?_; refine Xz rfl rfl (fun hq => ?_) (fun hq => ?_); refine Zo ?_; refine Zo ?_; refine Zo ?_; refine Zn ?_; refine Zn ?_; refine Z0 ?_; refine JD ?_
  ((clear hf ht hn hk hs hd; refine X7 rfl ⟨AVal.le_refl _, AVal.le_refl _, AVal.le_of_eq (congrArg ab (by subst ha; simp [Yw, *])), trivial⟩ ⟨rfl, rfl, trivial⟩)); refine ZB ?_; refine ZC ?_; refine ZM ?_
  refine Zq ?_; refine Zn ?_; refine Z0 ?_; refine JD ?_
  ((clear hf ht hn hk hs hd; refine X7 rfl ⟨AVal.le_refl _, AVal.le_refl _, AVal.le_of_eq (congrArg ab (by subst ha; simp [Yw, *])), trivial⟩ ⟨rfl, rfl, trivial⟩))
 clear ha hf
 obtain ⟨r, hr⟩ : ∃ r, r = Xq a ky nu k n kt src dst vn vk vs vd := ⟨_, rfl⟩
 rw [← hr]
 refine X19 rfl (fun hq => ?_) (fun hq => ?_); refine X0 ?_; refine JR ?_; refine Z0 ?_; refine JD ?_
 (clear ht hn hk hs hd; simp [Xq, *] at hr; subst hr; exact X1 ⟨_, St.le_refl _, ⟨rfl, trivial⟩, X2 _⟩); refine X0 ?_; refine JR ?_; refine ZB ?_; refine ZC ?_; refine Zl ?_; refine Z1 ?_
 refine Xz rfl rfl (fun hq => ?_) (fun hq => ?_); refine ZB ?_; refine ZC ?_; refine Z8 ?_; refine Z1 ?_; refine Xz rfl rfl (fun hq => ?_) (fun hq => ?_); refine Zo ?_; refine Zo ?_; refine Zo ?_; refine Zn ?_
 refine Zn ?_; refine Z0 ?_; refine JD ?_; refine JT ?_; refine X0 ?_; refine JR ?_; refine Z0 ?_; refine JD ?_
 (clear ht hn hk hs hd; simp [Xq, *] at hr; subst hr; exact X1 ⟨_, St.le_refl _, ⟨rfl, trivial⟩, X2 _⟩); refine ZB ?_; refine ZC ?_; refine Zs ?_; refine Zq ?_; refine Zn ?_; refine Z0 ?_; refine JD ?_
 refine Um rfl (fun hq => ?_) (fun hq => ?_); refine X0 ?_; refine JR ?_; refine Z0 ?_; refine JD ?_
 (clear ht hn hk hs hd; simp [Xq, *] at hr; subst hr; exact X1 ⟨_, St.le_refl _, ⟨rfl, trivial⟩, X2 _⟩); refine X0 ?_; refine JR ?_; refine ZB ?_; refine ZC ?_; refine Z1 ?_
 refine X1k rfl rfl (fun hq => ?_) (fun hq => ?_); refine ZB ?_; refine ZC ?_; refine Zn ?_; refine Z1 ?_; refine X1k rfl rfl (fun hq => ?_) (fun hq => ?_); refine ZB ?_; refine ZC ?_
 refine Z9 (hcon := ht) ?_; refine Zr ?_; refine Zn ?_; refine Z0 ?_; refine JD ?_; refine Um rfl (fun hq => ?_) (fun hq => ?_); refine X0 ?_; refine JR ?_; refine Z0 ?_; refine JD ?_
 (clear ht hn hk hs hd; simp [Xq, *] at hr; subst hr; exact X1 ⟨_, St.le_refl _, ⟨rfl, trivial⟩, X2 _⟩); refine X0 ?_; refine X0 ?_; refine JR ?_; refine ZB ?_; refine ZC ?_
 refine Z9 (hcon := hn) ?_; refine Zu ?_; refine Z0 ?_; refine JD ?_; refine XD rfl (fun hq => ?_) (fun hq => ?_); refine X3 ?_; refine JT ?_; refine X0 ?_; refine JR ?_; refine Z0 ?_; refine JD ?_
 (clear ht hn hk hs hd; simp [Xq, *] at hr; subst hr; exact X1 ⟨_, St.le_refl _, ⟨rfl, trivial⟩, X2 _⟩); refine JR ?_; refine ZB ?_; refine ZC ?_; refine Z1 ?_; refine ZB ?_; refine ZC ?_
 refine Z9 (hcon := hk) ?_; refine Zu ?_; refine Zn ?_; refine Z0 ?_; refine JD ?_; refine XD rfl (fun hq => ?_) (fun hq => ?_); refine X0 ?_; refine JR ?_; refine Z0 ?_; refine JD ?_
 (clear ht hn hk hs hd; simp [Xq, *] at hr; subst hr; exact X1 ⟨_, St.le_refl _, ⟨rfl, trivial⟩, X2 _⟩); refine X0 ?_; refine X0 ?_; refine JR ?_; refine ZB ?_; refine ZC ?_; refine ZM ?_
 refine Z1 ?_; refine Xz rfl rfl (fun hq => ?_) (fun hq => ?_); refine ZB ?_; refine ZC ?_; refine Z9 (hcon := hs) ?_; refine Zu ?_; refine Zn ?_; refine Z0 ?_; refine JD ?_
 refine XD rfl (fun hq => ?_) (fun hq => ?_); refine X3 ?_; refine JT ?_; refine X0 ?_; refine JR ?_; refine Z0 ?_; refine JD ?_
 (clear ht hn hk hs hd; simp [Xq, *] at hr; subst hr; exact X1 ⟨_, St.le_refl _, ⟨rfl, trivial⟩, X2 _⟩); refine JR ?_; refine ZB ?_; refine ZC ?_; refine ZM ?_; refine Z1 ?_
 refine Xz rfl rfl (fun hq => ?_) (fun hq => ?_); refine ZB ?_; refine ZC ?_; refine Z9 (hcon := hd) ?_; refine Zu ?_; refine Zn ?_; refine Z0 ?_; refine JD ?_; refine XD rfl (fun hq => ?_) (fun hq => ?_)
 refine X0 ?_; refine JR ?_; refine Z0 ?_; refine JD ?_; (clear ht hn hk hs hd; simp [Xq, *] at hr; subst hr; exact X1 ⟨_, St.le_refl _, ⟨rfl, trivial⟩, X2 _⟩); refine X3 ?_; refine X0 ?_
 refine JR ?_; refine Z0 ?_; refine JD ?_; (clear ht hn hk hs hd; simp [Xq, *] at hr; subst hr; exact X1 ⟨_, St.le_refl _, ⟨rfl, trivial⟩, X2 _⟩); refine Zo ?_; refine Zo ?_; refine Zo ?_; refine Zo ?_
 refine Zq ?_; refine Z0 ?_; refine JD ?_; refine JF ?_; refine X3 ?_; refine X0 ?_; refine JR ?_; refine Z0 ?_; refine JD ?_
 (clear ht hn hk hs hd; simp [Xq, *] at hr; subst hr; exact X1 ⟨_, St.le_refl _, ⟨rfl, trivial⟩, X2 _⟩); refine Zo ?_; refine Zo ?_; refine Zo ?_; refine Zo ?_; refine Zq ?_; refine Z0 ?_; refine JD ?_
 refine JF ?_; refine JR ?_; refine ZB ?_; refine ZC ?_; refine ZM ?_; refine Z1 ?_; refine Xz rfl rfl (fun hq => ?_) (fun hq => ?_); refine ZB ?_; refine ZC ?_; refine Z9 (hcon := hd) ?_; refine Zu ?_; refine Zn ?_
 refine Z0 ?_; refine JD ?_; refine XD rfl (fun hq => ?_) (fun hq => ?_); refine X0 ?_; refine JR ?_; refine Z0 ?_; refine JD ?_
 (clear ht hn hk hs hd; simp [Xq, *] at hr; subst hr; exact X1 ⟨_, St.le_refl _, ⟨rfl, trivial⟩, X2 _⟩); refine X3 ?_; refine X0 ?_; refine JR ?_; refine Z0 ?_; refine JD ?_
 (clear ht hn hk hs hd; simp [Xq, *] at hr; subst hr; exact X1 ⟨_, St.le_refl _, ⟨rfl, trivial⟩, X2 _⟩); refine Zo ?_; refine Zo ?_; refine Zo ?_; refine Zo ?_; refine Zq ?_; refine Z0 ?_; refine JD ?_
 refine JF ?_; refine X3 ?_; refine X0 ?_; refine JR ?_; refine Z0 ?_; refine JD ?_; (clear ht hn hk hs hd; simp [Xq, *] at hr; subst hr; exact X1 ⟨_, St.le_refl _, ⟨rfl, trivial⟩, X2 _⟩)
 refine Zo ?_; refine Zo ?_; refine Zo ?_; refine Zo ?_; refine Zq ?_; refine Z0 ?_; refine JD ?_; refine JF ?_; refine X0 ?_; refine X0 ?_; refine JR ?_; refine ZB ?_; refine ZC ?_; refine Z9 (hcon := hn) ?_
 refine Zu ?_; refine Z0 ?_; refine JD ?_; refine XD rfl (fun hq => ?_) (fun hq => ?_); refine X3 ?_; refine JT ?_; refine X0 ?_; refine JR ?_; refine Z0 ?_; refine JD ?_
 (clear ht hn hk hs hd; simp [Xq, *] at hr; subst hr; exact X1 ⟨_, St.le_refl _, ⟨rfl, trivial⟩, X2 _⟩); refine JR ?_; refine ZB ?_; refine ZC ?_; refine Z1 ?_; refine ZB ?_; refine ZC ?_
 refine Z9 (hcon := hk) ?_; refine Zu ?_; refine Zn ?_; refine Z0 ?_; refine JD ?_; refine XD rfl (fun hq => ?_) (fun hq => ?_); refine X0 ?_; refine JR ?_; refine Z0 ?_; refine JD ?_
 (clear ht hn hk hs hd; simp [Xq, *] at hr; subst hr; exact X1 ⟨_, St.le_refl _, ⟨rfl, trivial⟩, X2 _⟩); refine X0 ?_; refine X0 ?_; refine JR ?_; refine ZB ?_; refine ZC ?_; refine ZM ?_
 refine Z1 ?_; refine Xz rfl rfl (fun hq => ?_) (fun hq => ?_); refine ZB ?_; refine ZC ?_; refine Z9 (hcon := hs) ?_; refine Zu ?_; refine Zn ?_; refine Z0 ?_; refine JD ?_
 refine XD rfl (fun hq => ?_) (fun hq => ?_); refine X3 ?_; refine JT ?_; refine X0 ?_; refine JR ?_; refine Z0 ?_; refine JD ?_
 (clear ht hn hk hs hd; simp [Xq, *] at hr; subst hr; exact X1 ⟨_, St.le_refl _, ⟨rfl, trivial⟩, X2 _⟩); refine JR ?_; refine ZB ?_; refine ZC ?_; refine ZM ?_; refine Z1 ?_
 refine Xz rfl rfl (fun hq => ?_) (fun hq => ?_); refine ZB ?_; refine ZC ?_; refine Z9 (hcon := hd) ?_; refine Zu ?_; refine Zn ?_; refine Z0 ?_; refine JD ?_; refine XD rfl (fun hq => ?_) (fun hq => ?_)
 refine X0 ?_; refine JR ?_; refine Z0 ?_; refine JD ?_; (clear ht hn hk hs hd; simp [Xq, *] at hr; subst hr; exact X1 ⟨_, St.le_refl _, ⟨rfl, trivial⟩, X2 _⟩); refine X3 ?_; refine X0 ?_
 refine JR ?_; refine Z0 ?_; refine JD ?_; (clear ht hn hk hs hd; simp [Xq, *] at hr; subst hr; exact X1 ⟨_, St.le_refl _, ⟨rfl, trivial⟩, X2 _⟩); refine Zo ?_; refine Zo ?_; refine Zo ?_; refine Zo ?_
 refine Zq ?_; refine Z0 ?_; refine JD ?_; refine JF ?_; refine X3 ?_; refine X0 ?_; refine JR ?_; refine Z0 ?_; refine JD ?_
 (clear ht hn hk hs hd; simp [Xq, *] at hr; subst hr; exact X1 ⟨_, St.le_refl _, ⟨rfl, trivial⟩, X2 _⟩); refine Zo ?_; refine Zo ?_; refine Zo ?_; refine Zo ?_; refine Zq ?_; refine Z0 ?_; refine JD ?_
 refine JF ?_; refine JR ?_; refine ZB ?_; refine ZC ?_; refine ZM ?_; refine Z1 ?_; refine Xz rfl rfl (fun hq => ?_) (fun hq => ?_); refine ZB ?_; refine ZC ?_; refine Z9 (hcon := hd) ?_; refine Zu ?_; refine Zn ?_
 refine Z0 ?_; refine JD ?_; refine XD rfl (fun hq => ?_) (fun hq => ?_); refine X0 ?_; refine JR ?_; refine Z0 ?_; refine JD ?_
 (clear ht hn hk hs hd; simp [Xq, *] at hr; subst hr; exact X1 ⟨_, St.le_refl _, ⟨rfl, trivial⟩, X2 _⟩); refine X3 ?_; refine X0 ?_; refine JR ?_; refine Z0 ?_; refine JD ?_
 (clear ht hn hk hs hd; simp [Xq, *] at hr; subst hr; exact X1 ⟨_, St.le_refl _, ⟨rfl, trivial⟩, X2 _⟩); refine Zo ?_; refine Zo ?_; refine Zo ?_; refine Zo ?_; refine Zq ?_; refine Z0 ?_; refine JD ?_
 refine JF ?_; refine X3 ?_; refine X0 ?_; refine JR ?_; refine Z0 ?_; refine JD ?_; (clear ht hn hk hs hd; simp [Xq, *] at hr; subst hr; exact X1 ⟨_, St.le_refl _, ⟨rfl, trivial⟩, X2 _⟩)
 refine Zo ?_; refine Zo ?_; refine Zq ?_; refine Z1 ?_; refine Zo ?_; refine Zo ?_; refine Zo ?_; refine Zo ?_; refine Zq ?_; refine Z0 ?_; refine JD ?_; refine JF ?_; refine X0 ?_; refine X0 ?_; refine JR ?_
 refine ZB ?_; refine ZC ?_; refine Z9 (hcon := hn) ?_; refine Zu ?_; refine Z0 ?_; refine JD ?_; refine XD rfl (fun hq => ?_) (fun hq => ?_); refine X3 ?_; refine JT ?_; refine X0 ?_; refine JR ?_
 refine Z0 ?_; refine JD ?_; (clear ht hn hk hs hd; simp [Xq, *] at hr; subst hr; exact X1 ⟨_, St.le_refl _, ⟨rfl, trivial⟩, X2 _⟩); refine JR ?_; refine ZB ?_; refine ZC ?_; refine Z1 ?_; refine Zo ?_
 refine Zo ?_; refine Zo ?_; refine Zo ?_; refine Zq ?_; refine Z0 ?_; refine JD ?_; refine JF ?_; refine X0 ?_; refine X0 ?_; refine JR ?_; refine ZB ?_; refine ZC ?_; refine ZM ?_; refine Z1 ?_
 refine Xz rfl rfl (fun hq => ?_) (fun hq => ?_); refine ZB ?_; refine ZC ?_; refine Z9 (hcon := hs) ?_; refine Zu ?_; refine Zn ?_; refine Z0 ?_; refine JD ?_; refine XD rfl (fun hq => ?_) (fun hq => ?_)
 refine X3 ?_; refine JT ?_; refine X0 ?_; refine JR ?_; refine Z0 ?_; refine JD ?_; (clear ht hn hk hs hd; simp [Xq, *] at hr; subst hr; exact X1 ⟨_, St.le_refl _, ⟨rfl, trivial⟩, X2 _⟩)
 refine JR ?_; refine ZB ?_; refine ZC ?_; refine ZM ?_; refine Z1 ?_; refine Xz rfl rfl (fun hq => ?_) (fun hq => ?_); refine ZB ?_; refine ZC ?_; refine Z9 (hcon := hd) ?_; refine Zu ?_; refine Zn ?_; refine Z0 ?_
 refine JD ?_; refine XD rfl (fun hq => ?_) (fun hq => ?_); refine X0 ?_; refine JR ?_; refine Z0 ?_; refine JD ?_
 (clear ht hn hk hs hd; simp [Xq, *] at hr; subst hr; exact X1 ⟨_, St.le_refl _, ⟨rfl, trivial⟩, X2 _⟩); refine X3 ?_; refine X0 ?_; refine JR ?_; refine Z0 ?_; refine JD ?_
 (clear ht hn hk hs hd; simp [Xq, *] at hr; subst hr; exact X1 ⟨_, St.le_refl _, ⟨rfl, trivial⟩, X2 _⟩); refine Zo ?_; refine Zo ?_; refine Zo ?_; refine Zo ?_; refine Zq ?_; refine Z0 ?_; refine JD ?_
 refine JF ?_; refine X3 ?_; refine X0 ?_; refine JR ?_; refine Z0 ?_; refine JD ?_; (clear ht hn hk hs hd; simp [Xq, *] at hr; subst hr; exact X1 ⟨_, St.le_refl _, ⟨rfl, trivial⟩, X2 _⟩)
 refine Zo ?_; refine Zo ?_; refine Zo ?_; refine Zo ?_; refine Zq ?_; refine Z0 ?_; refine JD ?_; refine JF ?_; refine JR ?_; refine ZB ?_; refine ZC ?_; refine ZM ?_; refine Z1 ?_
 refine Xz rfl rfl (fun hq => ?_) (fun hq => ?_); refine ZB ?_; refine ZC ?_; refine Z9 (hcon := hd) ?_; refine Zu ?_; refine Zn ?_; refine Z0 ?_; refine JD ?_; refine XD rfl (fun hq => ?_) (fun hq => ?_)
 refine X0 ?_; refine JR ?_; refine Z0 ?_; refine JD ?_; (clear ht hn hk hs hd; simp [Xq, *] at hr; subst hr; exact X1 ⟨_, St.le_refl _, ⟨rfl, trivial⟩, X2 _⟩); refine X3 ?_; refine X0 ?_
 refine JR ?_; refine Z0 ?_; refine JD ?_; (clear ht hn hk hs hd; simp [Xq, *] at hr; subst hr; exact X1 ⟨_, St.le_refl _, ⟨rfl, trivial⟩, X2 _⟩); refine Zo ?_; refine Zo ?_; refine Zo ?_; refine Zo ?_
 refine Zq ?_; refine Z0 ?_; refine JD ?_; refine JF ?_; refine X3 ?_; refine X0 ?_; refine JR ?_; refine Z0 ?_; refine JD ?_
 (clear ht hn hk hs hd; simp [Xq, *] at hr; subst hr; exact X1 ⟨_, St.le_refl _, ⟨rfl, trivial⟩, X2 _⟩); refine Zo ?_; refine Zo ?_; refine Zo ?_; refine Zo ?_; refine Zp ?_; refine Zp ?_; refine Zp ?_
 refine Zo ?_; refine Zq ?_; refine Z0 ?_; refine JD ?_; refine JF ?_; refine X0 ?_; refine JR ?_; refine ZB ?_; refine ZC ?_; refine Z1 ?_; refine X1k rfl rfl (fun hq => ?_) (fun hq => ?_); refine ZB ?_
 refine ZC ?_; refine Zn ?_; refine Z1 ?_; refine X1k rfl rfl (fun hq => ?_) (fun hq => ?_); refine ZB ?_; refine ZC ?_; refine Z9 (hcon := ht) ?_; refine Zr ?_; refine Zn ?_; refine Z0 ?_; refine JD ?_
 refine Um rfl (fun hq => ?_) (fun hq => ?_); refine X0 ?_; refine JR ?_; refine Z0 ?_; refine JD ?_
 (clear ht hn hk hs hd; simp [Xq, *] at hr; subst hr; exact X1 ⟨_, St.le_refl _, ⟨rfl, trivial⟩, X2 _⟩); refine X0 ?_; refine X0 ?_; refine JR ?_; refine ZB ?_; refine ZC ?_
 refine Z9 (hcon := hn) ?_; refine Zu ?_; refine Z0 ?_; refine JD ?_; refine XD rfl (fun hq => ?_) (fun hq => ?_); refine X3 ?_; refine JT ?_; refine X0 ?_; refine JR ?_; refine Z0 ?_; refine JD ?_
 (clear ht hn hk hs hd; simp [Xq, *] at hr; subst hr; exact X1 ⟨_, St.le_refl _, ⟨rfl, trivial⟩, X2 _⟩); refine JR ?_; refine ZB ?_; refine ZC ?_; refine Z1 ?_; refine ZB ?_; refine ZC ?_
 refine Z9 (hcon := hk) ?_; refine Zu ?_; refine Zn ?_; refine Z0 ?_; refine JD ?_; refine XD rfl (fun hq => ?_) (fun hq => ?_); refine X0 ?_; refine JR ?_; refine Z0 ?_; refine JD ?_
 (clear ht hn hk hs hd; simp [Xq, *] at hr; subst hr; exact X1 ⟨_, St.le_refl _, ⟨rfl, trivial⟩, X2 _⟩); refine X0 ?_; refine X0 ?_; refine JR ?_; refine ZB ?_; refine ZC ?_; refine ZM ?_
 refine Z1 ?_; refine Xz rfl rfl (fun hq => ?_) (fun hq => ?_); refine ZB ?_; refine ZC ?_; refine Z9 (hcon := hs) ?_; refine Zu ?_; refine Zn ?_; refine Z0 ?_; refine JD ?_
 refine XD rfl (fun hq => ?_) (fun hq => ?_); refine X3 ?_; refine JT ?_; refine X0 ?_; refine JR ?_; refine Z0 ?_; refine JD ?_
 (clear ht hn hk hs hd; simp [Xq, *] at hr; subst hr; exact X1 ⟨_, St.le_refl _, ⟨rfl, trivial⟩, X2 _⟩); refine JR ?_; refine ZB ?_; refine ZC ?_; refine ZM ?_; refine Z1 ?_
 refine Xz rfl rfl (fun hq => ?_) (fun hq => ?_); refine ZB ?_; refine ZC ?_; refine Z9 (hcon := hd) ?_; refine Zu ?_; refine Zn ?_; refine Z0 ?_; refine JD ?_; refine XD rfl (fun hq => ?_) (fun hq => ?_)
 refine X0 ?_; refine JR ?_; refine Z0 ?_; refine JD ?_; (clear ht hn hk hs hd; simp [Xq, *] at hr; subst hr; exact X1 ⟨_, St.le_refl _, ⟨rfl, trivial⟩, X2 _⟩); refine X3 ?_; refine X0 ?_
 refine JR ?_; refine Z0 ?_; refine JD ?_; (clear ht hn hk hs hd; simp [Xq, *] at hr; subst hr; exact X1 ⟨_, St.le_refl _, ⟨rfl, trivial⟩, X2 _⟩); refine Zo ?_; refine Zo ?_; refine Zo ?_; refine Zo ?_
 refine Zq ?_; refine Z0 ?_; refine JD ?_; refine JF ?_; refine X3 ?_; refine X0 ?_; refine JR ?_; refine Z0 ?_; refine JD ?_
 (clear ht hn hk hs hd; simp [Xq, *] at hr; subst hr; exact X1 ⟨_, St.le_refl _, ⟨rfl, trivial⟩, X2 _⟩); refine Zo ?_; refine Zo ?_; refine Zo ?_; refine Zo ?_; refine Zq ?_; refine Z0 ?_; refine JD ?_
 refine JF ?_; refine JR ?_; refine ZB ?_; refine ZC ?_; refine ZM ?_; refine Z1 ?_; refine Xz rfl rfl (fun hq => ?_) (fun hq => ?_); refine ZB ?_; refine ZC ?_; refine Z9 (hcon := hd) ?_; refine Zu ?_; refine Zn ?_
 refine Z0 ?_; refine JD ?_; refine XD rfl (fun hq => ?_) (fun hq => ?_); refine X0 ?_; refine JR ?_; refine Z0 ?_; refine JD ?_
 (clear ht hn hk hs hd; simp [Xq, *] at hr; subst hr; exact X1 ⟨_, St.le_refl _, ⟨rfl, trivial⟩, X2 _⟩); refine X3 ?_; refine X0 ?_; refine JR ?_; refine Z0 ?_; refine JD ?_
 (clear ht hn hk hs hd; simp [Xq, *] at hr; subst hr; exact X1 ⟨_, St.le_refl _, ⟨rfl, trivial⟩, X2 _⟩); refine Zo ?_; refine Zo ?_; refine Zo ?_; refine Zo ?_; refine Zq ?_; refine Z0 ?_; refine JD ?_
 refine JF ?_; refine X3 ?_; refine X0 ?_; refine JR ?_; refine Z0 ?_; refine JD ?_; (clear ht hn hk hs hd; simp [Xq, *] at hr; subst hr; exact X1 ⟨_, St.le_refl _, ⟨rfl, trivial⟩, X2 _⟩)
 refine Zo ?_; refine Zo ?_; refine Zo ?_; refine Zo ?_; refine Zq ?_; refine Z0 ?_; refine JD ?_; refine JF ?_; refine X0 ?_; refine X0 ?_; refine JR ?_; refine ZB ?_; refine ZC ?_; refine Z9 (hcon := hn) ?_
 refine Zu ?_; refine Z0 ?_; refine JD ?_; refine XD rfl (fun hq => ?_) (fun hq => ?_); refine X3 ?_; refine JT ?_; refine X0 ?_; refine JR ?_; refine Z0 ?_; refine JD ?_
 (clear ht hn hk hs hd; simp [Xq, *] at hr; subst hr; exact X1 ⟨_, St.le_refl _, ⟨rfl, trivial⟩, X2 _⟩); refine JR ?_; refine ZB ?_; refine ZC ?_; refine Z1 ?_; refine ZB ?_; refine ZC ?_
 refine Z9 (hcon := hk) ?_; refine Zu ?_; refine Zn ?_; refine Z0 ?_; refine JD ?_; refine XD rfl (fun hq => ?_) (fun hq => ?_); refine X0 ?_; refine JR ?_; refine Z0 ?_; refine JD ?_
 (clear ht hn hk hs hd; simp [Xq, *] at hr; subst hr; exact X1 ⟨_, St.le_refl _, ⟨rfl, trivial⟩, X2 _⟩); refine X0 ?_; refine X0 ?_; refine JR ?_; refine ZB ?_; refine ZC ?_; refine ZM ?_
 refine Z1 ?_; refine Xz rfl rfl (fun hq => ?_) (fun hq => ?_); refine ZB ?_; refine ZC ?_; refine Z9 (hcon := hs) ?_; refine Zu ?_; refine Zn ?_; refine Z0 ?_; refine JD ?_
 refine XD rfl (fun hq => ?_) (fun hq => ?_); refine X3 ?_; refine JT ?_; refine X0 ?_; refine JR ?_; refine Z0 ?_; refine JD ?_
 (clear ht hn hk hs hd; simp [Xq, *] at hr; subst hr; exact X1 ⟨_, St.le_refl _, ⟨rfl, trivial⟩, X2 _⟩); refine JR ?_; refine ZB ?_; refine ZC ?_; refine ZM ?_; refine Z1 ?_
 refine Xz rfl rfl (fun hq => ?_) (fun hq => ?_); refine ZB ?_; refine ZC ?_; refine Z9 (hcon := hd) ?_; refine Zu ?_; refine Zn ?_; refine Z0 ?_; refine JD ?_; refine XD rfl (fun hq => ?_) (fun hq => ?_)
 refine X0 ?_; refine JR ?_; refine Z0 ?_; refine JD ?_; (clear ht hn hk hs hd; simp [Xq, *] at hr; subst hr; exact X1 ⟨_, St.le_refl _, ⟨rfl, trivial⟩, X2 _⟩); refine X3 ?_; refine X0 ?_
 refine JR ?_; refine Z0 ?_; refine JD ?_; (clear ht hn hk hs hd; simp [Xq, *] at hr; subst hr; exact X1 ⟨_, St.le_refl _, ⟨rfl, trivial⟩, X2 _⟩); refine Zo ?_; refine Zo ?_; refine Zo ?_; refine Zo ?_
 refine Zq ?_; refine Z0 ?_; refine JD ?_; refine JF ?_; refine X3 ?_; refine X0 ?_; refine JR ?_; refine Z0 ?_; refine JD ?_
 (clear ht hn hk hs hd; simp [Xq, *] at hr; subst hr; exact X1 ⟨_, St.le_refl _, ⟨rfl, trivial⟩, X2 _⟩); refine Zo ?_; refine Zo ?_; refine Zo ?_; refine Zo ?_; refine Zq ?_; refine Z0 ?_; refine JD ?_
 refine JF ?_; refine JR ?_; refine ZB ?_; refine ZC ?_; refine ZM ?_; refine Z1 ?_; refine Xz rfl rfl (fun hq => ?_) (fun hq => ?_); refine ZB ?_; refine ZC ?_; refine Z9 (hcon := hd) ?_; refine Zu ?_; refine Zn ?_
 refine Z0 ?_; refine JD ?_; refine XD rfl (fun hq => ?_) (fun hq => ?_); refine X0 ?_; refine JR ?_; refine Z0 ?_; refine JD ?_
 (clear ht hn hk hs hd; simp [Xq, *] at hr; subst hr; exact X1 ⟨_, St.le_refl _, ⟨rfl, trivial⟩, X2 _⟩); refine X3 ?_; refine X0 ?_; refine JR ?_; refine Z0 ?_; refine JD ?_
 (clear ht hn hk hs hd; simp [Xq, *] at hr; subst hr; exact X1 ⟨_, St.le_refl _, ⟨rfl, trivial⟩, X2 _⟩); refine Zo ?_; refine Zo ?_; refine Zo ?_; refine Zo ?_; refine Zq ?_; refine Z0 ?_; refine JD ?_
 refine JF ?_; refine X3 ?_; refine X0 ?_; refine JR ?_; refine Z0 ?_; refine JD ?_; (clear ht hn hk hs hd; simp [Xq, *] at hr; subst hr; exact X1 ⟨_, St.le_refl _, ⟨rfl, trivial⟩, X2 _⟩)
 refine Zo ?_; refine Zo ?_; refine Zq ?_; refine Z1 ?_; refine Zo ?_; refine Zo ?_; refine Zo ?_; refine Zo ?_; refine Zq ?_; refine Z0 ?_; refine JD ?_; refine JF ?_; refine X0 ?_; refine X0 ?_; refine JR ?_
 refine ZB ?_; refine ZC ?_; refine Z9 (hcon := hn) ?_; refine Zu ?_; refine Z0 ?_; refine JD ?_; refine XD rfl (fun hq => ?_) (fun hq => ?_); refine X3 ?_; refine JT ?_; refine X0 ?_; refine JR ?_
 refine Z0 ?_; refine JD ?_; (clear ht hn hk hs hd; simp [Xq, *] at hr; subst hr; exact X1 ⟨_, St.le_refl _, ⟨rfl, trivial⟩, X2 _⟩); refine JR ?_; refine ZB ?_; refine ZC ?_; refine Z1 ?_; refine Zo ?_
 refine Zo ?_; refine Zo ?_; refine Zo ?_; refine Zq ?_; refine Z0 ?_; refine JD ?_; refine JF ?_; refine X0 ?_; refine X0 ?_; refine JR ?_; refine ZB ?_; refine ZC ?_; refine ZM ?_; refine Z1 ?_
 refine Xz rfl rfl (fun hq => ?_) (fun hq => ?_); refine ZB ?_; refine ZC ?_; refine Z9 (hcon := hs) ?_; refine Zu ?_; refine Zn ?_; refine Z0 ?_; refine JD ?_; refine XD rfl (fun hq => ?_) (fun hq => ?_)
 refine X3 ?_; refine JT ?_; refine X0 ?_; refine JR ?_; refine Z0 ?_; refine JD ?_; (clear ht hn hk hs hd; simp [Xq, *] at hr; subst hr; exact X1 ⟨_, St.le_refl _, ⟨rfl, trivial⟩, X2 _⟩)
 refine JR ?_; refine ZB ?_; refine ZC ?_; refine ZM ?_; refine Z1 ?_; refine Xz rfl rfl (fun hq => ?_) (fun hq => ?_); refine ZB ?_; refine ZC ?_; refine Z9 (hcon := hd) ?_; refine Zu ?_; refine Zn ?_; refine Z0 ?_
 refine JD ?_; refine XD rfl (fun hq => ?_) (fun hq => ?_); refine X0 ?_; refine JR ?_; refine Z0 ?_; refine JD ?_
 (clear ht hn hk hs hd; simp [Xq, *] at hr; subst hr; exact X1 ⟨_, St.le_refl _, ⟨rfl, trivial⟩, X2 _⟩); refine X3 ?_; refine X0 ?_; refine JR ?_; refine Z0 ?_; refine JD ?_
 (clear ht hn hk hs hd; simp [Xq, *] at hr; subst hr; exact X1 ⟨_, St.le_refl _, ⟨rfl, trivial⟩, X2 _⟩); refine Zo ?_; refine Zo ?_; refine Zo ?_; refine Zo ?_; refine Zq ?_; refine Z0 ?_; refine JD ?_
 refine JF ?_; refine X3 ?_; refine X0 ?_; refine JR ?_; refine Z0 ?_; refine JD ?_; (clear ht hn hk hs hd; simp [Xq, *] at hr; subst hr; exact X1 ⟨_, St.le_refl _, ⟨rfl, trivial⟩, X2 _⟩)
 refine Zo ?_; refine Zo ?_; refine Zo ?_; refine Zo ?_; refine Zq ?_; refine Z0 ?_; refine JD ?_; refine JF ?_; refine JR ?_; refine ZB ?_; refine ZC ?_; refine ZM ?_; refine Z1 ?_
 refine Xz rfl rfl (fun hq => ?_) (fun hq => ?_); refine ZB ?_; refine ZC ?_; refine Z9 (hcon := hd) ?_; refine Zu ?_; refine Zn ?_; refine Z0 ?_; refine JD ?_; refine XD rfl (fun hq => ?_) (fun hq => ?_)
 refine X0 ?_; refine JR ?_; refine Z0 ?_; refine JD ?_; (clear ht hn hk hs hd; simp [Xq, *] at hr; subst hr; exact X1 ⟨_, St.le_refl _, ⟨rfl, trivial⟩, X2 _⟩); refine X3 ?_; refine X0 ?_
 refine JR ?_; refine Z0 ?_; refine JD ?_; (clear ht hn hk hs hd; simp [Xq, *] at hr; subst hr; exact X1 ⟨_, St.le_refl _, ⟨rfl, trivial⟩, X2 _⟩); refine Zo ?_; refine Zo ?_; refine Zo ?_; refine Zo ?_
 refine Zq ?_; refine Z0 ?_; refine JD ?_; refine JF ?_; refine X3 ?_; refine X0 ?_; refine JR ?_; refine Z0 ?_; refine JD ?_
 (clear ht hn hk hs hd; simp [Xq, *] at hr; subst hr; exact X1 ⟨_, St.le_refl _, ⟨rfl, trivial⟩, X2 _⟩)
end Go.Fw
namespace Go.Fw
open Go Go.Proofs
set_option maxRecDepth 100000
set_option linter.unusedVariables false
set_option linter.unusedSimpArgs false
theorem VO {s : List UInt8} (h : s.length ≤ 20) : (Ui s).length ≤ 30 := by
 have := X45 (n := s.length) (by omega)
 unfold Ui
 rw [List.length_append]
 omega
theorem X1V {s : List UInt8} (h : Xj s = true) : s.length ≤ 20 := by
 unfold Xj at h
 simp at h
 omega
theorem Xa2 {r : Rul} (h : Yq r = 0) : (-9223372036854775808 ≤ r.n ∧ r.n ≤ 9223372036854775807) ∧ (r.name.length ≤ 20 ∧ r.key.length ≤ 20 ∧ r.src.length ≤ 20 ∧ r.dst.length ≤ 20) ∧ (1 ≤ r.kind ∧ r.kind ≤ 7) := by
 rw [X2T] at h
 unfold Vo at h
 split at h
 ·omega
 rename_i h1
 split at h
 ·omega
 rename_i h2
 split at h
 ·omega
 rename_i h3
 have i1 : 1 ≤ r.kind ∧ r.kind ≤ 7 := by
  cases hd : decide (1 ≤ r.kind ∧ r.kind ≤ 7) with
  | true => exact of_decide_eq_true hd
  | false => exact absurd (.inl hd) h1
 have i2 : U6 r.kind r.n = true := by
  cases hd : U6 r.kind r.n with
  | true => rfl
  | false => exact absurd (.inr hd) h1
 have nm : Xj r.name = true := by
  cases hd : Xj r.name with
  | true => rfl
  | false => exact absurd (.inl hd) h3
 have ky : r.key.length ≤ 20 := by
  by_cases hk : YW r.kind = true
  ·refine X1V (s := r.key) ?_
   cases hd : Xj r.key with
   | true => rfl
   | false => exact absurd (.inr (.inl ⟨hk, hd⟩)) h3
  ·by_cases he : r.key = []
   ·rw [he]; simp
   ·exact absurd (.inl ⟨by simpa using hk, he⟩) h2
 have sr : r.src.length ≤ 20 := by
  by_cases he : r.src = []
  ·rw [he]; simp
  ·refine X1V (s := r.src) ?_
   cases hd : Xj r.src with
   | true => rfl
   | false => exact absurd (.inr (.inr (.inl ⟨he, hd⟩))) h3
 have ds : r.dst.length ≤ 20 := by
  by_cases he : r.dst = []
  ·rw [he]; simp
  ·refine X1V (s := r.dst) ?_
   cases hd : Xj r.dst with
   | true => rfl
   | false => exact absurd (.inr (.inr (.inr ⟨he, hd⟩))) h3
 refine ⟨?_, ⟨X1V nm, ky, sr, ds⟩, i1⟩
 unfold U6 at i2
 split at i2
 ·have := of_decide_eq_true i2; omega
 ·split at i2
  ·have := of_decide_eq_true i2; omega
  ·have := of_decide_eq_true i2; omega
end Go.Fw
namespace Go.Fw
open Go Go.Proofs
set_option maxRecDepth 100000
set_option linter.unusedVariables false
set_option linter.unusedSimpArgs false
theorem X0m {n : Int} (h : 0 ≤ n ∧ n ≤ 9223372036854775807) : (Uz n).length ≤ 10 := by
 rw [X3I h.1]
 exact X3q (by omega)
theorem X81 {r : Rul} (h : Yq r = 0) : (X3i r).length ≤ 200 := by
 obtain ⟨h1, ⟨l1, l2, l3, l4⟩, h3⟩ := Xa2 h
 have := VO l1
 have := VO l2
 have := VO l3
 have := VO l4
 have := X1O h1
 unfold X3i
 simp only [List.length_cons, List.length_append]
 omega
end Go.Fw
namespace Go.Fw
open Go
set_option linter.unusedVariables false
def X0R (p : Prp) : List UInt8 := Ui p.key ++ X3p p.v
def VT {α : Type} (w : α → List UInt8) (l : List α) : List UInt8 := Uz l.length ++ (l.map w).flatten
def X5a (n : Nod) : List UInt8 := Uz n.id ++ (VT Ui n.labels ++ VT X0R n.props)
def X5W (e : Edg) : List UInt8 := Uz e.id ++ (Uz e.src ++ (Uz e.dst ++ (Ui e.typ ++ VT X0R e.props)))
structure Rd where
 k : Nat
 c : List UInt8
 a : Int
 e : Int
def Rd.put (s : Rd) (a e : Int) : Rd := ⟨s.k, s.c, a, e⟩
end Go.Fw
namespace Go.Fw
open Go
set_option linter.unusedVariables false
set_option linter.unusedSimpArgs false
structure At (b : List UInt8) (q : Nat) (w : List UInt8) : Prop where
 le : q ≤ b.length
 eq : b.drop q = w
theorem At.step {b : List UInt8} {q : Nat} {u w : List UInt8} (h : At b q (u ++ w)) : At b (q + u.length) w := by
 have h1 := congrArg List.length h.eq
 simp only [List.length_drop, List.length_append] at h1
 refine ⟨by have := h.le; omega, ?_⟩
 rw [← List.drop_drop, h.eq, List.drop_left]
theorem At.split {b : List UInt8} {q : Nat} {u w : List UInt8} (h : At b q (u ++ w)) : b = b.take q ++ u ++ w ∧ (b.take q).length = q := by
 refine ⟨?_, by have := h.le; simp; omega⟩
 rw [List.append_assoc, ← h.eq, List.take_append_drop]
theorem At.cons {b : List UInt8} {q : Nat} {c : UInt8} {w : List UInt8} (h : At b q (c :: w)) : b[q]? = some c ∧ At b (q + 1) w := by
 refine ⟨?_, At.step (u := [c]) h⟩
 have := congrArg (·[0]?) h.eq
 simpa using this
theorem At.eqv {b : List UInt8} {q q' : Nat} {w w' : List UInt8} (h : At b q w) (hq : q = q') (hw : w = w') : At b q' w' := hq ▸ hw ▸ h
end Go.Fw
namespace Go.Fw
open Go
set_option linter.unusedVariables false
set_option linter.unusedSimpArgs false
def okN (n : Int) : Prop := 0 ≤ n ∧ n ≤ 9223372036854775807
def okP (p : Prp) : Prop := p.key.length ≤ 20 ∧ X5 8 p.v = true
def okL {α : Type} (ok : α → Prop) (l : List α) : Prop := (∀ x ∈ l, ok x) ∧ l.length ≤ 9223372036854775807
def Xbb (n : Nod) : Prop := okN n.id ∧ okL (fun s => s.length ≤ 20) n.labels ∧ okL okP n.props
def X7G (e : Edg) : Prop := okN e.id ∧ okN e.src ∧ okN e.dst ∧ e.typ.length ≤ 20 ∧ okL okP e.props
end Go.Fw
namespace Go.Fw
open Go
set_option linter.unusedVariables false
set_option linter.unusedSimpArgs false
theorem X2N {α : Type} {w : α → List UInt8} {k : Nat} : ∀ {l : List α}, (∀ x ∈ l, (w x).length ≤ k) → (l.map w).flatten.length ≤ k * l.length
 | [], _ => by simp
 | x :: r, h => by
  have h1 := h x (by simp)
  have h2 := X2N (l := r) fun y hy => h y (by simp [hy])
  simp only [List.map_cons, List.flatten_cons, List.length_append, List.length_cons, Nat.mul_add, Nat.mul_one]
  omega
theorem X1B {s : List UInt8} (h : Xj s = true) : s.length ≤ 20 := by
 unfold Xj at h
 simp only [Bool.and_eq_true, decide_eq_true_eq] at h
 exact h.1.1.2
theorem X3f {v : Val} (h : XF v = true) : X5 8 v = true ∧ (v.kind = 1 ∨ v.kind = 2 ∨ v.kind = 4) := by
 unfold XF X1Z at h
 simp only [Bool.and_eq_true, decide_eq_true_eq] at h
 exact ⟨h.2, h.1⟩
theorem XaX {v : Val} (h : XF v = true) : (X3p v).length ≤ 111 := by
 obtain ⟨h1, h2⟩ := X3f h
 unfold X3p
 rw [if_pos h1]
 obtain ⟨k, n, d, s, l⟩ := v
 simp only [Val.kind] at h2
 exact X7s h1 (by omega) (by omega)
theorem X1U {ls : List (List UInt8)} {ps : List Prp} (h : Ya ls ps = 0) : (ls.length ≤ 8 ∧ ∀ s ∈ ls, s.length ≤ 20) ∧ ps.length ≤ 16 ∧ ∀ p ∈ ps, p.key.length ≤ 20 ∧ XF p.v = true := by
 unfold Ya at h
 by_cases c1 : 8 < ls.length ∨ 16 < ps.length
 ·rw [if_pos c1] at h; simp at h
 rw [if_neg c1] at h
 by_cases c2 : ls.all Xj = false ∨ (ps.map Prp.key).all Xj = false
 ·rw [if_pos c2] at h; simp at h
 rw [if_neg c2] at h
 by_cases c3 : Ym ls = false ∨ Ym (ps.map Prp.key) = false
 ·rw [if_pos c3] at h; simp at h
 rw [if_neg c3] at h
 by_cases c4 : (ps.map Prp.v).all XF = false
 ·rw [if_pos c4] at h; simp at h
 have e1 : ls.all Xj = true := by cases q : ls.all Xj <;> simp_all
 have e2 : (ps.map Prp.key).all Xj = true := by cases q : (ps.map Prp.key).all Xj <;> simp_all
 have e4 : (ps.map Prp.v).all XF = true := by cases q : (ps.map Prp.v).all XF <;> simp_all
 rw [List.all_eq_true] at e1 e2 e4
 refine ⟨⟨by omega, fun s hs => X1B (e1 s hs)⟩, by omega, fun p hp => ⟨X1B (e2 p.key (List.mem_map.2 ⟨p, hp, rfl⟩)), e4 p.v (List.mem_map.2 ⟨p, hp, rfl⟩)⟩⟩
theorem X4H {ps : List Prp} (hl : ps.length ≤ 16) (h : ∀ p ∈ ps, p.key.length ≤ 20 ∧ XF p.v = true) : okL okP ps ∧ (VT X0R ps).length ≤ 2266 := by
 refine ⟨⟨fun p hp => ⟨(h p hp).1, (X3f (h p hp).2).1⟩, by omega⟩, ?_⟩
 unfold VT
 have h1 := X0m (n := (ps.length : Nat)) (by omega)
 have h2 := X2N (w := X0R) (k := 141) (l := ps) fun p hp => by
  unfold X0R
  have a := VO (h p hp).1
  have b := XaX (h p hp).2
  simp only [List.length_append]
  omega
 simp only [List.length_append]
 omega
theorem XaO {ls : List (List UInt8)} (hl : ls.length ≤ 8) (h : ∀ s ∈ ls, s.length ≤ 20) : okL (fun s : List UInt8 => s.length ≤ 20) ls ∧ (VT Ui ls).length ≤ 250 := by
 refine ⟨⟨h, by omega⟩, ?_⟩
 unfold VT
 have h1 := X0m (n := (ls.length : Nat)) (by omega)
 have h2 := X2N (w := Ui) (k := 30) (l := ls) fun s hs => by have := VO (h s hs); omega
 simp only [List.length_append]
 omega
theorem X9C {nn : Int} {p : Option Nod} {n : Nod} (h : Ye nn p n = 0) : 1 ≤ n.id ∧ n.id < nn ∧ Ya n.labels n.props = 0 := by
 unfold Ye at h
 by_cases c1 : ∃ q, p = some q ∧ n.id ≤ q.id
 ·rw [if_pos c1] at h; simp at h
 rw [if_neg c1] at h
 by_cases c2 : n.id < 1 ∨ nn ≤ n.id
 ·rw [if_pos c2] at h; simp at h
 rw [if_neg c2] at h
 exact ⟨by omega, by omega, h⟩
theorem X01 {nn : Int} : ∀ (l : List Nod) (p : Option Nod), XZ nn p l = 0 → ∀ n ∈ l, 1 ≤ n.id ∧ n.id < nn ∧ Ya n.labels n.props = 0
 | [], _, _, n, h => by simp at h
 | x :: r, p, h, n, hn => by
  rw [XZ] at h
  have h0 : Ye nn p x = 0 := by
   by_cases h0 : Ye nn p x = 0
   ·exact h0
   ·rw [if_pos h0] at h; exact absurd h h0
  rw [h0, if_neg (by simp)] at h
  rcases List.mem_cons.1 hn with rfl | hn
  ·exact X9C h0
  ·exact X01 r _ h n hn
theorem X7f {ns : List Nod} {ne : Int} {p : Option Edg} {e : Edg} (h : YI ns ne p e = 0) : 1 ≤ e.id ∧ e.id < ne ∧ XA ns e.src = true ∧ XA ns e.dst = true ∧ Xj e.typ = true ∧ Ya [] e.props = 0 := by
 unfold YI at h
 by_cases c1 : ∃ q, p = some q ∧ e.id ≤ q.id
 ·rw [if_pos c1] at h; simp at h
 rw [if_neg c1] at h
 by_cases c2 : e.id < 1 ∨ ne ≤ e.id
 ·rw [if_pos c2] at h; simp at h
 rw [if_neg c2] at h
 by_cases c3 : XA ns e.src = false ∨ XA ns e.dst = false
 ·rw [if_pos c3] at h; simp at h
 rw [if_neg c3] at h
 by_cases c4 : Xj e.typ = false
 ·rw [if_pos c4] at h; simp at h
 rw [if_neg c4] at h
 simp only [not_or, Bool.not_eq_false] at c3 c4
 exact ⟨by omega, by omega, c3.1, c3.2, c4, h⟩
theorem X1G {ns : List Nod} {ne : Int} : ∀ (l : List Edg) (p : Option Edg), YG ns ne p l = 0 → ∀ e ∈ l, 1 ≤ e.id ∧ e.id < ne ∧ XA ns e.src = true ∧ XA ns e.dst = true ∧ Xj e.typ = true ∧ Ya [] e.props = 0
 | [], _, _, n, h => by simp at h
 | x :: r, p, h, n, hn => by
  rw [YG] at h
  have h0 : YI ns ne p x = 0 := by
   by_cases h0 : YI ns ne p x = 0
   ·exact h0
   ·rw [if_pos h0] at h; exact absurd h h0
  rw [h0, if_neg (by simp)] at h
  rcases List.mem_cons.1 hn with rfl | hn
  ·exact X7f h0
  ·exact X1G r _ h n hn
structure GraOk (g : Gra) : Prop where
 nl : g.nodes.length ≤ 2000
 el : g.edges.length ≤ 4000
 nn : 1 ≤ g.nn ∧ g.nn ≤ 1000001
 ne : 1 ≤ g.ne ∧ g.ne ≤ 1000001
 nodes : ∀ n ∈ g.nodes, Xbb n ∧ (X5a n).length ≤ 2526
 edges : ∀ e ∈ g.edges, X7G e ∧ (X5W e).length ≤ 2326
theorem X8j {g : Gra} (h : XC g = 0) : GraOk g := by
 unfold XC at h
 by_cases c1 : 2000 < g.nodes.length ∨ 4000 < g.edges.length
 ·rw [if_pos c1] at h; simp at h
 rw [if_neg c1] at h
 by_cases c2 : g.nn < 1 ∨ 1000001 < g.nn ∨ g.ne < 1 ∨ 1000001 < g.ne
 ·rw [if_pos c2] at h; simp at h
 rw [if_neg c2] at h
 by_cases c3 : XZ g.nn none g.nodes ≠ 0
 ·rw [if_pos c3] at h; exact absurd h c3
 rw [if_neg c3] at h
 have c3 : XZ g.nn none g.nodes = 0 := by simpa using c3
 have hn := X01 _ _ c3
 have he := X1G _ _ h
 have hid : ∀ i, XA g.nodes i = true → 1 ≤ i ∧ i < g.nn := by
  intro i hi
  unfold XA at hi
  rw [List.any_eq_true] at hi
  obtain ⟨x, hx, e⟩ := hi
  have := hn x hx
  simp only [decide_eq_true_eq] at e
  omega
 refine ⟨by omega, by omega, by omega, by omega, fun n q => ?_, fun e q => ?_⟩
 ·obtain ⟨h1, h2, h3⟩ := hn n q
  obtain ⟨⟨p1, p2⟩, p3, p4⟩ := X1U h3
  obtain ⟨a1, a2⟩ := X4H p3 p4
  obtain ⟨b1, b2⟩ := XaO p1 p2
  refine ⟨⟨⟨by omega, by omega⟩, b1, a1⟩, ?_⟩
  have := X0m (n := n.id) (by omega)
  unfold X5a
  simp only [List.length_append]
  omega
 ·obtain ⟨h1, h2, h3, h4, h5, h6⟩ := he e q
  obtain ⟨_, p3, p4⟩ := X1U h6
  obtain ⟨a1, a2⟩ := X4H p3 p4
  have s1 := hid _ h3
  have s2 := hid _ h4
  refine ⟨⟨⟨by omega, by omega⟩, ⟨by omega, by omega⟩, ⟨by omega, by omega⟩, X1B h5, a1⟩, ?_⟩
  have := X0m (n := e.id) (by omega)
  have := X0m (n := e.src) (by omega)
  have := X0m (n := e.dst) (by omega)
  have := VO (X1B h5)
  unfold X5W
  simp only [List.length_append]
  omega
theorem X4E : ∀ (l : List Rul) (p : Option Rul), UT p l = true → ∀ r ∈ l, Yq r = 0
 | [], _, _, r, h => by simp at h
 | x :: l, p, h, r, hr => by
  rw [UT] at h
  simp only [Bool.and_eq_true, decide_eq_true_eq] at h
  rcases List.mem_cons.1 hr with rfl | hr
  ·exact h.1.1
  ·exact X4E l _ h.2 r hr
theorem X1J {l : List Rul} (h : Uj l = true) : l.length ≤ 40 ∧ ∀ r ∈ l, Yq r = 0 ∧ (X6h r).length ≤ 200 := by
 unfold Uj at h
 simp only [Bool.and_eq_true, decide_eq_true_eq] at h
 refine ⟨h.2, fun r hr => ?_⟩
 have := X4E _ _ h.1 r hr
 refine ⟨this, ?_⟩
 unfold X6h
 rw [if_pos this]
 exact X81 this
end Go.Fw

/- The check of a rule: the program's. -/
import Derived.Test.YtbhleedlnaakkaaGreatK13
set_option maxHeartbeats 32000000
namespace Go.Fw
open Go Go.Proofs
set_option maxRecDepth 100000
set_option linter.unusedVariables false
set_option linter.unusedSimpArgs false
def U9 (k n : Int) : Bool := if k = 3 ∨ k = 5 then decide (n = 1 ∨ n = 2 ∨ n = 4) else if k = 7 then decide (0 ≤ n ∧ n ≤ 4000) else decide (n = 0)
def Ve (k : Int) (nb : Bool) (key src dst : List UInt8) (vn vk vs vd : Bool) : Int :=
 if decide (1 ≤ k ∧ k ≤ 7) = false ∨ nb = false then 1
 else if (YV k = false ∧ key ≠ []) ∨ (k ≠ 6 ∧ (src ≠ [] ∨ dst ≠ [])) then 1
 else if vn = false ∨ (YV k = true ∧ vk = false) ∨ (src ≠ [] ∧ vs = false) ∨ (dst ≠ [] ∧ vd = false) then 6 else 0
theorem X1R (r : Rul) : Yr r = Ve r.kind (U9 r.kind r.n) r.key r.src r.dst (Xl r.name) (Xl r.key) (Xl r.src) (Xl r.dst) := rfl
abbrev X6e (k n : Int) (name key src dst : List UInt8) : AVal := .agg [ai k, ai n, .d (.v (.string (X7 name))), .d (.v (.string (X7 key))), .d (.v (.string (X7 src))), .d (.v (.string (X7 dst)))]
def Xv (r : Rul) : AVal := X6e r.kind r.n r.name r.key r.src r.dst
def ktS (n : Int) : List UInt8 := if n = 1 then [98, 111, 111, 108] else if n = 2 then [105, 110, 116] else if n = 4 then [115, 116, 114] else []
theorem X8r (n : Int) : Con Tryz.prog 124 [] [ai n] [] (.d (.v (.string (X7 (ktS n))))) := by
 refine Xa (xs := [.d (.v (.string (X7 (ktS n))))]) Tryz.func124 rfl Tryz.ntmps124 rfl rfl rfl (fun E => ?_)
 by_cases h1 : n = 1
 ·subst h1
  refine X0 ?_; refine JR ?_; refine Z0 ?_; refine JD ?_; refine X0 ?_; refine X0 ?_; refine JR ?_; refine Z1 ?_; refine JD ?_; refine X4 ?_; refine X0 ?_; refine JR ?_; refine Zl ?_
  refine Z0 ?_; refine JD ?_; refine JT ?_; refine X0 ?_; refine JR ?_; refine Z0 ?_; refine JD ?_
  exact X1 ⟨_, St.le_refl _, ⟨rfl, trivial⟩, X2 _⟩
 by_cases h2 : n = 2
 ·subst h2
  repeat first | refine X0 ?_ | (refine JR ?_; (repeat first | refine Z1 ?_ | refine Z0 ?_ | refine Zl ?_); refine JD ?_) | refine JT ?_ | refine JF ?_ | refine X4 ?_
  exact X1 ⟨_, St.le_refl _, ⟨rfl, trivial⟩, X2 _⟩
 by_cases h4 : n = 4
 ·subst h4
  repeat first | refine X0 ?_ | (refine JR ?_; (repeat first | refine Z1 ?_ | refine Z0 ?_ | refine Zl ?_); refine JD ?_) | refine JT ?_ | refine JF ?_ | refine X4 ?_
  exact X1 ⟨_, St.le_refl _, ⟨rfl, trivial⟩, X2 _⟩
 rw [show ktS n = [] by simp [ktS, h1, h2, h4]]
 repeat first | refine X0 ?_ | (refine JR ?_; (repeat first | refine Z1 ?_ | refine Z0 ?_ | refine Zl ?_); refine JD ?_) | refine JF ?_ | refine X4 ?_ | refine X3 ?_
 exact X1 ⟨_, St.le_refl _, ⟨rfl, trivial⟩, X2 _⟩
def Ys (ky nu en ok : Bool) (n : Int) (key src dst : List UInt8) : Bool := !ok || (!ky && decide (key ≠ [])) || (!nu && decide (n ≠ 0)) || (!en && (decide (src ≠ []) || decide (dst ≠ [])))
def Xs (a ky nu : Bool) (k n : Int) (kt src dst : List UInt8) (vn vk vs vd : Bool) : Int :=
 if a = true then 1 else if k = 7 ∧ (n < 0 ∨ 4000 < n) then 1 else if ky = true ∧ nu = true ∧ kt = [] then 1
 else if vn = false ∨ (ky = true ∧ vk = false) then 6 else if (src ≠ [] ∧ vs = false) ∨ (dst ≠ [] ∧ vd = false) then 6 else 0
theorem Xap (k n : Int) (key src dst : List UInt8) (vn vk vs vd : Bool) : Ve k (U9 k n) key src dst vn vk vs vd =
  Xs (Ys (YE k).1 (YE k).2.1 (YE k).2.2.1 (YE k).2.2.2 n key src dst) (YE k).1 (YE k).2.1 k n (ktS n) src dst vn vk vs vd := by
 by_cases hk : 1 ≤ k ∧ k ≤ 7
 ·have h7 : k = 1 ∨ k = 2 ∨ k = 3 ∨ k = 4 ∨ k = 5 ∨ k = 6 ∨ k = 7 := by omega
  have hn : n = 0 ∨ n = 1 ∨ n = 2 ∨ n = 4 ∨ (n ≠ 0 ∧ n ≠ 1 ∧ n ≠ 2 ∧ n ≠ 4) := by omega
  rcases h7 with rfl | rfl | rfl | rfl | rfl | rfl | rfl
  all_goals
   unfold Ve Xs Ys YE U9 YV
   by_cases h1 : key = [] <;> by_cases h2 : src = [] <;> by_cases h3 : dst = []
   all_goals rcases hn with rfl | rfl | rfl | rfl | ⟨n0, n1, n2, n4⟩
   all_goals first
    | (simp [ktS, *]; done)
    | (by_cases m1 : n < 0 <;> by_cases m2 : 4000 < n <;> simp [ktS, *] <;> omega)
    | (cases vn <;> cases vk <;> cases vs <;> cases vd <;> simp [ktS, *])
 ·unfold Ve Xs Ys YE
  simp [hk]
theorem X3T (r : Rul) : Con Tryz.prog 74 [] [Xv r] [] (ai (Yr r)) := by
 rw [X1R, Xap]
 obtain ⟨k, n, name, key, src, dst⟩ := r
 simp only [Xv]
 have hn := X0d name
 have hk := X0d key
 have hs := X0d src
 have hd := X0d dst
 have ht := X8r n
 have hf := X75 k
 generalize Xl name = vn at *
 generalize Xl key = vk at *
 generalize Xl src = vs at *
 generalize Xl dst = vd at *
 generalize ktS n = kt at *
 generalize YE k = u at *
 obtain ⟨ky, nu, en, ok⟩ := u
 simp only at hf
 show Con _ _ _ _ _ (ai (Xs (Ys ky nu en ok n key src dst) ky nu k n kt src dst vn vk vs vd))
 generalize ha : Ys ky nu en ok n key src dst = a
 refine Xa (xs := [ai (Xs a ky nu k n kt src dst vn vk vs vd)]) Tryz.func74 rfl Tryz.ntmps74 rfl rfl rfl (fun E => ?_)
 refine X0 ?_; refine JR ?_; refine ZA (γ := 100) ?_; refine Z0 ?_; refine JD ?_; refine X0 ?_; refine JR ?_; refine ZB ?_; refine ZC ?_; refine Z9 (hcon := hf) ?_; refine Z1 ?_; refine ZF ?_; refine ZF ?_
 refine Zw (γ := 101) ?_; refine Zy ?_; refine Z0 ?_; refine JD ?_; refine X0 ?_
 refine X4 ?_
 refine X0 ?_
 refine X9a ⟨102, [(1, .ptr 100 0), (3, .ptr 101 0), (11, ab a)], [(100, .box [ai k, ai n, .d (.v (.string (X7 name))), .d (.v (.string (X7 key))), .d (.v (.string (X7 src))), .d (.v (.string (X7 dst)))]), (101, .box [ab ky, ab nu, ab en])]⟩ ?_ ?_
 ·refine X0 ?_; refine JR ?_; refine Z1 ?_; refine Zu ?_; refine Z0 ?_; refine JD ?_; refine XN rfl (fun hq => ?_) (fun hq => ?_); refine X3 ?_
  ((clear hf ht hn hk hs hd; refine X6 rfl ⟨AVal.le_refl _, AVal.le_refl _, AVal.le_of_eq (congrArg ab (by subst ha; simp [Ys, *])), trivial⟩ ⟨rfl, rfl, trivial⟩)); refine X0 ?_; refine JR ?_; refine ZB ?_
  refine ZC ?_; refine Zu ?_; refine Z1 ?_; refine U3 rfl rfl (fun hq => ?_) (fun hq => ?_); refine Zo ?_; refine Zo ?_; refine Zo ?_; refine Zq ?_; refine Z0 ?_; refine JD ?_; refine JF ?_; refine X0 ?_
  refine JR ?_; refine ZB ?_; refine ZC ?_; refine Zu ?_; refine Z1 ?_; refine U3 rfl rfl (fun hq => ?_) (fun hq => ?_); refine Zo ?_; refine Zo ?_; refine Zo ?_; refine Zq ?_; refine Z0 ?_; refine JD ?_
  refine JF ?_; refine JR ?_; refine ZB ?_; refine ZC ?_; refine Zu ?_; refine Z1 ?_; refine U3 rfl rfl (fun hq => ?_) (fun hq => ?_); refine Zo ?_; refine Zo ?_; refine Zo ?_; refine Zo ?_; refine Zp ?_
  refine Zp ?_; refine Zp ?_; refine Zo ?_; refine Zq ?_; refine Z0 ?_; refine JD ?_
  ((clear hf ht hn hk hs hd; refine X6 rfl ⟨AVal.le_refl _, AVal.le_refl _, AVal.le_of_eq (congrArg ab (by subst ha; simp [Ys, *])), trivial⟩ ⟨rfl, rfl, trivial⟩)); refine ZB ?_; refine ZC ?_; refine ZM ?_
  refine Z1 ?_; refine XM rfl rfl (fun hq => ?_) (fun hq => ?_); refine Zo ?_; refine Zo ?_; refine Zo ?_; refine Zn ?_; refine Zn ?_; refine Z0 ?_; refine JD ?_
  ((clear hf ht hn hk hs hd; refine X6 rfl ⟨AVal.le_refl _, AVal.le_refl _, AVal.le_of_eq (congrArg ab (by subst ha; simp [Ys, *])), trivial⟩ ⟨rfl, rfl, trivial⟩)); refine ZB ?_; refine ZC ?_; refine ZM ?_
  refine Zq ?_; refine Zn ?_; refine Z0 ?_; refine JD ?_
  ((clear hf ht hn hk hs hd; refine X6 rfl ⟨AVal.le_refl _, AVal.le_refl _, AVal.le_of_eq (congrArg ab (by subst ha; simp [Ys, *])), trivial⟩ ⟨rfl, rfl, trivial⟩)); refine ZB ?_; refine ZC ?_; refine Zv ?_
  refine Zn ?_; refine Z0 ?_; refine JD ?_; refine Vm rfl (fun hq => ?_) (fun hq => ?_); refine X3 ?_
  ((clear hf ht hn hk hs hd; refine X6 rfl ⟨AVal.le_refl _, AVal.le_refl _, AVal.le_of_eq (congrArg ab (by subst ha; simp [Ys, *])), trivial⟩ ⟨rfl, rfl, trivial⟩)); refine JR ?_; refine ZB ?_; refine ZC ?_
  refine Zu ?_; refine Z1 ?_; refine U3 rfl rfl (fun hq => ?_) (fun hq => ?_); refine Zo ?_; refine Zo ?_; refine Zo ?_; refine Zo ?_; refine Zp ?_; refine Zp ?_; refine Zp ?_; refine Zo ?_; refine Zq ?_
  refine Z0 ?_; refine JD ?_; ((clear hf ht hn hk hs hd; refine X6 rfl ⟨AVal.le_refl _, AVal.le_refl _, AVal.le_of_eq (congrArg ab (by subst ha; simp [Ys, *])), trivial⟩ ⟨rfl, rfl, trivial⟩)); refine ZB ?_
  refine ZC ?_; refine ZM ?_; refine Z1 ?_; refine XM rfl rfl (fun hq => ?_) (fun hq => ?_); refine Zo ?_; refine Zo ?_; refine Zo ?_; refine Zn ?_; refine Zn ?_; refine Z0 ?_; refine JD ?_
  ((clear hf ht hn hk hs hd; refine X6 rfl ⟨AVal.le_refl _, AVal.le_refl _, AVal.le_of_eq (congrArg ab (by subst ha; simp [Ys, *])), trivial⟩ ⟨rfl, rfl, trivial⟩)); refine ZB ?_; refine ZC ?_; refine ZM ?_
  refine Zq ?_; refine Zn ?_; refine Z0 ?_; refine JD ?_
  ((clear hf ht hn hk hs hd; refine X6 rfl ⟨AVal.le_refl _, AVal.le_refl _, AVal.le_of_eq (congrArg ab (by subst ha; simp [Ys, *])), trivial⟩ ⟨rfl, rfl, trivial⟩)); refine ZB ?_; refine ZC ?_; refine ZM ?_
  refine Zn ?_; refine Z0 ?_; refine JD ?_; refine Vm rfl (fun hq => ?_) (fun hq => ?_); refine X3 ?_
  ((clear hf ht hn hk hs hd; refine X6 rfl ⟨AVal.le_refl _, AVal.le_refl _, AVal.le_of_eq (congrArg ab (by subst ha; simp [Ys, *])), trivial⟩ ⟨rfl, rfl, trivial⟩)); refine X0 ?_; refine JR ?_; refine ZB ?_
  refine ZC ?_; refine Zu ?_; refine Z1 ?_; refine U3 rfl rfl (fun hq => ?_) (fun hq => ?_); refine Zo ?_; refine Zo ?_; refine Zo ?_; refine Zq ?_; refine Z0 ?_; refine JD ?_; refine JF ?_; refine JR ?_
  refine ZB ?_; refine ZC ?_; refine Zu ?_; refine Z1 ?_; refine U3 rfl rfl (fun hq => ?_) (fun hq => ?_); refine Zo ?_; refine Zo ?_; refine Zo ?_; refine Zo ?_; refine Zp ?_; refine Zp ?_; refine Zp ?_
  refine Zo ?_; refine Zq ?_; refine Z0 ?_; refine JD ?_
  ((clear hf ht hn hk hs hd; refine X6 rfl ⟨AVal.le_refl _, AVal.le_refl _, AVal.le_of_eq (congrArg ab (by subst ha; simp [Ys, *])), trivial⟩ ⟨rfl, rfl, trivial⟩)); refine ZB ?_; refine ZC ?_; refine ZM ?_
  refine Z1 ?_; refine XM rfl rfl (fun hq => ?_) (fun hq => ?_); refine Zo ?_; refine Zo ?_; refine Zo ?_; refine Zn ?_; refine Zn ?_; refine Z0 ?_; refine JD ?_
  ((clear hf ht hn hk hs hd; refine X6 rfl ⟨AVal.le_refl _, AVal.le_refl _, AVal.le_of_eq (congrArg ab (by subst ha; simp [Ys, *])), trivial⟩ ⟨rfl, rfl, trivial⟩)); refine ZB ?_; refine ZC ?_; refine ZM ?_
  refine Zq ?_; refine Zn ?_; refine Z0 ?_; refine JD ?_
  ((clear hf ht hn hk hs hd; refine X6 rfl ⟨AVal.le_refl _, AVal.le_refl _, AVal.le_of_eq (congrArg ab (by subst ha; simp [Ys, *])), trivial⟩ ⟨rfl, rfl, trivial⟩)); refine ZB ?_; refine ZC ?_; refine Zv ?_
  refine Zn ?_; refine Z0 ?_; refine JD ?_; refine Vm rfl (fun hq => ?_) (fun hq => ?_); refine X3 ?_
  ((clear hf ht hn hk hs hd; refine X6 rfl ⟨AVal.le_refl _, AVal.le_refl _, AVal.le_of_eq (congrArg ab (by subst ha; simp [Ys, *])), trivial⟩ ⟨rfl, rfl, trivial⟩)); refine JR ?_; refine ZB ?_; refine ZC ?_
  refine Zu ?_; refine Z1 ?_; refine U3 rfl rfl (fun hq => ?_) (fun hq => ?_); refine Zo ?_; refine Zo ?_; refine Zo ?_; refine Zo ?_; refine Zp ?_; refine Zp ?_; refine Zp ?_; refine Zo ?_; refine Zq ?_
  refine Z0 ?_; refine JD ?_; ((clear hf ht hn hk hs hd; refine X6 rfl ⟨AVal.le_refl _, AVal.le_refl _, AVal.le_of_eq (congrArg ab (by subst ha; simp [Ys, *])), trivial⟩ ⟨rfl, rfl, trivial⟩)); refine ZB ?_
  refine ZC ?_; refine ZM ?_; refine Z1 ?_; refine XM rfl rfl (fun hq => ?_) (fun hq => ?_); refine Zo ?_; refine Zo ?_; refine Zo ?_; refine Zn ?_; refine Zn ?_; refine Z0 ?_; refine JD ?_
  ((clear hf ht hn hk hs hd; refine X6 rfl ⟨AVal.le_refl _, AVal.le_refl _, AVal.le_of_eq (congrArg ab (by subst ha; simp [Ys, *])), trivial⟩ ⟨rfl, rfl, trivial⟩)); refine ZB ?_; refine ZC ?_; refine ZM ?_
  refine Zq ?_; refine Zn ?_; refine Z0 ?_; refine JD ?_
  ((clear hf ht hn hk hs hd; refine X6 rfl ⟨AVal.le_refl _, AVal.le_refl _, AVal.le_of_eq (congrArg ab (by subst ha; simp [Ys, *])), trivial⟩ ⟨rfl, rfl, trivial⟩))
 clear ha hf
 obtain ⟨r, hr⟩ : ∃ r, r = Xs a ky nu k n kt src dst vn vk vs vd := ⟨_, rfl⟩
 rw [← hr]
 refine X0l rfl (fun hq => ?_) (fun hq => ?_); refine X0 ?_; refine JR ?_; refine Z0 ?_; refine JD ?_
 (clear ht hn hk hs hd; simp [Xs, *] at hr; subst hr; exact X1 ⟨_, St.le_refl _, ⟨rfl, trivial⟩, X2 _⟩); refine X0 ?_; refine JR ?_; refine ZB ?_; refine ZC ?_; refine Zl ?_; refine Z1 ?_
 refine XM rfl rfl (fun hq => ?_) (fun hq => ?_); refine ZB ?_; refine ZC ?_; refine Z8 ?_; refine Z1 ?_; refine XM rfl rfl (fun hq => ?_) (fun hq => ?_); refine Zo ?_; refine Zo ?_; refine Zo ?_; refine Zn ?_
 refine Zn ?_; refine Z0 ?_; refine JD ?_; refine JT ?_; refine X0 ?_; refine JR ?_; refine Z0 ?_; refine JD ?_
 (clear ht hn hk hs hd; simp [Xs, *] at hr; subst hr; exact X1 ⟨_, St.le_refl _, ⟨rfl, trivial⟩, X2 _⟩); refine ZB ?_; refine ZC ?_; refine Zs ?_; refine Zq ?_; refine Zn ?_; refine Z0 ?_; refine JD ?_
 refine Vm rfl (fun hq => ?_) (fun hq => ?_); refine X0 ?_; refine JR ?_; refine Z0 ?_; refine JD ?_
 (clear ht hn hk hs hd; simp [Xs, *] at hr; subst hr; exact X1 ⟨_, St.le_refl _, ⟨rfl, trivial⟩, X2 _⟩); refine X0 ?_; refine JR ?_; refine ZB ?_; refine ZC ?_; refine Z1 ?_
 refine X0Q rfl rfl (fun hq => ?_) (fun hq => ?_); refine ZB ?_; refine ZC ?_; refine Zn ?_; refine Z1 ?_; refine X0Q rfl rfl (fun hq => ?_) (fun hq => ?_); refine ZB ?_; refine ZC ?_
 refine Z9 (hcon := ht) ?_; refine Zr ?_; refine Zn ?_; refine Z0 ?_; refine JD ?_; refine Vm rfl (fun hq => ?_) (fun hq => ?_); refine X0 ?_; refine JR ?_; refine Z0 ?_; refine JD ?_
 (clear ht hn hk hs hd; simp [Xs, *] at hr; subst hr; exact X1 ⟨_, St.le_refl _, ⟨rfl, trivial⟩, X2 _⟩); refine X0 ?_; refine X0 ?_; refine JR ?_; refine ZB ?_; refine ZC ?_
 refine Z9 (hcon := hn) ?_; refine Zu ?_; refine Z0 ?_; refine JD ?_; refine XN rfl (fun hq => ?_) (fun hq => ?_); refine X3 ?_; refine JT ?_; refine X0 ?_; refine JR ?_; refine Z0 ?_; refine JD ?_
 (clear ht hn hk hs hd; simp [Xs, *] at hr; subst hr; exact X1 ⟨_, St.le_refl _, ⟨rfl, trivial⟩, X2 _⟩); refine JR ?_; refine ZB ?_; refine ZC ?_; refine Z1 ?_; refine ZB ?_; refine ZC ?_
 refine Z9 (hcon := hk) ?_; refine Zu ?_; refine Zn ?_; refine Z0 ?_; refine JD ?_; refine XN rfl (fun hq => ?_) (fun hq => ?_); refine X0 ?_; refine JR ?_; refine Z0 ?_; refine JD ?_
 (clear ht hn hk hs hd; simp [Xs, *] at hr; subst hr; exact X1 ⟨_, St.le_refl _, ⟨rfl, trivial⟩, X2 _⟩); refine X0 ?_; refine X0 ?_; refine JR ?_; refine ZB ?_; refine ZC ?_; refine ZM ?_
 refine Z1 ?_; refine XM rfl rfl (fun hq => ?_) (fun hq => ?_); refine ZB ?_; refine ZC ?_; refine Z9 (hcon := hs) ?_; refine Zu ?_; refine Zn ?_; refine Z0 ?_; refine JD ?_
 refine XN rfl (fun hq => ?_) (fun hq => ?_); refine X3 ?_; refine JT ?_; refine X0 ?_; refine JR ?_; refine Z0 ?_; refine JD ?_
 (clear ht hn hk hs hd; simp [Xs, *] at hr; subst hr; exact X1 ⟨_, St.le_refl _, ⟨rfl, trivial⟩, X2 _⟩); refine JR ?_; refine ZB ?_; refine ZC ?_; refine ZM ?_; refine Z1 ?_
 refine XM rfl rfl (fun hq => ?_) (fun hq => ?_); refine ZB ?_; refine ZC ?_; refine Z9 (hcon := hd) ?_; refine Zu ?_; refine Zn ?_; refine Z0 ?_; refine JD ?_; refine XN rfl (fun hq => ?_) (fun hq => ?_)
 refine X0 ?_; refine JR ?_; refine Z0 ?_; refine JD ?_; (clear ht hn hk hs hd; simp [Xs, *] at hr; subst hr; exact X1 ⟨_, St.le_refl _, ⟨rfl, trivial⟩, X2 _⟩); refine X3 ?_; refine X0 ?_
 refine JR ?_; refine Z0 ?_; refine JD ?_; (clear ht hn hk hs hd; simp [Xs, *] at hr; subst hr; exact X1 ⟨_, St.le_refl _, ⟨rfl, trivial⟩, X2 _⟩); refine Zo ?_; refine Zo ?_; refine Zo ?_; refine Zo ?_
 refine Zq ?_; refine Z0 ?_; refine JD ?_; refine JF ?_; refine X3 ?_; refine X0 ?_; refine JR ?_; refine Z0 ?_; refine JD ?_
 (clear ht hn hk hs hd; simp [Xs, *] at hr; subst hr; exact X1 ⟨_, St.le_refl _, ⟨rfl, trivial⟩, X2 _⟩); refine Zo ?_; refine Zo ?_; refine Zo ?_; refine Zo ?_; refine Zq ?_; refine Z0 ?_; refine JD ?_
 refine JF ?_; refine JR ?_; refine ZB ?_; refine ZC ?_; refine ZM ?_; refine Z1 ?_; refine XM rfl rfl (fun hq => ?_) (fun hq => ?_); refine ZB ?_; refine ZC ?_; refine Z9 (hcon := hd) ?_; refine Zu ?_; refine Zn ?_
 refine Z0 ?_; refine JD ?_; refine XN rfl (fun hq => ?_) (fun hq => ?_); refine X0 ?_; refine JR ?_; refine Z0 ?_; refine JD ?_
 (clear ht hn hk hs hd; simp [Xs, *] at hr; subst hr; exact X1 ⟨_, St.le_refl _, ⟨rfl, trivial⟩, X2 _⟩); refine X3 ?_; refine X0 ?_; refine JR ?_; refine Z0 ?_; refine JD ?_
 (clear ht hn hk hs hd; simp [Xs, *] at hr; subst hr; exact X1 ⟨_, St.le_refl _, ⟨rfl, trivial⟩, X2 _⟩); refine Zo ?_; refine Zo ?_; refine Zo ?_; refine Zo ?_; refine Zq ?_; refine Z0 ?_; refine JD ?_
 refine JF ?_; refine X3 ?_; refine X0 ?_; refine JR ?_; refine Z0 ?_; refine JD ?_; (clear ht hn hk hs hd; simp [Xs, *] at hr; subst hr; exact X1 ⟨_, St.le_refl _, ⟨rfl, trivial⟩, X2 _⟩)
 refine Zo ?_; refine Zo ?_; refine Zo ?_; refine Zo ?_; refine Zq ?_; refine Z0 ?_; refine JD ?_; refine JF ?_; refine X0 ?_; refine X0 ?_; refine JR ?_; refine ZB ?_; refine ZC ?_; refine Z9 (hcon := hn) ?_
 refine Zu ?_; refine Z0 ?_; refine JD ?_; refine XN rfl (fun hq => ?_) (fun hq => ?_); refine X3 ?_; refine JT ?_; refine X0 ?_; refine JR ?_; refine Z0 ?_; refine JD ?_
 (clear ht hn hk hs hd; simp [Xs, *] at hr; subst hr; exact X1 ⟨_, St.le_refl _, ⟨rfl, trivial⟩, X2 _⟩); refine JR ?_; refine ZB ?_; refine ZC ?_; refine Z1 ?_; refine ZB ?_; refine ZC ?_
 refine Z9 (hcon := hk) ?_; refine Zu ?_; refine Zn ?_; refine Z0 ?_; refine JD ?_; refine XN rfl (fun hq => ?_) (fun hq => ?_); refine X0 ?_; refine JR ?_; refine Z0 ?_; refine JD ?_
 (clear ht hn hk hs hd; simp [Xs, *] at hr; subst hr; exact X1 ⟨_, St.le_refl _, ⟨rfl, trivial⟩, X2 _⟩); refine X0 ?_; refine X0 ?_; refine JR ?_; refine ZB ?_; refine ZC ?_; refine ZM ?_
 refine Z1 ?_; refine XM rfl rfl (fun hq => ?_) (fun hq => ?_); refine ZB ?_; refine ZC ?_; refine Z9 (hcon := hs) ?_; refine Zu ?_; refine Zn ?_; refine Z0 ?_; refine JD ?_
 refine XN rfl (fun hq => ?_) (fun hq => ?_); refine X3 ?_; refine JT ?_; refine X0 ?_; refine JR ?_; refine Z0 ?_; refine JD ?_
 (clear ht hn hk hs hd; simp [Xs, *] at hr; subst hr; exact X1 ⟨_, St.le_refl _, ⟨rfl, trivial⟩, X2 _⟩); refine JR ?_; refine ZB ?_; refine ZC ?_; refine ZM ?_; refine Z1 ?_
 refine XM rfl rfl (fun hq => ?_) (fun hq => ?_); refine ZB ?_; refine ZC ?_; refine Z9 (hcon := hd) ?_; refine Zu ?_; refine Zn ?_; refine Z0 ?_; refine JD ?_; refine XN rfl (fun hq => ?_) (fun hq => ?_)
 refine X0 ?_; refine JR ?_; refine Z0 ?_; refine JD ?_; (clear ht hn hk hs hd; simp [Xs, *] at hr; subst hr; exact X1 ⟨_, St.le_refl _, ⟨rfl, trivial⟩, X2 _⟩); refine X3 ?_; refine X0 ?_
 refine JR ?_; refine Z0 ?_; refine JD ?_; (clear ht hn hk hs hd; simp [Xs, *] at hr; subst hr; exact X1 ⟨_, St.le_refl _, ⟨rfl, trivial⟩, X2 _⟩); refine Zo ?_; refine Zo ?_; refine Zo ?_; refine Zo ?_
 refine Zq ?_; refine Z0 ?_; refine JD ?_; refine JF ?_; refine X3 ?_; refine X0 ?_; refine JR ?_; refine Z0 ?_; refine JD ?_
 (clear ht hn hk hs hd; simp [Xs, *] at hr; subst hr; exact X1 ⟨_, St.le_refl _, ⟨rfl, trivial⟩, X2 _⟩); refine Zo ?_; refine Zo ?_; refine Zo ?_; refine Zo ?_; refine Zq ?_; refine Z0 ?_; refine JD ?_
 refine JF ?_; refine JR ?_; refine ZB ?_; refine ZC ?_; refine ZM ?_; refine Z1 ?_; refine XM rfl rfl (fun hq => ?_) (fun hq => ?_); refine ZB ?_; refine ZC ?_; refine Z9 (hcon := hd) ?_; refine Zu ?_; refine Zn ?_
 refine Z0 ?_; refine JD ?_; refine XN rfl (fun hq => ?_) (fun hq => ?_); refine X0 ?_; refine JR ?_; refine Z0 ?_; refine JD ?_
 (clear ht hn hk hs hd; simp [Xs, *] at hr; subst hr; exact X1 ⟨_, St.le_refl _, ⟨rfl, trivial⟩, X2 _⟩); refine X3 ?_; refine X0 ?_; refine JR ?_; refine Z0 ?_; refine JD ?_
 (clear ht hn hk hs hd; simp [Xs, *] at hr; subst hr; exact X1 ⟨_, St.le_refl _, ⟨rfl, trivial⟩, X2 _⟩); refine Zo ?_; refine Zo ?_; refine Zo ?_; refine Zo ?_; refine Zq ?_; refine Z0 ?_; refine JD ?_
 refine JF ?_; refine X3 ?_; refine X0 ?_; refine JR ?_; refine Z0 ?_; refine JD ?_; (clear ht hn hk hs hd; simp [Xs, *] at hr; subst hr; exact X1 ⟨_, St.le_refl _, ⟨rfl, trivial⟩, X2 _⟩)
 refine Zo ?_; refine Zo ?_; refine Zq ?_; refine Z1 ?_; refine Zo ?_; refine Zo ?_; refine Zo ?_; refine Zo ?_; refine Zq ?_; refine Z0 ?_; refine JD ?_; refine JF ?_; refine X0 ?_; refine X0 ?_; refine JR ?_
 refine ZB ?_; refine ZC ?_; refine Z9 (hcon := hn) ?_; refine Zu ?_; refine Z0 ?_; refine JD ?_; refine XN rfl (fun hq => ?_) (fun hq => ?_); refine X3 ?_; refine JT ?_; refine X0 ?_; refine JR ?_
 refine Z0 ?_; refine JD ?_; (clear ht hn hk hs hd; simp [Xs, *] at hr; subst hr; exact X1 ⟨_, St.le_refl _, ⟨rfl, trivial⟩, X2 _⟩); refine JR ?_; refine ZB ?_; refine ZC ?_; refine Z1 ?_; refine Zo ?_
 refine Zo ?_; refine Zo ?_; refine Zo ?_; refine Zq ?_; refine Z0 ?_; refine JD ?_; refine JF ?_; refine X0 ?_; refine X0 ?_; refine JR ?_; refine ZB ?_; refine ZC ?_; refine ZM ?_; refine Z1 ?_
 refine XM rfl rfl (fun hq => ?_) (fun hq => ?_); refine ZB ?_; refine ZC ?_; refine Z9 (hcon := hs) ?_; refine Zu ?_; refine Zn ?_; refine Z0 ?_; refine JD ?_; refine XN rfl (fun hq => ?_) (fun hq => ?_)
 refine X3 ?_; refine JT ?_; refine X0 ?_; refine JR ?_; refine Z0 ?_; refine JD ?_; (clear ht hn hk hs hd; simp [Xs, *] at hr; subst hr; exact X1 ⟨_, St.le_refl _, ⟨rfl, trivial⟩, X2 _⟩)
 refine JR ?_; refine ZB ?_; refine ZC ?_; refine ZM ?_; refine Z1 ?_; refine XM rfl rfl (fun hq => ?_) (fun hq => ?_); refine ZB ?_; refine ZC ?_; refine Z9 (hcon := hd) ?_; refine Zu ?_; refine Zn ?_; refine Z0 ?_
 refine JD ?_; refine XN rfl (fun hq => ?_) (fun hq => ?_); refine X0 ?_; refine JR ?_; refine Z0 ?_; refine JD ?_
 (clear ht hn hk hs hd; simp [Xs, *] at hr; subst hr; exact X1 ⟨_, St.le_refl _, ⟨rfl, trivial⟩, X2 _⟩); refine X3 ?_; refine X0 ?_; refine JR ?_; refine Z0 ?_; refine JD ?_
 (clear ht hn hk hs hd; simp [Xs, *] at hr; subst hr; exact X1 ⟨_, St.le_refl _, ⟨rfl, trivial⟩, X2 _⟩); refine Zo ?_; refine Zo ?_; refine Zo ?_; refine Zo ?_; refine Zq ?_; refine Z0 ?_; refine JD ?_
 refine JF ?_; refine X3 ?_; refine X0 ?_; refine JR ?_; refine Z0 ?_; refine JD ?_; (clear ht hn hk hs hd; simp [Xs, *] at hr; subst hr; exact X1 ⟨_, St.le_refl _, ⟨rfl, trivial⟩, X2 _⟩)
 refine Zo ?_; refine Zo ?_; refine Zo ?_; refine Zo ?_; refine Zq ?_; refine Z0 ?_; refine JD ?_; refine JF ?_; refine JR ?_; refine ZB ?_; refine ZC ?_; refine ZM ?_; refine Z1 ?_
 refine XM rfl rfl (fun hq => ?_) (fun hq => ?_); refine ZB ?_; refine ZC ?_; refine Z9 (hcon := hd) ?_; refine Zu ?_; refine Zn ?_; refine Z0 ?_; refine JD ?_; refine XN rfl (fun hq => ?_) (fun hq => ?_)
 refine X0 ?_; refine JR ?_; refine Z0 ?_; refine JD ?_; (clear ht hn hk hs hd; simp [Xs, *] at hr; subst hr; exact X1 ⟨_, St.le_refl _, ⟨rfl, trivial⟩, X2 _⟩); refine X3 ?_; refine X0 ?_
 refine JR ?_; refine Z0 ?_; refine JD ?_; (clear ht hn hk hs hd; simp [Xs, *] at hr; subst hr; exact X1 ⟨_, St.le_refl _, ⟨rfl, trivial⟩, X2 _⟩); refine Zo ?_; refine Zo ?_; refine Zo ?_; refine Zo ?_
 refine Zq ?_; refine Z0 ?_; refine JD ?_; refine JF ?_; refine X3 ?_; refine X0 ?_; refine JR ?_; refine Z0 ?_; refine JD ?_
 (clear ht hn hk hs hd; simp [Xs, *] at hr; subst hr; exact X1 ⟨_, St.le_refl _, ⟨rfl, trivial⟩, X2 _⟩); refine Zo ?_; refine Zo ?_; refine Zo ?_; refine Zo ?_; refine Zp ?_; refine Zp ?_; refine Zp ?_
 refine Zo ?_; refine Zq ?_; refine Z0 ?_; refine JD ?_; refine JF ?_; refine X0 ?_; refine JR ?_; refine ZB ?_; refine ZC ?_; refine Z1 ?_; refine X0Q rfl rfl (fun hq => ?_) (fun hq => ?_); refine ZB ?_
 refine ZC ?_; refine Zn ?_; refine Z1 ?_; refine X0Q rfl rfl (fun hq => ?_) (fun hq => ?_); refine ZB ?_; refine ZC ?_; refine Z9 (hcon := ht) ?_; refine Zr ?_; refine Zn ?_; refine Z0 ?_; refine JD ?_
 refine Vm rfl (fun hq => ?_) (fun hq => ?_); refine X0 ?_; refine JR ?_; refine Z0 ?_; refine JD ?_
 (clear ht hn hk hs hd; simp [Xs, *] at hr; subst hr; exact X1 ⟨_, St.le_refl _, ⟨rfl, trivial⟩, X2 _⟩); refine X0 ?_; refine X0 ?_; refine JR ?_; refine ZB ?_; refine ZC ?_
 refine Z9 (hcon := hn) ?_; refine Zu ?_; refine Z0 ?_; refine JD ?_; refine XN rfl (fun hq => ?_) (fun hq => ?_); refine X3 ?_; refine JT ?_; refine X0 ?_; refine JR ?_; refine Z0 ?_; refine JD ?_
 (clear ht hn hk hs hd; simp [Xs, *] at hr; subst hr; exact X1 ⟨_, St.le_refl _, ⟨rfl, trivial⟩, X2 _⟩); refine JR ?_; refine ZB ?_; refine ZC ?_; refine Z1 ?_; refine ZB ?_; refine ZC ?_
 refine Z9 (hcon := hk) ?_; refine Zu ?_; refine Zn ?_; refine Z0 ?_; refine JD ?_; refine XN rfl (fun hq => ?_) (fun hq => ?_); refine X0 ?_; refine JR ?_; refine Z0 ?_; refine JD ?_
 (clear ht hn hk hs hd; simp [Xs, *] at hr; subst hr; exact X1 ⟨_, St.le_refl _, ⟨rfl, trivial⟩, X2 _⟩); refine X0 ?_; refine X0 ?_; refine JR ?_; refine ZB ?_; refine ZC ?_; refine ZM ?_
 refine Z1 ?_; refine XM rfl rfl (fun hq => ?_) (fun hq => ?_); refine ZB ?_; refine ZC ?_; refine Z9 (hcon := hs) ?_; refine Zu ?_; refine Zn ?_; refine Z0 ?_; refine JD ?_
 refine XN rfl (fun hq => ?_) (fun hq => ?_); refine X3 ?_; refine JT ?_; refine X0 ?_; refine JR ?_; refine Z0 ?_; refine JD ?_
 (clear ht hn hk hs hd; simp [Xs, *] at hr; subst hr; exact X1 ⟨_, St.le_refl _, ⟨rfl, trivial⟩, X2 _⟩); refine JR ?_; refine ZB ?_; refine ZC ?_; refine ZM ?_; refine Z1 ?_
 refine XM rfl rfl (fun hq => ?_) (fun hq => ?_); refine ZB ?_; refine ZC ?_; refine Z9 (hcon := hd) ?_; refine Zu ?_; refine Zn ?_; refine Z0 ?_; refine JD ?_; refine XN rfl (fun hq => ?_) (fun hq => ?_)
 refine X0 ?_; refine JR ?_; refine Z0 ?_; refine JD ?_; (clear ht hn hk hs hd; simp [Xs, *] at hr; subst hr; exact X1 ⟨_, St.le_refl _, ⟨rfl, trivial⟩, X2 _⟩); refine X3 ?_; refine X0 ?_
 refine JR ?_; refine Z0 ?_; refine JD ?_; (clear ht hn hk hs hd; simp [Xs, *] at hr; subst hr; exact X1 ⟨_, St.le_refl _, ⟨rfl, trivial⟩, X2 _⟩); refine Zo ?_; refine Zo ?_; refine Zo ?_; refine Zo ?_
 refine Zq ?_; refine Z0 ?_; refine JD ?_; refine JF ?_; refine X3 ?_; refine X0 ?_; refine JR ?_; refine Z0 ?_; refine JD ?_
 (clear ht hn hk hs hd; simp [Xs, *] at hr; subst hr; exact X1 ⟨_, St.le_refl _, ⟨rfl, trivial⟩, X2 _⟩); refine Zo ?_; refine Zo ?_; refine Zo ?_; refine Zo ?_; refine Zq ?_; refine Z0 ?_; refine JD ?_
 refine JF ?_; refine JR ?_; refine ZB ?_; refine ZC ?_; refine ZM ?_; refine Z1 ?_; refine XM rfl rfl (fun hq => ?_) (fun hq => ?_); refine ZB ?_; refine ZC ?_; refine Z9 (hcon := hd) ?_; refine Zu ?_; refine Zn ?_
 refine Z0 ?_; refine JD ?_; refine XN rfl (fun hq => ?_) (fun hq => ?_); refine X0 ?_; refine JR ?_; refine Z0 ?_; refine JD ?_
 (clear ht hn hk hs hd; simp [Xs, *] at hr; subst hr; exact X1 ⟨_, St.le_refl _, ⟨rfl, trivial⟩, X2 _⟩); refine X3 ?_; refine X0 ?_; refine JR ?_; refine Z0 ?_; refine JD ?_
 (clear ht hn hk hs hd; simp [Xs, *] at hr; subst hr; exact X1 ⟨_, St.le_refl _, ⟨rfl, trivial⟩, X2 _⟩); refine Zo ?_; refine Zo ?_; refine Zo ?_; refine Zo ?_; refine Zq ?_; refine Z0 ?_; refine JD ?_
 refine JF ?_; refine X3 ?_; refine X0 ?_; refine JR ?_; refine Z0 ?_; refine JD ?_; (clear ht hn hk hs hd; simp [Xs, *] at hr; subst hr; exact X1 ⟨_, St.le_refl _, ⟨rfl, trivial⟩, X2 _⟩)
 refine Zo ?_; refine Zo ?_; refine Zo ?_; refine Zo ?_; refine Zq ?_; refine Z0 ?_; refine JD ?_; refine JF ?_; refine X0 ?_; refine X0 ?_; refine JR ?_; refine ZB ?_; refine ZC ?_; refine Z9 (hcon := hn) ?_
 refine Zu ?_; refine Z0 ?_; refine JD ?_; refine XN rfl (fun hq => ?_) (fun hq => ?_); refine X3 ?_; refine JT ?_; refine X0 ?_; refine JR ?_; refine Z0 ?_; refine JD ?_
 (clear ht hn hk hs hd; simp [Xs, *] at hr; subst hr; exact X1 ⟨_, St.le_refl _, ⟨rfl, trivial⟩, X2 _⟩); refine JR ?_; refine ZB ?_; refine ZC ?_; refine Z1 ?_; refine ZB ?_; refine ZC ?_
 refine Z9 (hcon := hk) ?_; refine Zu ?_; refine Zn ?_; refine Z0 ?_; refine JD ?_; refine XN rfl (fun hq => ?_) (fun hq => ?_); refine X0 ?_; refine JR ?_; refine Z0 ?_; refine JD ?_
 (clear ht hn hk hs hd; simp [Xs, *] at hr; subst hr; exact X1 ⟨_, St.le_refl _, ⟨rfl, trivial⟩, X2 _⟩); refine X0 ?_; refine X0 ?_; refine JR ?_; refine ZB ?_; refine ZC ?_; refine ZM ?_
 refine Z1 ?_; refine XM rfl rfl (fun hq => ?_) (fun hq => ?_); refine ZB ?_; refine ZC ?_; refine Z9 (hcon := hs) ?_; refine Zu ?_; refine Zn ?_; refine Z0 ?_; refine JD ?_
 refine XN rfl (fun hq => ?_) (fun hq => ?_); refine X3 ?_; refine JT ?_; refine X0 ?_; refine JR ?_; refine Z0 ?_; refine JD ?_
 (clear ht hn hk hs hd; simp [Xs, *] at hr; subst hr; exact X1 ⟨_, St.le_refl _, ⟨rfl, trivial⟩, X2 _⟩); refine JR ?_; refine ZB ?_; refine ZC ?_; refine ZM ?_; refine Z1 ?_
 refine XM rfl rfl (fun hq => ?_) (fun hq => ?_); refine ZB ?_; refine ZC ?_; refine Z9 (hcon := hd) ?_; refine Zu ?_; refine Zn ?_; refine Z0 ?_; refine JD ?_; refine XN rfl (fun hq => ?_) (fun hq => ?_)
 refine X0 ?_; refine JR ?_; refine Z0 ?_; refine JD ?_; (clear ht hn hk hs hd; simp [Xs, *] at hr; subst hr; exact X1 ⟨_, St.le_refl _, ⟨rfl, trivial⟩, X2 _⟩); refine X3 ?_; refine X0 ?_
 refine JR ?_; refine Z0 ?_; refine JD ?_; (clear ht hn hk hs hd; simp [Xs, *] at hr; subst hr; exact X1 ⟨_, St.le_refl _, ⟨rfl, trivial⟩, X2 _⟩); refine Zo ?_; refine Zo ?_; refine Zo ?_; refine Zo ?_
 refine Zq ?_; refine Z0 ?_; refine JD ?_; refine JF ?_; refine X3 ?_; refine X0 ?_; refine JR ?_; refine Z0 ?_; refine JD ?_
 (clear ht hn hk hs hd; simp [Xs, *] at hr; subst hr; exact X1 ⟨_, St.le_refl _, ⟨rfl, trivial⟩, X2 _⟩); refine Zo ?_; refine Zo ?_; refine Zo ?_; refine Zo ?_; refine Zq ?_; refine Z0 ?_; refine JD ?_
 refine JF ?_; refine JR ?_; refine ZB ?_; refine ZC ?_; refine ZM ?_; refine Z1 ?_; refine XM rfl rfl (fun hq => ?_) (fun hq => ?_); refine ZB ?_; refine ZC ?_; refine Z9 (hcon := hd) ?_; refine Zu ?_; refine Zn ?_
 refine Z0 ?_; refine JD ?_; refine XN rfl (fun hq => ?_) (fun hq => ?_); refine X0 ?_; refine JR ?_; refine Z0 ?_; refine JD ?_
 (clear ht hn hk hs hd; simp [Xs, *] at hr; subst hr; exact X1 ⟨_, St.le_refl _, ⟨rfl, trivial⟩, X2 _⟩); refine X3 ?_; refine X0 ?_; refine JR ?_; refine Z0 ?_; refine JD ?_
 (clear ht hn hk hs hd; simp [Xs, *] at hr; subst hr; exact X1 ⟨_, St.le_refl _, ⟨rfl, trivial⟩, X2 _⟩); refine Zo ?_; refine Zo ?_; refine Zo ?_; refine Zo ?_; refine Zq ?_; refine Z0 ?_; refine JD ?_
 refine JF ?_; refine X3 ?_; refine X0 ?_; refine JR ?_; refine Z0 ?_; refine JD ?_; (clear ht hn hk hs hd; simp [Xs, *] at hr; subst hr; exact X1 ⟨_, St.le_refl _, ⟨rfl, trivial⟩, X2 _⟩)
 refine Zo ?_; refine Zo ?_; refine Zq ?_; refine Z1 ?_; refine Zo ?_; refine Zo ?_; refine Zo ?_; refine Zo ?_; refine Zq ?_; refine Z0 ?_; refine JD ?_; refine JF ?_; refine X0 ?_; refine X0 ?_; refine JR ?_
 refine ZB ?_; refine ZC ?_; refine Z9 (hcon := hn) ?_; refine Zu ?_; refine Z0 ?_; refine JD ?_; refine XN rfl (fun hq => ?_) (fun hq => ?_); refine X3 ?_; refine JT ?_; refine X0 ?_; refine JR ?_
 refine Z0 ?_; refine JD ?_; (clear ht hn hk hs hd; simp [Xs, *] at hr; subst hr; exact X1 ⟨_, St.le_refl _, ⟨rfl, trivial⟩, X2 _⟩); refine JR ?_; refine ZB ?_; refine ZC ?_; refine Z1 ?_; refine Zo ?_
 refine Zo ?_; refine Zo ?_; refine Zo ?_; refine Zq ?_; refine Z0 ?_; refine JD ?_; refine JF ?_; refine X0 ?_; refine X0 ?_; refine JR ?_; refine ZB ?_; refine ZC ?_; refine ZM ?_; refine Z1 ?_
 refine XM rfl rfl (fun hq => ?_) (fun hq => ?_); refine ZB ?_; refine ZC ?_; refine Z9 (hcon := hs) ?_; refine Zu ?_; refine Zn ?_; refine Z0 ?_; refine JD ?_; refine XN rfl (fun hq => ?_) (fun hq => ?_)
 refine X3 ?_; refine JT ?_; refine X0 ?_; refine JR ?_; refine Z0 ?_; refine JD ?_; (clear ht hn hk hs hd; simp [Xs, *] at hr; subst hr; exact X1 ⟨_, St.le_refl _, ⟨rfl, trivial⟩, X2 _⟩)
 refine JR ?_; refine ZB ?_; refine ZC ?_; refine ZM ?_; refine Z1 ?_; refine XM rfl rfl (fun hq => ?_) (fun hq => ?_); refine ZB ?_; refine ZC ?_; refine Z9 (hcon := hd) ?_; refine Zu ?_; refine Zn ?_; refine Z0 ?_
 refine JD ?_; refine XN rfl (fun hq => ?_) (fun hq => ?_); refine X0 ?_; refine JR ?_; refine Z0 ?_; refine JD ?_
 (clear ht hn hk hs hd; simp [Xs, *] at hr; subst hr; exact X1 ⟨_, St.le_refl _, ⟨rfl, trivial⟩, X2 _⟩); refine X3 ?_; refine X0 ?_; refine JR ?_; refine Z0 ?_; refine JD ?_
 (clear ht hn hk hs hd; simp [Xs, *] at hr; subst hr; exact X1 ⟨_, St.le_refl _, ⟨rfl, trivial⟩, X2 _⟩); refine Zo ?_; refine Zo ?_; refine Zo ?_; refine Zo ?_; refine Zq ?_; refine Z0 ?_; refine JD ?_
 refine JF ?_; refine X3 ?_; refine X0 ?_; refine JR ?_; refine Z0 ?_; refine JD ?_; (clear ht hn hk hs hd; simp [Xs, *] at hr; subst hr; exact X1 ⟨_, St.le_refl _, ⟨rfl, trivial⟩, X2 _⟩)
 refine Zo ?_; refine Zo ?_; refine Zo ?_; refine Zo ?_; refine Zq ?_; refine Z0 ?_; refine JD ?_; refine JF ?_; refine JR ?_; refine ZB ?_; refine ZC ?_; refine ZM ?_; refine Z1 ?_
 refine XM rfl rfl (fun hq => ?_) (fun hq => ?_); refine ZB ?_; refine ZC ?_; refine Z9 (hcon := hd) ?_; refine Zu ?_; refine Zn ?_; refine Z0 ?_; refine JD ?_; refine XN rfl (fun hq => ?_) (fun hq => ?_)
 refine X0 ?_; refine JR ?_; refine Z0 ?_; refine JD ?_; (clear ht hn hk hs hd; simp [Xs, *] at hr; subst hr; exact X1 ⟨_, St.le_refl _, ⟨rfl, trivial⟩, X2 _⟩); refine X3 ?_; refine X0 ?_
 refine JR ?_; refine Z0 ?_; refine JD ?_; (clear ht hn hk hs hd; simp [Xs, *] at hr; subst hr; exact X1 ⟨_, St.le_refl _, ⟨rfl, trivial⟩, X2 _⟩); refine Zo ?_; refine Zo ?_; refine Zo ?_; refine Zo ?_
 refine Zq ?_; refine Z0 ?_; refine JD ?_; refine JF ?_; refine X3 ?_; refine X0 ?_; refine JR ?_; refine Z0 ?_; refine JD ?_
 (clear ht hn hk hs hd; simp [Xs, *] at hr; subst hr; exact X1 ⟨_, St.le_refl _, ⟨rfl, trivial⟩, X2 _⟩)
end Go.Fw
namespace Go.Fw
open Go Go.Proofs
set_option maxRecDepth 100000
set_option linter.unusedVariables false
set_option linter.unusedSimpArgs false
theorem VI {s : List UInt8} (h : s.length ≤ 20) : (Up s).length ≤ 30 := by
 have := X4H (n := s.length) (by omega)
 unfold Up
 rw [List.length_append]
 omega
theorem X1k {s : List UInt8} (h : Xl s = true) : s.length ≤ 20 := by
 unfold Xl at h
 simp at h
 omega
theorem Xav {r : Rul} (h : Yr r = 0) : (-9223372036854775808 ≤ r.n ∧ r.n ≤ 9223372036854775807) ∧ (r.name.length ≤ 20 ∧ r.key.length ≤ 20 ∧ r.src.length ≤ 20 ∧ r.dst.length ≤ 20) ∧ (1 ≤ r.kind ∧ r.kind ≤ 7) := by
 rw [X1R] at h
 unfold Ve at h
 split at h
 ·omega
 rename_i h1
 split at h
 ·omega
 rename_i h2
 split at h
 ·omega
 rename_i h3
 have i1 : 1 ≤ r.kind ∧ r.kind ≤ 7 := by
  cases hd : decide (1 ≤ r.kind ∧ r.kind ≤ 7) with
  | true => exact of_decide_eq_true hd
  | false => exact absurd (.inl hd) h1
 have i2 : U9 r.kind r.n = true := by
  cases hd : U9 r.kind r.n with
  | true => rfl
  | false => exact absurd (.inr hd) h1
 have nm : Xl r.name = true := by
  cases hd : Xl r.name with
  | true => rfl
  | false => exact absurd (.inl hd) h3
 have ky : r.key.length ≤ 20 := by
  by_cases hk : YV r.kind = true
  ·refine X1k (s := r.key) ?_
   cases hd : Xl r.key with
   | true => rfl
   | false => exact absurd (.inr (.inl ⟨hk, hd⟩)) h3
  ·by_cases he : r.key = []
   ·rw [he]; simp
   ·exact absurd (.inl ⟨by simpa using hk, he⟩) h2
 have sr : r.src.length ≤ 20 := by
  by_cases he : r.src = []
  ·rw [he]; simp
  ·refine X1k (s := r.src) ?_
   cases hd : Xl r.src with
   | true => rfl
   | false => exact absurd (.inr (.inr (.inl ⟨he, hd⟩))) h3
 have ds : r.dst.length ≤ 20 := by
  by_cases he : r.dst = []
  ·rw [he]; simp
  ·refine X1k (s := r.dst) ?_
   cases hd : Xl r.dst with
   | true => rfl
   | false => exact absurd (.inr (.inr (.inr ⟨he, hd⟩))) h3
 refine ⟨?_, ⟨X1k nm, ky, sr, ds⟩, i1⟩
 unfold U9 at i2
 split at i2
 ·have := of_decide_eq_true i2; omega
 ·split at i2
  ·have := of_decide_eq_true i2; omega
  ·have := of_decide_eq_true i2; omega
end Go.Fw

/- The null value: the reference's test; plain values. -/
import Derived.Test.YtbhleedlnaakkaaK10
set_option maxHeartbeats 32000000
namespace Go.Fw
open Go Go.Proofs
set_option maxRecDepth 100000
set_option linter.unusedVariables false
set_option linter.unusedSimpArgs false
theorem X67 (v : Val) : Con Try.prog 39 [] [XS v] [] (ab (XJ v)) := by
 refine Xf (xs := [ab (XJ v)]) Try.func39 rfl Try.ntmps39 rfl rfl rfl (fun E => ?_)
 have hv := X0Z v
 unfold XJ
 generalize X6 8 v = b at *
 obtain ⟨k, n, d, s, l⟩ := v
 simp only [XS, Val.kind] at hv ⊢
 unfold X23
 by_cases h1 : k = 1
 ·rw [decide_eq_true (by omega), Bool.true_and]
  cases b with
  | true =>
   refine X0 ?_; refine JR ?_; refine Zn (γ := 100) ?_; refine Z0 ?_; refine JD ?_; refine X0 ?_; refine JR ?_; refine Zo ?_; refine Zp ?_; refine Zi ?_; refine Z1 ?_; refine Z5 ?_; refine Z5 ?_; refine Z5 ?_
   refine Z4 ?_; refine Z1 ?_; refine Z5 ?_; refine Z5 ?_; refine Z5 ?_; refine Z4 ?_; refine Z1 ?_; refine ZD ?_; refine Zc (hcon := hv) ?_; refine Z4 ?_; refine Z0 ?_; refine JD ?_
   first | exact X1 ⟨_, St.le_refl _, ⟨rfl, trivial⟩, X2 _⟩ | exact X1 ⟨_, Xn 2 (y := ab true) (AVal.le_of_eq (by refine Eq.trans (b := ab (decide _)) rfl ?_; exact congrArg ab (by simp; omega))), ⟨rfl, trivial⟩, X2 _⟩ | fail
  | false =>
   refine X0 ?_; refine JR ?_; refine Zn (γ := 100) ?_; refine Z0 ?_; refine JD ?_; refine X0 ?_; refine JR ?_; refine Zo ?_; refine Zp ?_; refine Zi ?_; refine Z1 ?_; refine Z5 ?_; refine Z5 ?_; refine Z5 ?_
   refine Z4 ?_; refine Z1 ?_; refine Z5 ?_; refine Z5 ?_; refine Z5 ?_; refine Z4 ?_; refine Z1 ?_; refine ZD ?_; refine Zc (hcon := hv) ?_; refine Z4 ?_; refine Z0 ?_; refine JD ?_
   first | exact X1 ⟨_, St.le_refl _, ⟨rfl, trivial⟩, X2 _⟩ | exact X1 ⟨_, Xn 2 (y := ab false) (AVal.le_of_eq (by refine Eq.trans (b := ab (decide _)) rfl ?_; exact congrArg ab (by simp; omega))), ⟨rfl, trivial⟩, X2 _⟩ | fail
 by_cases h2 : k = 2
 ·rw [decide_eq_true (by omega), Bool.true_and]
  cases b with
  | true =>
   refine X0 ?_; refine JR ?_; refine Zn (γ := 100) ?_; refine Z0 ?_; refine JD ?_; refine X0 ?_; refine JR ?_; refine Zo ?_; refine Zp ?_; refine Zi ?_; refine Z1 ?_; refine Zo ?_; refine Zp ?_; refine Zi ?_
   refine Z7 ?_; refine Z1 ?_; refine Z5 ?_; refine Z5 ?_; refine Z5 ?_; refine Z4 ?_; refine Z1 ?_; refine ZD ?_; refine Zc (hcon := hv) ?_; refine Z4 ?_; refine Z0 ?_; refine JD ?_
   first | exact X1 ⟨_, St.le_refl _, ⟨rfl, trivial⟩, X2 _⟩ | exact X1 ⟨_, Xn 2 (y := ab true) (AVal.le_of_eq (by refine Eq.trans (b := ab (decide _)) rfl ?_; exact congrArg ab (by simp; omega))), ⟨rfl, trivial⟩, X2 _⟩ | fail
  | false =>
   refine X0 ?_; refine JR ?_; refine Zn (γ := 100) ?_; refine Z0 ?_; refine JD ?_; refine X0 ?_; refine JR ?_; refine Zo ?_; refine Zp ?_; refine Zi ?_; refine Z1 ?_; refine Zo ?_; refine Zp ?_; refine Zi ?_
   refine Z7 ?_; refine Z1 ?_; refine Z5 ?_; refine Z5 ?_; refine Z5 ?_; refine Z4 ?_; refine Z1 ?_; refine ZD ?_; refine Zc (hcon := hv) ?_; refine Z4 ?_; refine Z0 ?_; refine JD ?_
   first | exact X1 ⟨_, St.le_refl _, ⟨rfl, trivial⟩, X2 _⟩ | exact X1 ⟨_, Xn 2 (y := ab false) (AVal.le_of_eq (by refine Eq.trans (b := ab (decide _)) rfl ?_; exact congrArg ab (by simp; omega))), ⟨rfl, trivial⟩, X2 _⟩ | fail
 by_cases h4 : k = 4
 ·rw [decide_eq_true (by omega), Bool.true_and]
  cases b with
  | true =>
   refine X0 ?_; refine JR ?_; refine Zn (γ := 100) ?_; refine Z0 ?_; refine JD ?_; refine X0 ?_; refine JR ?_; refine Zo ?_; refine Zp ?_; refine Zi ?_; refine Z1 ?_; refine Zo ?_; refine Zp ?_; refine Zi ?_
   refine Z7 ?_; refine Z1 ?_; refine Zo ?_; refine Zp ?_; refine Zi ?_; refine Z7 ?_; refine Z1 ?_; refine ZD ?_; refine Zc (hcon := hv) ?_; refine Z4 ?_; refine Z0 ?_; refine JD ?_
   first | exact X1 ⟨_, St.le_refl _, ⟨rfl, trivial⟩, X2 _⟩ | exact X1 ⟨_, Xn 2 (y := ab true) (AVal.le_of_eq (by refine Eq.trans (b := ab (decide _)) rfl ?_; exact congrArg ab (by simp; omega))), ⟨rfl, trivial⟩, X2 _⟩ | fail
  | false =>
   refine X0 ?_; refine JR ?_; refine Zn (γ := 100) ?_; refine Z0 ?_; refine JD ?_; refine X0 ?_; refine JR ?_; refine Zo ?_; refine Zp ?_; refine Zi ?_; refine Z1 ?_; refine Zo ?_; refine Zp ?_; refine Zi ?_
   refine Z7 ?_; refine Z1 ?_; refine Zo ?_; refine Zp ?_; refine Zi ?_; refine Z7 ?_; refine Z1 ?_; refine ZD ?_; refine Zc (hcon := hv) ?_; refine Z4 ?_; refine Z0 ?_; refine JD ?_
   first | exact X1 ⟨_, St.le_refl _, ⟨rfl, trivial⟩, X2 _⟩ | exact X1 ⟨_, Xn 2 (y := ab false) (AVal.le_of_eq (by refine Eq.trans (b := ab (decide _)) rfl ?_; exact congrArg ab (by simp; omega))), ⟨rfl, trivial⟩, X2 _⟩ | fail
 rw [decide_eq_false (by omega), Bool.false_and]
 refine X0 ?_; refine JR ?_; refine Zn (γ := 100) ?_; refine Z0 ?_; refine JD ?_; refine X0 ?_; refine JR ?_; refine Zo ?_; refine Zp ?_; refine Zi ?_; refine Z1 ?_; refine Zo ?_; refine Zp ?_; refine Zi ?_
 refine Z7 ?_; refine Z1 ?_; refine Zo ?_; refine Zp ?_; refine Zi ?_; refine Z7 ?_; refine Z1 ?_; refine Z5 ?_; refine Z5 ?_; refine Z7 ?_; refine Z0 ?_; refine JD ?_
 first | exact X1 ⟨_, St.le_refl _, ⟨rfl, trivial⟩, X2 _⟩ | exact X1 ⟨_, Xn 2 (y := ab false) (AVal.le_of_eq (by refine Eq.trans (b := ab (decide _)) rfl ?_; exact congrArg ab (by simp; omega))), ⟨rfl, trivial⟩, X2 _⟩ | fail
end Go.Fw
namespace Go.Fw
open Go
set_option linter.unusedVariables false
set_option linter.unusedSimpArgs false
theorem X3e : ∀ {l : List Val}, (∀ x ∈ l, UD x) → Vc l
 | [], _ => by rw [Vc]; trivial
 | v :: r, h => by
  rw [Vc]
  exact ⟨h v (List.mem_cons_self ..), X3e fun x hx => h x (List.mem_cons_of_mem _ hx)⟩
end Go.Fw
namespace Go.Fw
open Go
set_option linter.unusedVariables false
theorem X4a {n : Nat} (h : n ≤ 300) : (Ub n).length ≤ 10 := by
 rw [X4s (by omega)]
 exact X1m (by omega)
theorem X0J {n : Int} (h : -9223372036854775808 ≤ n ∧ n ≤ 9223372036854775807) : (X04 n).length ≤ 10 := X1m (X5f h)
theorem X5F {m : Nat} {k n d : Int} {s : List UInt8} {l : List Val} (h : X6 m (.mk k n d s l) = true) (h7 : k ≠ 7) (h8 : k ≠ 8) : (X0r (.mk k n d s l)).length ≤ 111 := by
 rw [X6] at h
 rw [X0r]
 simp only [List.length_cons]
 by_cases h1 : k = 1 ∨ k = 2 ∨ k = 5 ∨ k = 6
 ·rw [if_pos h1]
  have hn : -9223372036854775808 ≤ n ∧ n ≤ 9223372036854775807 := by
   rcases h1 with rfl | rfl | rfl | rfl <;> simp at h <;> omega
  have := X0J hn
  omega
 rw [if_neg h1]
 by_cases h3 : k = 3
 ·subst h3
  rw [if_pos rfl]
  have hnd : (-9223372036854775808 ≤ n ∧ n ≤ 9223372036854775807) ∧ -9223372036854775808 ≤ d ∧ d ≤ 9223372036854775807 := by simp [Uz] at h; omega
  have h5 := X0J hnd.1
  have h6 := X0J hnd.2
  rw [List.length_append]
  omega
 rw [if_neg h3]
 by_cases h4 : k = 4
 ·subst h4
  rw [if_pos rfl]
  have hs : s.length ≤ 100 := by simp at h; omega
  have := X4a (n := s.length) (by omega)
  unfold YU
  rw [List.length_append]
  omega
 rw [if_neg h4, if_neg (by omega)]
 simp
end Go.Fw
namespace Go.Fw
open Go Go.Proofs
set_option maxRecDepth 100000
set_option linter.unusedVariables false
set_option linter.unusedSimpArgs false
def YJ (k n : Int) : Bool := if k = 3 ∨ k = 5 then decide (n = 1 ∨ n = 2 ∨ n = 4) else if k = 7 then decide (0 ≤ n ∧ n ≤ 4000) else decide (n = 0)
def UN (k : Int) (nb : Bool) (key src dst : List UInt8) (vn vk vs vd : Bool) : Int :=
 if decide (1 ≤ k ∧ k ≤ 7) = false ∨ nb = false then 1
 else if (Ys k = false ∧ key ≠ []) ∨ (k ≠ 6 ∧ (src ≠ [] ∨ dst ≠ [])) then 1
 else if vn = false ∨ (Ys k = true ∧ vk = false) ∨ (src ≠ [] ∧ vs = false) ∨ (dst ≠ [] ∧ vd = false) then 6 else 0
theorem X1l (r : Rul) : Yy r = UN r.kind (YJ r.kind r.n) r.key r.src r.dst (Xg r.name) (Xg r.key) (Xg r.src) (Xg r.dst) := rfl
abbrev X1c (k n : Int) (name key src dst : List UInt8) : AVal := .agg [ai k, ai n, .d (.v (.string (X5 name))), .d (.v (.string (X5 key))), .d (.v (.string (X5 src))), .d (.v (.string (X5 dst)))]
def XA (r : Rul) : AVal := X1c r.kind r.n r.name r.key r.src r.dst
def ktS (n : Int) : List UInt8 := if n = 1 then [98, 111, 111, 108] else if n = 2 then [105, 110, 116] else if n = 4 then [115, 116, 114] else []
theorem X8B (n : Int) : Con Try.prog 32 [] [ai n] [] (.d (.v (.string (X5 (ktS n))))) := by
 refine Xf (xs := [.d (.v (.string (X5 (ktS n))))]) Try.func32 rfl Try.ntmps32 rfl rfl rfl (fun E => ?_)
 by_cases h1 : n = 1
 ·subst h1
  refine X0 ?_; refine JR ?_; refine Z0 ?_; refine JD ?_; refine X0 ?_; refine X0 ?_; refine JR ?_; refine Z1 ?_; refine JD ?_; refine X4 ?_; refine X0 ?_; refine JR ?_; refine Zi ?_
  refine Z0 ?_; refine JD ?_; refine JT ?_; refine X0 ?_; refine JR ?_; refine Z0 ?_; refine JD ?_
  exact X1 ⟨_, St.le_refl _, ⟨rfl, trivial⟩, X2 _⟩
 by_cases h2 : n = 2
 ·subst h2
  repeat first | refine X0 ?_ | (refine JR ?_; (repeat first | refine Z1 ?_ | refine Z0 ?_ | refine Zi ?_); refine JD ?_) | refine JT ?_ | refine JF ?_ | refine X4 ?_
  exact X1 ⟨_, St.le_refl _, ⟨rfl, trivial⟩, X2 _⟩
 by_cases h4 : n = 4
 ·subst h4
  repeat first | refine X0 ?_ | (refine JR ?_; (repeat first | refine Z1 ?_ | refine Z0 ?_ | refine Zi ?_); refine JD ?_) | refine JT ?_ | refine JF ?_ | refine X4 ?_
  exact X1 ⟨_, St.le_refl _, ⟨rfl, trivial⟩, X2 _⟩
 rw [show ktS n = [] by simp [ktS, h1, h2, h4]]
 repeat first | refine X0 ?_ | (refine JR ?_; (repeat first | refine Z1 ?_ | refine Z0 ?_ | refine Zi ?_); refine JD ?_) | refine JF ?_ | refine X4 ?_ | refine X3 ?_
 exact X1 ⟨_, St.le_refl _, ⟨rfl, trivial⟩, X2 _⟩
def Y4 (ky nu en ok : Bool) (n : Int) (key src dst : List UInt8) : Bool := !ok || (!ky && decide (key ≠ [])) || (!nu && decide (n ≠ 0)) || (!en && (decide (src ≠ []) || decide (dst ≠ [])))
def Xh (a ky nu : Bool) (k n : Int) (kt src dst : List UInt8) (vn vk vs vd : Bool) : Int :=
 if a = true then 1 else if k = 7 ∧ (n < 0 ∨ 4000 < n) then 1 else if ky = true ∧ nu = true ∧ kt = [] then 1
 else if vn = false ∨ (ky = true ∧ vk = false) then 6 else if (src ≠ [] ∧ vs = false) ∨ (dst ≠ [] ∧ vd = false) then 6 else 0
theorem X7t (k n : Int) (key src dst : List UInt8) (vn vk vs vd : Bool) : UN k (YJ k n) key src dst vn vk vs vd =
  Xh (Y4 (Yk k).1 (Yk k).2.1 (Yk k).2.2.1 (Yk k).2.2.2 n key src dst) (Yk k).1 (Yk k).2.1 k n (ktS n) src dst vn vk vs vd := by
 by_cases hk : 1 ≤ k ∧ k ≤ 7
 ·have h7 : k = 1 ∨ k = 2 ∨ k = 3 ∨ k = 4 ∨ k = 5 ∨ k = 6 ∨ k = 7 := by omega
  have hn : n = 0 ∨ n = 1 ∨ n = 2 ∨ n = 4 ∨ (n ≠ 0 ∧ n ≠ 1 ∧ n ≠ 2 ∧ n ≠ 4) := by omega
  rcases h7 with rfl | rfl | rfl | rfl | rfl | rfl | rfl
  all_goals
   unfold UN Xh Y4 Yk YJ Ys
   by_cases h1 : key = [] <;> by_cases h2 : src = [] <;> by_cases h3 : dst = []
   all_goals rcases hn with rfl | rfl | rfl | rfl | ⟨n0, n1, n2, n4⟩
   all_goals first
    | (simp [ktS, *]; done)
    | (by_cases m1 : n < 0 <;> by_cases m2 : 4000 < n <;> simp [ktS, *] <;> omega)
    | (cases vn <;> cases vk <;> cases vs <;> cases vd <;> simp [ktS, *])
 ·unfold UN Xh Y4 Yk
  simp [hk]
theorem X2v (r : Rul) : Con Try.prog 17 [] [XA r] [] (ai (Yy r)) := by
 rw [X1l, X7t]
 obtain ⟨k, n, name, key, src, dst⟩ := r
 simp only [XA]
 have hn := Vm name
 have hk := Vm key
 have hs := Vm src
 have hd := Vm dst
 have ht := X8B n
 have hf := X7W k
 generalize Xg name = vn at *
 generalize Xg key = vk at *
 generalize Xg src = vs at *
 generalize Xg dst = vd at *
 generalize ktS n = kt at *
 generalize Yk k = u at *
 obtain ⟨ky, nu, en, ok⟩ := u
 simp only at hf
 show Con _ _ _ _ _ (ai (Xh (Y4 ky nu en ok n key src dst) ky nu k n kt src dst vn vk vs vd))
 generalize ha : Y4 ky nu en ok n key src dst = a
 refine Xf (xs := [ai (Xh a ky nu k n kt src dst vn vk vs vd)]) Try.func17 rfl Try.ntmps17 rfl rfl rfl (fun E => ?_)
 refine X0 ?_; refine JR ?_; refine Zn (γ := 100) ?_; refine Z0 ?_; refine JD ?_; refine X0 ?_; refine JR ?_; refine Zo ?_; refine Zp ?_; refine Zc (hcon := hf) ?_; refine Z1 ?_; refine Zs ?_; refine Zs ?_
 refine Zh (γ := 101) ?_; refine Zk ?_; refine Z0 ?_; refine JD ?_; refine X0 ?_
 refine X4 ?_
 refine X0 ?_
 refine X8g ⟨102, [(1, .ptr 100 0), (3, .ptr 101 0), (11, ab a)], [(100, .box [ai k, ai n, .d (.v (.string (X5 name))), .d (.v (.string (X5 key))), .d (.v (.string (X5 src))), .d (.v (.string (X5 dst)))]), (101, .box [ab ky, ab nu, ab en])]⟩ ?_ ?_
 ·refine X0 ?_; refine JR ?_; refine Z1 ?_; refine Zd ?_; refine Z0 ?_; refine JD ?_; refine XC rfl (fun hq => ?_) (fun hq => ?_); refine X3 ?_
  ((clear hf ht hn hk hs hd; refine X8 rfl ⟨AVal.le_refl _, AVal.le_refl _, AVal.le_of_eq (congrArg ab (by subst ha; simp [Y4, *])), trivial⟩ ⟨rfl, rfl, trivial⟩)); refine X0 ?_; refine JR ?_; refine Zo ?_
  refine Zp ?_; refine Zd ?_; refine Z1 ?_; refine YE rfl rfl (fun hq => ?_) (fun hq => ?_); refine Z5 ?_; refine Z5 ?_; refine Z5 ?_; refine Z7 ?_; refine Z0 ?_; refine JD ?_; refine JF ?_; refine X0 ?_
  refine JR ?_; refine Zo ?_; refine Zp ?_; refine Zd ?_; refine Z1 ?_; refine YE rfl rfl (fun hq => ?_) (fun hq => ?_); refine Z5 ?_; refine Z5 ?_; refine Z5 ?_; refine Z7 ?_; refine Z0 ?_; refine JD ?_
  refine JF ?_; refine JR ?_; refine Zo ?_; refine Zp ?_; refine Zd ?_; refine Z1 ?_; refine YE rfl rfl (fun hq => ?_) (fun hq => ?_); refine Z5 ?_; refine Z5 ?_; refine Z5 ?_; refine Z5 ?_; refine Z6 ?_
  refine Z6 ?_; refine Z6 ?_; refine Z5 ?_; refine Z7 ?_; refine Z0 ?_; refine JD ?_
  ((clear hf ht hn hk hs hd; refine X8 rfl ⟨AVal.le_refl _, AVal.le_refl _, AVal.le_of_eq (congrArg ab (by subst ha; simp [Y4, *])), trivial⟩ ⟨rfl, rfl, trivial⟩)); refine Zo ?_; refine Zp ?_; refine ZE ?_
  refine Z1 ?_; refine XB rfl rfl (fun hq => ?_) (fun hq => ?_); refine Z5 ?_; refine Z5 ?_; refine Z5 ?_; refine Z4 ?_; refine Z4 ?_; refine Z0 ?_; refine JD ?_
  ((clear hf ht hn hk hs hd; refine X8 rfl ⟨AVal.le_refl _, AVal.le_refl _, AVal.le_of_eq (congrArg ab (by subst ha; simp [Y4, *])), trivial⟩ ⟨rfl, rfl, trivial⟩)); refine Zo ?_; refine Zp ?_; refine ZE ?_
  refine Z7 ?_; refine Z4 ?_; refine Z0 ?_; refine JD ?_
  ((clear hf ht hn hk hs hd; refine X8 rfl ⟨AVal.le_refl _, AVal.le_refl _, AVal.le_of_eq (congrArg ab (by subst ha; simp [Y4, *])), trivial⟩ ⟨rfl, rfl, trivial⟩)); refine Zo ?_; refine Zp ?_; refine Zg ?_
  refine Z4 ?_; refine Z0 ?_; refine JD ?_; refine UK rfl (fun hq => ?_) (fun hq => ?_); refine X3 ?_
  ((clear hf ht hn hk hs hd; refine X8 rfl ⟨AVal.le_refl _, AVal.le_refl _, AVal.le_of_eq (congrArg ab (by subst ha; simp [Y4, *])), trivial⟩ ⟨rfl, rfl, trivial⟩)); refine JR ?_; refine Zo ?_; refine Zp ?_
  refine Zd ?_; refine Z1 ?_; refine YE rfl rfl (fun hq => ?_) (fun hq => ?_); refine Z5 ?_; refine Z5 ?_; refine Z5 ?_; refine Z5 ?_; refine Z6 ?_; refine Z6 ?_; refine Z6 ?_; refine Z5 ?_; refine Z7 ?_
  refine Z0 ?_; refine JD ?_; ((clear hf ht hn hk hs hd; refine X8 rfl ⟨AVal.le_refl _, AVal.le_refl _, AVal.le_of_eq (congrArg ab (by subst ha; simp [Y4, *])), trivial⟩ ⟨rfl, rfl, trivial⟩)); refine Zo ?_
  refine Zp ?_; refine ZE ?_; refine Z1 ?_; refine XB rfl rfl (fun hq => ?_) (fun hq => ?_); refine Z5 ?_; refine Z5 ?_; refine Z5 ?_; refine Z4 ?_; refine Z4 ?_; refine Z0 ?_; refine JD ?_
  ((clear hf ht hn hk hs hd; refine X8 rfl ⟨AVal.le_refl _, AVal.le_refl _, AVal.le_of_eq (congrArg ab (by subst ha; simp [Y4, *])), trivial⟩ ⟨rfl, rfl, trivial⟩)); refine Zo ?_; refine Zp ?_; refine ZE ?_
  refine Z7 ?_; refine Z4 ?_; refine Z0 ?_; refine JD ?_
  ((clear hf ht hn hk hs hd; refine X8 rfl ⟨AVal.le_refl _, AVal.le_refl _, AVal.le_of_eq (congrArg ab (by subst ha; simp [Y4, *])), trivial⟩ ⟨rfl, rfl, trivial⟩)); refine Zo ?_; refine Zp ?_; refine ZE ?_
  refine Z4 ?_; refine Z0 ?_; refine JD ?_; refine UK rfl (fun hq => ?_) (fun hq => ?_); refine X3 ?_
  ((clear hf ht hn hk hs hd; refine X8 rfl ⟨AVal.le_refl _, AVal.le_refl _, AVal.le_of_eq (congrArg ab (by subst ha; simp [Y4, *])), trivial⟩ ⟨rfl, rfl, trivial⟩)); refine X0 ?_; refine JR ?_; refine Zo ?_
  refine Zp ?_; refine Zd ?_; refine Z1 ?_; refine YE rfl rfl (fun hq => ?_) (fun hq => ?_); refine Z5 ?_; refine Z5 ?_; refine Z5 ?_; refine Z7 ?_; refine Z0 ?_; refine JD ?_; refine JF ?_; refine JR ?_
  refine Zo ?_; refine Zp ?_; refine Zd ?_; refine Z1 ?_; refine YE rfl rfl (fun hq => ?_) (fun hq => ?_); refine Z5 ?_; refine Z5 ?_; refine Z5 ?_; refine Z5 ?_; refine Z6 ?_; refine Z6 ?_; refine Z6 ?_
  refine Z5 ?_; refine Z7 ?_; refine Z0 ?_; refine JD ?_
  ((clear hf ht hn hk hs hd; refine X8 rfl ⟨AVal.le_refl _, AVal.le_refl _, AVal.le_of_eq (congrArg ab (by subst ha; simp [Y4, *])), trivial⟩ ⟨rfl, rfl, trivial⟩)); refine Zo ?_; refine Zp ?_; refine ZE ?_
  refine Z1 ?_; refine XB rfl rfl (fun hq => ?_) (fun hq => ?_); refine Z5 ?_; refine Z5 ?_; refine Z5 ?_; refine Z4 ?_; refine Z4 ?_; refine Z0 ?_; refine JD ?_
  ((clear hf ht hn hk hs hd; refine X8 rfl ⟨AVal.le_refl _, AVal.le_refl _, AVal.le_of_eq (congrArg ab (by subst ha; simp [Y4, *])), trivial⟩ ⟨rfl, rfl, trivial⟩)); refine Zo ?_; refine Zp ?_; refine ZE ?_
  refine Z7 ?_; refine Z4 ?_; refine Z0 ?_; refine JD ?_
  ((clear hf ht hn hk hs hd; refine X8 rfl ⟨AVal.le_refl _, AVal.le_refl _, AVal.le_of_eq (congrArg ab (by subst ha; simp [Y4, *])), trivial⟩ ⟨rfl, rfl, trivial⟩)); refine Zo ?_; refine Zp ?_; refine Zg ?_
  refine Z4 ?_; refine Z0 ?_; refine JD ?_; refine UK rfl (fun hq => ?_) (fun hq => ?_); refine X3 ?_
  ((clear hf ht hn hk hs hd; refine X8 rfl ⟨AVal.le_refl _, AVal.le_refl _, AVal.le_of_eq (congrArg ab (by subst ha; simp [Y4, *])), trivial⟩ ⟨rfl, rfl, trivial⟩)); refine JR ?_; refine Zo ?_; refine Zp ?_
  refine Zd ?_; refine Z1 ?_; refine YE rfl rfl (fun hq => ?_) (fun hq => ?_); refine Z5 ?_; refine Z5 ?_; refine Z5 ?_; refine Z5 ?_; refine Z6 ?_; refine Z6 ?_; refine Z6 ?_; refine Z5 ?_; refine Z7 ?_
  refine Z0 ?_; refine JD ?_; ((clear hf ht hn hk hs hd; refine X8 rfl ⟨AVal.le_refl _, AVal.le_refl _, AVal.le_of_eq (congrArg ab (by subst ha; simp [Y4, *])), trivial⟩ ⟨rfl, rfl, trivial⟩)); refine Zo ?_
  refine Zp ?_; refine ZE ?_; refine Z1 ?_; refine XB rfl rfl (fun hq => ?_) (fun hq => ?_); refine Z5 ?_; refine Z5 ?_; refine Z5 ?_; refine Z4 ?_; refine Z4 ?_; refine Z0 ?_; refine JD ?_
  ((clear hf ht hn hk hs hd; refine X8 rfl ⟨AVal.le_refl _, AVal.le_refl _, AVal.le_of_eq (congrArg ab (by subst ha; simp [Y4, *])), trivial⟩ ⟨rfl, rfl, trivial⟩)); refine Zo ?_; refine Zp ?_; refine ZE ?_
  refine Z7 ?_; refine Z4 ?_; refine Z0 ?_; refine JD ?_
  ((clear hf ht hn hk hs hd; refine X8 rfl ⟨AVal.le_refl _, AVal.le_refl _, AVal.le_of_eq (congrArg ab (by subst ha; simp [Y4, *])), trivial⟩ ⟨rfl, rfl, trivial⟩))
 clear ha hf
 obtain ⟨r, hr⟩ : ∃ r, r = Xh a ky nu k n kt src dst vn vk vs vd := ⟨_, rfl⟩
 rw [← hr]
 refine VY rfl (fun hq => ?_) (fun hq => ?_); refine X0 ?_; refine JR ?_; refine Z0 ?_; refine JD ?_
 (clear ht hn hk hs hd; simp [Xh, *] at hr; subst hr; exact X1 ⟨_, St.le_refl _, ⟨rfl, trivial⟩, X2 _⟩); refine X0 ?_; refine JR ?_; refine Zo ?_; refine Zp ?_; refine Zi ?_; refine Z1 ?_
 refine XB rfl rfl (fun hq => ?_) (fun hq => ?_); refine Zo ?_; refine Zp ?_; refine Ze ?_; refine Z1 ?_; refine XB rfl rfl (fun hq => ?_) (fun hq => ?_); refine Z5 ?_; refine Z5 ?_; refine Z5 ?_; refine Z4 ?_
 refine Z4 ?_; refine Z0 ?_; refine JD ?_; refine JT ?_; refine X0 ?_; refine JR ?_; refine Z0 ?_; refine JD ?_
 (clear ht hn hk hs hd; simp [Xh, *] at hr; subst hr; exact X1 ⟨_, St.le_refl _, ⟨rfl, trivial⟩, X2 _⟩); refine Zo ?_; refine Zp ?_; refine Za ?_; refine Z7 ?_; refine Z4 ?_; refine Z0 ?_; refine JD ?_
 refine UK rfl (fun hq => ?_) (fun hq => ?_); refine X0 ?_; refine JR ?_; refine Z0 ?_; refine JD ?_
 (clear ht hn hk hs hd; simp [Xh, *] at hr; subst hr; exact X1 ⟨_, St.le_refl _, ⟨rfl, trivial⟩, X2 _⟩); refine X0 ?_; refine JR ?_; refine Zo ?_; refine Zp ?_; refine Z1 ?_
 refine X0G rfl rfl (fun hq => ?_) (fun hq => ?_); refine Zo ?_; refine Zp ?_; refine Z4 ?_; refine Z1 ?_; refine X0G rfl rfl (fun hq => ?_) (fun hq => ?_); refine Zo ?_; refine Zp ?_
 refine Zc (hcon := ht) ?_; refine Z8 ?_; refine Z4 ?_; refine Z0 ?_; refine JD ?_; refine UK rfl (fun hq => ?_) (fun hq => ?_); refine X0 ?_; refine JR ?_; refine Z0 ?_; refine JD ?_
 (clear ht hn hk hs hd; simp [Xh, *] at hr; subst hr; exact X1 ⟨_, St.le_refl _, ⟨rfl, trivial⟩, X2 _⟩); refine X0 ?_; refine X0 ?_; refine JR ?_; refine Zo ?_; refine Zp ?_
 refine Zc (hcon := hn) ?_; refine Zd ?_; refine Z0 ?_; refine JD ?_; refine XC rfl (fun hq => ?_) (fun hq => ?_); refine X3 ?_; refine JT ?_; refine X0 ?_; refine JR ?_; refine Z0 ?_; refine JD ?_
 (clear ht hn hk hs hd; simp [Xh, *] at hr; subst hr; exact X1 ⟨_, St.le_refl _, ⟨rfl, trivial⟩, X2 _⟩); refine JR ?_; refine Zo ?_; refine Zp ?_; refine Z1 ?_; refine Zo ?_; refine Zp ?_
 refine Zc (hcon := hk) ?_; refine Zd ?_; refine Z4 ?_; refine Z0 ?_; refine JD ?_; refine XC rfl (fun hq => ?_) (fun hq => ?_); refine X0 ?_; refine JR ?_; refine Z0 ?_; refine JD ?_
 (clear ht hn hk hs hd; simp [Xh, *] at hr; subst hr; exact X1 ⟨_, St.le_refl _, ⟨rfl, trivial⟩, X2 _⟩); refine X0 ?_; refine X0 ?_; refine JR ?_; refine Zo ?_; refine Zp ?_; refine ZE ?_
 refine Z1 ?_; refine XB rfl rfl (fun hq => ?_) (fun hq => ?_); refine Zo ?_; refine Zp ?_; refine Zc (hcon := hs) ?_; refine Zd ?_; refine Z4 ?_; refine Z0 ?_; refine JD ?_
 refine XC rfl (fun hq => ?_) (fun hq => ?_); refine X3 ?_; refine JT ?_; refine X0 ?_; refine JR ?_; refine Z0 ?_; refine JD ?_
 (clear ht hn hk hs hd; simp [Xh, *] at hr; subst hr; exact X1 ⟨_, St.le_refl _, ⟨rfl, trivial⟩, X2 _⟩); refine JR ?_; refine Zo ?_; refine Zp ?_; refine ZE ?_; refine Z1 ?_
 refine XB rfl rfl (fun hq => ?_) (fun hq => ?_); refine Zo ?_; refine Zp ?_; refine Zc (hcon := hd) ?_; refine Zd ?_; refine Z4 ?_; refine Z0 ?_; refine JD ?_; refine XC rfl (fun hq => ?_) (fun hq => ?_)
 refine X0 ?_; refine JR ?_; refine Z0 ?_; refine JD ?_; (clear ht hn hk hs hd; simp [Xh, *] at hr; subst hr; exact X1 ⟨_, St.le_refl _, ⟨rfl, trivial⟩, X2 _⟩); refine X3 ?_; refine X0 ?_
 refine JR ?_; refine Z0 ?_; refine JD ?_; (clear ht hn hk hs hd; simp [Xh, *] at hr; subst hr; exact X1 ⟨_, St.le_refl _, ⟨rfl, trivial⟩, X2 _⟩); refine Z5 ?_; refine Z5 ?_; refine Z5 ?_; refine Z5 ?_
 refine Z7 ?_; refine Z0 ?_; refine JD ?_; refine JF ?_; refine X3 ?_; refine X0 ?_; refine JR ?_; refine Z0 ?_; refine JD ?_
 (clear ht hn hk hs hd; simp [Xh, *] at hr; subst hr; exact X1 ⟨_, St.le_refl _, ⟨rfl, trivial⟩, X2 _⟩); refine Z5 ?_; refine Z5 ?_; refine Z5 ?_; refine Z5 ?_; refine Z7 ?_; refine Z0 ?_; refine JD ?_
 refine JF ?_; refine JR ?_; refine Zo ?_; refine Zp ?_; refine ZE ?_; refine Z1 ?_; refine XB rfl rfl (fun hq => ?_) (fun hq => ?_); refine Zo ?_; refine Zp ?_; refine Zc (hcon := hd) ?_; refine Zd ?_; refine Z4 ?_
 refine Z0 ?_; refine JD ?_; refine XC rfl (fun hq => ?_) (fun hq => ?_); refine X0 ?_; refine JR ?_; refine Z0 ?_; refine JD ?_
 (clear ht hn hk hs hd; simp [Xh, *] at hr; subst hr; exact X1 ⟨_, St.le_refl _, ⟨rfl, trivial⟩, X2 _⟩); refine X3 ?_; refine X0 ?_; refine JR ?_; refine Z0 ?_; refine JD ?_
 (clear ht hn hk hs hd; simp [Xh, *] at hr; subst hr; exact X1 ⟨_, St.le_refl _, ⟨rfl, trivial⟩, X2 _⟩); refine Z5 ?_; refine Z5 ?_; refine Z5 ?_; refine Z5 ?_; refine Z7 ?_; refine Z0 ?_; refine JD ?_
 refine JF ?_; refine X3 ?_; refine X0 ?_; refine JR ?_; refine Z0 ?_; refine JD ?_; (clear ht hn hk hs hd; simp [Xh, *] at hr; subst hr; exact X1 ⟨_, St.le_refl _, ⟨rfl, trivial⟩, X2 _⟩)
 refine Z5 ?_; refine Z5 ?_; refine Z5 ?_; refine Z5 ?_; refine Z7 ?_; refine Z0 ?_; refine JD ?_; refine JF ?_; refine X0 ?_; refine X0 ?_; refine JR ?_; refine Zo ?_; refine Zp ?_; refine Zc (hcon := hn) ?_
 refine Zd ?_; refine Z0 ?_; refine JD ?_; refine XC rfl (fun hq => ?_) (fun hq => ?_); refine X3 ?_; refine JT ?_; refine X0 ?_; refine JR ?_; refine Z0 ?_; refine JD ?_
 (clear ht hn hk hs hd; simp [Xh, *] at hr; subst hr; exact X1 ⟨_, St.le_refl _, ⟨rfl, trivial⟩, X2 _⟩); refine JR ?_; refine Zo ?_; refine Zp ?_; refine Z1 ?_; refine Zo ?_; refine Zp ?_
 refine Zc (hcon := hk) ?_; refine Zd ?_; refine Z4 ?_; refine Z0 ?_; refine JD ?_; refine XC rfl (fun hq => ?_) (fun hq => ?_); refine X0 ?_; refine JR ?_; refine Z0 ?_; refine JD ?_
 (clear ht hn hk hs hd; simp [Xh, *] at hr; subst hr; exact X1 ⟨_, St.le_refl _, ⟨rfl, trivial⟩, X2 _⟩); refine X0 ?_; refine X0 ?_; refine JR ?_; refine Zo ?_; refine Zp ?_; refine ZE ?_
 refine Z1 ?_; refine XB rfl rfl (fun hq => ?_) (fun hq => ?_); refine Zo ?_; refine Zp ?_; refine Zc (hcon := hs) ?_; refine Zd ?_; refine Z4 ?_; refine Z0 ?_; refine JD ?_
 refine XC rfl (fun hq => ?_) (fun hq => ?_); refine X3 ?_; refine JT ?_; refine X0 ?_; refine JR ?_; refine Z0 ?_; refine JD ?_
 (clear ht hn hk hs hd; simp [Xh, *] at hr; subst hr; exact X1 ⟨_, St.le_refl _, ⟨rfl, trivial⟩, X2 _⟩); refine JR ?_; refine Zo ?_; refine Zp ?_; refine ZE ?_; refine Z1 ?_
 refine XB rfl rfl (fun hq => ?_) (fun hq => ?_); refine Zo ?_; refine Zp ?_; refine Zc (hcon := hd) ?_; refine Zd ?_; refine Z4 ?_; refine Z0 ?_; refine JD ?_; refine XC rfl (fun hq => ?_) (fun hq => ?_)
 refine X0 ?_; refine JR ?_; refine Z0 ?_; refine JD ?_; (clear ht hn hk hs hd; simp [Xh, *] at hr; subst hr; exact X1 ⟨_, St.le_refl _, ⟨rfl, trivial⟩, X2 _⟩); refine X3 ?_; refine X0 ?_
 refine JR ?_; refine Z0 ?_; refine JD ?_; (clear ht hn hk hs hd; simp [Xh, *] at hr; subst hr; exact X1 ⟨_, St.le_refl _, ⟨rfl, trivial⟩, X2 _⟩); refine Z5 ?_; refine Z5 ?_; refine Z5 ?_; refine Z5 ?_
 refine Z7 ?_; refine Z0 ?_; refine JD ?_; refine JF ?_; refine X3 ?_; refine X0 ?_; refine JR ?_; refine Z0 ?_; refine JD ?_
 (clear ht hn hk hs hd; simp [Xh, *] at hr; subst hr; exact X1 ⟨_, St.le_refl _, ⟨rfl, trivial⟩, X2 _⟩); refine Z5 ?_; refine Z5 ?_; refine Z5 ?_; refine Z5 ?_; refine Z7 ?_; refine Z0 ?_; refine JD ?_
 refine JF ?_; refine JR ?_; refine Zo ?_; refine Zp ?_; refine ZE ?_; refine Z1 ?_; refine XB rfl rfl (fun hq => ?_) (fun hq => ?_); refine Zo ?_; refine Zp ?_; refine Zc (hcon := hd) ?_; refine Zd ?_; refine Z4 ?_
 refine Z0 ?_; refine JD ?_; refine XC rfl (fun hq => ?_) (fun hq => ?_); refine X0 ?_; refine JR ?_; refine Z0 ?_; refine JD ?_
 (clear ht hn hk hs hd; simp [Xh, *] at hr; subst hr; exact X1 ⟨_, St.le_refl _, ⟨rfl, trivial⟩, X2 _⟩); refine X3 ?_; refine X0 ?_; refine JR ?_; refine Z0 ?_; refine JD ?_
 (clear ht hn hk hs hd; simp [Xh, *] at hr; subst hr; exact X1 ⟨_, St.le_refl _, ⟨rfl, trivial⟩, X2 _⟩); refine Z5 ?_; refine Z5 ?_; refine Z5 ?_; refine Z5 ?_; refine Z7 ?_; refine Z0 ?_; refine JD ?_
 refine JF ?_; refine X3 ?_; refine X0 ?_; refine JR ?_; refine Z0 ?_; refine JD ?_; (clear ht hn hk hs hd; simp [Xh, *] at hr; subst hr; exact X1 ⟨_, St.le_refl _, ⟨rfl, trivial⟩, X2 _⟩)
 refine Z5 ?_; refine Z5 ?_; refine Z7 ?_; refine Z1 ?_; refine Z5 ?_; refine Z5 ?_; refine Z5 ?_; refine Z5 ?_; refine Z7 ?_; refine Z0 ?_; refine JD ?_; refine JF ?_; refine X0 ?_; refine X0 ?_; refine JR ?_
 refine Zo ?_; refine Zp ?_; refine Zc (hcon := hn) ?_; refine Zd ?_; refine Z0 ?_; refine JD ?_; refine XC rfl (fun hq => ?_) (fun hq => ?_); refine X3 ?_; refine JT ?_; refine X0 ?_; refine JR ?_
 refine Z0 ?_; refine JD ?_; (clear ht hn hk hs hd; simp [Xh, *] at hr; subst hr; exact X1 ⟨_, St.le_refl _, ⟨rfl, trivial⟩, X2 _⟩); refine JR ?_; refine Zo ?_; refine Zp ?_; refine Z1 ?_; refine Z5 ?_
 refine Z5 ?_; refine Z5 ?_; refine Z5 ?_; refine Z7 ?_; refine Z0 ?_; refine JD ?_; refine JF ?_; refine X0 ?_; refine X0 ?_; refine JR ?_; refine Zo ?_; refine Zp ?_; refine ZE ?_; refine Z1 ?_
 refine XB rfl rfl (fun hq => ?_) (fun hq => ?_); refine Zo ?_; refine Zp ?_; refine Zc (hcon := hs) ?_; refine Zd ?_; refine Z4 ?_; refine Z0 ?_; refine JD ?_; refine XC rfl (fun hq => ?_) (fun hq => ?_)
 refine X3 ?_; refine JT ?_; refine X0 ?_; refine JR ?_; refine Z0 ?_; refine JD ?_; (clear ht hn hk hs hd; simp [Xh, *] at hr; subst hr; exact X1 ⟨_, St.le_refl _, ⟨rfl, trivial⟩, X2 _⟩)
 refine JR ?_; refine Zo ?_; refine Zp ?_; refine ZE ?_; refine Z1 ?_; refine XB rfl rfl (fun hq => ?_) (fun hq => ?_); refine Zo ?_; refine Zp ?_; refine Zc (hcon := hd) ?_; refine Zd ?_; refine Z4 ?_; refine Z0 ?_
 refine JD ?_; refine XC rfl (fun hq => ?_) (fun hq => ?_); refine X0 ?_; refine JR ?_; refine Z0 ?_; refine JD ?_
 (clear ht hn hk hs hd; simp [Xh, *] at hr; subst hr; exact X1 ⟨_, St.le_refl _, ⟨rfl, trivial⟩, X2 _⟩); refine X3 ?_; refine X0 ?_; refine JR ?_; refine Z0 ?_; refine JD ?_
 (clear ht hn hk hs hd; simp [Xh, *] at hr; subst hr; exact X1 ⟨_, St.le_refl _, ⟨rfl, trivial⟩, X2 _⟩); refine Z5 ?_; refine Z5 ?_; refine Z5 ?_; refine Z5 ?_; refine Z7 ?_; refine Z0 ?_; refine JD ?_
 refine JF ?_; refine X3 ?_; refine X0 ?_; refine JR ?_; refine Z0 ?_; refine JD ?_; (clear ht hn hk hs hd; simp [Xh, *] at hr; subst hr; exact X1 ⟨_, St.le_refl _, ⟨rfl, trivial⟩, X2 _⟩)
 refine Z5 ?_; refine Z5 ?_; refine Z5 ?_; refine Z5 ?_; refine Z7 ?_; refine Z0 ?_; refine JD ?_; refine JF ?_; refine JR ?_; refine Zo ?_; refine Zp ?_; refine ZE ?_; refine Z1 ?_
 refine XB rfl rfl (fun hq => ?_) (fun hq => ?_); refine Zo ?_; refine Zp ?_; refine Zc (hcon := hd) ?_; refine Zd ?_; refine Z4 ?_; refine Z0 ?_; refine JD ?_; refine XC rfl (fun hq => ?_) (fun hq => ?_)
 refine X0 ?_; refine JR ?_; refine Z0 ?_; refine JD ?_; (clear ht hn hk hs hd; simp [Xh, *] at hr; subst hr; exact X1 ⟨_, St.le_refl _, ⟨rfl, trivial⟩, X2 _⟩); refine X3 ?_; refine X0 ?_
 refine JR ?_; refine Z0 ?_; refine JD ?_; (clear ht hn hk hs hd; simp [Xh, *] at hr; subst hr; exact X1 ⟨_, St.le_refl _, ⟨rfl, trivial⟩, X2 _⟩); refine Z5 ?_; refine Z5 ?_; refine Z5 ?_; refine Z5 ?_
 refine Z7 ?_; refine Z0 ?_; refine JD ?_; refine JF ?_; refine X3 ?_; refine X0 ?_; refine JR ?_; refine Z0 ?_; refine JD ?_
 (clear ht hn hk hs hd; simp [Xh, *] at hr; subst hr; exact X1 ⟨_, St.le_refl _, ⟨rfl, trivial⟩, X2 _⟩); refine Z5 ?_; refine Z5 ?_; refine Z5 ?_; refine Z5 ?_; refine Z6 ?_; refine Z6 ?_; refine Z6 ?_
 refine Z5 ?_; refine Z7 ?_; refine Z0 ?_; refine JD ?_; refine JF ?_; refine X0 ?_; refine JR ?_; refine Zo ?_; refine Zp ?_; refine Z1 ?_; refine X0G rfl rfl (fun hq => ?_) (fun hq => ?_); refine Zo ?_
 refine Zp ?_; refine Z4 ?_; refine Z1 ?_; refine X0G rfl rfl (fun hq => ?_) (fun hq => ?_); refine Zo ?_; refine Zp ?_; refine Zc (hcon := ht) ?_; refine Z8 ?_; refine Z4 ?_; refine Z0 ?_; refine JD ?_
 refine UK rfl (fun hq => ?_) (fun hq => ?_); refine X0 ?_; refine JR ?_; refine Z0 ?_; refine JD ?_
 (clear ht hn hk hs hd; simp [Xh, *] at hr; subst hr; exact X1 ⟨_, St.le_refl _, ⟨rfl, trivial⟩, X2 _⟩); refine X0 ?_; refine X0 ?_; refine JR ?_; refine Zo ?_; refine Zp ?_
 refine Zc (hcon := hn) ?_; refine Zd ?_; refine Z0 ?_; refine JD ?_; refine XC rfl (fun hq => ?_) (fun hq => ?_); refine X3 ?_; refine JT ?_; refine X0 ?_; refine JR ?_; refine Z0 ?_; refine JD ?_
 (clear ht hn hk hs hd; simp [Xh, *] at hr; subst hr; exact X1 ⟨_, St.le_refl _, ⟨rfl, trivial⟩, X2 _⟩); refine JR ?_; refine Zo ?_; refine Zp ?_; refine Z1 ?_; refine Zo ?_; refine Zp ?_
 refine Zc (hcon := hk) ?_; refine Zd ?_; refine Z4 ?_; refine Z0 ?_; refine JD ?_; refine XC rfl (fun hq => ?_) (fun hq => ?_); refine X0 ?_; refine JR ?_; refine Z0 ?_; refine JD ?_
 (clear ht hn hk hs hd; simp [Xh, *] at hr; subst hr; exact X1 ⟨_, St.le_refl _, ⟨rfl, trivial⟩, X2 _⟩); refine X0 ?_; refine X0 ?_; refine JR ?_; refine Zo ?_; refine Zp ?_; refine ZE ?_
 refine Z1 ?_; refine XB rfl rfl (fun hq => ?_) (fun hq => ?_); refine Zo ?_; refine Zp ?_; refine Zc (hcon := hs) ?_; refine Zd ?_; refine Z4 ?_; refine Z0 ?_; refine JD ?_
 refine XC rfl (fun hq => ?_) (fun hq => ?_); refine X3 ?_; refine JT ?_; refine X0 ?_; refine JR ?_; refine Z0 ?_; refine JD ?_
 (clear ht hn hk hs hd; simp [Xh, *] at hr; subst hr; exact X1 ⟨_, St.le_refl _, ⟨rfl, trivial⟩, X2 _⟩); refine JR ?_; refine Zo ?_; refine Zp ?_; refine ZE ?_; refine Z1 ?_
 refine XB rfl rfl (fun hq => ?_) (fun hq => ?_); refine Zo ?_; refine Zp ?_; refine Zc (hcon := hd) ?_; refine Zd ?_; refine Z4 ?_; refine Z0 ?_; refine JD ?_; refine XC rfl (fun hq => ?_) (fun hq => ?_)
 refine X0 ?_; refine JR ?_; refine Z0 ?_; refine JD ?_; (clear ht hn hk hs hd; simp [Xh, *] at hr; subst hr; exact X1 ⟨_, St.le_refl _, ⟨rfl, trivial⟩, X2 _⟩); refine X3 ?_; refine X0 ?_
 refine JR ?_; refine Z0 ?_; refine JD ?_; (clear ht hn hk hs hd; simp [Xh, *] at hr; subst hr; exact X1 ⟨_, St.le_refl _, ⟨rfl, trivial⟩, X2 _⟩); refine Z5 ?_; refine Z5 ?_; refine Z5 ?_; refine Z5 ?_
 refine Z7 ?_; refine Z0 ?_; refine JD ?_; refine JF ?_; refine X3 ?_; refine X0 ?_; refine JR ?_; refine Z0 ?_; refine JD ?_
 (clear ht hn hk hs hd; simp [Xh, *] at hr; subst hr; exact X1 ⟨_, St.le_refl _, ⟨rfl, trivial⟩, X2 _⟩); refine Z5 ?_; refine Z5 ?_; refine Z5 ?_; refine Z5 ?_; refine Z7 ?_; refine Z0 ?_; refine JD ?_
 refine JF ?_; refine JR ?_; refine Zo ?_; refine Zp ?_; refine ZE ?_; refine Z1 ?_; refine XB rfl rfl (fun hq => ?_) (fun hq => ?_); refine Zo ?_; refine Zp ?_; refine Zc (hcon := hd) ?_; refine Zd ?_; refine Z4 ?_
 refine Z0 ?_; refine JD ?_; refine XC rfl (fun hq => ?_) (fun hq => ?_); refine X0 ?_; refine JR ?_; refine Z0 ?_; refine JD ?_
 (clear ht hn hk hs hd; simp [Xh, *] at hr; subst hr; exact X1 ⟨_, St.le_refl _, ⟨rfl, trivial⟩, X2 _⟩); refine X3 ?_; refine X0 ?_; refine JR ?_; refine Z0 ?_; refine JD ?_
 (clear ht hn hk hs hd; simp [Xh, *] at hr; subst hr; exact X1 ⟨_, St.le_refl _, ⟨rfl, trivial⟩, X2 _⟩); refine Z5 ?_; refine Z5 ?_; refine Z5 ?_; refine Z5 ?_; refine Z7 ?_; refine Z0 ?_; refine JD ?_
 refine JF ?_; refine X3 ?_; refine X0 ?_; refine JR ?_; refine Z0 ?_; refine JD ?_; (clear ht hn hk hs hd; simp [Xh, *] at hr; subst hr; exact X1 ⟨_, St.le_refl _, ⟨rfl, trivial⟩, X2 _⟩)
 refine Z5 ?_; refine Z5 ?_; refine Z5 ?_; refine Z5 ?_; refine Z7 ?_; refine Z0 ?_; refine JD ?_; refine JF ?_; refine X0 ?_; refine X0 ?_; refine JR ?_; refine Zo ?_; refine Zp ?_; refine Zc (hcon := hn) ?_
 refine Zd ?_; refine Z0 ?_; refine JD ?_; refine XC rfl (fun hq => ?_) (fun hq => ?_); refine X3 ?_; refine JT ?_; refine X0 ?_; refine JR ?_; refine Z0 ?_; refine JD ?_
 (clear ht hn hk hs hd; simp [Xh, *] at hr; subst hr; exact X1 ⟨_, St.le_refl _, ⟨rfl, trivial⟩, X2 _⟩); refine JR ?_; refine Zo ?_; refine Zp ?_; refine Z1 ?_; refine Zo ?_; refine Zp ?_
 refine Zc (hcon := hk) ?_; refine Zd ?_; refine Z4 ?_; refine Z0 ?_; refine JD ?_; refine XC rfl (fun hq => ?_) (fun hq => ?_); refine X0 ?_; refine JR ?_; refine Z0 ?_; refine JD ?_
 (clear ht hn hk hs hd; simp [Xh, *] at hr; subst hr; exact X1 ⟨_, St.le_refl _, ⟨rfl, trivial⟩, X2 _⟩); refine X0 ?_; refine X0 ?_; refine JR ?_; refine Zo ?_; refine Zp ?_; refine ZE ?_
 refine Z1 ?_; refine XB rfl rfl (fun hq => ?_) (fun hq => ?_); refine Zo ?_; refine Zp ?_; refine Zc (hcon := hs) ?_; refine Zd ?_; refine Z4 ?_; refine Z0 ?_; refine JD ?_
 refine XC rfl (fun hq => ?_) (fun hq => ?_); refine X3 ?_; refine JT ?_; refine X0 ?_; refine JR ?_; refine Z0 ?_; refine JD ?_
 (clear ht hn hk hs hd; simp [Xh, *] at hr; subst hr; exact X1 ⟨_, St.le_refl _, ⟨rfl, trivial⟩, X2 _⟩); refine JR ?_; refine Zo ?_; refine Zp ?_; refine ZE ?_; refine Z1 ?_
 refine XB rfl rfl (fun hq => ?_) (fun hq => ?_); refine Zo ?_; refine Zp ?_; refine Zc (hcon := hd) ?_; refine Zd ?_; refine Z4 ?_; refine Z0 ?_; refine JD ?_; refine XC rfl (fun hq => ?_) (fun hq => ?_)
 refine X0 ?_; refine JR ?_; refine Z0 ?_; refine JD ?_; (clear ht hn hk hs hd; simp [Xh, *] at hr; subst hr; exact X1 ⟨_, St.le_refl _, ⟨rfl, trivial⟩, X2 _⟩); refine X3 ?_; refine X0 ?_
 refine JR ?_; refine Z0 ?_; refine JD ?_; (clear ht hn hk hs hd; simp [Xh, *] at hr; subst hr; exact X1 ⟨_, St.le_refl _, ⟨rfl, trivial⟩, X2 _⟩); refine Z5 ?_; refine Z5 ?_; refine Z5 ?_; refine Z5 ?_
 refine Z7 ?_; refine Z0 ?_; refine JD ?_; refine JF ?_; refine X3 ?_; refine X0 ?_; refine JR ?_; refine Z0 ?_; refine JD ?_
 (clear ht hn hk hs hd; simp [Xh, *] at hr; subst hr; exact X1 ⟨_, St.le_refl _, ⟨rfl, trivial⟩, X2 _⟩); refine Z5 ?_; refine Z5 ?_; refine Z5 ?_; refine Z5 ?_; refine Z7 ?_; refine Z0 ?_; refine JD ?_
 refine JF ?_; refine JR ?_; refine Zo ?_; refine Zp ?_; refine ZE ?_; refine Z1 ?_; refine XB rfl rfl (fun hq => ?_) (fun hq => ?_); refine Zo ?_; refine Zp ?_; refine Zc (hcon := hd) ?_; refine Zd ?_; refine Z4 ?_
 refine Z0 ?_; refine JD ?_; refine XC rfl (fun hq => ?_) (fun hq => ?_); refine X0 ?_; refine JR ?_; refine Z0 ?_; refine JD ?_
 (clear ht hn hk hs hd; simp [Xh, *] at hr; subst hr; exact X1 ⟨_, St.le_refl _, ⟨rfl, trivial⟩, X2 _⟩); refine X3 ?_; refine X0 ?_; refine JR ?_; refine Z0 ?_; refine JD ?_
 (clear ht hn hk hs hd; simp [Xh, *] at hr; subst hr; exact X1 ⟨_, St.le_refl _, ⟨rfl, trivial⟩, X2 _⟩); refine Z5 ?_; refine Z5 ?_; refine Z5 ?_; refine Z5 ?_; refine Z7 ?_; refine Z0 ?_; refine JD ?_
 refine JF ?_; refine X3 ?_; refine X0 ?_; refine JR ?_; refine Z0 ?_; refine JD ?_; (clear ht hn hk hs hd; simp [Xh, *] at hr; subst hr; exact X1 ⟨_, St.le_refl _, ⟨rfl, trivial⟩, X2 _⟩)
 refine Z5 ?_; refine Z5 ?_; refine Z7 ?_; refine Z1 ?_; refine Z5 ?_; refine Z5 ?_; refine Z5 ?_; refine Z5 ?_; refine Z7 ?_; refine Z0 ?_; refine JD ?_; refine JF ?_; refine X0 ?_; refine X0 ?_; refine JR ?_
 refine Zo ?_; refine Zp ?_; refine Zc (hcon := hn) ?_; refine Zd ?_; refine Z0 ?_; refine JD ?_; refine XC rfl (fun hq => ?_) (fun hq => ?_); refine X3 ?_; refine JT ?_; refine X0 ?_; refine JR ?_
 refine Z0 ?_; refine JD ?_; (clear ht hn hk hs hd; simp [Xh, *] at hr; subst hr; exact X1 ⟨_, St.le_refl _, ⟨rfl, trivial⟩, X2 _⟩); refine JR ?_; refine Zo ?_; refine Zp ?_; refine Z1 ?_; refine Z5 ?_
 refine Z5 ?_; refine Z5 ?_; refine Z5 ?_; refine Z7 ?_; refine Z0 ?_; refine JD ?_; refine JF ?_; refine X0 ?_; refine X0 ?_; refine JR ?_; refine Zo ?_; refine Zp ?_; refine ZE ?_; refine Z1 ?_
 refine XB rfl rfl (fun hq => ?_) (fun hq => ?_); refine Zo ?_; refine Zp ?_; refine Zc (hcon := hs) ?_; refine Zd ?_; refine Z4 ?_; refine Z0 ?_; refine JD ?_; refine XC rfl (fun hq => ?_) (fun hq => ?_)
 refine X3 ?_; refine JT ?_; refine X0 ?_; refine JR ?_; refine Z0 ?_; refine JD ?_; (clear ht hn hk hs hd; simp [Xh, *] at hr; subst hr; exact X1 ⟨_, St.le_refl _, ⟨rfl, trivial⟩, X2 _⟩)
 refine JR ?_; refine Zo ?_; refine Zp ?_; refine ZE ?_; refine Z1 ?_; refine XB rfl rfl (fun hq => ?_) (fun hq => ?_); refine Zo ?_; refine Zp ?_; refine Zc (hcon := hd) ?_; refine Zd ?_; refine Z4 ?_; refine Z0 ?_
 refine JD ?_; refine XC rfl (fun hq => ?_) (fun hq => ?_); refine X0 ?_; refine JR ?_; refine Z0 ?_; refine JD ?_
 (clear ht hn hk hs hd; simp [Xh, *] at hr; subst hr; exact X1 ⟨_, St.le_refl _, ⟨rfl, trivial⟩, X2 _⟩); refine X3 ?_; refine X0 ?_; refine JR ?_; refine Z0 ?_; refine JD ?_
 (clear ht hn hk hs hd; simp [Xh, *] at hr; subst hr; exact X1 ⟨_, St.le_refl _, ⟨rfl, trivial⟩, X2 _⟩); refine Z5 ?_; refine Z5 ?_; refine Z5 ?_; refine Z5 ?_; refine Z7 ?_; refine Z0 ?_; refine JD ?_
 refine JF ?_; refine X3 ?_; refine X0 ?_; refine JR ?_; refine Z0 ?_; refine JD ?_; (clear ht hn hk hs hd; simp [Xh, *] at hr; subst hr; exact X1 ⟨_, St.le_refl _, ⟨rfl, trivial⟩, X2 _⟩)
 refine Z5 ?_; refine Z5 ?_; refine Z5 ?_; refine Z5 ?_; refine Z7 ?_; refine Z0 ?_; refine JD ?_; refine JF ?_; refine JR ?_; refine Zo ?_; refine Zp ?_; refine ZE ?_; refine Z1 ?_
 refine XB rfl rfl (fun hq => ?_) (fun hq => ?_); refine Zo ?_; refine Zp ?_; refine Zc (hcon := hd) ?_; refine Zd ?_; refine Z4 ?_; refine Z0 ?_; refine JD ?_; refine XC rfl (fun hq => ?_) (fun hq => ?_)
 refine X0 ?_; refine JR ?_; refine Z0 ?_; refine JD ?_; (clear ht hn hk hs hd; simp [Xh, *] at hr; subst hr; exact X1 ⟨_, St.le_refl _, ⟨rfl, trivial⟩, X2 _⟩); refine X3 ?_; refine X0 ?_
 refine JR ?_; refine Z0 ?_; refine JD ?_; (clear ht hn hk hs hd; simp [Xh, *] at hr; subst hr; exact X1 ⟨_, St.le_refl _, ⟨rfl, trivial⟩, X2 _⟩); refine Z5 ?_; refine Z5 ?_; refine Z5 ?_; refine Z5 ?_
 refine Z7 ?_; refine Z0 ?_; refine JD ?_; refine JF ?_; refine X3 ?_; refine X0 ?_; refine JR ?_; refine Z0 ?_; refine JD ?_
 (clear ht hn hk hs hd; simp [Xh, *] at hr; subst hr; exact X1 ⟨_, St.le_refl _, ⟨rfl, trivial⟩, X2 _⟩)
end Go.Fw
namespace Go.Fw
open Go Go.Proofs
set_option maxRecDepth 100000
set_option linter.unusedVariables false
set_option linter.unusedSimpArgs false
theorem UW {s : List UInt8} (h : s.length ≤ 20) : (YU s).length ≤ 30 := by
 have := X4a (n := s.length) (by omega)
 unfold YU
 rw [List.length_append]
 omega
theorem X0s {s : List UInt8} (h : Xg s = true) : s.length ≤ 20 := by
 unfold Xg at h
 simp at h
 omega
theorem X8P {r : Rul} (h : Yy r = 0) : (-9223372036854775808 ≤ r.n ∧ r.n ≤ 9223372036854775807) ∧ (r.name.length ≤ 20 ∧ r.key.length ≤ 20 ∧ r.src.length ≤ 20 ∧ r.dst.length ≤ 20) ∧ (1 ≤ r.kind ∧ r.kind ≤ 7) := by
 rw [X1l] at h
 unfold UN at h
 split at h
 ·omega
 rename_i h1
 split at h
 ·omega
 rename_i h2
 split at h
 ·omega
 rename_i h3
 have i1 : 1 ≤ r.kind ∧ r.kind ≤ 7 := by
  cases hd : decide (1 ≤ r.kind ∧ r.kind ≤ 7) with
  | true => exact of_decide_eq_true hd
  | false => exact absurd (.inl hd) h1
 have i2 : YJ r.kind r.n = true := by
  cases hd : YJ r.kind r.n with
  | true => rfl
  | false => exact absurd (.inr hd) h1
 have nm : Xg r.name = true := by
  cases hd : Xg r.name with
  | true => rfl
  | false => exact absurd (.inl hd) h3
 have ky : r.key.length ≤ 20 := by
  by_cases hk : Ys r.kind = true
  ·refine X0s (s := r.key) ?_
   cases hd : Xg r.key with
   | true => rfl
   | false => exact absurd (.inr (.inl ⟨hk, hd⟩)) h3
  ·by_cases he : r.key = []
   ·rw [he]; simp
   ·exact absurd (.inl ⟨by simpa using hk, he⟩) h2
 have sr : r.src.length ≤ 20 := by
  by_cases he : r.src = []
  ·rw [he]; simp
  ·refine X0s (s := r.src) ?_
   cases hd : Xg r.src with
   | true => rfl
   | false => exact absurd (.inr (.inr (.inl ⟨he, hd⟩))) h3
 have ds : r.dst.length ≤ 20 := by
  by_cases he : r.dst = []
  ·rw [he]; simp
  ·refine X0s (s := r.dst) ?_
   cases hd : Xg r.dst with
   | true => rfl
   | false => exact absurd (.inr (.inr (.inr ⟨he, hd⟩))) h3
 refine ⟨?_, ⟨X0s nm, ky, sr, ds⟩, i1⟩
 unfold YJ at i2
 split at i2
 ·have := of_decide_eq_true i2; omega
 ·split at i2
  ·have := of_decide_eq_true i2; omega
  ·have := of_decide_eq_true i2; omega
end Go.Fw

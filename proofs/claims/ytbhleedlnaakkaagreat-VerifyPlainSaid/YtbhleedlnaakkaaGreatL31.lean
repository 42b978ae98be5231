/- Changes, rules and records, in plain Lean. -/
import Derived.Test.YtbhleedlnaakkaaGreatL13
import Derived.Test.YtbhleedlnaakkaaGreatL30
set_option maxHeartbeats 8000000
namespace Go.Fw
open Go
set_option linter.unusedVariables false
structure Chg where
 op : Int
 id : Int
 src : Int
 dst : Int
 name : List UInt8
 v : Val
def Vd (v : Val) : Bool := X5 8 v && decide (v.kind = 0)
def idV (n : Int) : Bool := decide (1 ≤ n ∧ n ≤ 1000000)
def V1 (op : Int) : Bool := decide (op = 3 ∨ op = 4 ∨ op = 5 ∨ op = 6 ∨ op = 8)
def UY (op : Int) : Bool := decide (op = 5 ∨ op = 8)
def X0B (c : Chg) : Int :=
 if decide (1 ≤ c.op ∧ c.op ≤ 8) = false ∨ idV c.id = false then 1
 else if (c.op = 6 ∧ (idV c.src = false ∨ idV c.dst = false)) ∨ (c.op ≠ 6 ∧ (c.src ≠ 0 ∨ c.dst ≠ 0)) then 1
 else if (V1 c.op = false ∧ c.name ≠ []) ∨ (UY c.op = false ∧ Vd c.v = false) then 1
 else if V1 c.op = true ∧ Xj c.name = false then 6
 else if UY c.op = true ∧ Vd c.v = false ∧ XF c.v = false then 8 else 0
end Go.Fw
namespace Go.Fw
open Go Go.Proofs
set_option maxRecDepth 100000
set_option linter.unusedVariables false
set_option linter.unusedSimpArgs false
def X1z (op : Int) : Bool × Bool × Bool × Bool := (decide (op = 6), V1 op, UY op, decide (1 ≤ op ∧ op ≤ 8))
theorem X2J (n : Int) : Con Tryz.prog 191 [] [ai n] [] (ab (idV n)) := by
 refine X9 (xs := [ab (idV n)]) Tryz.func191 rfl Tryz.ntmps191 rfl rfl rfl (fun E => ?_)
 by_cases h1 : 1 ≤ n
 ·by_cases h2 : n ≤ 1000000
  ·rw [show idV n = true by unfold idV; exact decide_eq_true ⟨h1, h2⟩]
   refine X0 ?_; refine JR ?_; refine Z0 ?_; refine JD ?_; refine X0 ?_; refine JR ?_; refine Z1 ?_; refine Z2 ?_; refine Z1 ?_; refine Z1 ?_; refine Zm ?_; refine Zn ?_; refine Z0 ?_; refine JD ?_
   first | exact X1 ⟨_, St.le_refl _, ⟨rfl, trivial⟩, X2 _⟩ | exact X1 ⟨_, Xe 2 (y := ab true) (AVal.le_of_eq (by refine Eq.trans (b := ab (decide _)) rfl ?_; exact congrArg ab (by simp; omega))), ⟨rfl, trivial⟩, X2 _⟩ | fail
  ·rw [show idV n = false by unfold idV; exact decide_eq_false (by omega)]
   refine X0 ?_; refine JR ?_; refine Z0 ?_; refine JD ?_; refine X0 ?_; refine JR ?_; refine Z1 ?_; refine Z2 ?_; refine Z1 ?_; refine Z1 ?_; refine Zm ?_; refine Zn ?_; refine Z0 ?_; refine JD ?_
   first | exact X1 ⟨_, St.le_refl _, ⟨rfl, trivial⟩, X2 _⟩ | exact X1 ⟨_, Xe 2 (y := ab false) (AVal.le_of_eq (by refine Eq.trans (b := ab (decide _)) rfl ?_; exact congrArg ab (by simp; omega))), ⟨rfl, trivial⟩, X2 _⟩ | fail
 ·rw [show idV n = false by unfold idV; exact decide_eq_false (by omega)]
  refine X0 ?_; refine JR ?_; refine Z0 ?_; refine JD ?_; refine X0 ?_; refine JR ?_; refine Z1 ?_; refine Z2 ?_; refine Z1 ?_; refine Zo ?_; refine Zo ?_; refine Zq ?_; refine Z0 ?_; refine JD ?_
  first | exact X1 ⟨_, St.le_refl _, ⟨rfl, trivial⟩, X2 _⟩ | exact X1 ⟨_, Xe 2 (y := ab false) (AVal.le_of_eq (by refine Eq.trans (b := ab (decide _)) rfl ?_; exact congrArg ab (by simp; omega))), ⟨rfl, trivial⟩, X2 _⟩ | fail
theorem X8Z (op : Int) : Con Tryz.prog 192 [] [ai op] [] (ab (V1 op)) := by
 refine X9 (xs := [ab (V1 op)]) Tryz.func192 rfl Tryz.ntmps192 rfl rfl rfl (fun E => ?_)
 by_cases k3 : op = 3
 ·subst k3
  repeat first | refine X0 ?_ | (refine JR ?_; (repeat first | refine Z1 ?_ | refine Z0 ?_ | refine Zl ?_ | refine Zn ?_ | refine Zo ?_); refine JD ?_)
  first | exact X1 ⟨_, St.le_refl _, ⟨rfl, trivial⟩, X2 _⟩ | exact X1 ⟨_, Xe 2 (y := ab true) (AVal.le_of_eq (by refine Eq.trans (b := ab (decide _)) rfl ?_; exact congrArg ab (by simp; omega))), ⟨rfl, trivial⟩, X2 _⟩ | fail
 by_cases k4 : op = 4
 ·subst k4
  repeat first | refine X0 ?_ | (refine JR ?_; (repeat first | refine Z1 ?_ | refine Z0 ?_ | refine Zl ?_ | refine Zn ?_ | refine Zq ?_ | refine Zo ?_); refine JD ?_)
  first | exact X1 ⟨_, St.le_refl _, ⟨rfl, trivial⟩, X2 _⟩ | exact X1 ⟨_, Xe 2 (y := ab true) (AVal.le_of_eq (by refine Eq.trans (b := ab (decide _)) rfl ?_; exact congrArg ab (by simp; omega))), ⟨rfl, trivial⟩, X2 _⟩ | fail
 by_cases k5 : op = 5
 ·subst k5
  repeat first | refine X0 ?_ | (refine JR ?_; (repeat first | refine Z1 ?_ | refine Z0 ?_ | refine Zl ?_ | refine Zn ?_ | refine Zq ?_ | refine Zo ?_); refine JD ?_)
  first | exact X1 ⟨_, St.le_refl _, ⟨rfl, trivial⟩, X2 _⟩ | exact X1 ⟨_, Xe 2 (y := ab true) (AVal.le_of_eq (by refine Eq.trans (b := ab (decide _)) rfl ?_; exact congrArg ab (by simp; omega))), ⟨rfl, trivial⟩, X2 _⟩ | fail
 by_cases k6 : op = 6
 ·subst k6
  repeat first | refine X0 ?_ | (refine JR ?_; (repeat first | refine Z1 ?_ | refine Z0 ?_ | refine Zl ?_ | refine Zn ?_ | refine Zq ?_ | refine Zo ?_); refine JD ?_)
  first | exact X1 ⟨_, St.le_refl _, ⟨rfl, trivial⟩, X2 _⟩ | exact X1 ⟨_, Xe 2 (y := ab true) (AVal.le_of_eq (by refine Eq.trans (b := ab (decide _)) rfl ?_; exact congrArg ab (by simp; omega))), ⟨rfl, trivial⟩, X2 _⟩ | fail
 by_cases k8 : op = 8
 ·subst k8
  repeat first | refine X0 ?_ | (refine JR ?_; (repeat first | refine Z1 ?_ | refine Z0 ?_ | refine Zl ?_ | refine Zq ?_); refine JD ?_)
  first | exact X1 ⟨_, St.le_refl _, ⟨rfl, trivial⟩, X2 _⟩ | exact X1 ⟨_, Xe 2 (y := ab true) (AVal.le_of_eq (by refine Eq.trans (b := ab (decide _)) rfl ?_; exact congrArg ab (by simp; omega))), ⟨rfl, trivial⟩, X2 _⟩ | fail
 rw [show V1 op = false by unfold V1; exact decide_eq_false (by omega)]
 repeat first | refine X0 ?_ | (refine JR ?_; (repeat first | refine Z1 ?_ | refine Z0 ?_ | refine Zl ?_ | refine Zq ?_); refine JD ?_)
 first | exact X1 ⟨_, St.le_refl _, ⟨rfl, trivial⟩, X2 _⟩ | exact X1 ⟨_, Xe 2 (y := ab false) (AVal.le_of_eq (by refine Eq.trans (b := ab (decide _)) rfl ?_; exact congrArg ab (by simp; omega))), ⟨rfl, trivial⟩, X2 _⟩ | fail
theorem X7e (op : Int) : Con Tryz.prog 193 [] [ai op] [] (ab (UY op)) := by
 refine X9 (xs := [ab (UY op)]) Tryz.func193 rfl Tryz.ntmps193 rfl rfl rfl (fun E => ?_)
 by_cases k5 : op = 5
 ·subst k5
  refine X0 ?_; refine JR ?_; refine Z0 ?_; refine JD ?_; refine X0 ?_; refine JR ?_; refine Z1 ?_; refine Zl ?_; refine Z1 ?_; refine Zo ?_; refine Zo ?_; refine Zn ?_; refine Z0 ?_; refine JD ?_
  first | exact X1 ⟨_, St.le_refl _, ⟨rfl, trivial⟩, X2 _⟩ | exact X1 ⟨_, Xe 2 (y := ab true) (AVal.le_of_eq (by refine Eq.trans (b := ab (decide _)) rfl ?_; exact congrArg ab (by simp; omega))), ⟨rfl, trivial⟩, X2 _⟩ | fail
 by_cases k8 : op = 8
 ·subst k8
  refine X0 ?_; refine JR ?_; refine Z0 ?_; refine JD ?_; refine X0 ?_; refine JR ?_; refine Z1 ?_; refine Zl ?_; refine Z1 ?_; refine Z1 ?_; refine Zl ?_; refine Zq ?_; refine Z0 ?_; refine JD ?_
  first | exact X1 ⟨_, St.le_refl _, ⟨rfl, trivial⟩, X2 _⟩ | exact X1 ⟨_, Xe 2 (y := ab true) (AVal.le_of_eq (by refine Eq.trans (b := ab (decide _)) rfl ?_; exact congrArg ab (by simp; omega))), ⟨rfl, trivial⟩, X2 _⟩ | fail
 rw [show UY op = false by unfold UY; exact decide_eq_false (by omega)]
 refine X0 ?_; refine JR ?_; refine Z0 ?_; refine JD ?_; refine X0 ?_; refine JR ?_; refine Z1 ?_; refine Zl ?_; refine Z1 ?_; refine Z1 ?_; refine Zl ?_; refine Zq ?_; refine Z0 ?_; refine JD ?_
 first | exact X1 ⟨_, St.le_refl _, ⟨rfl, trivial⟩, X2 _⟩ | exact X1 ⟨_, Xe 2 (y := ab false) (AVal.le_of_eq (by refine Eq.trans (b := ab (decide _)) rfl ?_; exact congrArg ab (by simp; omega))), ⟨rfl, trivial⟩, X2 _⟩ | fail
end Go.Fw
namespace Go.Fw
open Go Go.Proofs
set_option maxRecDepth 100000
set_option linter.unusedVariables false
set_option linter.unusedSimpArgs false
theorem XaM (x : List Nat) (hx : x.length ≤ 1000) : Con Tryz.prog 206 [] [.d (XP x), .d (XP x)] [] (ai 0) := by
 refine X9 (xs := [ai 0]) Tryz.func206 rfl Tryz.ntmps206 rfl rfl rfl (fun E => ?_)
 have hlx : (x.map Xx).length = x.length := by simp
 refine X0 ?_; refine JR ?_; refine Z0 ?_; refine JD ?_; refine X0 ?_; refine X0 ?_; refine JR ?_; refine Z1 ?_; refine Zd ?_; refine ZR ?_; refine Z0 ?_; refine JD ?_; refine X4 ?_
 refine Xs (fun i : Nat => i ≤ x.length) (fun i => ⟨31, [(0, .d (XP x)), (1, .d (XP x)), (5, ai ((i : Int) - 1))], []⟩) (fun i => i) x.length (Nat.le_refl _)
  (X7 rfl ⟨JL, JL, JL, trivial⟩ trivial) ?_
 intro i hi
 cases i with
 | zero =>
  refine X0 ?_; refine X0 ?_; refine JR ?_; refine Z1 ?_; refine Z2 ?_; refine JD ?_; refine JF ?_; refine Xo ?_; refine X0 ?_; refine JR ?_; refine Z0 ?_; refine JD ?_
  exact X1 ⟨_, St.le_refl _, ⟨rfl, trivial⟩, X2 _⟩
 | succ j =>
  have e : (((j + 1 : Nat) : Int) - 1) = (j : Int) := by omega
  rw [e]
  obtain ⟨a, ha⟩ := Xm (l := x) (k := j) (by omega)
  have hxm : (x.map Xx)[j]? = some (Xx a) := Xr ha
  repeat first | refine X0 ?_ | (refine JR ?_; (repeat first | refine Z1 ?_ | refine Z0 ?_ | refine Zk ?_ | refine Z8 ?_ | refine Zs ?_ | refine Z2 ?_ | refine ZR ?_ | refine Zj ?_); refine JD ?_) | refine JT ?_ | refine JF ?_ | refine X4 ?_ | refine X3 ?_
  exact ⟨j, by omega, by omega, X7 rfl ⟨JL, JL, JL, trivial⟩ trivial⟩
def VC (s : Int) (x : List Nat) : List Nat := if s = 0 then YK x x else YK YO YO
theorem X5X (s : Int) (hs : s = 0 ∨ s = 1 ∨ s = -1) (x : List Nat) (hx : YT x) (hl : x.length = 14) : Con Tryz.prog 142 [] [ai s, .d (XP x), ai (-s), .d (XP x)] [] (.tup [ai 0, .d (XP (VC s x))]) := by
 refine X9 (xs := [ai 0, .d (XP (VC s x))]) Tryz.func142 rfl Tryz.ntmps142 rfl rfl rfl (fun E => ?_)
 have hp := X1s x x hx hx rfl (by omega)
 have hz := X1s YO YO (X0V 14) (X0V 14) rfl (by decide)
 have ho := XaM x (by omega)
 by_cases h0 : s = 0
 ·subst h0
  rw [show VC 0 x = YK x x from if_pos rfl]
  generalize YK x x = y at *
  repeat first | refine X0 ?_ | (refine JR ?_; (repeat first | refine Z1 ?_ | refine Z0 ?_ | refine Zl ?_ | refine Zn ?_ | refine Zo ?_ | refine Z9 (hcon := hp) ?_); refine JD ?_) | refine JT ?_
  exact X1 ⟨_, St.le_refl _, ⟨rfl, rfl, trivial⟩, X2 _⟩
 have hs2 : VC s x = YK YO YO := if_neg h0
 rw [hs2]
 clear hs2
 generalize YK YO YO = y at *
 by_cases h1 : s = 1
 ·subst h1
  repeat first | refine X0 ?_ | (refine JR ?_; (repeat first | refine Z1 ?_ | refine Z0 ?_ | refine Zl ?_ | refine Zq ?_ | refine ZS ?_ | refine Z9 (hcon := ho) ?_ | refine Z9 (hcon := hz) ?_); refine JD ?_) | refine JT ?_ | refine JF ?_ | refine X3 ?_
  exact X1 ⟨_, St.le_refl _, ⟨rfl, rfl, trivial⟩, X2 _⟩
 ·obtain rfl : s = -1 := by omega
  repeat first | refine X0 ?_ | (refine JR ?_; (repeat first | refine Z1 ?_ | refine Z0 ?_ | refine Zl ?_ | refine Zq ?_ | refine ZS ?_ | refine Z9 (hcon := ho) ?_ | refine Z9 (hcon := hz) ?_); refine JD ?_) | refine JT ?_ | refine JF ?_ | refine X3 ?_
  exact X1 ⟨_, St.le_refl _, ⟨rfl, rfl, trivial⟩, X2 _⟩
end Go.Fw
namespace Go.Fw
open Go Go.Proofs
set_option maxRecDepth 100000
set_option linter.unusedVariables false
set_option linter.unusedSimpArgs false
theorem Xas (n d : Int) : Con Tryz.prog 91 [] [Yz n d, Yz n d] [] (ai 0) := by
 refine X9 (xs := [ai 0]) Tryz.func91 rfl Tryz.ntmps91 rfl rfl rfl (fun E => ?_)
 have hv := X1P n d
 cases hb : YN n d with
 | true =>
  rw [hb] at hv
  simp [YN] at hb
  obtain ⟨D, rfl⟩ : ∃ D : Nat, d = D := ⟨d.toNat, by omega⟩
  have hsz := X0J n (by omega)
  have hsg := X1E n
  have hr := X2m n
  have ht := X24 n.natAbs D (by omega) (by omega)
  have hsum := X5X (XO n) hr (XX 14 (n.natAbs * D)) (X0A _ _) (Vg _ _)
  generalize XO n = s at *
  generalize XX 14 (n.natAbs * D) = x at *
  generalize VC s x = y at *
  generalize n.natAbs = N at *
  have hr1 : -1 ≤ s ∧ s ≤ 1 := by omega
  clear hr hb
  repeat first | refine X0 ?_ | (refine JR ?_; (repeat first | refine Z1 ?_ | refine Z0 ?_ | refine ZB ?_ | refine ZC ?_ | refine ZL ?_ | refine Zu ?_ | refine ZA (γ := 100) ?_ | refine ZA (γ := 101) ?_ | refine ZF ?_ | refine Z9 (hcon := hv) ?_ | refine Z9 (hcon := hsz) ?_ | refine Z9 (hcon := hsg) ?_ | refine Z9 (hcon := ht) ?_ | refine Z9 (hcon := hsum) ?_); refine JD ?_) | refine JF ?_ | refine X3 ?_
  exact X1 ⟨_, St.le_refl _, ⟨rfl, trivial⟩, X2 _⟩
 | false =>
  rw [hb] at hv
  clear hb
  have hsz : Con Tryz.prog 145 [] [ai 0] [] (ai 0) := X0J 0 (by omega)
  have hsg : Con Tryz.prog 143 [] [ai 0] [] (ai 0) := X1E 0
  have ht : Con Tryz.prog 144 [] [ai 0, ai 1] [] (.d (XP (XX 14 (0 * 1)))) := X24 0 1 (by omega) (by omega)
  have hsum : Con Tryz.prog 142 [] [ai 0, .d (XP (XX 14 (0 * 1))), ai 0, .d (XP (XX 14 (0 * 1)))] [] (.tup [ai 0, .d (XP (VC 0 (XX 14 (0 * 1))))]) := X5X 0 (.inl rfl) (XX 14 (0 * 1)) (X0A _ _) (Vg _ _)
  generalize XX 14 (0 * 1) = x at *
  generalize VC 0 x = y at *
  repeat first | refine X0 ?_ | (refine JR ?_; (repeat first | refine Z1 ?_ | refine Z0 ?_ | refine ZB ?_ | refine ZC ?_ | refine ZL ?_ | refine Zu ?_ | refine ZA (γ := 100) ?_ | refine ZA (γ := 101) ?_ | refine Zy ?_ | refine Zx ?_ | refine ZF ?_ | refine Z9 (hcon := hv) ?_ | refine Z9 (hcon := hsz) ?_ | refine Z9 (hcon := hsg) ?_ | refine Z9 (hcon := ht) ?_ | refine Z9 (hcon := hsum) ?_); refine JD ?_) | refine JT ?_
  exact X1 ⟨_, St.le_refl _, ⟨rfl, trivial⟩, X2 _⟩
theorem X18 (n : Int) : Con Tryz.prog 219 [] [ai n, ai n] [] (ai 0) := by
 refine X9 (xs := [ai 0]) Tryz.func219 rfl Tryz.ntmps219 rfl rfl rfl (fun E => ?_)
 have h : ¬ n < n := by omega
 repeat first | refine X0 ?_ | (refine JR ?_; (repeat first | refine Z1 ?_ | refine Z0 ?_ | refine Z8 ?_ | refine Zs ?_); refine JD ?_) | refine JF ?_ | refine X3 ?_
 exact X1 ⟨_, St.le_refl _, ⟨rfl, trivial⟩, X2 _⟩
theorem X3r : ∀ s : List UInt8, Op.bytesLess s s = false
 | [] => rfl
 | b :: s => by simp [Op.bytesLess, X3r s]
theorem X89 {t : TypeId} {x y : Operand} {s : List UInt8} (w : World) : (do eqGuard .lss t x y (.string (X6 s)) (.string (X6 s)); binOp .lss t (.string (X6 s)) (.string (X6 s)) : Sem Value).run Tryz.prog w = .ok (.bool false) w := by
 simp [go_sem, VU, X3r]
theorem X8s {t : TypeId} {x y : Operand} {s : List UInt8} (w : World) : (do eqGuard .gtr t x y (.string (X6 s)) (.string (X6 s)); binOp .gtr t (.string (X6 s)) (.string (X6 s)) : Sem Value).run Tryz.prog w = .ok (.bool false) w := by
 simp [go_sem, binOp, Op.stringOp, VU, X3r]
theorem X8w (s : List UInt8) : Con Tryz.prog 234 [] [Xt s, Xt s] [] (ai 0) := by
 refine X9 (xs := [ai 0]) Tryz.func234 rfl Tryz.ntmps234 rfl rfl rfl (fun E => ?_)
 refine X0 ?_; refine JR ?_; refine Z0 ?_; refine JD ?_; refine X0 ?_; refine X0 ?_; refine JR ?_; refine Z1 ?_; refine Z1 ?_
 refine Z7 (op := .lss) (r' := .bool false) (u := .string (X6 s)) (v := .string (X6 s)) ?_ (hr := by exact X89); refine JD ?_; refine JF ?_; refine X3 ?_; refine X0 ?_; refine X0 ?_; refine JR ?_
 refine Z1 ?_; refine Z1 ?_; refine Z7 (op := .gtr) (r' := .bool false) (u := .string (X6 s)) (v := .string (X6 s)) ?_ (hr := by exact X8s); refine JD ?_; refine JF ?_; refine X3 ?_; refine X0 ?_
 refine JR ?_; refine Z0 ?_; refine JD ?_
 exact X1 ⟨_, St.le_refl _, ⟨rfl, trivial⟩, X2 _⟩
def U5 (k : Int) : Int := if k = 0 then 0 else if k = 1 then 1 else if k = 2 ∨ k = 3 then 2 else if k = 4 then 3 else if k = 5 then 4 else if k = 6 then 5 else if k = 8 then 6 else 7
theorem X2K (k : Int) : Con Tryz.prog 220 [] [ai k] [] (ai (U5 k)) := by
 refine X9 (xs := [ai (U5 k)]) Tryz.func220 rfl Tryz.ntmps220 rfl rfl rfl (fun E => ?_)
 by_cases h0 : k = 0
 ·subst h0
  refine X0 ?_; refine JR ?_; refine Z0 ?_; refine JD ?_; refine X0 ?_; refine X0 ?_; refine JR ?_; refine Z1 ?_; refine JD ?_; refine X4 ?_; refine X0 ?_; refine JR ?_; refine Zl ?_
  refine Z0 ?_; refine JD ?_; refine JT ?_; refine X0 ?_; refine JR ?_; refine Z0 ?_; refine JD ?_
  exact X1 ⟨_, St.le_refl _, ⟨rfl, trivial⟩, X2 _⟩
 by_cases h1 : k = 1
 ·subst h1
  repeat first | refine X0 ?_ | (refine JR ?_; (repeat first | refine Z1 ?_ | refine Z0 ?_ | refine Zl ?_); refine JD ?_) | refine JT ?_ | refine JF ?_ | refine X4 ?_
  exact X1 ⟨_, St.le_refl _, ⟨rfl, trivial⟩, X2 _⟩
 by_cases h2 : k = 2
 ·subst h2
  repeat first | refine X0 ?_ | (refine JR ?_; (repeat first | refine Z1 ?_ | refine Z0 ?_ | refine Zl ?_); refine JD ?_) | refine JT ?_ | refine JF ?_ | refine X4 ?_ | refine X3 ?_
  exact X1 ⟨_, St.le_refl _, ⟨rfl, trivial⟩, X2 _⟩
 by_cases h3 : k = 3
 ·subst h3
  repeat first | refine X0 ?_ | (refine JR ?_; (repeat first | refine Z1 ?_ | refine Z0 ?_ | refine Zl ?_); refine JD ?_) | refine JT ?_ | refine JF ?_ | refine X4 ?_
  exact X1 ⟨_, St.le_refl _, ⟨rfl, trivial⟩, X2 _⟩
 by_cases h4 : k = 4
 ·subst h4
  repeat first | refine X0 ?_ | (refine JR ?_; (repeat first | refine Z1 ?_ | refine Z0 ?_ | refine Zl ?_); refine JD ?_) | refine JT ?_ | refine JF ?_ | refine X4 ?_
  exact X1 ⟨_, St.le_refl _, ⟨rfl, trivial⟩, X2 _⟩
 by_cases h5 : k = 5
 ·subst h5
  repeat first | refine X0 ?_ | (refine JR ?_; (repeat first | refine Z1 ?_ | refine Z0 ?_ | refine Zl ?_); refine JD ?_) | refine JT ?_ | refine JF ?_ | refine X4 ?_
  exact X1 ⟨_, St.le_refl _, ⟨rfl, trivial⟩, X2 _⟩
 by_cases h6 : k = 6
 ·subst h6
  repeat first | refine X0 ?_ | (refine JR ?_; (repeat first | refine Z1 ?_ | refine Z0 ?_ | refine Zl ?_); refine JD ?_) | refine JT ?_ | refine JF ?_ | refine X4 ?_
  exact X1 ⟨_, St.le_refl _, ⟨rfl, trivial⟩, X2 _⟩
 by_cases h8 : k = 8
 ·subst h8
  repeat first | refine X0 ?_ | (refine JR ?_; (repeat first | refine Z1 ?_ | refine Z0 ?_ | refine Zl ?_); refine JD ?_) | refine JT ?_ | refine JF ?_ | refine X4 ?_
  exact X1 ⟨_, St.le_refl _, ⟨rfl, trivial⟩, X2 _⟩
 rw [show U5 k = 7 by simp [U5, *]]
 repeat first | refine X0 ?_ | (refine JR ?_; (repeat first | refine Z1 ?_ | refine Z0 ?_ | refine Zl ?_); refine JD ?_) | refine JF ?_ | refine X4 ?_ | refine X3 ?_
 exact X1 ⟨_, St.le_refl _, ⟨rfl, trivial⟩, X2 _⟩
end Go.Fw
namespace Go.Fw
open Go Go.Proofs
set_option maxRecDepth 100000
set_option linter.unusedVariables false
set_option linter.unusedSimpArgs false
theorem XbC {m : Nat} {k n d : Int} {s : List UInt8} {l : List Val} (h : X5 m (.mk k n d s l) = true) (hk : k = 0) : n = 0 ∧ d = 0 ∧ s = [] ∧ l = [] := by
 subst hk
 rw [X5] at h
 simp at h
 exact ⟨h.2, h.1.1.1, h.1.1.2, h.1.2⟩
theorem Xbl {m : Nat} {k n d : Int} {s : List UInt8} {l : List Val} (h : X5 m (.mk k n d s l) = true) : 0 ≤ k ∧ k ≤ 8 := by
 refine Classical.byContradiction fun hn => ?_
 rw [X5] at h
 rw [if_neg (by omega), if_neg (by omega), if_neg (by omega), if_neg (by omega), if_neg (by omega), if_neg (by omega), if_neg (by omega), if_neg (by omega)] at h
 simp at h
end Go.Fw
namespace Go.Fw
open Go Go.Proofs
set_option maxRecDepth 100000
set_option linter.unusedVariables false
set_option linter.unusedSimpArgs false
def X16 (v : Val) : Prop := Con Tryz.prog 180 [] [Xn v, Xn v] [] (ai 0)
theorem X7H (l : List Val) (hl : l.length ≤ 9223372036854775807) (ih : ∀ x ∈ l, X16 x) : Con Tryz.prog 235 [] [.d (.sl 5 (XG l)), .d (.sl 5 (XG l))] [] (ai 0) := by
 refine X9 (xs := [ai 0]) Tryz.func235 rfl Tryz.ntmps235 rfl rfl rfl (fun E => ?_)
 have hlen := UE l
 have hi := X18 (XG l).length
 refine X0 ?_; refine JR ?_; refine Z0 ?_; refine JD ?_; refine X0 ?_; refine X0 ?_; refine JR ?_; refine Z0 ?_; refine JD ?_; refine X4 ?_
 refine Xs (fun i : Nat => i ≤ l.length) (fun i => ⟨36, [(0, .d (.sl 5 (XG l))), (1, .d (.sl 5 (XG l))), (5, ai i)], []⟩) (fun i => l.length - i) 0 (by omega)
  (X7 rfl ⟨JL, JL, JL, trivial⟩ trivial) ?_
 intro i hi2
 by_cases hil : i < l.length
 case neg =>
  have hn : ¬ (i : Int) < (XG l).length := by omega
  refine X0 ?_; refine X0 ?_; refine JR ?_; refine Z1 ?_; refine Z1 ?_; refine Zd ?_; refine Z8 ?_; refine Z1 ?_; refine Zo ?_; refine Zo ?_; refine Zo ?_; refine Zo ?_; refine Zq ?_; refine JD ?_; refine JF ?_
  refine Xo ?_; refine X0 ?_; refine JR ?_; refine Z1 ?_; refine Zd ?_; refine Z1 ?_; refine Zd ?_; refine Z9 (hcon := hi) ?_; refine Z0 ?_; refine JD ?_
  exact X1 ⟨_, St.le_refl _, ⟨rfl, trivial⟩, X2 _⟩
 obtain ⟨x, hx⟩ := Xm (l := l) hil
 have hxc : (XG l)[i]? = some (Y8 x) := by rw [X0C]; exact Xr hx
 have hc := ih x (List.mem_of_getElem? hx)
 unfold X16 at hc
 have hn : (i : Int) < (XG l).length := by omega
 obtain ⟨k, n, d, s, q⟩ := x
 simp only [Xn, Y8] at hc hxc
 repeat first | refine X0 ?_ | (refine JR ?_; (repeat first | refine Z1 ?_ | refine Z0 ?_ | refine ZK ?_ | refine Zd ?_ | refine Z8 ?_ | refine Zv ?_ | refine Zb ?_ | refine Zn ?_ | refine Zj ?_ | refine Z9 (hcon := hc) ?_); refine JD ?_) | refine JT ?_ | refine JF ?_ | refine X4 ?_ | refine X3 ?_
 exact ⟨i + 1, by omega, by omega, X7 rfl ⟨JL, JL, JL, trivial⟩ trivial⟩
theorem XaG (v : Val) (hl : v.l.length ≤ 9223372036854775807) (ih : ∀ x ∈ v.l, X16 x) : Con Tryz.prog 218 [] [Xn v, Xn v] [] (ai 0) := by
 obtain ⟨k, n, d, s, l⟩ := v
 simp only [Val.l] at hl ih
 have hl := X7H l hl ih
 have hk := X18 k
 have hn := X18 n
 have hd := X18 d
 have hs := X8w s
 refine X9 (xs := [ai 0]) Tryz.func218 rfl Tryz.ntmps218 rfl rfl rfl (fun E => ?_)
 simp only [Xn]
 repeat first | refine X0 ?_ | (refine JR ?_; (repeat first | refine Z1 ?_ | refine Z0 ?_ | refine ZB ?_ | refine ZC ?_ | refine Zv ?_ | refine ZA (γ := 100) ?_ | refine ZA (γ := 101) ?_ | refine Z9 (hcon := hk) ?_ | refine Z9 (hcon := hn) ?_ | refine Z9 (hcon := hd) ?_ | refine Z9 (hcon := hs) ?_ | refine Z9 (hcon := hl) ?_); refine JD ?_) | refine JF ?_ | refine X3 ?_
 exact X1 ⟨_, St.le_refl _, ⟨rfl, trivial⟩, X2 _⟩
theorem X9B (v : Val) (hok : XY v) (hf : Con Tryz.prog 218 [] [Xn v, Xn v] [] (ai 0)) : X16 v := by
 have hv := VB v hok
 have hn := X2O v hok
 have hcl := X2K v.kind
 have hi := X18 (U5 v.kind)
 have hcmp := Xas (UG v).1 (UG v).2.1
 refine X9 (xs := [ai 0]) Tryz.func180 rfl Tryz.ntmps180 rfl rfl rfl (fun E => ?_)
 generalize UG v = u at *
 generalize X5 8 v = bb at *
 obtain ⟨k, n, d, s, l⟩ := v
 obtain ⟨p, q, is⟩ := u
 simp only [Xn, Val.kind] at hv hn hcl hi hcmp hf ⊢
 generalize U5 k = c at *
 cases bb with
 | false =>
  repeat first | refine X0 ?_ | (refine JR ?_; (repeat first | refine Z1 ?_ | refine Z0 ?_ | refine ZL ?_ | refine Z00 ?_ | refine Zu ?_ | refine ZA (γ := 100) ?_ | refine ZA (γ := 101) ?_ | refine Z9 (hcon := hv) ?_ | refine Z9 (hcon := hf) ?_); refine JD ?_) | refine JT ?_ | refine JF ?_ | refine X3 ?_
  exact X1 ⟨_, St.le_refl _, ⟨rfl, trivial⟩, X2 _⟩
 | true =>
  cases is with
  | true =>
   repeat first | refine X0 ?_ | (refine JR ?_; (repeat first | refine Z1 ?_ | refine Z0 ?_ | refine ZB ?_ | refine ZC ?_ | refine ZL ?_ | refine Zv ?_ | refine Z00 ?_ | refine Zu ?_ | refine Zw (γ := 102) ?_ | refine Zw (γ := 103) ?_ | refine ZA (γ := 100) ?_ | refine ZA (γ := 101) ?_ | refine Zy ?_ | refine ZF ?_ | refine Z9 (hcon := hv) ?_ | refine Z9 (hcon := hcl) ?_ | refine Z9 (hcon := hi) ?_ | refine Z9 (hcon := hn) ?_ | refine Z9 (hcon := hcmp) ?_); refine JD ?_) | refine JT ?_ | refine JF ?_ | refine X3 ?_
   exact X1 ⟨_, St.le_refl _, ⟨rfl, trivial⟩, X2 _⟩
  | false =>
   repeat first | refine X0 ?_ | (refine JR ?_; (repeat first | refine Z1 ?_ | refine Z0 ?_ | refine ZB ?_ | refine ZC ?_ | refine ZL ?_ | refine Zv ?_ | refine Z00 ?_ | refine Zu ?_ | refine Zw (γ := 102) ?_ | refine Zw (γ := 103) ?_ | refine ZA (γ := 100) ?_ | refine ZA (γ := 101) ?_ | refine Zy ?_ | refine ZF ?_ | refine Z9 (hcon := hv) ?_ | refine Z9 (hcon := hcl) ?_ | refine Z9 (hcon := hi) ?_ | refine Z9 (hcon := hn) ?_ | refine Z9 (hcon := hf) ?_); refine JD ?_) | refine JF ?_ | refine X3 ?_
   exact X1 ⟨_, St.le_refl _, ⟨rfl, trivial⟩, X2 _⟩
theorem X5y : ∀ v : Val, XY v → X16 v
 | .mk k n d s l => fun hok => X9B (.mk k n d s l) hok (XaG (.mk k n d s l) (by rw [XY] at hok; exact hok.2.1) fun x hx => X5y x (X3k (by rw [XY] at hok; exact hok.2.2) hx))
termination_by v => SizeOf.sizeOf v
decreasing_by
 have h1 := List.sizeOf_lt_of_mem (show x ∈ l from hx)
 simp only [Val.mk.sizeOf_spec]
 omega
end Go.Fw
namespace Go.Fw
open Go Go.Proofs
set_option maxRecDepth 100000
set_option linter.unusedVariables false
set_option linter.unusedSimpArgs false
theorem X8d (x y : Int) : Con Tryz.prog 219 [] [ai x, ai y] [] (ai (XK x y)) := by
 refine X9 (xs := [ai (XK x y)]) Tryz.func219 rfl Tryz.ntmps219 rfl rfl rfl (fun E => ?_)
 by_cases h1 : x < y
 ·rw [show XK x y = -1 by simp [XK, h1]]
  refine X0 ?_; refine JR ?_; refine Z0 ?_; refine JD ?_; refine X0 ?_; refine X0 ?_; refine JR ?_; refine Z1 ?_; refine Z1 ?_; refine Z8 ?_; refine JD ?_; refine JT ?_; refine X0 ?_; refine JR ?_
  refine Z0 ?_; refine JD ?_
  exact X1 ⟨_, St.le_refl _, ⟨rfl, trivial⟩, X2 _⟩
 by_cases h2 : y < x
 ·rw [show XK x y = 1 by simp [XK, h1, h2]]
  repeat first | refine X0 ?_ | (refine JR ?_; (repeat first | refine Z1 ?_ | refine Z0 ?_ | refine Z8 ?_ | refine Zs ?_); refine JD ?_) | refine JT ?_ | refine JF ?_ | refine X3 ?_
  exact X1 ⟨_, St.le_refl _, ⟨rfl, trivial⟩, X2 _⟩
 rw [show XK x y = 0 by simp [XK, h1, h2]]
 repeat first | refine X0 ?_ | (refine JR ?_; (repeat first | refine Z1 ?_ | refine Z0 ?_ | refine Z8 ?_ | refine Zs ?_); refine JD ?_) | refine JF ?_ | refine X3 ?_
 exact X1 ⟨_, St.le_refl _, ⟨rfl, trivial⟩, X2 _⟩
theorem X7d {k : Int} (h : k ≠ 0) : 0 < U5 k := by
 unfold U5
 rw [if_neg h]
 split
 ·omega
 split
 ·omega
 split
 ·omega
 split
 ·omega
 split
 ·omega
 split <;> omega
def Vn (v : Val) : Int := if X5 8 v = false then 1 else XK (U5 v.kind) 0
theorem Xbc (v : Val) : decide (Vn v = 0) = Vd v := by
 unfold Vn Vd
 cases h : X5 8 v with
 | false => simp
 | true =>
  obtain ⟨k, n, d, s, l⟩ := v
  have hk := Xbl h
  simp only [Val.kind, Bool.true_and]
  refine decide_eq_decide.2 ?_
  rw [if_neg (by simp)]
  unfold XK U5
  constructor
  ·intro h1
   refine Classical.byContradiction fun h0 => ?_
   rw [if_neg h0] at h1
   have hpos : (0 : Int) < (if k = 1 then 1 else if k = 2 ∨ k = 3 then 2 else if k = 4 then 3 else if k = 5 then 4 else if k = 6 then 5 else if k = 8 then 6 else 7) := by
    split
    ·omega
    split
    ·omega
    split
    ·omega
    split
    ·omega
    split
    ·omega
    split <;> omega
   rw [if_neg (by omega), if_pos hpos] at h1
   omega
  ·intro h1
   subst h1
   rfl
theorem X9P (v : Val) (hok : XY v) : Con Tryz.prog 180 [] [Xn v, Xn zV] [] (ai (Vn v)) := by
 have hv := VB v hok
 have hz := VB zV (by simp [XY, Ub])
 rw [show X5 8 zV = true by rw [X5]; simp] at hz
 by_cases hz0 : v = zV
 ·subst hz0
  rw [show Vn zV = 0 by unfold Vn; rw [show X5 8 zV = true by rw [X5]; simp]; rfl]
  exact X5y zV (by simp [XY, Ub])
 refine X9 (xs := [ai (Vn v)]) Tryz.func180 rfl Tryz.ntmps180 rfl rfl rfl (fun E => ?_)
 unfold Vn
 cases h : X5 8 v with
 | false =>
  rw [h] at hv
  rw [if_pos rfl]
  have hy := X2a false
  rw [if_neg (by simp)] at hy
  obtain ⟨k, n, d, s, l⟩ := v
  simp only [Xn, XG] at hv hz ⊢
  refine X0 ?_; refine JR ?_; refine ZA (γ := 100) ?_; refine ZA (γ := 101) ?_; refine Z0 ?_; refine JD ?_; refine X0 ?_; refine JR ?_; refine ZL ?_; refine Z9 (hcon := hv) ?_; refine ZL ?_
  refine Z9 (hcon := hz) ?_; refine Z0 ?_; refine Z0 ?_; refine JD ?_; refine X0 ?_; refine X0 ?_; refine JR ?_; refine Z1 ?_; refine Z1 ?_; refine Z00 ?_; refine JD ?_; refine JT ?_; refine X0 ?_
  refine JR ?_; refine Z1 ?_; refine Z9 (hcon := hy) ?_; refine ZR ?_; refine Z0 ?_; refine JD ?_
  exact X1 ⟨_, St.le_refl _, ⟨rfl, trivial⟩, X2 _⟩
 | true =>
  rw [h] at hv
  rw [if_neg (by simp)]
  obtain ⟨k, n, d, s, l⟩ := v
  have c1 := X2K k
  have c2 := X2K 0
  rw [show U5 0 = 0 from rfl] at c2
  have c3 := X8d (U5 k) 0
  simp only [Val.kind]
  have hk0 : k ≠ 0 := fun h1 => by
   obtain ⟨rfl, rfl, rfl, rfl⟩ := XbC h h1
   exact hz0 (by rw [h1])
  have hcp := X7d hk0
  have hnz : XK (U5 k) 0 ≠ 0 := by
   unfold XK
   rw [if_neg (by omega), if_pos hcp]
   omega
  generalize XK (U5 k) 0 = z at *
  generalize U5 k = c at *
  simp only [Xn, XG] at hv hz ⊢
  repeat first | refine X0 ?_ | (refine JR ?_; (repeat first | refine Z1 ?_ | refine Z0 ?_ | refine ZB ?_ | refine ZC ?_ | refine ZL ?_ | refine Zv ?_ | refine Z00 ?_ | refine Zu ?_ | refine ZA (γ := 100) ?_ | refine ZA (γ := 101) ?_ | refine Z9 (hcon := hv) ?_ | refine Z9 (hcon := hz) ?_ | refine Z9 (hcon := c1) ?_ | refine Z9 (hcon := c2) ?_ | refine Z9 (hcon := c3) ?_); refine JD ?_) | refine JT ?_ | refine JF ?_ | refine X3 ?_
  exact X1 ⟨_, St.le_refl _, ⟨rfl, trivial⟩, X2 _⟩
theorem X9i (v : Val) (hok : XY v) : Con Tryz.prog 194 [] [Xn v] [] (ab (Vd v)) := by
 refine X9 (xs := [ab (Vd v)]) Tryz.func194 rfl Tryz.ntmps194 rfl rfl rfl (fun E => ?_)
 have ho := X9P v hok
 rw [← Xbc v]
 generalize Vn v = z at *
 obtain ⟨k, n, d, s, l⟩ := v
 simp only [Xn, XG] at ho ⊢
 refine X0 ?_; refine JR ?_; refine ZA (γ := 100) ?_; refine Z0 ?_; refine JD ?_; refine X0 ?_; refine JR ?_; refine ZL ?_; refine Zx ?_; refine Z9 (hcon := ho) ?_; refine Zl ?_; refine Z0 ?_; refine JD ?_
 exact X1 ⟨_, St.le_refl _, ⟨rfl, trivial⟩, X2 _⟩
end Go.Fw
namespace Go.Fw
open Go Go.Proofs
set_option maxRecDepth 100000
set_option linter.unusedVariables false
set_option linter.unusedSimpArgs false
def XB (u : Bool × Bool × Bool × Bool) (i si di : Bool) (src dst : Int) (name : List UInt8) (nv zv pv : Bool) : Int :=
 if u.2.2.2 = false ∨ i = false then 1
 else if (u.1 = true ∧ (si = false ∨ di = false)) ∨ (u.1 = false ∧ (src ≠ 0 ∨ dst ≠ 0)) then 1
 else if (u.2.1 = false ∧ name ≠ []) ∨ (u.2.2.1 = false ∧ zv = false) then 1
 else if u.2.1 = true ∧ nv = false then 6 else if u.2.2.1 = true ∧ zv = false ∧ pv = false then 8 else 0
theorem X9E (c : Chg) : X0B c = XB (X1z c.op) (idV c.id) (idV c.src) (idV c.dst) c.src c.dst c.name (Xj c.name) (Vd c.v) (XF c.v) := by
 unfold X0B XB X1z
 simp only [decide_eq_true_eq, decide_eq_false_iff_not]
abbrev X23 (op id src dst : Int) (name : List UInt8) (k n d : Int) (s : List UInt8) (l : List Val) : AVal := .agg [ai op, ai id, ai src, ai dst, .d (.v (.string (X6 name))), ai k, ai n, ai d, .d (.v (.string (X6 s))), .d (.sl 5 (XG l))]
def VK : Chg → AVal
 | ⟨op, id, src, dst, name, .mk k n d s l⟩ => X23 op id src dst name k n d s l
end Go.Fw

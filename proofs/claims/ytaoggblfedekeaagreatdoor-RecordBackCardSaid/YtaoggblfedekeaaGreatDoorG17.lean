/- Order of the reference, for equal arguments: fractions, numbers, strings. -/
import Derived.Test.YtaoggblfedekeaaGreatDoorG08
import Derived.Test.YtaoggblfedekeaaGreatDoorG14
import Derived.Test.YtaoggblfedekeaaGreatDoorG16
import Derived.Test.YtaoggblfedekeaaGreatDoorG13
set_option maxHeartbeats 8000000
namespace Go.Fw
open Go Go.Proofs
set_option maxRecDepth 100000
set_option linter.unusedVariables false
set_option linter.unusedSimpArgs false
theorem Xc3 (n : Int) : Ux n = 0 ∨ Ux n = 1 ∨ Ux n = -1 := by
 unfold Ux
 split
 ·exact .inr (.inr rfl)
 ·split
  ·exact .inr (.inl rfl)
  ·exact .inl rfl
theorem X8d (n d : Int) : Con Tryz.prog 87 [] [X0Q n d, X0Q n d] [] (ai 0) := by
 refine X8 (xs := [ai 0]) Tryz.func87 rfl Tryz.ntmps87 rfl rfl rfl (fun E => ?_)
 have hv := X5G n d
 cases hb : Ub n d with
 | true =>
  rw [hb] at hv
  simp [Ub] at hb
  obtain ⟨D, rfl⟩ : ∃ D : Nat, d = D := ⟨d.toNat, by omega⟩
  have hsz := X2V n (by omega)
  have hsg := X6x n
  have hr := Xc3 n
  have ht := X5D n.natAbs D (by omega) (by omega)
  have hsum := X6G (Ux n) hr (YJ 14 (n.natAbs * D)) (X2J _ _) (X41 _ _)
  generalize Ux n = s at *
  generalize YJ 14 (n.natAbs * D) = x at *
  generalize X03 s x = y at *
  generalize n.natAbs = N at *
  have hr1 : -1 ≤ s ∧ s ≤ 1 := by omega
  clear hr hb
  repeat first | refine X0 ?_ | (refine JR ?_; (repeat first | refine Z1 ?_ | refine Z0 ?_ | refine Zz ?_ | refine ZA ?_ | refine ZL ?_ | refine Zr ?_ | refine Zy (γ := 100) ?_ | refine Zy (γ := 101) ?_ | refine ZD ?_ | refine Z9 (hcon := hv) ?_ | refine Z9 (hcon := hsz) ?_ | refine Z9 (hcon := hsg) ?_ | refine Z9 (hcon := ht) ?_ | refine Z9 (hcon := hsum) ?_); refine JD ?_) | refine JF ?_ | refine X3 ?_
  exact X1 ⟨_, St.le_refl _, ⟨rfl, trivial⟩, X2 _⟩
 | false =>
  rw [hb] at hv
  clear hb
  have hsz : Con Tryz.prog 108 [] [ai 0] [] (ai 0) := X2V 0 (by omega)
  have hsg : Con Tryz.prog 106 [] [ai 0] [] (ai 0) := X6x 0
  have ht : Con Tryz.prog 107 [] [ai 0, ai 1] [] (.d (YT (YJ 14 (0 * 1)))) := X5D 0 1 (by omega) (by omega)
  have hsum : Con Tryz.prog 105 [] [ai 0, .d (YT (YJ 14 (0 * 1))), ai 0, .d (YT (YJ 14 (0 * 1)))] [] (.tup [ai 0, .d (YT (X03 0 (YJ 14 (0 * 1))))]) := X6G 0 (.inl rfl) (YJ 14 (0 * 1)) (X2J _ _) (X41 _ _)
  generalize YJ 14 (0 * 1) = x at *
  generalize X03 0 x = y at *
  repeat first | refine X0 ?_ | (refine JR ?_; (repeat first | refine Z1 ?_ | refine Z0 ?_ | refine Zz ?_ | refine ZA ?_ | refine ZL ?_ | refine Zr ?_ | refine Zy (γ := 100) ?_ | refine Zy (γ := 101) ?_ | refine Zw ?_ | refine Zv ?_ | refine ZD ?_ | refine Z9 (hcon := hv) ?_ | refine Z9 (hcon := hsz) ?_ | refine Z9 (hcon := hsg) ?_ | refine Z9 (hcon := ht) ?_ | refine Z9 (hcon := hsum) ?_); refine JD ?_) | refine JT ?_
  exact X1 ⟨_, St.le_refl _, ⟨rfl, trivial⟩, X2 _⟩
theorem X18 (n : Int) : Con Tryz.prog 84 [] [ai n, ai n] [] (ai 0) := by
 refine X8 (xs := [ai 0]) Tryz.func84 rfl Tryz.ntmps84 rfl rfl rfl (fun E => ?_)
 have h : ¬ n < n := by omega
 repeat first | refine X0 ?_ | (refine JR ?_; (repeat first | refine Z1 ?_ | refine Z0 ?_ | refine Z8 ?_ | refine Zp ?_); refine JD ?_) | refine JF ?_ | refine X3 ?_
 exact X1 ⟨_, St.le_refl _, ⟨rfl, trivial⟩, X2 _⟩
theorem X42 : ∀ s : List UInt8, Op.bytesLess s s = false
 | [] => rfl
 | b :: s => by simp [Op.bytesLess, X42 s]
theorem X8I {t : TypeId} {x y : Operand} {s : List UInt8} (w : World) : (do eqGuard .lss t x y (.string (X4 s)) (.string (X4 s)); binOp .lss t (.string (X4 s)) (.string (X4 s)) : Sem Value).run Tryz.prog w = .ok (.bool false) w := by
 simp [go_sem, X0M, X42]
theorem X8H {t : TypeId} {x y : Operand} {s : List UInt8} (w : World) : (do eqGuard .gtr t x y (.string (X4 s)) (.string (X4 s)); binOp .gtr t (.string (X4 s)) (.string (X4 s)) : Sem Value).run Tryz.prog w = .ok (.bool false) w := by
 simp [go_sem, binOp, Op.stringOp, X0M, X42]
theorem X8z (s : List UInt8) : Con Tryz.prog 102 [] [X7 s, X7 s] [] (ai 0) := by
 refine X8 (xs := [ai 0]) Tryz.func102 rfl Tryz.ntmps102 rfl rfl rfl (fun E => ?_)
 refine X0 ?_; refine JR ?_; refine Z0 ?_; refine JD ?_; refine X0 ?_; refine X0 ?_; refine JR ?_; refine Z1 ?_; refine Z1 ?_
 refine Z7 (op := .lss) (r' := .bool false) (u := .string (X4 s)) (v := .string (X4 s)) ?_ (hr := by exact X8I); refine JD ?_; refine JF ?_; refine X3 ?_; refine X0 ?_; refine X0 ?_; refine JR ?_
 refine Z1 ?_; refine Z1 ?_; refine Z7 (op := .gtr) (r' := .bool false) (u := .string (X4 s)) (v := .string (X4 s)) ?_ (hr := by exact X8H); refine JD ?_; refine JF ?_; refine X3 ?_; refine X0 ?_
 refine JR ?_; refine Z0 ?_; refine JD ?_
 exact X1 ⟨_, St.le_refl _, ⟨rfl, trivial⟩, X2 _⟩
def Um (k : Int) : Int := if k = 0 then 0 else if k = 1 then 1 else if k = 2 ∨ k = 3 then 2 else if k = 4 then 3 else if k = 5 then 4 else if k = 6 then 5 else if k = 8 then 6 else 7
theorem X3C (k : Int) : Con Tryz.prog 85 [] [ai k] [] (ai (Um k)) := by
 refine X8 (xs := [ai (Um k)]) Tryz.func85 rfl Tryz.ntmps85 rfl rfl rfl (fun E => ?_)
 by_cases h0 : k = 0
 ·subst h0
  refine X0 ?_; refine JR ?_; refine Z0 ?_; refine JD ?_; refine X0 ?_; refine X0 ?_; refine JR ?_; refine Z1 ?_; refine JD ?_; refine X5 ?_; refine X0 ?_; refine JR ?_; refine Zu ?_
  refine Z0 ?_; refine JD ?_; refine JT ?_; refine X0 ?_; refine JR ?_; refine Z0 ?_; refine JD ?_
  exact X1 ⟨_, St.le_refl _, ⟨rfl, trivial⟩, X2 _⟩
 by_cases h1 : k = 1
 ·subst h1
  repeat first | refine X0 ?_ | (refine JR ?_; (repeat first | refine Z1 ?_ | refine Z0 ?_ | refine Zu ?_); refine JD ?_) | refine JT ?_ | refine JF ?_ | refine X5 ?_
  exact X1 ⟨_, St.le_refl _, ⟨rfl, trivial⟩, X2 _⟩
 by_cases h2 : k = 2
 ·subst h2
  repeat first | refine X0 ?_ | (refine JR ?_; (repeat first | refine Z1 ?_ | refine Z0 ?_ | refine Zu ?_); refine JD ?_) | refine JT ?_ | refine JF ?_ | refine X5 ?_ | refine X3 ?_
  exact X1 ⟨_, St.le_refl _, ⟨rfl, trivial⟩, X2 _⟩
 by_cases h3 : k = 3
 ·subst h3
  repeat first | refine X0 ?_ | (refine JR ?_; (repeat first | refine Z1 ?_ | refine Z0 ?_ | refine Zu ?_); refine JD ?_) | refine JT ?_ | refine JF ?_ | refine X5 ?_
  exact X1 ⟨_, St.le_refl _, ⟨rfl, trivial⟩, X2 _⟩
 by_cases h4 : k = 4
 ·subst h4
  repeat first | refine X0 ?_ | (refine JR ?_; (repeat first | refine Z1 ?_ | refine Z0 ?_ | refine Zu ?_); refine JD ?_) | refine JT ?_ | refine JF ?_ | refine X5 ?_
  exact X1 ⟨_, St.le_refl _, ⟨rfl, trivial⟩, X2 _⟩
 by_cases h5 : k = 5
 ·subst h5
  repeat first | refine X0 ?_ | (refine JR ?_; (repeat first | refine Z1 ?_ | refine Z0 ?_ | refine Zu ?_); refine JD ?_) | refine JT ?_ | refine JF ?_ | refine X5 ?_
  exact X1 ⟨_, St.le_refl _, ⟨rfl, trivial⟩, X2 _⟩
 by_cases h6 : k = 6
 ·subst h6
  repeat first | refine X0 ?_ | (refine JR ?_; (repeat first | refine Z1 ?_ | refine Z0 ?_ | refine Zu ?_); refine JD ?_) | refine JT ?_ | refine JF ?_ | refine X5 ?_
  exact X1 ⟨_, St.le_refl _, ⟨rfl, trivial⟩, X2 _⟩
 by_cases h8 : k = 8
 ·subst h8
  repeat first | refine X0 ?_ | (refine JR ?_; (repeat first | refine Z1 ?_ | refine Z0 ?_ | refine Zu ?_); refine JD ?_) | refine JT ?_ | refine JF ?_ | refine X5 ?_
  exact X1 ⟨_, St.le_refl _, ⟨rfl, trivial⟩, X2 _⟩
 rw [show Um k = 7 by simp [Um, *]]
 repeat first | refine X0 ?_ | (refine JR ?_; (repeat first | refine Z1 ?_ | refine Z0 ?_ | refine Zu ?_); refine JD ?_) | refine JF ?_ | refine X5 ?_ | refine X3 ?_
 exact X1 ⟨_, St.le_refl _, ⟨rfl, trivial⟩, X2 _⟩
end Go.Fw
namespace Go.Fw
open Go Go.Proofs
set_option maxRecDepth 100000
set_option linter.unusedVariables false
set_option linter.unusedSimpArgs false
theorem X5K {m : Nat} {k n d : Int} {s : List UInt8} {l : List Val} (h : X6 m (.mk k n d s l) = true) (hk : k = 0) : n = 0 ∧ d = 0 ∧ s = [] ∧ l = [] := by
 subst hk
 rw [X6] at h
 simp at h
 exact ⟨h.2, h.1.1.1, h.1.1.2, h.1.2⟩
theorem X4q {m : Nat} {k n d : Int} {s : List UInt8} {l : List Val} (h : X6 m (.mk k n d s l) = true) : 0 ≤ k ∧ k ≤ 8 := by
 refine Classical.byContradiction fun hn => ?_
 rw [X6] at h
 rw [if_neg (by omega), if_neg (by omega), if_neg (by omega), if_neg (by omega), if_neg (by omega), if_neg (by omega), if_neg (by omega), if_neg (by omega)] at h
 simp at h
theorem X8U (f : FuncId) : Con Tryz.prog 113 [] [.d (.sl 5 []), .d (.sl 5 []), .fn f []] [] (ai 0) := by
 refine X8 (xs := [ai 0]) Tryz.func113 rfl Tryz.ntmps113 rfl rfl rfl (fun E => ?_)
 refine X0 ?_; refine JR ?_; refine Z0 ?_; refine JD ?_; refine X0 ?_; refine X0 ?_; refine JR ?_; refine Z1 ?_; refine Zd ?_; refine Z1 ?_; refine JD ?_; refine X5 ?_
 refine XR (fun _ : Unit => True) (fun _ => ⟨39, [(0, .d (.sl 5 [])), (1, .d (.sl 5 [])), (12, ai 0), (13, ai 0)], []⟩) (fun _ => 0) () trivial
  (Xc rfl ⟨JL, JL, JL, JL, trivial⟩ trivial) ?_
 intro _ _
 refine X0 ?_; refine JR ?_; refine Z8 ?_; refine JD ?_; refine X0 ?_; refine JF ?_; refine Xv ?_; refine X0 ?_; refine X0 ?_; refine JR ?_; refine Z1 ?_; refine Zd ?_; refine Z1 ?_; refine Zd ?_
 refine Z8 ?_; refine JD ?_; refine JF ?_; refine X3 ?_; refine X0 ?_; refine JR ?_; refine Z0 ?_; refine JD ?_
 exact X1 ⟨_, St.le_refl _, ⟨rfl, trivial⟩, X2 _⟩
theorem Xav (k n d : Int) (s : List UInt8) (l : List Val) (h : YX k ≠ 0) : Con Tryz.prog 109 [] [Xb (.mk k n d s l), Xb zV] [] (ai (Yc (YX k) 0)) := by
 refine X8 (xs := [ai (Yc (YX k) 0)]) Tryz.func109 rfl Tryz.ntmps109 rfl rfl rfl (fun E => ?_)
 have c1 := X46 k n d s l
 have c2 := X46 0 0 0 [] []
 have c3 := X5t (YX k) 0
 rw [show YX 0 = 0 from rfl] at c2
 have hz : Yc (YX k) 0 ≠ 0 := by
  unfold Yc
  split
  ·omega
  ·split
   ·omega
   ·omega
 generalize Yc (YX k) 0 = z at *
 generalize YX k = c at *
 simp only [Xb, Xs] at c1 c2 ⊢
 refine X0 ?_; refine JR ?_; refine Zy (γ := 100) ?_; refine Zy (γ := 101) ?_; refine Z0 ?_; refine JD ?_; refine X0 ?_; refine X0 ?_; refine JR ?_; refine ZL ?_; refine Z9 (hcon := c1) ?_; refine ZL ?_
 refine Z9 (hcon := c2) ?_; refine Z9 (hcon := c3) ?_; refine Z0 ?_; refine JD ?_; refine X0 ?_; refine JR ?_; refine Z1 ?_; refine Zs ?_; refine JD ?_; refine JT ?_; refine X0 ?_; refine JR ?_; refine Z1 ?_
 refine Z0 ?_; refine JD ?_
 exact X1 ⟨_, St.le_refl _, ⟨rfl, trivial⟩, X2 _⟩
theorem X8p : Con Tryz.prog 109 [] [Xb zV, Xb zV] [] (ai 0) := by
 refine X8 (xs := [ai 0]) Tryz.func109 rfl Tryz.ntmps109 rfl rfl rfl (fun E => ?_)
 have c2 := X46 0 0 0 [] []
 have c3 := X5t 0 0
 have c4 := X8e []
 have c5 := X8U 109
 have c6 := X8o [0, 0, 0] (by decide)
 rw [show YX 0 = 0 from rfl] at c2
 rw [show Yc 0 0 = 0 from rfl] at c3
 rw [show orI [0, 0, 0] = 0 from rfl] at c6
 simp only [Xb, Xs, List.map_cons, List.map_nil] at c2 c6 ⊢
 repeat first | refine X0 ?_ | (refine JR ?_; (repeat first | refine Z1 ?_ | refine Z0 ?_ | refine Zz ?_ | refine ZA ?_ | refine ZL ?_ | refine Zu ?_ | refine Zs ?_ | refine Zy (γ := 100) ?_ | refine Zy (γ := 101) ?_ | refine Z5 ?_ | refine Z9 (hcon := c2) ?_ | refine Z9 (hcon := c3) ?_ | refine Z9 (hcon := c4) ?_ | refine Z9 (hcon := c5) ?_ | refine Z9 (hcon := c6) ?_); refine JD ?_) | refine JF ?_ | refine X3 ?_
 exact X1 ⟨_, St.le_refl _, ⟨rfl, trivial⟩, X2 _⟩
def X0F (v : Val) : Int := if X6 8 v = false then 1 else Yc (YX v.kind) 0
theorem XaF (v : Val) : decide (X0F v = 0) = U0 v := by
 unfold X0F U0
 cases h : X6 8 v with
 | false => simp
 | true =>
  obtain ⟨k, n, d, s, l⟩ := v
  have hk := X4q h
  simp only [Val.kind, Bool.true_and]
  refine decide_eq_decide.2 ?_
  rw [if_neg (by simp)]
  unfold Yc YX
  constructor
  ·intro h1
   split at h1
   ·omega
   split at h1
   ·split at h1
    ·omega
    ·split at h1 <;> omega
   ·split at h1 <;> omega
  ·intro h1
   subst h1
   rfl
theorem Xba (v : Val) : Con Tryz.prog 88 [] [Xb v, Xb zV] [] (ai (X0F v)) := by
 refine X8 (xs := [ai (X0F v)]) Tryz.func88 rfl Tryz.ntmps88 rfl rfl rfl (fun E => ?_)
 have hv := UF v
 have hz := UF zV
 rw [show X6 8 zV = true by rw [X6]; simp] at hz
 unfold X0F
 cases h : X6 8 v with
 | false =>
  rw [h] at hv
  rw [if_pos rfl]
  obtain ⟨k, n, d, s, l⟩ := v
  simp only [Xb, Xs] at hv hz ⊢
  repeat first | refine X0 ?_ | (refine JR ?_; (repeat first | refine Z1 ?_ | refine Z0 ?_ | refine ZL ?_ | refine Zy (γ := 100) ?_ | refine Zy (γ := 101) ?_ | refine Zn ?_ | refine Zl ?_ | refine Z9 (hcon := hv) ?_ | refine Z9 (hcon := hz) ?_); refine JD ?_) | refine JT ?_ | refine JF ?_ | refine X5 ?_
  exact X1 ⟨_, St.le_refl _, ⟨rfl, trivial⟩, X2 _⟩
 | true =>
  rw [h] at hv
  rw [if_neg (by simp)]
  obtain ⟨k, n, d, s, l⟩ := v
  simp only [Val.kind]
  by_cases hk : YX k = 0
  ·have hk0 : k = 0 := by
    have := X4q h
    unfold YX at hk
    split at hk
    ·omega
    ·split at hk <;> omega
   obtain ⟨rfl, rfl, rfl, rfl⟩ := X5K h hk0
   subst hk0
   have ho := X8p
   rw [show Yc (YX 0) 0 = 0 from rfl]
   simp only [Xb, Xs] at hv hz ho ⊢
   refine X0 ?_; refine JR ?_; refine Zy (γ := 100) ?_; refine Zy (γ := 101) ?_; refine Z0 ?_; refine JD ?_; refine X0 ?_; refine JR ?_; refine ZL ?_; refine Z9 (hcon := hv) ?_; refine ZL ?_
   refine Z9 (hcon := hv) ?_; refine Z0 ?_; refine Z0 ?_; refine JD ?_; refine X0 ?_; refine X5 ?_; refine X0 ?_; refine JR ?_; refine Z1 ?_; refine Z1 ?_; refine Z1 ?_; refine Zk ?_; refine Z0 ?_
   refine JD ?_; refine JT ?_; refine X0 ?_; refine JR ?_; refine ZL ?_; refine ZL ?_; refine Z9 (hcon := ho) ?_; refine Z0 ?_; refine JD ?_
   exact X1 ⟨_, St.le_refl _, ⟨rfl, trivial⟩, X2 _⟩
  ·have ho := Xav k n d s l hk
   generalize Yc (YX k) 0 = z at *
   simp only [Xb, Xs] at hv hz ho ⊢
   refine X0 ?_; refine JR ?_; refine Zy (γ := 100) ?_; refine Zy (γ := 101) ?_; refine Z0 ?_; refine JD ?_; refine X0 ?_; refine JR ?_; refine ZL ?_; refine Z9 (hcon := hv) ?_; refine ZL ?_
   refine Z9 (hcon := hz) ?_; refine Z0 ?_; refine Z0 ?_; refine JD ?_; refine X0 ?_; refine X5 ?_; refine X0 ?_; refine JR ?_; refine Z1 ?_; refine Z1 ?_; refine Z1 ?_; refine Zk ?_; refine Z0 ?_
   refine JD ?_; refine JT ?_; refine X0 ?_; refine JR ?_; refine ZL ?_; refine ZL ?_; refine Z9 (hcon := ho) ?_; refine Z0 ?_; refine JD ?_
   exact X1 ⟨_, St.le_refl _, ⟨rfl, trivial⟩, X2 _⟩
theorem XaB (v : Val) : Con Tryz.prog 53 [] [Xb v] [] (ab (U0 v)) := by
 refine X8 (xs := [ab (U0 v)]) Tryz.func53 rfl Tryz.ntmps53 rfl rfl rfl (fun E => ?_)
 have ho := Xba v
 rw [← XaF v]
 generalize X0F v = z at *
 obtain ⟨k, n, d, s, l⟩ := v
 simp only [Xb, Xs] at ho ⊢
 refine X0 ?_; refine JR ?_; refine Zy (γ := 100) ?_; refine Z0 ?_; refine JD ?_; refine X0 ?_; refine JR ?_; refine ZL ?_; refine Zv ?_; refine Z9 (hcon := ho) ?_; refine Zu ?_; refine Z0 ?_; refine JD ?_
 exact X1 ⟨_, St.le_refl _, ⟨rfl, trivial⟩, X2 _⟩
end Go.Fw
namespace Go.Fw
open Go Go.Proofs
set_option maxRecDepth 100000
set_option linter.unusedVariables false
set_option linter.unusedSimpArgs false
def X4H (b : Bool) (k n d : Int) : Int × Int × Bool := if b = false then (0, 0, false) else if k = 2 then (n, 1, true) else if k = 3 then (n, d, true) else (0, 0, false)
def Vh (v : Val) : Int × Int × Bool := X4H (X6 8 v) v.kind v.n v.d
theorem Xay (v : Val) (hok : XH v) : Con Tryz.prog 86 [] [Xb v] [] (.tup [X0Q (Vh v).1 (Vh v).2.1, ab (Vh v).2.2]) := by
 have hv := X04 v hok
 refine X8 (xs := [X0Q (Vh v).1 (Vh v).2.1, ab (Vh v).2.2]) Tryz.func86 rfl Tryz.ntmps86 rfl rfl rfl (fun E => ?_)
 unfold Vh
 generalize X6 8 v = bb at *
 obtain ⟨k, n, d, s, l⟩ := v
 simp only [Xb, Val.kind, Val.n, Val.d] at hv ⊢
 unfold X4H
 cases bb with
 | false =>
  rw [if_pos rfl]
  refine X0 ?_; refine JR ?_; refine Zy (γ := 100) ?_; refine Zt (γ := 101) ?_; refine Z0 ?_; refine JD ?_; refine X0 ?_; refine X0 ?_; refine JR ?_; refine ZL ?_; refine Z9 (hcon := hv) ?_; refine Zr ?_
  refine JD ?_; refine JT ?_; refine X0 ?_; refine JR ?_; refine Zv ?_; refine Zw ?_; refine Z0 ?_; refine JD ?_
  exact X1 ⟨_, St.le_refl _, ⟨⟨101, 0, _, rfl, rfl, .inr ⟨2, _, rfl, rfl, rfl, rfl⟩⟩, rfl, trivial⟩, X2 _⟩
 | true =>
  rw [if_neg (by simp)]
  by_cases h2 : k = 2
  ·rw [if_pos h2]
   refine X0 ?_; refine JR ?_; refine Zy (γ := 100) ?_; refine Zt (γ := 101) ?_; refine Z0 ?_; refine JD ?_; refine X0 ?_; refine X0 ?_; refine JR ?_; refine ZL ?_; refine Z9 (hcon := hv) ?_; refine Zr ?_
   refine JD ?_; refine JF ?_; refine X3 ?_; refine X0 ?_; refine X0 ?_; refine JR ?_; refine Zz ?_; refine ZA ?_; refine Zu ?_; refine JD ?_; refine JT ?_; refine X0 ?_; refine JR ?_; refine Zz ?_
   refine ZA ?_; refine Zv ?_; refine Zw ?_; refine Z0 ?_; refine JD ?_
   exact X1 ⟨_, St.le_refl _, ⟨⟨101, 0, _, rfl, rfl, .inr ⟨2, _, rfl, rfl, rfl, rfl⟩⟩, rfl, trivial⟩, X2 _⟩
  rw [if_neg h2]
  by_cases h3 : k = 3
  ·rw [if_pos h3]
   repeat first | refine X0 ?_ | (refine JR ?_; (repeat first | refine Z0 ?_ | refine Zz ?_ | refine ZA ?_ | refine ZL ?_ | refine Zu ?_ | refine Zr ?_ | refine Zt (γ := 101) ?_ | refine Zy (γ := 100) ?_ | refine Zw ?_ | refine Zv ?_ | refine Z9 (hcon := hv) ?_); refine JD ?_) | refine JT ?_ | refine JF ?_ | refine X3 ?_
   exact X1 ⟨_, St.le_refl _, ⟨⟨101, 0, _, rfl, rfl, .inr ⟨2, _, rfl, rfl, rfl, rfl⟩⟩, rfl, trivial⟩, X2 _⟩
  rw [if_neg h3]
  repeat first | refine X0 ?_ | (refine JR ?_; (repeat first | refine Z0 ?_ | refine Zz ?_ | refine ZA ?_ | refine ZL ?_ | refine Zu ?_ | refine Zr ?_ | refine Zt (γ := 101) ?_ | refine Zy (γ := 100) ?_ | refine Zw ?_ | refine Zv ?_ | refine Z9 (hcon := hv) ?_); refine JD ?_) | refine JF ?_ | refine X3 ?_
  exact X1 ⟨_, St.le_refl _, ⟨⟨101, 0, _, rfl, rfl, .inr ⟨2, _, rfl, rfl, rfl, rfl⟩⟩, rfl, trivial⟩, X2 _⟩
def X0G (v : Val) : Prop := Con Tryz.prog 50 [] [Xb v, Xb v] [] (ai 0)
theorem X8s (l : List Val) (hl : l.length ≤ 9223372036854775807) (ih : ∀ x ∈ l, X0G x) : Con Tryz.prog 103 [] [.d (.sl 5 (Xs l)), .d (.sl 5 (Xs l))] [] (ai 0) := by
 refine X8 (xs := [ai 0]) Tryz.func103 rfl Tryz.ntmps103 rfl rfl rfl (fun E => ?_)
 have hlen := U2 l
 have hi := X18 (Xs l).length
 refine X0 ?_; refine JR ?_; refine Z0 ?_; refine JD ?_; refine X0 ?_; refine X0 ?_; refine JR ?_; refine Z0 ?_; refine JD ?_; refine X5 ?_
 refine XR (fun i : Nat => i ≤ l.length) (fun i => ⟨36, [(0, .d (.sl 5 (Xs l))), (1, .d (.sl 5 (Xs l))), (5, ai i)], []⟩) (fun i => l.length - i) 0 (by omega)
  (Xc rfl ⟨JL, JL, JL, trivial⟩ trivial) ?_
 intro i hi2
 by_cases hil : i < l.length
 case neg =>
  have hn : ¬ (i : Int) < (Xs l).length := by omega
  refine X0 ?_; refine X0 ?_; refine JR ?_; refine Z1 ?_; refine Z1 ?_; refine Zd ?_; refine Z8 ?_; refine Z1 ?_; refine Zl ?_; refine Zl ?_; refine Zl ?_; refine Zl ?_; refine Zn ?_; refine JD ?_; refine JF ?_
  refine Xv ?_; refine X0 ?_; refine JR ?_; refine Z1 ?_; refine Zd ?_; refine Z1 ?_; refine Zd ?_; refine Z9 (hcon := hi) ?_; refine Z0 ?_; refine JD ?_
  exact X1 ⟨_, St.le_refl _, ⟨rfl, trivial⟩, X2 _⟩
 obtain ⟨x, hx⟩ := XT (l := l) hil
 have hxc : (Xs l)[i]? = some (YP x) := by rw [VQ]; exact YR hx
 have hc := ih x (List.mem_of_getElem? hx)
 unfold X0G at hc
 have hn : (i : Int) < (Xs l).length := by omega
 obtain ⟨k, n, d, s, q⟩ := x
 simp only [Xb, YP] at hc hxc
 repeat first | refine X0 ?_ | (refine JR ?_; (repeat first | refine Z1 ?_ | refine Z0 ?_ | refine ZJ ?_ | refine Zd ?_ | refine Z8 ?_ | refine Zs ?_ | refine Zb ?_ | refine Zk ?_ | refine ZI ?_ | refine Z9 (hcon := hc) ?_); refine JD ?_) | refine JT ?_ | refine JF ?_ | refine X5 ?_ | refine X3 ?_
 exact ⟨i + 1, by omega, by omega, Xc rfl ⟨JL, JL, JL, trivial⟩ trivial⟩
theorem Xam (v : Val) (hl : v.l.length ≤ 9223372036854775807) (ih : ∀ x ∈ v.l, X0G x) : Con Tryz.prog 83 [] [Xb v, Xb v] [] (ai 0) := by
 obtain ⟨k, n, d, s, l⟩ := v
 simp only [Val.l] at hl ih
 have hl := X8s l hl ih
 have hk := X18 k
 have hn := X18 n
 have hd := X18 d
 have hs := X8z s
 refine X8 (xs := [ai 0]) Tryz.func83 rfl Tryz.ntmps83 rfl rfl rfl (fun E => ?_)
 simp only [Xb]
 repeat first | refine X0 ?_ | (refine JR ?_; (repeat first | refine Z1 ?_ | refine Z0 ?_ | refine Zz ?_ | refine ZA ?_ | refine Zs ?_ | refine Zy (γ := 100) ?_ | refine Zy (γ := 101) ?_ | refine Z9 (hcon := hk) ?_ | refine Z9 (hcon := hn) ?_ | refine Z9 (hcon := hd) ?_ | refine Z9 (hcon := hs) ?_ | refine Z9 (hcon := hl) ?_); refine JD ?_) | refine JF ?_ | refine X3 ?_
 exact X1 ⟨_, St.le_refl _, ⟨rfl, trivial⟩, X2 _⟩
theorem X7T (v : Val) (hok : XH v) (hf : Con Tryz.prog 83 [] [Xb v, Xb v] [] (ai 0)) : X0G v := by
 have hv := X04 v hok
 have hn := Xay v hok
 have hcl := X3C v.kind
 have hi := X18 (Um v.kind)
 have hcmp := X8d (Vh v).1 (Vh v).2.1
 refine X8 (xs := [ai 0]) Tryz.func50 rfl Tryz.ntmps50 rfl rfl rfl (fun E => ?_)
 generalize Vh v = u at *
 generalize X6 8 v = bb at *
 obtain ⟨k, n, d, s, l⟩ := v
 obtain ⟨p, q, is⟩ := u
 simp only [Xb, Val.kind] at hv hn hcl hi hcmp hf ⊢
 generalize Um k = c at *
 cases bb with
 | false =>
  repeat first | refine X0 ?_ | (refine JR ?_; (repeat first | refine Z1 ?_ | refine Z0 ?_ | refine ZL ?_ | refine ZY ?_ | refine Zr ?_ | refine Zy (γ := 100) ?_ | refine Zy (γ := 101) ?_ | refine Z9 (hcon := hv) ?_ | refine Z9 (hcon := hf) ?_); refine JD ?_) | refine JT ?_ | refine JF ?_ | refine X3 ?_
  exact X1 ⟨_, St.le_refl _, ⟨rfl, trivial⟩, X2 _⟩
 | true =>
  cases is with
  | true =>
   repeat first | refine X0 ?_ | (refine JR ?_; (repeat first | refine Z1 ?_ | refine Z0 ?_ | refine Zz ?_ | refine ZA ?_ | refine ZL ?_ | refine Zs ?_ | refine ZY ?_ | refine Zr ?_ | refine Zt (γ := 102) ?_ | refine Zt (γ := 103) ?_ | refine Zy (γ := 100) ?_ | refine Zy (γ := 101) ?_ | refine Zw ?_ | refine ZD ?_ | refine Z9 (hcon := hv) ?_ | refine Z9 (hcon := hcl) ?_ | refine Z9 (hcon := hi) ?_ | refine Z9 (hcon := hn) ?_ | refine Z9 (hcon := hcmp) ?_); refine JD ?_) | refine JT ?_ | refine JF ?_ | refine X3 ?_
   exact X1 ⟨_, St.le_refl _, ⟨rfl, trivial⟩, X2 _⟩
  | false =>
   repeat first | refine X0 ?_ | (refine JR ?_; (repeat first | refine Z1 ?_ | refine Z0 ?_ | refine Zz ?_ | refine ZA ?_ | refine ZL ?_ | refine Zs ?_ | refine ZY ?_ | refine Zr ?_ | refine Zt (γ := 102) ?_ | refine Zt (γ := 103) ?_ | refine Zy (γ := 100) ?_ | refine Zy (γ := 101) ?_ | refine Zw ?_ | refine ZD ?_ | refine Z9 (hcon := hv) ?_ | refine Z9 (hcon := hcl) ?_ | refine Z9 (hcon := hi) ?_ | refine Z9 (hcon := hn) ?_ | refine Z9 (hcon := hf) ?_); refine JD ?_) | refine JF ?_ | refine X3 ?_
   exact X1 ⟨_, St.le_refl _, ⟨rfl, trivial⟩, X2 _⟩
theorem X2Z : ∀ v : Val, XH v → X0G v
 | .mk k n d s l => fun hok => X7T (.mk k n d s l) hok (Xam (.mk k n d s l) (by rw [XH] at hok; exact hok.2.1) fun x hx => X2Z x (VN (by rw [XH] at hok; exact hok.2.2) hx))
termination_by v => SizeOf.sizeOf v
decreasing_by
 have h1 := List.sizeOf_lt_of_mem (show x ∈ l from hx)
 simp only [Val.mk.sizeOf_spec]
 omega
end Go.Fw
namespace Go.Fw
open Go Go.Proofs
set_option maxRecDepth 100000
set_option linter.unusedVariables false
set_option linter.unusedSimpArgs false
theorem Xab (x y : Int) : Con Tryz.prog 84 [] [ai x, ai y] [] (ai (Yc x y)) := by
 refine X8 (xs := [ai (Yc x y)]) Tryz.func84 rfl Tryz.ntmps84 rfl rfl rfl (fun E => ?_)
 by_cases h1 : x < y
 ·rw [show Yc x y = -1 by simp [Yc, h1]]
  refine X0 ?_; refine JR ?_; refine Z0 ?_; refine JD ?_; refine X0 ?_; refine X0 ?_; refine JR ?_; refine Z1 ?_; refine Z1 ?_; refine Z8 ?_; refine JD ?_; refine JT ?_; refine X0 ?_; refine JR ?_
  refine Z0 ?_; refine JD ?_
  exact X1 ⟨_, St.le_refl _, ⟨rfl, trivial⟩, X2 _⟩
 by_cases h2 : y < x
 ·rw [show Yc x y = 1 by simp [Yc, h1, h2]]
  repeat first | refine X0 ?_ | (refine JR ?_; (repeat first | refine Z1 ?_ | refine Z0 ?_ | refine Z8 ?_ | refine Zp ?_); refine JD ?_) | refine JT ?_ | refine JF ?_ | refine X3 ?_
  exact X1 ⟨_, St.le_refl _, ⟨rfl, trivial⟩, X2 _⟩
 rw [show Yc x y = 0 by simp [Yc, h1, h2]]
 repeat first | refine X0 ?_ | (refine JR ?_; (repeat first | refine Z1 ?_ | refine Z0 ?_ | refine Z8 ?_ | refine Zp ?_); refine JD ?_) | refine JF ?_ | refine X3 ?_
 exact X1 ⟨_, St.le_refl _, ⟨rfl, trivial⟩, X2 _⟩
theorem X8D (b : Bool) : Con Tryz.prog 82 [] [ab b] [] (ai (if b then 2 else 0)) := by
 refine X8 (xs := [ai (if b then 2 else 0)]) Tryz.func82 rfl Tryz.ntmps82 rfl rfl rfl (fun E => ?_)
 cases b with
 | true =>
  refine X0 ?_; refine JR ?_; refine Z0 ?_; refine JD ?_; refine X0 ?_; refine X0 ?_; refine JR ?_; refine Z1 ?_; refine JD ?_; refine JT ?_; refine X0 ?_; refine JR ?_; refine Z0 ?_; refine JD ?_
  exact X1 ⟨_, St.le_refl _, ⟨rfl, trivial⟩, X2 _⟩
 | false =>
  refine X0 ?_; refine JR ?_; refine Z0 ?_; refine JD ?_; refine X0 ?_; refine X0 ?_; refine JR ?_; refine Z1 ?_; refine JD ?_; refine JF ?_; refine X3 ?_; refine X0 ?_; refine JR ?_; refine Z0 ?_
  refine JD ?_
  exact X1 ⟨_, St.le_refl _, ⟨rfl, trivial⟩, X2 _⟩
theorem X8i {k : Int} (h : k ≠ 0) : 0 < Um k := by
 unfold Um
 rw [if_neg h]
 split
 ·omega
 split
 ·omega
 split
 ·omega
 split
 ·omega
 split
 ·omega
 split <;> omega
def VU (v : Val) : Int := if X6 8 v = false then 1 else Yc (Um v.kind) 0
theorem X9F (v : Val) : decide (VU v = 0) = U0 v := by
 unfold VU U0
 cases h : X6 8 v with
 | false => simp
 | true =>
  obtain ⟨k, n, d, s, l⟩ := v
  have hk := X4q h
  simp only [Val.kind, Bool.true_and]
  refine decide_eq_decide.2 ?_
  rw [if_neg (by simp)]
  unfold Yc Um
  constructor
  ·intro h1
   refine Classical.byContradiction fun h0 => ?_
   rw [if_neg h0] at h1
   have hpos : (0 : Int) < (if k = 1 then 1 else if k = 2 ∨ k = 3 then 2 else if k = 4 then 3 else if k = 5 then 4 else if k = 6 then 5 else if k = 8 then 6 else 7) := by
    split
    ·omega
    split
    ·omega
    split
    ·omega
    split
    ·omega
    split
    ·omega
    split <;> omega
   rw [if_neg (by omega), if_pos hpos] at h1
   omega
  ·intro h1
   subst h1
   rfl
theorem Xbr (v : Val) (hok : XH v) : Con Tryz.prog 50 [] [Xb v, Xb zV] [] (ai (VU v)) := by
 have hv := X04 v hok
 have hz := X04 zV (by simp [XH, Uh])
 rw [show X6 8 zV = true by rw [X6]; simp] at hz
 by_cases hz0 : v = zV
 ·subst hz0
  rw [show VU zV = 0 by unfold VU; rw [show X6 8 zV = true by rw [X6]; simp]; rfl]
  exact X2Z zV (by simp [XH, Uh])
 refine X8 (xs := [ai (VU v)]) Tryz.func50 rfl Tryz.ntmps50 rfl rfl rfl (fun E => ?_)
 unfold VU
 cases h : X6 8 v with
 | false =>
  rw [h] at hv
  rw [if_pos rfl]
  have hy := X8D false
  rw [if_neg (by simp)] at hy
  obtain ⟨k, n, d, s, l⟩ := v
  simp only [Xb, Xs] at hv hz ⊢
  refine X0 ?_; refine JR ?_; refine Zy (γ := 100) ?_; refine Zy (γ := 101) ?_; refine Z0 ?_; refine JD ?_; refine X0 ?_; refine JR ?_; refine ZL ?_; refine Z9 (hcon := hv) ?_; refine ZL ?_
  refine Z9 (hcon := hz) ?_; refine Z0 ?_; refine Z0 ?_; refine JD ?_; refine X0 ?_; refine X0 ?_; refine JR ?_; refine Z1 ?_; refine Z1 ?_; refine ZY ?_; refine JD ?_; refine JT ?_; refine X0 ?_
  refine JR ?_; refine Z1 ?_; refine Z9 (hcon := hy) ?_; refine ZR ?_; refine Z0 ?_; refine JD ?_
  exact X1 ⟨_, St.le_refl _, ⟨rfl, trivial⟩, X2 _⟩
 | true =>
  rw [h] at hv
  rw [if_neg (by simp)]
  obtain ⟨k, n, d, s, l⟩ := v
  have c1 := X3C k
  have c2 := X3C 0
  rw [show Um 0 = 0 from rfl] at c2
  have c3 := Xab (Um k) 0
  simp only [Val.kind]
  have hk0 : k ≠ 0 := fun h1 => by
   obtain ⟨rfl, rfl, rfl, rfl⟩ := X5K h h1
   exact hz0 (by rw [h1])
  have hcp := X8i hk0
  have hnz : Yc (Um k) 0 ≠ 0 := by
   unfold Yc
   rw [if_neg (by omega), if_pos hcp]
   omega
  generalize Yc (Um k) 0 = z at *
  generalize Um k = c at *
  simp only [Xb, Xs] at hv hz ⊢
  repeat first | refine X0 ?_ | (refine JR ?_; (repeat first | refine Z1 ?_ | refine Z0 ?_ | refine Zz ?_ | refine ZA ?_ | refine ZL ?_ | refine Zs ?_ | refine ZY ?_ | refine Zr ?_ | refine Zy (γ := 100) ?_ | refine Zy (γ := 101) ?_ | refine Z9 (hcon := hv) ?_ | refine Z9 (hcon := hz) ?_ | refine Z9 (hcon := c1) ?_ | refine Z9 (hcon := c2) ?_ | refine Z9 (hcon := c3) ?_); refine JD ?_) | refine JT ?_ | refine JF ?_ | refine X3 ?_
  exact X1 ⟨_, St.le_refl _, ⟨rfl, trivial⟩, X2 _⟩
theorem X89 (v : Val) (hok : XH v) : Con Tryz.prog 62 [] [Xb v] [] (ab (U0 v)) := by
 refine X8 (xs := [ab (U0 v)]) Tryz.func62 rfl Tryz.ntmps62 rfl rfl rfl (fun E => ?_)
 have ho := Xbr v hok
 rw [← X9F v]
 generalize VU v = z at *
 obtain ⟨k, n, d, s, l⟩ := v
 simp only [Xb, Xs] at ho ⊢
 refine X0 ?_; refine JR ?_; refine Zy (γ := 100) ?_; refine Z0 ?_; refine JD ?_; refine X0 ?_; refine JR ?_; refine ZL ?_; refine Zv ?_; refine Z9 (hcon := ho) ?_; refine Zu ?_; refine Z0 ?_; refine JD ?_
 exact X1 ⟨_, St.le_refl _, ⟨rfl, trivial⟩, X2 _⟩
theorem Xbg (v : Val) : Con Tryz.prog 55 [] [Xb v] [] (ab (UQ v)) := by
 refine X8 (xs := [ab (UQ v)]) Tryz.func55 rfl Tryz.ntmps55 rfl rfl rfl (fun E => ?_)
 have hv := UF v
 unfold UQ
 generalize X6 8 v = b at *
 obtain ⟨k, n, d, s, l⟩ := v
 simp only [Xb, Val.kind] at hv ⊢
 unfold X26
 by_cases h1 : k = 1
 ·rw [decide_eq_true (by omega), Bool.true_and]
  cases b with
  | true =>
   refine X0 ?_; refine JR ?_; refine Zy (γ := 100) ?_; refine Z0 ?_; refine JD ?_; refine X0 ?_; refine JR ?_; refine Zz ?_; refine ZA ?_; refine Zu ?_; refine Z1 ?_; refine Zl ?_; refine Zl ?_; refine Zl ?_
   refine Zk ?_; refine Z1 ?_; refine Zl ?_; refine Zl ?_; refine Zl ?_; refine Zk ?_; refine Z1 ?_; refine ZL ?_; refine Z9 (hcon := hv) ?_; refine Zk ?_; refine Z0 ?_; refine JD ?_
   first | exact X1 ⟨_, St.le_refl _, ⟨rfl, trivial⟩, X2 _⟩ | exact X1 ⟨_, X9 2 (y := ab true) (AVal.le_of_eq (by refine Eq.trans (b := ab (decide _)) rfl ?_; exact congrArg ab (by simp; omega))), ⟨rfl, trivial⟩, X2 _⟩ | fail
  | false =>
   refine X0 ?_; refine JR ?_; refine Zy (γ := 100) ?_; refine Z0 ?_; refine JD ?_; refine X0 ?_; refine JR ?_; refine Zz ?_; refine ZA ?_; refine Zu ?_; refine Z1 ?_; refine Zl ?_; refine Zl ?_; refine Zl ?_
   refine Zk ?_; refine Z1 ?_; refine Zl ?_; refine Zl ?_; refine Zl ?_; refine Zk ?_; refine Z1 ?_; refine ZL ?_; refine Z9 (hcon := hv) ?_; refine Zk ?_; refine Z0 ?_; refine JD ?_
   first | exact X1 ⟨_, St.le_refl _, ⟨rfl, trivial⟩, X2 _⟩ | exact X1 ⟨_, X9 2 (y := ab false) (AVal.le_of_eq (by refine Eq.trans (b := ab (decide _)) rfl ?_; exact congrArg ab (by simp; omega))), ⟨rfl, trivial⟩, X2 _⟩ | fail
 by_cases h2 : k = 2
 ·rw [decide_eq_true (by omega), Bool.true_and]
  cases b with
  | true =>
   refine X0 ?_; refine JR ?_; refine Zy (γ := 100) ?_; refine Z0 ?_; refine JD ?_; refine X0 ?_; refine JR ?_; refine Zz ?_; refine ZA ?_; refine Zu ?_; refine Z1 ?_; refine Zz ?_; refine ZA ?_; refine Zu ?_
   refine Zn ?_; refine Z1 ?_; refine Zl ?_; refine Zl ?_; refine Zl ?_; refine Zk ?_; refine Z1 ?_; refine ZL ?_; refine Z9 (hcon := hv) ?_; refine Zk ?_; refine Z0 ?_; refine JD ?_
   first | exact X1 ⟨_, St.le_refl _, ⟨rfl, trivial⟩, X2 _⟩ | exact X1 ⟨_, X9 2 (y := ab true) (AVal.le_of_eq (by refine Eq.trans (b := ab (decide _)) rfl ?_; exact congrArg ab (by simp; omega))), ⟨rfl, trivial⟩, X2 _⟩ | fail
  | false =>
   refine X0 ?_; refine JR ?_; refine Zy (γ := 100) ?_; refine Z0 ?_; refine JD ?_; refine X0 ?_; refine JR ?_; refine Zz ?_; refine ZA ?_; refine Zu ?_; refine Z1 ?_; refine Zz ?_; refine ZA ?_; refine Zu ?_
   refine Zn ?_; refine Z1 ?_; refine Zl ?_; refine Zl ?_; refine Zl ?_; refine Zk ?_; refine Z1 ?_; refine ZL ?_; refine Z9 (hcon := hv) ?_; refine Zk ?_; refine Z0 ?_; refine JD ?_
   first | exact X1 ⟨_, St.le_refl _, ⟨rfl, trivial⟩, X2 _⟩ | exact X1 ⟨_, X9 2 (y := ab false) (AVal.le_of_eq (by refine Eq.trans (b := ab (decide _)) rfl ?_; exact congrArg ab (by simp; omega))), ⟨rfl, trivial⟩, X2 _⟩ | fail
 by_cases h4 : k = 4
 ·rw [decide_eq_true (by omega), Bool.true_and]
  cases b with
  | true =>
   refine X0 ?_; refine JR ?_; refine Zy (γ := 100) ?_; refine Z0 ?_; refine JD ?_; refine X0 ?_; refine JR ?_; refine Zz ?_; refine ZA ?_; refine Zu ?_; refine Z1 ?_; refine Zz ?_; refine ZA ?_; refine Zu ?_
   refine Zn ?_; refine Z1 ?_; refine Zz ?_; refine ZA ?_; refine Zu ?_; refine Zn ?_; refine Z1 ?_; refine ZL ?_; refine Z9 (hcon := hv) ?_; refine Zk ?_; refine Z0 ?_; refine JD ?_
   first | exact X1 ⟨_, St.le_refl _, ⟨rfl, trivial⟩, X2 _⟩ | exact X1 ⟨_, X9 2 (y := ab true) (AVal.le_of_eq (by refine Eq.trans (b := ab (decide _)) rfl ?_; exact congrArg ab (by simp; omega))), ⟨rfl, trivial⟩, X2 _⟩ | fail
  | false =>
   refine X0 ?_; refine JR ?_; refine Zy (γ := 100) ?_; refine Z0 ?_; refine JD ?_; refine X0 ?_; refine JR ?_; refine Zz ?_; refine ZA ?_; refine Zu ?_; refine Z1 ?_; refine Zz ?_; refine ZA ?_; refine Zu ?_
   refine Zn ?_; refine Z1 ?_; refine Zz ?_; refine ZA ?_; refine Zu ?_; refine Zn ?_; refine Z1 ?_; refine ZL ?_; refine Z9 (hcon := hv) ?_; refine Zk ?_; refine Z0 ?_; refine JD ?_
   first | exact X1 ⟨_, St.le_refl _, ⟨rfl, trivial⟩, X2 _⟩ | exact X1 ⟨_, X9 2 (y := ab false) (AVal.le_of_eq (by refine Eq.trans (b := ab (decide _)) rfl ?_; exact congrArg ab (by simp; omega))), ⟨rfl, trivial⟩, X2 _⟩ | fail
 rw [decide_eq_false (by omega), Bool.false_and]
 refine X0 ?_; refine JR ?_; refine Zy (γ := 100) ?_; refine Z0 ?_; refine JD ?_; refine X0 ?_; refine JR ?_; refine Zz ?_; refine ZA ?_; refine Zu ?_; refine Z1 ?_; refine Zz ?_; refine ZA ?_; refine Zu ?_
 refine Zn ?_; refine Z1 ?_; refine Zz ?_; refine ZA ?_; refine Zu ?_; refine Zn ?_; refine Z1 ?_; refine Zl ?_; refine Zl ?_; refine Zn ?_; refine Z0 ?_; refine JD ?_
 first | exact X1 ⟨_, St.le_refl _, ⟨rfl, trivial⟩, X2 _⟩ | exact X1 ⟨_, X9 2 (y := ab false) (AVal.le_of_eq (by refine Eq.trans (b := ab (decide _)) rfl ?_; exact congrArg ab (by simp; omega))), ⟨rfl, trivial⟩, X2 _⟩ | fail
theorem Xb2 (v : Val) (hok : XH v) : Con Tryz.prog 64 [] [Xb v] [] (ab (UQ v)) := by
 refine X8 (xs := [ab (UQ v)]) Tryz.func64 rfl Tryz.ntmps64 rfl rfl rfl (fun E => ?_)
 have hv := X04 v hok
 unfold UQ
 generalize X6 8 v = b at *
 obtain ⟨k, n, d, s, l⟩ := v
 simp only [Xb, Val.kind] at hv ⊢
 unfold X26
 by_cases h1 : k = 1
 ·rw [decide_eq_true (by omega), Bool.true_and]
  cases b with
  | true =>
   refine X0 ?_; refine JR ?_; refine Zy (γ := 100) ?_; refine Z0 ?_; refine JD ?_; refine X0 ?_; refine JR ?_; refine ZL ?_; refine Z9 (hcon := hv) ?_; refine Z1 ?_; refine Zz ?_; refine ZA ?_; refine Zu ?_
   refine Z1 ?_; refine Zl ?_; refine Zl ?_; refine Zl ?_; refine Zk ?_; refine Z1 ?_; refine Zl ?_; refine Zl ?_; refine Zl ?_; refine Zk ?_; refine Zk ?_; refine Z0 ?_; refine JD ?_
   first | exact X1 ⟨_, St.le_refl _, ⟨rfl, trivial⟩, X2 _⟩ | exact X1 ⟨_, X9 2 (y := ab true) (AVal.le_of_eq (by refine Eq.trans (b := ab (decide _)) rfl ?_; exact congrArg ab (by simp; omega))), ⟨rfl, trivial⟩, X2 _⟩ | fail
  | false =>
   refine X0 ?_; refine JR ?_; refine Zy (γ := 100) ?_; refine Z0 ?_; refine JD ?_; refine X0 ?_; refine JR ?_; refine ZL ?_; refine Z9 (hcon := hv) ?_; refine Z1 ?_; refine Zl ?_; refine Zl ?_; refine Zl ?_
   refine Zl ?_; refine Zm ?_; refine Zm ?_; refine Zm ?_; refine Zl ?_; refine Zl ?_; refine Zm ?_; refine Zm ?_; refine Zm ?_; refine Zl ?_; refine Zn ?_; refine Z0 ?_; refine JD ?_
   first | exact X1 ⟨_, St.le_refl _, ⟨rfl, trivial⟩, X2 _⟩ | exact X1 ⟨_, X9 2 (y := ab false) (AVal.le_of_eq (by refine Eq.trans (b := ab (decide _)) rfl ?_; exact congrArg ab (by simp; omega))), ⟨rfl, trivial⟩, X2 _⟩ | fail
 by_cases h2 : k = 2
 ·rw [decide_eq_true (by omega), Bool.true_and]
  cases b with
  | true =>
   refine X0 ?_; refine JR ?_; refine Zy (γ := 100) ?_; refine Z0 ?_; refine JD ?_; refine X0 ?_; refine JR ?_; refine ZL ?_; refine Z9 (hcon := hv) ?_; refine Z1 ?_; refine Zz ?_; refine ZA ?_; refine Zu ?_
   refine Z1 ?_; refine Zz ?_; refine ZA ?_; refine Zu ?_; refine Zn ?_; refine Z1 ?_; refine Zl ?_; refine Zl ?_; refine Zl ?_; refine Zk ?_; refine Zk ?_; refine Z0 ?_; refine JD ?_
   first | exact X1 ⟨_, St.le_refl _, ⟨rfl, trivial⟩, X2 _⟩ | exact X1 ⟨_, X9 2 (y := ab true) (AVal.le_of_eq (by refine Eq.trans (b := ab (decide _)) rfl ?_; exact congrArg ab (by simp; omega))), ⟨rfl, trivial⟩, X2 _⟩ | fail
  | false =>
   refine X0 ?_; refine JR ?_; refine Zy (γ := 100) ?_; refine Z0 ?_; refine JD ?_; refine X0 ?_; refine JR ?_; refine ZL ?_; refine Z9 (hcon := hv) ?_; refine Z1 ?_; refine Zl ?_; refine Zl ?_; refine Zl ?_
   refine Zl ?_; refine Zm ?_; refine Zm ?_; refine Zm ?_; refine Zl ?_; refine Zl ?_; refine Zm ?_; refine Zm ?_; refine Zm ?_; refine Zl ?_; refine Zn ?_; refine Z0 ?_; refine JD ?_
   first | exact X1 ⟨_, St.le_refl _, ⟨rfl, trivial⟩, X2 _⟩ | exact X1 ⟨_, X9 2 (y := ab false) (AVal.le_of_eq (by refine Eq.trans (b := ab (decide _)) rfl ?_; exact congrArg ab (by simp; omega))), ⟨rfl, trivial⟩, X2 _⟩ | fail
 by_cases h4 : k = 4
 ·rw [decide_eq_true (by omega), Bool.true_and]
  cases b with
  | true =>
   refine X0 ?_; refine JR ?_; refine Zy (γ := 100) ?_; refine Z0 ?_; refine JD ?_; refine X0 ?_; refine JR ?_; refine ZL ?_; refine Z9 (hcon := hv) ?_; refine Z1 ?_; refine Zz ?_; refine ZA ?_; refine Zu ?_
   refine Z1 ?_; refine Zz ?_; refine ZA ?_; refine Zu ?_; refine Zn ?_; refine Z1 ?_; refine Zz ?_; refine ZA ?_; refine Zu ?_; refine Zn ?_; refine Zk ?_; refine Z0 ?_; refine JD ?_
   first | exact X1 ⟨_, St.le_refl _, ⟨rfl, trivial⟩, X2 _⟩ | exact X1 ⟨_, X9 2 (y := ab true) (AVal.le_of_eq (by refine Eq.trans (b := ab (decide _)) rfl ?_; exact congrArg ab (by simp; omega))), ⟨rfl, trivial⟩, X2 _⟩ | fail
  | false =>
   refine X0 ?_; refine JR ?_; refine Zy (γ := 100) ?_; refine Z0 ?_; refine JD ?_; refine X0 ?_; refine JR ?_; refine ZL ?_; refine Z9 (hcon := hv) ?_; refine Z1 ?_; refine Zl ?_; refine Zl ?_; refine Zl ?_
   refine Zl ?_; refine Zm ?_; refine Zm ?_; refine Zm ?_; refine Zl ?_; refine Zl ?_; refine Zm ?_; refine Zm ?_; refine Zm ?_; refine Zl ?_; refine Zn ?_; refine Z0 ?_; refine JD ?_
   first | exact X1 ⟨_, St.le_refl _, ⟨rfl, trivial⟩, X2 _⟩ | exact X1 ⟨_, X9 2 (y := ab false) (AVal.le_of_eq (by refine Eq.trans (b := ab (decide _)) rfl ?_; exact congrArg ab (by simp; omega))), ⟨rfl, trivial⟩, X2 _⟩ | fail
 rw [decide_eq_false (by omega), Bool.false_and]
 cases b with
 | true =>
  refine X0 ?_; refine JR ?_; refine Zy (γ := 100) ?_; refine Z0 ?_; refine JD ?_; refine X0 ?_; refine JR ?_; refine ZL ?_; refine Z9 (hcon := hv) ?_; refine Z1 ?_; refine Zz ?_; refine ZA ?_; refine Zu ?_
  refine Z1 ?_; refine Zz ?_; refine ZA ?_; refine Zu ?_; refine Zn ?_; refine Z1 ?_; refine Zz ?_; refine ZA ?_; refine Zu ?_; refine Zn ?_; refine Zk ?_; refine Z0 ?_; refine JD ?_
  first | exact X1 ⟨_, St.le_refl _, ⟨rfl, trivial⟩, X2 _⟩ | exact X1 ⟨_, X9 2 (y := ab false) (AVal.le_of_eq (by refine Eq.trans (b := ab (decide _)) rfl ?_; exact congrArg ab (by simp; omega))), ⟨rfl, trivial⟩, X2 _⟩ | fail
 | false =>
  refine X0 ?_; refine JR ?_; refine Zy (γ := 100) ?_; refine Z0 ?_; refine JD ?_; refine X0 ?_; refine JR ?_; refine ZL ?_; refine Z9 (hcon := hv) ?_; refine Z1 ?_; refine Zl ?_; refine Zl ?_; refine Zl ?_
  refine Zl ?_; refine Zm ?_; refine Zm ?_; refine Zm ?_; refine Zl ?_; refine Zl ?_; refine Zm ?_; refine Zm ?_; refine Zm ?_; refine Zl ?_; refine Zn ?_; refine Z0 ?_; refine JD ?_
  first | exact X1 ⟨_, St.le_refl _, ⟨rfl, trivial⟩, X2 _⟩ | exact X1 ⟨_, X9 2 (y := ab false) (AVal.le_of_eq (by refine Eq.trans (b := ab (decide _)) rfl ?_; exact congrArg ab (by simp; omega))), ⟨rfl, trivial⟩, X2 _⟩ | fail
end Go.Fw

/- The reference's Uint and Int; Str. -/
import Derived.Test.YtaoggblfedekeaaGreatDoorG08
import Derived.Test.YtaoggblfedekeaaGreatDoorG15
import Derived.Test.YtaoggblfedekeaaGreatDoorG12
import Derived.Test.YtaoggblfedekeaaGreatDoorG13
import Derived.Test.YtaoggblfedekeaaGreatDoorG07
set_option maxHeartbeats 8000000
namespace Go.Fw
open Go Go.Proofs
set_option maxRecDepth 100000
set_option linter.unusedVariables false
set_option linter.unusedSimpArgs false
theorem X9l {b : List UInt8} {a : Int} : Xg b a = if (Xw b a).2.2 ≠ 0 then (0, 0, (Xw b a).2.2) else if 9223372036854775807 < (Xw b a).1 then (0, 0, 4) else if Yr b a = true then (0, 0, 2) else (((Xw b a).1 : Int), (Xw b a).2.1, 0) := rfl
theorem X9n {b : List UInt8} {a : Int} : Xl b a = if (Xw b a).2.2 ≠ 0 then (0, 0, (Xw b a).2.2) else if Yr b a = true then (0, 0, 2) else (zag (Xw b a).1, (Xw b a).2.1, 0) := rfl
theorem X2q (b : List UInt8) (a : Int) (hb : b.length ≤ 281474976710656) : Con Tryz.prog 78 [] [.d (Xh b), ai a] [] (aN3 (Xg b a)) := by
 refine X8 (xs := [ai (Xg b a).1, ai (Xg b a).2.1, ai (Xg b a).2.2]) Tryz.func78 rfl Tryz.ntmps78 rfl rfl rfl (fun E => ?_)
 have hr := X6s b a hb
 have hlt := X3l (b := b) (a := a)
 have hmin := X6y b a (hb := hb)
 rw [X9l]
 generalize Yr b a = p at *
 generalize Xw b a = r at *
 obtain ⟨u, e, err⟩ := r
 simp only at hlt hmin ⊢
 by_cases h2 : err = 0
 ·have hm := hmin h2
  rw [if_neg (by simpa using h2)]
  by_cases h1 : 9223372036854775807 < u
  ·rw [if_pos h1]
   repeat first | refine X0 ?_ | (refine JR ?_; (repeat first | refine Z1 ?_ | refine Z0 ?_ | refine Zp ?_ | refine Zs ?_ | refine ZD ?_ | refine Z9 (hcon := hr) ?_); refine JD ?_) | refine JT ?_ | refine JF ?_ | refine X3 ?_
   exact X1 ⟨_, St.le_refl _, ⟨rfl, rfl, rfl, trivial⟩, X2 _⟩
  rw [if_neg h1]
  cases p with
  | true =>
   rw [if_pos rfl]
   repeat first | refine X0 ?_ | (refine JR ?_; (repeat first | refine Z1 ?_ | refine Z0 ?_ | refine Zp ?_ | refine Zs ?_ | refine Zr ?_ | refine ZD ?_ | refine Z9 (hcon := hr) ?_ | refine Z9 (hcon := hm) ?_); refine JD ?_) | refine JT ?_ | refine JF ?_ | refine X3 ?_
   exact X1 ⟨_, St.le_refl _, ⟨rfl, rfl, rfl, trivial⟩, X2 _⟩
  | false =>
   rw [if_neg (by simp)]
   repeat first | refine X0 ?_ | (refine JR ?_; (repeat first | refine Z3 (u := n64 u) (r := ni u) ?_ (hr := by exact Yi rfl rfl (by rw [XL]; omega)) | refine Z1 ?_ | refine Z0 ?_ | refine Zp ?_ | refine Zs ?_ | refine Zr ?_ | refine ZD ?_ | refine Z9 (hcon := hr) ?_ | refine Z9 (hcon := hm) ?_); refine JD ?_) | refine JF ?_ | refine X3 ?_
   exact X1 ⟨_, St.le_refl _, ⟨rfl, rfl, rfl, trivial⟩, X2 _⟩
 ·rw [if_pos h2]
  repeat first | refine X0 ?_ | (refine JR ?_; (repeat first | refine Z1 ?_ | refine Z0 ?_ | refine Zs ?_ | refine ZD ?_ | refine Z9 (hcon := hr) ?_); refine JD ?_) | refine JT ?_
  exact X1 ⟨_, St.le_refl _, ⟨rfl, rfl, rfl, trivial⟩, X2 _⟩
theorem X01 (b : List UInt8) (a : Int) (hb : b.length ≤ 281474976710656) : Con Tryz.prog 81 [] [.d (Xh b), ai a] [] (aN3 (Xl b a)) := by
 refine X8 (xs := [ai (Xl b a).1, ai (Xl b a).2.1, ai (Xl b a).2.2]) Tryz.func81 rfl Tryz.ntmps81 rfl rfl rfl (fun E => ?_)
 have hr := X6s b a hb
 have hlt := X3l (b := b) (a := a)
 have hmin := X6y b a (hb := hb)
 rw [X9n]
 generalize Yr b a = p at *
 generalize Xw b a = r at *
 obtain ⟨u, e, err⟩ := r
 simp only at hlt hmin ⊢
 by_cases h2 : err = 0
 ·have hm := hmin h2
  rw [if_neg (by simpa using h2)]
  cases p with
  | true =>
   rw [if_pos rfl]
   repeat first | refine X0 ?_ | (refine JR ?_; (repeat first | refine Z1 ?_ | refine Z0 ?_ | refine Zs ?_ | refine Zr ?_ | refine ZD ?_ | refine Z9 (hcon := hr) ?_ | refine Z9 (hcon := hm) ?_); refine JD ?_) | refine JT ?_ | refine JF ?_ | refine X3 ?_
   exact X1 ⟨_, St.le_refl _, ⟨rfl, rfl, rfl, trivial⟩, X2 _⟩
  | false =>
   rw [if_neg (by simp)]
   have hx : ∀ w, (Op.unary .neg (ni (u / 2))).run Tryz.prog w = .ok (.int .i64 (-((u / 2 : Nat) : Int))) w := fun w => X3a (P := Tryz.prog) (by omega) w
   by_cases hodd : u % 2 = 1
   ·rw [show zag u = -((u / 2 : Nat) : Int) - 1 by unfold zag; rw [if_pos hodd]]
    refine X0 ?_; refine JR ?_; refine Z0 ?_; refine Z0 ?_; refine Z0 ?_; refine JD ?_; refine X0 ?_; refine JR ?_; refine Z1 ?_; refine Z1 ?_; refine Z9 (hcon := hr) ?_; refine Z1 ?_; refine ZD ?_; refine ZD ?_
    refine ZD ?_; refine Z0 ?_; refine Z0 ?_; refine Z0 ?_; refine JD ?_; refine X0 ?_; refine X0 ?_; refine JR ?_; refine Z1 ?_; refine Zs ?_; refine JD ?_; refine JF ?_; refine X3 ?_; refine X0 ?_
    refine X0 ?_; refine JR ?_; refine Z1 ?_; refine Z1 ?_; refine Z1 ?_; refine Z9 (hcon := hm) ?_; refine Zr ?_; refine JD ?_; refine JF ?_; refine X3 ?_; refine X0 ?_; refine X0 ?_; refine JR ?_
    refine Z1 ?_; refine Z7 (op := .rem) (r' := n64 (u % 2)) (u := n64 u) (v := n64 2) ?_ (hr := by exact Ys (by omega)); refine Zu ?_; refine JD ?_; refine JT ?_; refine X0 ?_; refine JR ?_; refine Z1 ?_
    refine Z7 (op := .quo) (r' := n64 (u / 2)) (u := n64 u) (v := n64 2) ?_ (hr := by exact UK (by omega) (by rw [XA]; omega))
    refine Z3 (u := n64 (u / 2)) (r := ni (u / 2)) ?_ (hr := by exact Yi rfl rfl (by rw [XL]; omega)); refine Za (u := ni (u / 2)) (r := .int .i64 (-((u / 2 : Nat) : Int))) ?_ (hr := by exact hx); refine ZR ?_
    refine Z1 ?_; refine Z0 ?_; refine Z0 ?_; refine Z0 ?_; refine JD ?_
    exact X1 ⟨_, St.le_refl _, ⟨rfl, rfl, rfl, trivial⟩, X2 _⟩
   ·rw [show zag u = ((u / 2 : Nat) : Int) by unfold zag; rw [if_neg hodd]]
    refine X0 ?_; refine JR ?_; refine Z0 ?_; refine Z0 ?_; refine Z0 ?_; refine JD ?_; refine X0 ?_; refine JR ?_; refine Z1 ?_; refine Z1 ?_; refine Z9 (hcon := hr) ?_; refine Z1 ?_; refine ZD ?_; refine ZD ?_
    refine ZD ?_; refine Z0 ?_; refine Z0 ?_; refine Z0 ?_; refine JD ?_; refine X0 ?_; refine X0 ?_; refine JR ?_; refine Z1 ?_; refine Zs ?_; refine JD ?_; refine JF ?_; refine X3 ?_; refine X0 ?_
    refine X0 ?_; refine JR ?_; refine Z1 ?_; refine Z1 ?_; refine Z1 ?_; refine Z9 (hcon := hm) ?_; refine Zr ?_; refine JD ?_; refine JF ?_; refine X3 ?_; refine X0 ?_; refine X0 ?_; refine JR ?_
    refine Z1 ?_; refine Z7 (op := .rem) (r' := n64 (u % 2)) (u := n64 u) (v := n64 2) ?_ (hr := by exact Ys (by omega)); refine Zu ?_; refine JD ?_; refine JF ?_; refine X3 ?_; refine X0 ?_; refine JR ?_
    refine Z1 ?_; refine Z7 (op := .quo) (r' := n64 (u / 2)) (u := n64 u) (v := n64 2) ?_ (hr := by exact UK (by omega) (by rw [XA]; omega))
    refine Z3 (u := n64 (u / 2)) (r := ni (u / 2)) ?_ (hr := by exact Yi rfl rfl (by rw [XL]; omega)); refine Z1 ?_; refine Z0 ?_; refine Z0 ?_; refine Z0 ?_; refine JD ?_
    exact X1 ⟨_, St.le_refl _, ⟨rfl, rfl, rfl, trivial⟩, X2 _⟩
 ·rw [if_pos h2]
  repeat first | refine X0 ?_ | (refine JR ?_; (repeat first | refine Z1 ?_ | refine Z0 ?_ | refine Zs ?_ | refine ZD ?_ | refine Z9 (hcon := hr) ?_); refine JD ?_) | refine JT ?_
  exact X1 ⟨_, St.le_refl _, ⟨rfl, rfl, rfl, trivial⟩, X2 _⟩
theorem X5E {b : List UInt8} {a most : Int} : Y3 b a most = if (Xg b a).2.2 ≠ 0 then ([], 0, (Xg b a).2.2) else if most < (Xg b a).1 then ([], 0, 4) else if (b.length : Int) - (Xg b a).2.1 < (Xg b a).1 then ([], 0, 3) else
  ((b.drop (Xg b a).2.1.toNat).take (Xg b a).1.toNat, (Xg b a).2.1 + (Xg b a).1, 0) := rfl
theorem X7a {b : List UInt8} {a : Int} : (Xg b a).2.2 = 0 → ∃ n f : Nat, (Xg b a).1 = n ∧ (Xg b a).2.1 = f ∧ f ≤ b.length ∧ (n : Int) ≤ 9223372036854775807 := by
 intro h
 obtain ⟨⟨k1, k2, k3, k4⟩, k5, k6, k7⟩ := X08 (b := b) (a := a) (n := (Xg b a).1) (e := (Xg b a).2.1) (by rw [← h])
 exact ⟨(Xg b a).1.toNat, (Xg b a).2.1.toNat, by omega, by omega, by omega, by omega⟩
theorem X5u (b : List UInt8) (a most : Int) (hb : b.length ≤ 281474976710656) : Con Tryz.prog 95 [] [.d (Xh b), ai a, ai most] [] (X2k (X7 (Y3 b a most).1) (Y3 b a most).2.1 (Y3 b a most).2.2) := by
 refine X8 (xs := [X7 (Y3 b a most).1, ai (Y3 b a most).2.1, ai (Y3 b a most).2.2]) Tryz.func95 rfl Tryz.ntmps95 rfl rfl rfl (fun E => ?_)
 have hr := X2m b a hb
 have hf := X7a (b := b) (a := a)
 rw [X5E]
 generalize Xg b a = r at *
 obtain ⟨n, f, err⟩ := r
 simp only at hf ⊢
 by_cases h2 : err = 0
 ·obtain ⟨n, f, rfl, rfl, hf1, hf2⟩ := hf h2
  rw [if_neg (by simpa using h2)]
  by_cases h3 : most < (n : Int)
  ·rw [if_pos h3]
   repeat first | refine X0 ?_ | (refine JR ?_; (repeat first | refine Z1 ?_ | refine Z0 ?_ | refine Zp ?_ | refine Zs ?_ | refine ZD ?_ | refine Z9 (hcon := hr) ?_); refine JD ?_) | refine JT ?_ | refine JF ?_ | refine X5 ?_
   exact X1 ⟨_, St.le_refl _, ⟨rfl, rfl, rfl, trivial⟩, X2 _⟩
  rw [if_neg h3]
  by_cases h4 : (b.length : Int) - f < n
  ·rw [if_pos h4]
   repeat first | refine X0 ?_ | (refine JR ?_; (repeat first | refine Z1 ?_ | refine Z0 ?_ | refine Zd ?_ | refine Zp ?_ | refine Zs ?_ | refine ZR ?_ | refine ZD ?_ | refine Z9 (hcon := hr) ?_); refine JD ?_) | refine JT ?_ | refine JF ?_ | refine X5 ?_
   exact X1 ⟨_, St.le_refl _, ⟨rfl, rfl, rfl, trivial⟩, X2 _⟩
  rw [if_neg h4]
  have hsl : ((b.map Xa).take (f + n)).drop f = ((b.drop f).take n).map Xa := by rw [List.map_take, List.map_drop, List.drop_take, Nat.add_sub_cancel_left]
  repeat first | refine X0 ?_ | (refine JR ?_; (repeat first | refine Z7 (op := .add) (r' := ni (f + n)) (u := ni f) (v := ni n) ?_ (hr := by exact Yy (by rw [XL]; omega)) | refine ZV (lb := f) (hb := f + n) (ys := ((b.drop f).take n).map Xa) ?_ (hys := by exact hsl) | refine Z1 ?_ | refine Z0 ?_ | refine Zd ?_ | refine Zp ?_ | refine Zs ?_ | refine ZR ?_ | refine ZD ?_ | refine ZW ?_ | refine Z9 (hcon := hr) ?_); refine JD ?_) | refine JF ?_ | refine X5 ?_ | refine X3 ?_
  exact X1 ⟨_, St.le_refl _, ⟨rfl, rfl, rfl, trivial⟩, X2 _⟩
 ·rw [if_pos h2]
  repeat first | refine X0 ?_ | (refine JR ?_; (repeat first | refine Z1 ?_ | refine Z0 ?_ | refine Zs ?_ | refine ZD ?_ | refine Z9 (hcon := hr) ?_); refine JD ?_) | refine JT ?_ | refine X5 ?_
  exact X1 ⟨_, St.le_refl _, ⟨rfl, rfl, rfl, trivial⟩, X2 _⟩
theorem X53 (b : List UInt8) (a most : Int) (hb : b.length ≤ 281474976710656) : Con Tryz.prog 99 [] [.d (Xh b), ai a, ai most] [] (X2k (X7 (Y3 b a most).1) (Y3 b a most).2.1 (Y3 b a most).2.2) := by
 refine X8 (xs := [X7 (Y3 b a most).1, ai (Y3 b a most).2.1, ai (Y3 b a most).2.2]) Tryz.func99 rfl Tryz.ntmps99 rfl rfl rfl (fun E => ?_)
 have hr := X2q b a hb
 have hf := X7a (b := b) (a := a)
 rw [X5E]
 generalize Xg b a = r at *
 obtain ⟨n, f, err⟩ := r
 simp only at hf ⊢
 by_cases h2 : err = 0
 ·obtain ⟨n, f, rfl, rfl, hf1, hf2⟩ := hf h2
  rw [if_neg (by simpa using h2)]
  by_cases h3 : most < (n : Int)
  ·rw [if_pos h3]
   repeat first | refine X0 ?_ | (refine JR ?_; (repeat first | refine Z1 ?_ | refine Z0 ?_ | refine Zp ?_ | refine Zs ?_ | refine ZD ?_ | refine Z9 (hcon := hr) ?_); refine JD ?_) | refine JT ?_ | refine JF ?_ | refine X3 ?_
   exact X1 ⟨_, St.le_refl _, ⟨rfl, rfl, rfl, trivial⟩, X2 _⟩
  rw [if_neg h3]
  by_cases h4 : (b.length : Int) - f < n
  ·rw [if_pos h4]
   repeat first | refine X0 ?_ | (refine JR ?_; (repeat first | refine Z1 ?_ | refine Z0 ?_ | refine Zd ?_ | refine Zp ?_ | refine Zs ?_ | refine ZR ?_ | refine ZD ?_ | refine Z9 (hcon := hr) ?_); refine JD ?_) | refine JT ?_ | refine JF ?_ | refine X3 ?_
   exact X1 ⟨_, St.le_refl _, ⟨rfl, rfl, rfl, trivial⟩, X2 _⟩
  rw [if_neg h4]
  have hsl : ((b.map Xa).take (f + n)).drop f = ((b.drop f).take n).map Xa := by rw [List.map_take, List.map_drop, List.drop_take, Nat.add_sub_cancel_left]
  repeat first | refine X0 ?_ | (refine JR ?_; (repeat first | refine Z7 (op := .add) (r' := ni (f + n)) (u := ni f) (v := ni n) ?_ (hr := by exact Yy (by rw [XL]; omega)) | refine ZV (lb := f) (hb := f + n) (ys := ((b.drop f).take n).map Xa) ?_ (hys := by exact hsl) | refine Z1 ?_ | refine Z0 ?_ | refine Zd ?_ | refine Zp ?_ | refine Zs ?_ | refine ZR ?_ | refine ZD ?_ | refine ZW ?_ | refine Z9 (hcon := hr) ?_); refine JD ?_) | refine JF ?_ | refine X3 ?_
  exact X1 ⟨_, St.le_refl _, ⟨rfl, rfl, rfl, trivial⟩, X2 _⟩
 ·rw [if_pos h2]
  repeat first | refine X0 ?_ | (refine JR ?_; (repeat first | refine Z1 ?_ | refine Z0 ?_ | refine Zs ?_ | refine ZD ?_ | refine Z9 (hcon := hr) ?_); refine JD ?_) | refine JT ?_
  exact X1 ⟨_, St.le_refl _, ⟨rfl, rfl, rfl, trivial⟩, X2 _⟩
end Go.Fw
namespace Go.Fw
open Go Go.Proofs
set_option maxRecDepth 100000
set_option linter.unusedVariables false
set_option linter.unusedSimpArgs false
theorem X1M {l : List Val} {i : Nat} {x : Val} (h : l[i]? = some x) : XG (l.take (i + 1)) = XG (l.take i) ++ Xn x := by
 induction l generalizing i with
 | nil => simp at h
 | cons y l ih =>
  cases i with
  | zero => simp at h; subst h; simp [XG]
  | succ i => simp only [List.take_succ_cons, XG]; rw [ih (by simpa using h), List.append_assoc]
theorem X2n (l : List Val) (i : Nat) : (XG (l.take i)).length ≤ (XG l).length := by
 induction l generalizing i with
 | nil => simp
 | cons y l ih =>
  cases i with
  | zero => simp [XG]
  | succ i => simp only [List.take_succ_cons, XG, List.length_append]; have := ih i; omega
def X2Q (v : Val) : Prop := ∀ r : List UInt8, r.length + (Xn v).length ≤ 140737488355328 →
 Con Tryz.prog 91 [(0, .row 1 (r.map Xa))] [.own 0 r.length, Xb v] [(0, .row 1 ((r ++ Xn v).map Xa))] (.own 0 (r ++ Xn v).length)
theorem X8T (v : Val) (hv : X6 8 v = true) (ih : ∀ x ∈ v.l, X2Q x) : X2Q v := by
 obtain ⟨k, n, d, s, l⟩ := v
 intro r hr
 have hlen := U2 l
 simp only [Val.l] at ih
 refine X8 (xs := [.own 0 (r ++ Xn (.mk k n d s l)).length]) Tryz.func91 rfl Tryz.ntmps91 rfl rfl rfl (fun E => ?_)
 rw [X6] at hv
 have hbig : ∀ (x : Int), -1000000000000000 ≤ x ∧ x ≤ 1000000000000000 → -9223372036854775808 ≤ x ∧ x ≤ 9223372036854775807 := fun x h => by omega
 by_cases hk0 : k = 0
 ·subst hk0
  have hput : Xn (.mk 0 n d s l) = [UInt8.ofNat 0] := by rw [Xn]; simp
  rw [hput] at hr ⊢
  simp only [List.length_append, List.length_cons, List.length_nil] at hr
  repeat first | refine X0 ?_ | (refine JR ?_; (repeat first | refine Z3 (u := nj 0) (r := n8 0) ?_ (hr := by exact XQ rfl rfl) | refine Z1 ?_ | refine Z0 ?_ | refine Zz ?_ | refine ZA ?_ | refine Zu ?_ | refine Zy (γ := 100) ?_ | refine Z5 ?_ | refine Z6 ?_); refine JD ?_) | refine JF ?_ | refine X5 ?_ | refine X3 ?_
  refine X1 ⟨_, X9 4 (y := .own 0 (r ++ UInt8.ofNat 0 :: []).length) (AVal.le_of_eq ?_), ⟨rfl, trivial⟩, Xi ⟨?_, trivial⟩⟩
  ·refine Eq.trans (b := AVal.own 0 (_ + _)) rfl ?_
   congr 1
   simp only [List.length_append, List.length_map, List.length_cons, List.length_nil] <;> omega
  ·refine Eq.trans (b := AObj.row 1 (_ ++ _)) rfl ?_
   simp only [List.map_append, List.map_cons, List.map_nil, List.append_assoc, List.cons_append, List.nil_append]; rfl
 by_cases hk1 : k = 1
 ·subst hk1
  have hput : Xn (.mk 1 n d s l) = UInt8.ofNat 1 :: XD n := by rw [Xn]; simp
  have hn : -9223372036854775808 ≤ n ∧ n ≤ 9223372036854775807 := by simp at hv; omega
  have hpi := VY n hn
  rw [hput] at hr ⊢
  generalize XD n = q at *
  simp only [List.length_append, List.length_cons, List.length_nil] at hr
  refine X0 ?_; refine JR ?_; refine Zy (γ := 100) ?_; refine Z0 ?_; refine JD ?_; refine X0 ?_; refine JR ?_; refine Z1 ?_; refine Zz ?_; refine ZA ?_
  refine Z3 (u := nj 1) (r := n8 1) ?_ (hr := by exact XQ rfl rfl); refine Z5 ?_; refine Z6 ?_; refine Z0 ?_; refine JD ?_; refine X0 ?_; refine X0 ?_; refine JR ?_; refine Zz ?_; refine ZA ?_; refine JD ?_
  refine X5 ?_; refine X0 ?_; refine X0 ?_; refine JR ?_; refine Zu ?_; refine Z0 ?_; refine JD ?_; refine JT ?_; refine X3 ?_; refine JT ?_; refine X0 ?_; refine JR ?_; refine Z1 ?_
  refine Zz ?_; refine ZA ?_; refine Z9 (hcon := hpi) ?_; refine Z6 ?_; refine Z0 ?_; refine JD ?_
  refine X1 ⟨_, X9 4 (y := .own 0 (r ++ UInt8.ofNat 1 :: q).length) (AVal.le_of_eq ?_), ⟨rfl, trivial⟩, Xi ⟨?_, trivial⟩⟩
  ·refine Eq.trans (b := AVal.own 0 (_ + _)) rfl ?_
   congr 1
   simp only [List.length_append, List.length_map, List.length_cons, List.length_nil] <;> omega
  ·refine Eq.trans (b := AObj.row 1 (_ ++ _ ++ _)) rfl ?_
   simp only [List.map_append, List.map_cons, List.map_nil, List.append_assoc, List.cons_append, List.nil_append]; rfl
 by_cases hk2 : k = 2
 ·subst hk2
  have hput : Xn (.mk 2 n d s l) = UInt8.ofNat 2 :: XD n := by rw [Xn]; simp
  have hn : -9223372036854775808 ≤ n ∧ n ≤ 9223372036854775807 := by simp at hv; omega
  have hpi := VY n hn
  rw [hput] at hr ⊢
  generalize XD n = q at *
  simp only [List.length_append, List.length_cons, List.length_nil] at hr
  repeat first | refine X0 ?_ | (refine JR ?_; (repeat first | refine Z3 (u := nj 2) (r := n8 2) ?_ (hr := by exact XQ rfl rfl) | refine Z1 ?_ | refine Z0 ?_ | refine Zz ?_ | refine ZA ?_ | refine Zu ?_ | refine Zy (γ := 100) ?_ | refine Z5 ?_ | refine Z6 ?_ | refine Z9 (hcon := hpi) ?_); refine JD ?_) | refine JT ?_ | refine JF ?_ | refine X5 ?_ | refine X3 ?_
  refine X1 ⟨_, X9 4 (y := .own 0 (r ++ UInt8.ofNat 2 :: q).length) (AVal.le_of_eq ?_), ⟨rfl, trivial⟩, Xi ⟨?_, trivial⟩⟩
  ·refine Eq.trans (b := AVal.own 0 (_ + _)) rfl ?_
   congr 1
   simp only [List.length_append, List.length_map, List.length_cons, List.length_nil] <;> omega
  ·refine Eq.trans (b := AObj.row 1 (_ ++ _ ++ _)) rfl ?_
   simp only [List.map_append, List.map_cons, List.map_nil, List.append_assoc, List.cons_append, List.nil_append]; rfl
 by_cases hk3 : k = 3
 ·subst hk3
  have hput : Xn (.mk 3 n d s l) = UInt8.ofNat 3 :: (XD n ++ XD d) := by rw [Xn]; simp
  have hnd : (-9223372036854775808 ≤ n ∧ n ≤ 9223372036854775807) ∧ -9223372036854775808 ≤ d ∧ d ≤ 9223372036854775807 := by simp [Ub] at hv; omega
  have hpi := VY n hnd.1
  have hpd := VY d hnd.2
  rw [hput] at hr ⊢
  generalize XD n = q at *
  generalize XD d = q2 at *
  simp only [List.length_append, List.length_cons, List.length_nil] at hr
  repeat first | refine X0 ?_ | (refine JR ?_; (repeat first | refine Z3 (u := nj 3) (r := n8 3) ?_ (hr := by exact XQ rfl rfl) | refine Z1 ?_ | refine Z0 ?_ | refine Zz ?_ | refine ZA ?_ | refine Zu ?_ | refine Zy (γ := 100) ?_ | refine Z5 ?_ | refine Z6 ?_ | refine Z9 (hcon := hpi) ?_ | refine Z9 (hcon := hpd) ?_); refine JD ?_) | refine JT ?_ | refine JF ?_ | refine X5 ?_
  refine X1 ⟨_, X9 4 (y := .own 0 (r ++ UInt8.ofNat 3 :: (q ++ q2)).length) (AVal.le_of_eq ?_), ⟨rfl, trivial⟩, Xi ⟨?_, trivial⟩⟩
  ·refine Eq.trans (b := AVal.own 0 (_ + _)) rfl ?_
   congr 1
   simp only [List.length_append, List.length_map, List.length_cons, List.length_nil] <;> omega
  ·refine Eq.trans (b := AObj.row 1 (_ ++ _ ++ _ ++ _)) rfl ?_
   simp only [List.map_append, List.map_cons, List.map_nil, List.append_assoc, List.cons_append, List.nil_append]; rfl
 by_cases hk4 : k = 4
 ·subst hk4
  have hput : Xn (.mk 4 n d s l) = UInt8.ofNat 4 :: Xo s := by rw [Xn]; simp
  have hs : s.length ≤ 65536 := by simp at hv; omega
  have hpi := X0i s hs
  rw [hput] at hr ⊢
  generalize Xo s = q at *
  simp only [List.length_append, List.length_cons, List.length_nil] at hr
  repeat first | refine X0 ?_ | (refine JR ?_; (repeat first | refine Z3 (u := nj 4) (r := n8 4) ?_ (hr := by exact XQ rfl rfl) | refine Z1 ?_ | refine Z0 ?_ | refine Zz ?_ | refine ZA ?_ | refine Zu ?_ | refine Zy (γ := 100) ?_ | refine Z5 ?_ | refine Z6 ?_ | refine Z9 (hcon := hpi) ?_); refine JD ?_) | refine JT ?_ | refine JF ?_ | refine X5 ?_
  refine X1 ⟨_, X9 4 (y := .own 0 (r ++ UInt8.ofNat 4 :: q).length) (AVal.le_of_eq ?_), ⟨rfl, trivial⟩, Xi ⟨?_, trivial⟩⟩
  ·refine Eq.trans (b := AVal.own 0 (_ + _)) rfl ?_
   congr 1
   simp only [List.length_append, List.length_map, List.length_cons, List.length_nil] <;> omega
  ·refine Eq.trans (b := AObj.row 1 (_ ++ _ ++ _)) rfl ?_
   simp only [List.map_append, List.map_cons, List.map_nil, List.append_assoc, List.cons_append, List.nil_append]; rfl
 by_cases hk5 : k = 5
 ·subst hk5
  have hput : Xn (.mk 5 n d s l) = UInt8.ofNat 5 :: XD n := by rw [Xn]; simp
  have hn : -9223372036854775808 ≤ n ∧ n ≤ 9223372036854775807 := by simp at hv; omega
  have hpi := VY n hn
  rw [hput] at hr ⊢
  generalize XD n = q at *
  simp only [List.length_append, List.length_cons, List.length_nil] at hr
  repeat first | refine X0 ?_ | (refine JR ?_; (repeat first | refine Z3 (u := nj 5) (r := n8 5) ?_ (hr := by exact XQ rfl rfl) | refine Z1 ?_ | refine Z0 ?_ | refine Zz ?_ | refine ZA ?_ | refine Zu ?_ | refine Zy (γ := 100) ?_ | refine Z5 ?_ | refine Z6 ?_ | refine Z9 (hcon := hpi) ?_); refine JD ?_) | refine JT ?_ | refine JF ?_ | refine X5 ?_ | refine X3 ?_
  refine X1 ⟨_, X9 4 (y := .own 0 (r ++ UInt8.ofNat 5 :: q).length) (AVal.le_of_eq ?_), ⟨rfl, trivial⟩, Xi ⟨?_, trivial⟩⟩
  ·refine Eq.trans (b := AVal.own 0 (_ + _)) rfl ?_
   congr 1
   simp only [List.length_append, List.length_map, List.length_cons, List.length_nil] <;> omega
  ·refine Eq.trans (b := AObj.row 1 (_ ++ _ ++ _)) rfl ?_
   simp only [List.map_append, List.map_cons, List.map_nil, List.append_assoc, List.cons_append, List.nil_append]; rfl
 by_cases hk6 : k = 6
 ·subst hk6
  have hput : Xn (.mk 6 n d s l) = UInt8.ofNat 6 :: XD n := by rw [Xn]; simp
  have hn : -9223372036854775808 ≤ n ∧ n ≤ 9223372036854775807 := by simp at hv; omega
  have hpi := VY n hn
  rw [hput] at hr ⊢
  generalize XD n = q at *
  simp only [List.length_append, List.length_cons, List.length_nil] at hr
  repeat first | refine X0 ?_ | (refine JR ?_; (repeat first | refine Z3 (u := nj 6) (r := n8 6) ?_ (hr := by exact XQ rfl rfl) | refine Z1 ?_ | refine Z0 ?_ | refine Zz ?_ | refine ZA ?_ | refine Zu ?_ | refine Zy (γ := 100) ?_ | refine Z5 ?_ | refine Z6 ?_ | refine Z9 (hcon := hpi) ?_); refine JD ?_) | refine JT ?_ | refine JF ?_ | refine X5 ?_
  refine X1 ⟨_, X9 4 (y := .own 0 (r ++ UInt8.ofNat 6 :: q).length) (AVal.le_of_eq ?_), ⟨rfl, trivial⟩, Xi ⟨?_, trivial⟩⟩
  ·refine Eq.trans (b := AVal.own 0 (_ + _)) rfl ?_
   congr 1
   simp only [List.length_append, List.length_map, List.length_cons, List.length_nil] <;> omega
  ·refine Eq.trans (b := AObj.row 1 (_ ++ _ ++ _)) rfl ?_
   simp only [List.map_append, List.map_cons, List.map_nil, List.append_assoc, List.cons_append, List.nil_append]; rfl
 by_cases hk7 : k = 7
 ·subst hk7
  have hput : Xn (.mk 7 n d s l) = UInt8.ofNat 7 :: (Xe l.length ++ XG l) := by rw [Xn]; simp
  have hll : l.length ≤ 64 := by simp at hv; omega
  have hpu := VG (Xs l).length (by omega)
  rw [← hlen] at hput
  rw [hput] at hr ⊢
  generalize Xe ((Xs l).length : Int) = q at *
  simp only [List.length_append, List.length_cons, List.length_nil] at hr
  repeat first | refine X0 ?_ | (refine JR ?_; (repeat first | refine Z3 (u := nj 7) (r := n8 7) ?_ (hr := by exact XQ rfl rfl) | refine Z1 ?_ | refine Z0 ?_ | refine Zz ?_ | refine ZA ?_ | refine Zd ?_ | refine Zu ?_ | refine Zy (γ := 100) ?_ | refine Z5 ?_ | refine Z6 ?_ | refine Z9 (hcon := hpu) ?_); refine JD ?_) | refine JT ?_ | refine JF ?_ | refine X5 ?_
  generalize hbase : r ++ UInt8.ofNat 7 :: q = base at *
  have hbl : base.length = r.length + q.length + 1 := by rw [← hbase]; simp; omega
  have hgoal : r ++ UInt8.ofNat 7 :: (q ++ XG l) = base ++ XG l := by rw [← hbase]; simp
  rw [hgoal]
  refine XR (fun i : Nat => i ≤ l.length) (fun i => ⟨64, [(0, .own 0 (base ++ XG (l.take i)).length), (53, .d (.sl 5 (Xs l))), (54, ai l.length), (55, ai i)], [(0, .row 1 ((base ++ XG (l.take i)).map Xa))]⟩) (fun i => l.length - i) 0 (by omega)
   (Xc rfl ⟨(by refine AVal.le_of_eq ?_; refine Eq.trans (b := AVal.own 0 (_ + _)) rfl ?_; congr 1; simp only [List.take_zero, XG, List.append_nil, hbl, List.length_append, List.length_map, List.length_cons, List.length_nil] <;> omega), JL, (by refine AVal.le_of_eq ?_; refine Eq.trans (b := ai ((Xs l).length : Nat)) rfl ?_; rw [hlen]), JL, trivial⟩ ⟨?_, trivial⟩) ?_
  ·refine Eq.trans (b := AObj.row 1 (_ ++ _ ++ _)) rfl ?_
   simp only [List.take_zero, XG, List.append_nil, ← hbase, List.map_append, List.map_cons, List.append_assoc, List.cons_append, List.nil_append]; rfl
  intro i hi
  by_cases hlt : i < l.length
  ·obtain ⟨x, hx⟩ := XT (l := l) hlt
   have hgx := VL hx
   have htk := X1M hx
   have hle := X2n l (i + 1)
   have hpx := ih x (List.mem_of_getElem? hx) (base ++ XG (l.take i)) (by rw [htk] at hle; simp only [List.length_append] at hle ⊢; omega)
   rw [List.append_assoc, ← htk] at hpx
   obtain ⟨k', n', d', s', q'⟩ := x
   simp only [Xb] at hpx
   rw [YP] at hgx
   refine X0 ?_; refine JR ?_; refine Z8 ?_; refine JD ?_; refine X0 ?_; refine JT ?_; refine X3 ?_; refine X0 ?_; refine X5 ?_; refine X0 ?_; refine JR ?_; refine ZI ?_; refine ZJ ?_
   refine Zt (γ := 100) ?_; refine Zw ?_; refine JD ?_; refine JR ?_; refine Z1 ?_; refine ZL ?_; refine Z9 (hcon := hpx) ?_; refine Z0 ?_; refine JD ?_; refine JR ?_; refine Zb ?_; refine Z1 ?_; refine JD ?_
   exact ⟨i + 1, by omega, by omega, Xc rfl ⟨JL, JL, JL, JL, trivial⟩ ⟨rfl, trivial⟩⟩
  obtain rfl : i = l.length := by omega
  rw [List.take_length]
  refine X0 ?_; refine JR ?_; refine Z8 ?_; refine JD ?_; refine X0 ?_; refine JF ?_; refine Xv ?_; refine X0 ?_; refine JR ?_; refine Z1 ?_; refine Z0 ?_; refine JD ?_
  exact X1 ⟨_, St.le_refl _, ⟨rfl, trivial⟩, Xi ⟨rfl, trivial⟩⟩
 by_cases hk8 : k = 8
 ·subst hk8
  have hput : Xn (.mk 8 n d s l) = UInt8.ofNat 8 :: (Xe l.length ++ XG l) := by rw [Xn]; simp
  have hll : l.length ≤ 64 := by simp at hv; omega
  have hpu := VG (Xs l).length (by omega)
  rw [← hlen] at hput
  rw [hput] at hr ⊢
  generalize Xe ((Xs l).length : Int) = q at *
  simp only [List.length_append, List.length_cons, List.length_nil] at hr
  repeat first | refine X0 ?_ | (refine JR ?_; (repeat first | refine Z3 (u := nj 8) (r := n8 8) ?_ (hr := by exact XQ rfl rfl) | refine Z1 ?_ | refine Z0 ?_ | refine Zz ?_ | refine ZA ?_ | refine Zd ?_ | refine Zu ?_ | refine Zy (γ := 100) ?_ | refine Z5 ?_ | refine Z6 ?_ | refine Z9 (hcon := hpu) ?_); refine JD ?_) | refine JT ?_ | refine JF ?_ | refine X5 ?_ | refine X3 ?_
  generalize hbase : r ++ UInt8.ofNat 8 :: q = base at *
  have hbl : base.length = r.length + q.length + 1 := by rw [← hbase]; simp; omega
  have hgoal : r ++ UInt8.ofNat 8 :: (q ++ XG l) = base ++ XG l := by rw [← hbase]; simp
  rw [hgoal]
  refine XR (fun i : Nat => i ≤ l.length) (fun i => ⟨64, [(0, .own 0 (base ++ XG (l.take i)).length), (53, .d (.sl 5 (Xs l))), (54, ai l.length), (55, ai i)], [(0, .row 1 ((base ++ XG (l.take i)).map Xa))]⟩) (fun i => l.length - i) 0 (by omega)
   (Xc rfl ⟨(by refine AVal.le_of_eq ?_; refine Eq.trans (b := AVal.own 0 (_ + _)) rfl ?_; congr 1; simp only [List.take_zero, XG, List.append_nil, hbl, List.length_append, List.length_map, List.length_cons, List.length_nil] <;> omega), JL, (by refine AVal.le_of_eq ?_; refine Eq.trans (b := ai ((Xs l).length : Nat)) rfl ?_; rw [hlen]), JL, trivial⟩ ⟨?_, trivial⟩) ?_
  ·refine Eq.trans (b := AObj.row 1 (_ ++ _ ++ _)) rfl ?_
   simp only [List.take_zero, XG, List.append_nil, ← hbase, List.map_append, List.map_cons, List.append_assoc, List.cons_append, List.nil_append]; rfl
  intro i hi
  by_cases hlt : i < l.length
  ·obtain ⟨x, hx⟩ := XT (l := l) hlt
   have hgx := VL hx
   have htk := X1M hx
   have hle := X2n l (i + 1)
   have hpx := ih x (List.mem_of_getElem? hx) (base ++ XG (l.take i)) (by rw [htk] at hle; simp only [List.length_append] at hle ⊢; omega)
   rw [List.append_assoc, ← htk] at hpx
   obtain ⟨k', n', d', s', q'⟩ := x
   simp only [Xb] at hpx
   rw [YP] at hgx
   refine X0 ?_; refine JR ?_; refine Z8 ?_; refine JD ?_; refine X0 ?_; refine JT ?_; refine X3 ?_; refine X0 ?_; refine X5 ?_; refine X0 ?_; refine JR ?_; refine ZI ?_; refine ZJ ?_
   refine Zt (γ := 100) ?_; refine Zw ?_; refine JD ?_; refine JR ?_; refine Z1 ?_; refine ZL ?_; refine Z9 (hcon := hpx) ?_; refine Z0 ?_; refine JD ?_; refine JR ?_; refine Zb ?_; refine Z1 ?_; refine JD ?_
   exact ⟨i + 1, by omega, by omega, Xc rfl ⟨JL, JL, JL, JL, trivial⟩ ⟨rfl, trivial⟩⟩
  obtain rfl : i = l.length := by omega
  rw [List.take_length]
  refine X0 ?_; refine JR ?_; refine Z8 ?_; refine JD ?_; refine X0 ?_; refine JF ?_; refine Xv ?_; refine X0 ?_; refine JR ?_; refine Z1 ?_; refine Z0 ?_; refine JD ?_
  exact X1 ⟨_, St.le_refl _, ⟨rfl, trivial⟩, Xi ⟨rfl, trivial⟩⟩
 simp [*] at hv
end Go.Fw
namespace Go.Fw
open Go Go.Proofs
set_option maxRecDepth 100000
set_option linter.unusedVariables false
set_option linter.unusedSimpArgs false
theorem X3n {m : Nat} : ∀ {l : List Val} {x : Val}, YA m l = true → x ∈ l → X6 m x = true
 | [], x, _, h => by simp at h
 | v :: r, x, h, hx => by
  rw [YA, Bool.and_eq_true] at h
  rcases List.mem_cons.1 hx with rfl | hx
  ·exact h.1
  ·exact X3n h.2 hx
theorem X7B : ∀ {l : List Val} {i : Nat} {x : Val}, Yx i l = true → x ∈ l → X6 0 x = true
 | [], _, x, _, h => by simp at h
 | v :: r, i, x, h, hx => by
  rw [Yx, Bool.and_eq_true, Bool.and_eq_true] at h
  rcases List.mem_cons.1 hx with rfl | hx
  ·exact h.1.2
  ·exact X7B h.2 hx
theorem X4g {m : Nat} {k n d : Int} {s : List UInt8} {l : List Val} (h : X6 m (.mk k n d s l) = true) : ∀ x ∈ l, X6 m x = true := by
 intro x hx
 rw [X6] at h
 by_cases h7 : k = 7
 ·subst h7
  simp at h
  exact X33 x 0 m (by omega) (X7B h.2.2 hx)
 ·by_cases h8 : k = 8
  ·subst h8
   simp at h
   exact X33 x (m - 1) m (by omega) (X3n h.2.2 hx)
  ·have : l = [] := by
    simp [h7, h8] at h
    exact h.1.2
   subst this; simp at hx
theorem X4F : ∀ v : Val, X6 8 v = true → X2Q v
 | .mk k n d s l => fun hv => X8T (.mk k n d s l) hv fun x hx => X4F x (X4g hv x hx)
termination_by v => SizeOf.sizeOf v
decreasing_by
 have h1 := List.sizeOf_lt_of_mem (show x ∈ l from hx)
 simp only [Val.mk.sizeOf_spec]
 omega
theorem XaG (v : Val) (hv : X6 8 v = true) (hb : (Xn v).length ≤ 140737488355328) : Con Tryz.prog 91 [] [ani, Xb v] [] (.d (Xh (Xn v))) := by
 have h := X4F v hv [] (by simpa using hb)
 have h2 := Con.adopt (sz := 1) (args := [Xb v]) h (by obtain ⟨k, n, d, s, l⟩ := v; rfl)
 exact h2.data (by simp)
theorem X5n (v : Val) (hb : (Xn v).length ≤ 140737488355328) : Con Tryz.prog 58 [] [Xb v] [] (.d (Xh (XV v))) := by
 refine X8 (xs := [.d (Xh (XV v))]) Tryz.func58 rfl Tryz.ntmps58 rfl rfl rfl (fun E => ?_)
 have hval := UF v
 cases hv : X6 8 v with
 | false =>
  rw [hv] at hval
  rw [show XV v = [] by unfold XV; rw [hv]; rfl]
  obtain ⟨k, n, d, s, l⟩ := v
  simp only [Xb] at hval
  refine X0 ?_; refine JR ?_; refine Zy (γ := 100) ?_; refine Z0 ?_; refine JD ?_; refine X0 ?_; refine X0 ?_; refine JR ?_; refine ZL ?_; refine Z9 (hcon := hval) ?_; refine Zr ?_; refine JD ?_
  refine JT ?_; refine X0 ?_; refine JR ?_; refine Z0 ?_; refine JD ?_
  exact X1 ⟨_, X9 2 (y := .d (Xh [])) (AVal.le_nil 1), ⟨rfl, trivial⟩, X2 _⟩
 | true =>
  rw [hv] at hval
  rw [show XV v = Xn v by unfold XV; rw [hv]; rfl]
  have hp := XaG v hv hb
  obtain ⟨k, n, d, s, l⟩ := v
  simp only [Xb] at hval hp
  generalize Xn (.mk k n d s l) = q at *
  refine X0 ?_; refine JR ?_; refine Zy (γ := 100) ?_; refine Z0 ?_; refine JD ?_; refine X0 ?_; refine X0 ?_; refine JR ?_; refine ZL ?_; refine Z9 (hcon := hval) ?_; refine Zr ?_; refine JD ?_
  refine JF ?_; refine X3 ?_; refine X0 ?_; refine JR ?_; refine ZL ?_; refine Z9 (hcon := hp) ?_; refine Z0 ?_; refine JD ?_
  exact X1 ⟨_, St.le_refl _, ⟨rfl, trivial⟩, X2 _⟩
theorem X7v : ∀ {l : List Val} {x : Val}, x ∈ l → (Xn x).length ≤ (XG l).length
 | [], x, h => by simp at h
 | v :: r, x, h => by
  simp only [XG, List.length_append]
  rcases List.mem_cons.1 h with rfl | h
  ·omega
  ·have := X7v h; omega
def X0b (v : Val) : Prop := Con Tryz.prog 34 [] [Xb v] [] (.d (Xh (XV v)))
theorem Xc5 (v : Val) (hok : XH v) (hb : (Xn v).length ≤ 140737488355328) (ih : X6 8 v = true → ∀ x ∈ v.l, X0b x) : X0b v := by
 have hval := X04 v hok
 refine X8 (xs := [.d (Xh (XV v))]) Tryz.func34 rfl Tryz.ntmps34 rfl rfl rfl (fun E => ?_)
 obtain ⟨k, n, d, s, l⟩ := v
 simp only [Xb] at hval
 have hlen := U2 l
 simp only [Val.l] at ih
 cases hv : X6 8 (.mk k n d s l) with
 | false =>
  rw [hv] at hval
  rw [show XV (.mk k n d s l) = [] by unfold XV; rw [hv]; rfl]
  refine X0 ?_; refine JR ?_; refine Zy (γ := 100) ?_; refine Z0 ?_; refine JD ?_; refine X0 ?_; refine X0 ?_; refine JR ?_; refine ZL ?_; refine Z9 (hcon := hval) ?_; refine Zr ?_; refine JD ?_
  refine JT ?_; refine X0 ?_; refine JR ?_; refine Z0 ?_; refine JD ?_
  exact X1 ⟨_, X9 2 (y := .d (Xh [])) (AVal.le_nil 1), ⟨rfl, trivial⟩, X2 _⟩
 | true =>
  have hel := X4g hv
  have ihv := ih hv
  rw [hv] at hval
  rw [show XV (.mk k n d s l) = Xn (.mk k n d s l) by unfold XV; rw [hv]; rfl]
  rw [X6] at hv
  by_cases hk0 : k = 0
  ·subst hk0
   have hput : Xn (.mk 0 n d s l) = [UInt8.ofNat 0] := by rw [Xn]; simp
   rw [hput] at hb ⊢
   repeat first | refine X0 ?_ | (refine JR ?_; (repeat first | refine Z3 (u := nj 0) (r := n8 0) ?_ (hr := by exact XQ rfl rfl) | refine ZX (γ := 130) ?_ | refine Z1 ?_ | refine Z0 ?_ | refine Zz ?_ | refine ZA ?_ | refine ZL ?_ | refine Zu ?_ | refine Zr ?_ | refine Zy (γ := 100) ?_ | refine Z9 (hcon := hval) ?_); refine JD ?_) | refine JF ?_ | refine X5 ?_ | refine X3 ?_
   refine Xu (Y1 130 rfl) ?_
   refine Xu (Yo 2 130 rfl rfl (by first | rfl | (simp only [List.length_append, List.length_map, List.length_cons, List.length_nil] <;> omega))) ?_
   exact X1 ⟨_, X9 2 (y := .d (Xh (UInt8.ofNat 0 :: []))) (AVal.le_of_eq (by refine Eq.trans (b := AVal.d (.sl 1 (_))) rfl ?_; show _ = AVal.d (.sl 1 ((UInt8.ofNat 0 :: []).map Xa)); simp only [List.map_append, List.map_cons, List.map_nil, List.append_assoc, List.cons_append, List.nil_append]; rfl)), ⟨rfl, trivial⟩, X2 _⟩
  by_cases hk1 : k = 1
  ·subst hk1
   have hput : Xn (.mk 1 n d s l) = UInt8.ofNat 1 :: XD n := by rw [Xn]; simp
   have hn : -9223372036854775808 ≤ n ∧ n ≤ 9223372036854775807 := by simp at hv; omega
   have hpi := X02 n hn
   rw [hput] at hb ⊢
   generalize XD n = q at *
   simp only [List.length_cons] at hb
   refine X0 ?_; refine JR ?_; refine Zy (γ := 100) ?_; refine Z0 ?_; refine JD ?_; refine X0 ?_; refine X0 ?_; refine JR ?_; refine ZL ?_; refine Z9 (hcon := hval) ?_; refine Zr ?_; refine JD ?_
   refine JF ?_; refine X3 ?_; refine X0 ?_; refine JR ?_; refine Zz ?_; refine ZA ?_; refine Z3 (u := nj 1) (r := n8 1) ?_ (hr := by exact XQ rfl rfl); refine ZX (γ := 130) ?_; refine Z0 ?_; refine JD ?_
   refine X0 ?_; refine X0 ?_; refine JR ?_; refine Zz ?_; refine ZA ?_; refine JD ?_; refine X5 ?_; refine X0 ?_; refine X0 ?_; refine JR ?_; refine Zu ?_; refine Z0 ?_; refine JD ?_
   refine JT ?_; refine X3 ?_; refine JT ?_; refine X0 ?_; refine JR ?_; refine Z1 ?_; refine Zz ?_; refine ZA ?_; refine Z9 (hcon := hpi) ?_; refine Z6 ?_; refine Z0 ?_; refine JD ?_
   refine Xu (Y1 130 rfl) ?_
   refine Xu (Yo 2 130 rfl rfl (by first | rfl | (simp only [List.length_append, List.length_map, List.length_cons, List.length_nil] <;> omega))) ?_
   exact X1 ⟨_, X9 2 (y := .d (Xh (UInt8.ofNat 1 :: q))) (AVal.le_of_eq (by refine Eq.trans (b := AVal.d (.sl 1 (_ ++ _))) rfl ?_; show _ = AVal.d (.sl 1 ((UInt8.ofNat 1 :: q).map Xa)); simp only [List.map_append, List.map_cons, List.map_nil, List.append_assoc, List.cons_append, List.nil_append]; rfl)), ⟨rfl, trivial⟩, X2 _⟩
  by_cases hk2 : k = 2
  ·subst hk2
   have hput : Xn (.mk 2 n d s l) = UInt8.ofNat 2 :: XD n := by rw [Xn]; simp
   have hn : -9223372036854775808 ≤ n ∧ n ≤ 9223372036854775807 := by simp at hv; omega
   have hpi := X02 n hn
   rw [hput] at hb ⊢
   generalize XD n = q at *
   simp only [List.length_cons] at hb
   repeat first | refine X0 ?_ | (refine JR ?_; (repeat first | refine Z3 (u := nj 2) (r := n8 2) ?_ (hr := by exact XQ rfl rfl) | refine ZX (γ := 130) ?_ | refine Z1 ?_ | refine Z0 ?_ | refine Zz ?_ | refine ZA ?_ | refine ZL ?_ | refine Zu ?_ | refine Zr ?_ | refine Zy (γ := 100) ?_ | refine Z6 ?_ | refine Z9 (hcon := hval) ?_ | refine Z9 (hcon := hpi) ?_); refine JD ?_) | refine JT ?_ | refine JF ?_ | refine X5 ?_ | refine X3 ?_
   refine Xu (Y1 130 rfl) ?_
   refine Xu (Yo 2 130 rfl rfl (by first | rfl | (simp only [List.length_append, List.length_map, List.length_cons, List.length_nil] <;> omega))) ?_
   exact X1 ⟨_, X9 2 (y := .d (Xh (UInt8.ofNat 2 :: q))) (AVal.le_of_eq (by refine Eq.trans (b := AVal.d (.sl 1 (_ ++ _))) rfl ?_; show _ = AVal.d (.sl 1 ((UInt8.ofNat 2 :: q).map Xa)); simp only [List.map_append, List.map_cons, List.map_nil, List.append_assoc, List.cons_append, List.nil_append]; rfl)), ⟨rfl, trivial⟩, X2 _⟩
  by_cases hk3 : k = 3
  ·subst hk3
   have hput : Xn (.mk 3 n d s l) = UInt8.ofNat 3 :: (XD n ++ XD d) := by rw [Xn]; simp
   have hnd : (-9223372036854775808 ≤ n ∧ n ≤ 9223372036854775807) ∧ -9223372036854775808 ≤ d ∧ d ≤ 9223372036854775807 := by simp [Ub] at hv; omega
   have hpi := X02 n hnd.1
   have hpd := X02 d hnd.2
   rw [hput] at hb ⊢
   generalize XD n = q at *
   generalize XD d = q2 at *
   simp only [List.length_append, List.length_cons] at hb
   repeat first | refine X0 ?_ | (refine JR ?_; (repeat first | refine Z3 (u := nj 3) (r := n8 3) ?_ (hr := by exact XQ rfl rfl) | refine ZX (γ := 130) ?_ | refine Z1 ?_ | refine Z0 ?_ | refine Zz ?_ | refine ZA ?_ | refine ZL ?_ | refine Zu ?_ | refine Zr ?_ | refine Zy (γ := 100) ?_ | refine Z6 ?_ | refine Z9 (hcon := hval) ?_ | refine Z9 (hcon := hpi) ?_ | refine Z9 (hcon := hpd) ?_); refine JD ?_) | refine JT ?_ | refine JF ?_ | refine X5 ?_ | refine X3 ?_
   refine Xu (Y1 130 rfl) ?_
   refine Xu (Yo 2 130 rfl rfl (by first | rfl | (simp only [List.length_append, List.length_map, List.length_cons, List.length_nil] <;> omega))) ?_
   exact X1 ⟨_, X9 2 (y := .d (Xh (UInt8.ofNat 3 :: (q ++ q2)))) (AVal.le_of_eq (by refine Eq.trans (b := AVal.d (.sl 1 (_ ++ _ ++ _))) rfl ?_; show _ = AVal.d (.sl 1 ((UInt8.ofNat 3 :: (q ++ q2)).map Xa)); simp only [List.map_append, List.map_cons, List.map_nil, List.append_assoc, List.cons_append, List.nil_append]; rfl)), ⟨rfl, trivial⟩, X2 _⟩
  by_cases hk4 : k = 4
  ·subst hk4
   have hput : Xn (.mk 4 n d s l) = UInt8.ofNat 4 :: Xo s := by rw [Xn]; simp
   have hs : s.length ≤ 65536 := by simp at hv; omega
   have hpi := Vf s hs
   rw [hput] at hb ⊢
   generalize Xo s = q at *
   simp only [List.length_cons] at hb
   repeat first | refine X0 ?_ | (refine JR ?_; (repeat first | refine Z3 (u := nj 4) (r := n8 4) ?_ (hr := by exact XQ rfl rfl) | refine ZX (γ := 130) ?_ | refine Z1 ?_ | refine Z0 ?_ | refine Zz ?_ | refine ZA ?_ | refine ZL ?_ | refine Zu ?_ | refine Zr ?_ | refine Zy (γ := 100) ?_ | refine Z6 ?_ | refine Z9 (hcon := hval) ?_ | refine Z9 (hcon := hpi) ?_); refine JD ?_) | refine JT ?_ | refine JF ?_ | refine X5 ?_ | refine X3 ?_
   refine Xu (Y1 130 rfl) ?_
   refine Xu (Yo 2 130 rfl rfl (by first | rfl | (simp only [List.length_append, List.length_map, List.length_cons, List.length_nil] <;> omega))) ?_
   exact X1 ⟨_, X9 2 (y := .d (Xh (UInt8.ofNat 4 :: q))) (AVal.le_of_eq (by refine Eq.trans (b := AVal.d (.sl 1 (_ ++ _))) rfl ?_; show _ = AVal.d (.sl 1 ((UInt8.ofNat 4 :: q).map Xa)); simp only [List.map_append, List.map_cons, List.map_nil, List.append_assoc, List.cons_append, List.nil_append]; rfl)), ⟨rfl, trivial⟩, X2 _⟩
  by_cases hk5 : k = 5
  ·subst hk5
   have hput : Xn (.mk 5 n d s l) = UInt8.ofNat 5 :: XD n := by rw [Xn]; simp
   have hn : -9223372036854775808 ≤ n ∧ n ≤ 9223372036854775807 := by simp at hv; omega
   have hpi := X02 n hn
   rw [hput] at hb ⊢
   generalize XD n = q at *
   simp only [List.length_cons] at hb
   repeat first | refine X0 ?_ | (refine JR ?_; (repeat first | refine Z3 (u := nj 5) (r := n8 5) ?_ (hr := by exact XQ rfl rfl) | refine ZX (γ := 130) ?_ | refine Z1 ?_ | refine Z0 ?_ | refine Zz ?_ | refine ZA ?_ | refine ZL ?_ | refine Zu ?_ | refine Zr ?_ | refine Zy (γ := 100) ?_ | refine Z6 ?_ | refine Z9 (hcon := hval) ?_ | refine Z9 (hcon := hpi) ?_); refine JD ?_) | refine JT ?_ | refine JF ?_ | refine X5 ?_ | refine X3 ?_
   refine Xu (Y1 130 rfl) ?_
   refine Xu (Yo 2 130 rfl rfl (by first | rfl | (simp only [List.length_append, List.length_map, List.length_cons, List.length_nil] <;> omega))) ?_
   exact X1 ⟨_, X9 2 (y := .d (Xh (UInt8.ofNat 5 :: q))) (AVal.le_of_eq (by refine Eq.trans (b := AVal.d (.sl 1 (_ ++ _))) rfl ?_; show _ = AVal.d (.sl 1 ((UInt8.ofNat 5 :: q).map Xa)); simp only [List.map_append, List.map_cons, List.map_nil, List.append_assoc, List.cons_append, List.nil_append]; rfl)), ⟨rfl, trivial⟩, X2 _⟩
  by_cases hk6 : k = 6
  ·subst hk6
   have hput : Xn (.mk 6 n d s l) = UInt8.ofNat 6 :: XD n := by rw [Xn]; simp
   have hn : -9223372036854775808 ≤ n ∧ n ≤ 9223372036854775807 := by simp at hv; omega
   have hpi := X02 n hn
   rw [hput] at hb ⊢
   generalize XD n = q at *
   simp only [List.length_cons] at hb
   repeat first | refine X0 ?_ | (refine JR ?_; (repeat first | refine Z3 (u := nj 6) (r := n8 6) ?_ (hr := by exact XQ rfl rfl) | refine ZX (γ := 130) ?_ | refine Z1 ?_ | refine Z0 ?_ | refine Zz ?_ | refine ZA ?_ | refine ZL ?_ | refine Zu ?_ | refine Zr ?_ | refine Zy (γ := 100) ?_ | refine Z6 ?_ | refine Z9 (hcon := hval) ?_ | refine Z9 (hcon := hpi) ?_); refine JD ?_) | refine JT ?_ | refine JF ?_ | refine X5 ?_ | refine X3 ?_
   refine Xu (Y1 130 rfl) ?_
   refine Xu (Yo 2 130 rfl rfl (by first | rfl | (simp only [List.length_append, List.length_map, List.length_cons, List.length_nil] <;> omega))) ?_
   exact X1 ⟨_, X9 2 (y := .d (Xh (UInt8.ofNat 6 :: q))) (AVal.le_of_eq (by refine Eq.trans (b := AVal.d (.sl 1 (_ ++ _))) rfl ?_; show _ = AVal.d (.sl 1 ((UInt8.ofNat 6 :: q).map Xa)); simp only [List.map_append, List.map_cons, List.map_nil, List.append_assoc, List.cons_append, List.nil_append]; rfl)), ⟨rfl, trivial⟩, X2 _⟩
  by_cases hk7 : k = 7
  ·subst hk7
   have hput : Xn (.mk 7 n d s l) = UInt8.ofNat 7 :: (Xe l.length ++ XG l) := by rw [Xn]; simp
   have hll : l.length ≤ 64 := by simp at hv; omega
   have hpu := X0k (Xs l).length (by omega)
   rw [← hlen] at hput
   rw [hput] at hb ⊢
   generalize Xe ((Xs l).length : Int) = q at *
   simp only [List.length_append, List.length_cons] at hb
   repeat first | refine X0 ?_ | (refine JR ?_; (repeat first | refine Z3 (u := nj 7) (r := n8 7) ?_ (hr := by exact XQ rfl rfl) | refine ZX (γ := 130) ?_ | refine Z1 ?_ | refine Z0 ?_ | refine Zz ?_ | refine ZA ?_ | refine ZL ?_ | refine Zd ?_ | refine Zu ?_ | refine Zr ?_ | refine Zy (γ := 100) ?_ | refine Z6 ?_ | refine Z9 (hcon := hval) ?_ | refine Z9 (hcon := hpu) ?_); refine JD ?_) | refine JT ?_ | refine JF ?_ | refine X5 ?_ | refine X3 ?_
   refine XR (fun i : Nat => i ≤ l.length) (fun i => ⟨68, [(1, .ptr 100 0), (3, .own 130 (UInt8.ofNat 7 :: (q ++ XG (l.take i))).length), (4, ai i)], [(100, .box [ai 7, ai n, ai d, X00 s, .d (.sl 5 (Xs l))]), (130, .row 1 ((UInt8.ofNat 7 :: (q ++ XG (l.take i))).map Xa))]⟩) (fun i => l.length - i) 0 (by omega)
    (Xc rfl ⟨JL, (by refine AVal.le_of_eq ?_; refine Eq.trans (b := AVal.own 130 (_ + _)) rfl ?_; congr 1; simp only [List.take_zero, XG, List.append_nil, List.length_map, List.length_cons, List.length_nil] <;> omega), JL, trivial⟩ ⟨rfl, ?_, trivial⟩) ?_
   ·refine Eq.trans (b := AObj.row 1 (_ ++ _)) rfl ?_
    simp only [List.take_zero, XG, List.append_nil, List.map_cons, List.cons_append, List.nil_append]; rfl
   intro i hi
   by_cases hlt : i < l.length
   ·obtain ⟨x, hx⟩ := XT (l := l) hlt
    have hgx := VL hx
    have htk := X1M hx
    have hle := X2n l (i + 1)
    have hpx := ihv x (List.mem_of_getElem? hx)
    unfold X0b at hpx
    rw [show XV x = Xn x by unfold XV; rw [hel x (List.mem_of_getElem? hx)]; rfl] at hpx
    rw [htk] at hle
    simp only [List.length_append] at hle
    generalize XG (l.take i) = pre at *
    generalize Xn x = px at *
    obtain ⟨k', n', d', s', q'⟩ := x
    simp only [Xb] at hpx
    rw [YP] at hgx
    refine X0 ?_; refine X0 ?_; refine JR ?_; refine Z1 ?_; refine Zz ?_; refine ZA ?_; refine Zd ?_; refine Z8 ?_; refine JD ?_; refine JT ?_; refine X3 ?_; refine X0 ?_; refine X5 ?_
    refine JR ?_; refine Z1 ?_; refine Zz ?_; refine ZA ?_; refine Z1 ?_; refine ZI ?_; refine ZJ ?_; refine Z9 (hcon := hpx) ?_; refine Z6 ?_; refine Z0 ?_; refine JD ?_; refine JR ?_; refine Z1 ?_; refine Zb ?_
    refine Z0 ?_; refine JD ?_
    refine ⟨i + 1, by omega, by omega, Xc rfl ⟨JL, (by refine AVal.le_of_eq ?_; refine Eq.trans (b := AVal.own 130 (_ + _)) rfl ?_; congr 1; rw [htk]; simp only [List.length_append, List.length_map, List.length_cons] <;> omega), JL, trivial⟩ ⟨rfl, ?_, trivial⟩⟩
    refine Eq.trans (b := AObj.row 1 (_ ++ _)) rfl ?_
    rw [htk]
    simp only [List.map_append, List.map_cons, List.cons_append, List.append_assoc]
   obtain rfl : i = l.length := by omega
   rw [List.take_length]
   refine Xu (Y1 130 rfl) ?_
   refine Xu (Yo 3 130 rfl rfl (by simp)) ?_
   refine X0 ?_; refine X0 ?_; refine JR ?_; refine Z1 ?_; refine Zz ?_; refine ZA ?_; refine Zd ?_; refine Z8 ?_; refine JD ?_; refine JF ?_; refine Xv ?_; refine X0 ?_; refine JR ?_; refine Z1 ?_
   refine Z0 ?_; refine JD ?_
   exact X1 ⟨_, St.le_refl _, ⟨rfl, trivial⟩, X2 _⟩
  by_cases hk8 : k = 8
  ·subst hk8
   have hput : Xn (.mk 8 n d s l) = UInt8.ofNat 8 :: (Xe l.length ++ XG l) := by rw [Xn]; simp
   have hll : l.length ≤ 64 := by simp at hv; omega
   have hpu := X0k (Xs l).length (by omega)
   rw [← hlen] at hput
   rw [hput] at hb ⊢
   generalize Xe ((Xs l).length : Int) = q at *
   simp only [List.length_append, List.length_cons] at hb
   repeat first | refine X0 ?_ | (refine JR ?_; (repeat first | refine Z3 (u := nj 8) (r := n8 8) ?_ (hr := by exact XQ rfl rfl) | refine ZX (γ := 130) ?_ | refine Z1 ?_ | refine Z0 ?_ | refine Zz ?_ | refine ZA ?_ | refine ZL ?_ | refine Zd ?_ | refine Zu ?_ | refine Zr ?_ | refine Zy (γ := 100) ?_ | refine Z6 ?_ | refine Z9 (hcon := hval) ?_ | refine Z9 (hcon := hpu) ?_); refine JD ?_) | refine JT ?_ | refine JF ?_ | refine X5 ?_ | refine X3 ?_
   refine XR (fun i : Nat => i ≤ l.length) (fun i => ⟨68, [(1, .ptr 100 0), (3, .own 130 (UInt8.ofNat 8 :: (q ++ XG (l.take i))).length), (4, ai i)], [(100, .box [ai 8, ai n, ai d, X00 s, .d (.sl 5 (Xs l))]), (130, .row 1 ((UInt8.ofNat 8 :: (q ++ XG (l.take i))).map Xa))]⟩) (fun i => l.length - i) 0 (by omega)
    (Xc rfl ⟨JL, (by refine AVal.le_of_eq ?_; refine Eq.trans (b := AVal.own 130 (_ + _)) rfl ?_; congr 1; simp only [List.take_zero, XG, List.append_nil, List.length_map, List.length_cons, List.length_nil] <;> omega), JL, trivial⟩ ⟨rfl, ?_, trivial⟩) ?_
   ·refine Eq.trans (b := AObj.row 1 (_ ++ _)) rfl ?_
    simp only [List.take_zero, XG, List.append_nil, List.map_cons, List.cons_append, List.nil_append]; rfl
   intro i hi
   by_cases hlt : i < l.length
   ·obtain ⟨x, hx⟩ := XT (l := l) hlt
    have hgx := VL hx
    have htk := X1M hx
    have hle := X2n l (i + 1)
    have hpx := ihv x (List.mem_of_getElem? hx)
    unfold X0b at hpx
    rw [show XV x = Xn x by unfold XV; rw [hel x (List.mem_of_getElem? hx)]; rfl] at hpx
    rw [htk] at hle
    simp only [List.length_append] at hle
    generalize XG (l.take i) = pre at *
    generalize Xn x = px at *
    obtain ⟨k', n', d', s', q'⟩ := x
    simp only [Xb] at hpx
    rw [YP] at hgx
    refine X0 ?_; refine X0 ?_; refine JR ?_; refine Z1 ?_; refine Zz ?_; refine ZA ?_; refine Zd ?_; refine Z8 ?_; refine JD ?_; refine JT ?_; refine X3 ?_; refine X0 ?_; refine X5 ?_
    refine JR ?_; refine Z1 ?_; refine Zz ?_; refine ZA ?_; refine Z1 ?_; refine ZI ?_; refine ZJ ?_; refine Z9 (hcon := hpx) ?_; refine Z6 ?_; refine Z0 ?_; refine JD ?_; refine JR ?_; refine Z1 ?_; refine Zb ?_
    refine Z0 ?_; refine JD ?_
    refine ⟨i + 1, by omega, by omega, Xc rfl ⟨JL, (by refine AVal.le_of_eq ?_; refine Eq.trans (b := AVal.own 130 (_ + _)) rfl ?_; congr 1; rw [htk]; simp only [List.length_append, List.length_map, List.length_cons] <;> omega), JL, trivial⟩ ⟨rfl, ?_, trivial⟩⟩
    refine Eq.trans (b := AObj.row 1 (_ ++ _)) rfl ?_
    rw [htk]
    simp only [List.map_append, List.map_cons, List.cons_append, List.append_assoc]
   obtain rfl : i = l.length := by omega
   rw [List.take_length]
   refine Xu (Y1 130 rfl) ?_
   refine Xu (Yo 3 130 rfl rfl (by simp)) ?_
   refine X0 ?_; refine X0 ?_; refine JR ?_; refine Z1 ?_; refine Zz ?_; refine ZA ?_; refine Zd ?_; refine Z8 ?_; refine JD ?_; refine JF ?_; refine Xv ?_; refine X0 ?_; refine JR ?_; refine Z1 ?_
   refine Z0 ?_; refine JD ?_
   exact X1 ⟨_, St.le_refl _, ⟨rfl, trivial⟩, X2 _⟩
  simp [*] at hv
theorem Xa9 {k n d : Int} {s : List UInt8} {l : List Val} (hv : X6 8 (.mk k n d s l) = true) : ∀ x ∈ l, (Xn x).length ≤ (Xn (.mk k n d s l)).length := by
 intro x hx
 have hm := X7v hx
 by_cases h7 : k = 7
 ·subst h7
  rw [show Xn (.mk 7 n d s l) = UInt8.ofNat 7 :: (Xe l.length ++ XG l) by rw [Xn]; simp]
  simp only [List.length_cons, List.length_append]; omega
 ·by_cases h8 : k = 8
  ·subst h8
   rw [show Xn (.mk 8 n d s l) = UInt8.ofNat 8 :: (Xe l.length ++ XG l) by rw [Xn]; simp]
   simp only [List.length_cons, List.length_append]; omega
  ·have : l = [] := by
    rw [X6] at hv
    simp [h7, h8] at hv
    exact hv.1.2
   subst this; simp at hx
theorem X3f : ∀ v : Val, XH v → (Xn v).length ≤ 140737488355328 → X0b v
 | .mk k n d s l => fun hok hb => Xc5 (.mk k n d s l) hok hb fun hv x hx => X3f x (VN (by rw [XH] at hok; exact hok.2.2) hx) (Nat.le_trans (Xa9 hv x hx) hb)
termination_by v => SizeOf.sizeOf v
decreasing_by
 have h1 := List.sizeOf_lt_of_mem (show x ∈ l from hx)
 simp only [Val.mk.sizeOf_spec]
 omega
end Go.Fw

/- Changes and rules read at an offset: the program's. -/
import Derived.Test.YtaoggblfedekeaaGreatDoorG08
import Derived.Test.YtaoggblfedekeaaGreatDoorG24
import Derived.Test.YtaoggblfedekeaaGreatDoorG21
import Derived.Test.YtaoggblfedekeaaGreatDoorG07
import Derived.KernelRfl
set_option maxHeartbeats 32000000
namespace Go.Fw
open Go Go.Proofs
set_option maxRecDepth 100000
set_option linter.unusedVariables false
set_option linter.unusedSimpArgs false
abbrev zC : Chg := ⟨0, 0, 0, 0, [], zV⟩
abbrev X1Z : Rcd := ⟨0, 0, [], zR, false⟩
def U1 (b : List UInt8) (a : Int) : Chg × Int × Int :=
 if a < 0 ∨ (b.length : Int) < a then (zC, 0, 1) else
  let r := XO b a 0
  let e := if r.2.2 = 0 then Y8 r.1 else r.2.2
  if e ≠ 0 then (zC, 0, e) else (r.1, r.2.1, 0)
def Ut (b : List UInt8) (a : Int) : Rul × Int × Int :=
 if a < 0 ∨ (b.length : Int) < a then (zR, 0, 1) else
  let r := Y6 b a 0
  let e := if r.2.2 = 0 then YS r.1 else r.2.2
  if e ≠ 0 then (zR, 0, e) else (r.1, r.2.1, 0)
theorem X83 (c : Chg) (ρ : Nat → Nat) : (Xy c).ren ρ = Xy c := by
 obtain ⟨op, id, src, dst, name, ⟨k, n, d, s, l⟩⟩ := c
 rfl
theorem XaC (r : Rul) (ρ : Nat → Nat) : (XY r).ren ρ = XY r := rfl
theorem XbK (b : List UInt8) (a e limit : Int) (hb : b.length ≤ 281474976710656) (ha : e = 0 → 0 ≤ a ∧ a ≤ b.length) : Con Tryz.prog 40 [(101, oRd b a e)] [.ptr 101 0, ai limit] [(101, oRd b (rkI b a e limit).2.1 (rkI b a e limit).2.2)] (ai (rkI b a e limit).1) := X0J 0 101 (X38 b a e limit hb ha)
theorem X5p (b : List UInt8) (a e : Int) (hb : b.length ≤ 281474976710656) : Con Tryz.prog 41 [(101, oRd b a e)] [.ptr 101 0] [(101, oRd b (rnS b a e).2.1 (rnS b a e).2.2)] (ai (rnS b a e).1) := X0J 0 101 (X1r b a e hb)
theorem Xas (b : List UInt8) (a e : Int) (hb : b.length ≤ 281474976710656) (ha : e = 0 → 0 ≤ a ∧ a ≤ b.length) : Con Tryz.prog 44 [(101, oRd b a e)] [.ptr 101 0] [(101, oRd b (roS b a e).2.1 (roS b a e).2.2)] (ab (roS b a e).1) := X0J 0 101 (X8h b a e hb ha)
theorem X6H (b : List UInt8) (a e : Int) (hb : b.length ≤ 281474976710656) (ha : e = 0 → 0 ≤ a ∧ a ≤ b.length) : Con Tryz.prog 42 [(101, oRd b a e)] [.ptr 101 0] [(101, oRd b (XO b a e).2.1 (XO b a e).2.2)] (Xy (XO b a e).1) := by
 have h := X0J 0 101 (Xbi b a e hb ha)
 rw [X83] at h
 exact h
theorem X6i (b : List UInt8) (a e : Int) (hb : b.length ≤ 281474976710656) (ha : e = 0 → 0 ≤ a ∧ a ≤ b.length) : Con Tryz.prog 43 [(101, oRd b a e)] [.ptr 101 0] [(101, oRd b (Y6 b a e).2.1 (Y6 b a e).2.2)] (XY (Y6 b a e).1) := by
 have h := X0J 0 101 (X8g b a e hb ha)
 rw [XaC] at h
 exact h
theorem X91 (b : List UInt8) (a : Int) (hb : b.length ≤ 281474976710656) : Con Tryz.prog 21 [] [.d (Xh b), ai a] [] (.tup [Xy (U1 b a).1, ai (U1 b a).2.1, ai (U1 b a).2.2]) := by
 refine X8 (xs := [Xy (U1 b a).1, ai (U1 b a).2.1, ai (U1 b a).2.2]) Tryz.func21 rfl Tryz.ntmps21 rfl rfl rfl (fun E => ?_)
 have hlm : (b.map Xa).length = b.length := by simp
 unfold U1
 by_cases h1 : a < 0
 ·rw [if_pos (.inl h1)]
  refine X0 ?_; refine JR ?_; refine Zt (γ := 100) ?_; refine Z0 ?_; refine Z0 ?_; refine JD ?_; refine X0 ?_; refine X0 ?_; refine JR ?_; refine Z1 ?_; refine Z8 ?_; refine Z1 ?_; refine Zl ?_; refine Zl ?_
  refine Zl ?_; refine Zl ?_; refine Zk ?_; refine JD ?_; refine JT ?_; refine X0 ?_; refine JR ?_; refine Zv ?_; refine Zw ?_; refine Z0 ?_; refine Z0 ?_; refine JD ?_
  exact X1 ⟨_, Xm 100 (cs' := [ai 0, ai 0, ai 0, ai 0, X7 [], ai 0, ai 0, ai 0, X7 [], .d (.sl 5 [])]) rfl JM rfl, ⟨⟨100, 0, _, rfl, rfl, .inr ⟨10, _, rfl, rfl, rfl, rfl⟩⟩, rfl, rfl, trivial⟩, X2 _⟩
 by_cases h2 : (b.length : Int) < a
 ·rw [if_pos (.inr h2)]
  have h2' : ((b.map Xa).length : Int) < a := by omega
  refine X0 ?_; refine JR ?_; refine Zt (γ := 100) ?_; refine Z0 ?_; refine Z0 ?_; refine JD ?_; refine X0 ?_; refine X0 ?_; refine JR ?_; refine Z1 ?_; refine Z8 ?_; refine Z1 ?_; refine Z1 ?_; refine Z1 ?_
  refine Zd ?_; refine Zp ?_; refine Zn ?_; refine JD ?_; refine JT ?_; refine X0 ?_; refine JR ?_; refine Zv ?_; refine Zw ?_; refine Z0 ?_; refine Z0 ?_; refine JD ?_
  exact X1 ⟨_, Xm 100 (cs' := [ai 0, ai 0, ai 0, ai 0, X7 [], ai 0, ai 0, ai 0, X7 [], .d (.sl 5 [])]) rfl JM rfl, ⟨⟨100, 0, _, rfl, rfl, .inr ⟨10, _, rfl, rfl, rfl, rfl⟩⟩, rfl, rfl, trivial⟩, X2 _⟩
 rw [if_neg (by omega)]
 have h2' : ¬ ((b.map Xa).length : Int) < a := by omega
 have hr := X6H b a 0 hb (fun _ => by omega)
 have hc := X44 (XO b a 0).1
 generalize XO b a 0 = r at *
 obtain ⟨c, at_, e⟩ := r
 simp only at hr hc ⊢
 generalize Y8 c = ce at *
 obtain ⟨op, id, src, dst, name, ⟨k, n, d, s, l⟩⟩ := c
 simp only [Xy] at hr hc ⊢
 by_cases he : e = 0
 ·subst he
  rw [if_pos rfl]
  by_cases h3 : ce = 0
  ·subst h3
   rw [if_neg (by simp)]
   repeat first | refine X0 ?_ | (refine JR ?_; (repeat first | refine Z1 ?_ | refine Z0 ?_ | refine Z00 ?_ | refine Zz ?_ | refine ZA ?_ | refine ZL ?_ | refine Zd ?_ | refine Z8 ?_ | refine Zp ?_ | refine Zu ?_ | refine Zs ?_ | refine Zt (γ := 100) ?_ | refine Zt (γ := 102) ?_ | refine Zy (γ := 101) ?_ | refine Zw ?_ | refine Zv ?_ | refine Zn ?_ | refine Z9 (hcon := hr) ?_ | refine Z9 (hcon := hc) ?_); refine JD ?_) | refine JT ?_ | refine JF ?_ | refine X3 ?_
   exact X1 ⟨_, St.le_refl _, ⟨⟨100, 0, _, rfl, rfl, .inr ⟨10, _, rfl, rfl, rfl, rfl⟩⟩, rfl, rfl, trivial⟩, X2 _⟩
  ·rw [if_pos h3]
   repeat first | refine X0 ?_ | (refine JR ?_; (repeat first | refine Z1 ?_ | refine Z0 ?_ | refine Z00 ?_ | refine Zz ?_ | refine ZA ?_ | refine ZL ?_ | refine Zd ?_ | refine Z8 ?_ | refine Zp ?_ | refine Zu ?_ | refine Zs ?_ | refine Zt (γ := 100) ?_ | refine Zt (γ := 102) ?_ | refine Zy (γ := 101) ?_ | refine Zw ?_ | refine Zv ?_ | refine Zn ?_ | refine Z9 (hcon := hr) ?_ | refine Z9 (hcon := hc) ?_); refine JD ?_) | refine JT ?_ | refine JF ?_ | refine X3 ?_
   exact X1 ⟨_, Xm 100 (cs' := [ai 0, ai 0, ai 0, ai 0, X7 [], ai 0, ai 0, ai 0, X7 [], .d (.sl 5 [])]) rfl JM rfl, ⟨⟨100, 0, _, rfl, rfl, .inr ⟨10, _, rfl, rfl, rfl, rfl⟩⟩, rfl, rfl, trivial⟩, X2 _⟩
 ·rw [if_neg he, if_pos he]
  repeat first | refine X0 ?_ | (refine JR ?_; (repeat first | refine Z1 ?_ | refine Z0 ?_ | refine Z00 ?_ | refine Zz ?_ | refine ZA ?_ | refine Zd ?_ | refine Z8 ?_ | refine Zp ?_ | refine Zu ?_ | refine Zs ?_ | refine Zt (γ := 100) ?_ | refine Zt (γ := 102) ?_ | refine Zy (γ := 101) ?_ | refine Zw ?_ | refine Zv ?_ | refine Zn ?_ | refine Z9 (hcon := hr) ?_); refine JD ?_) | refine JT ?_ | refine JF ?_ | refine X3 ?_
  exact X1 ⟨_, Xm 100 (cs' := [ai 0, ai 0, ai 0, ai 0, X7 [], ai 0, ai 0, ai 0, X7 [], .d (.sl 5 [])]) rfl JM rfl, ⟨⟨100, 0, _, rfl, rfl, .inr ⟨10, _, rfl, rfl, rfl, rfl⟩⟩, rfl, rfl, trivial⟩, X2 _⟩
theorem X7S (b : List UInt8) (a : Int) (hb : b.length ≤ 281474976710656) : Con Tryz.prog 23 [] [.d (Xh b), ai a] [] (.tup [XY (Ut b a).1, ai (Ut b a).2.1, ai (Ut b a).2.2]) := by
 refine X8 (xs := [XY (Ut b a).1, ai (Ut b a).2.1, ai (Ut b a).2.2]) Tryz.func23 rfl Tryz.ntmps23 rfl rfl rfl (fun E => ?_)
 have hlm : (b.map Xa).length = b.length := by simp
 unfold Ut
 by_cases h1 : a < 0
 ·rw [if_pos (.inl h1)]
  refine X0 ?_; refine JR ?_; refine Zt (γ := 100) ?_; refine Z0 ?_; refine Z0 ?_; refine JD ?_; refine X0 ?_; refine X0 ?_; refine JR ?_; refine Z1 ?_; refine Z8 ?_; refine Z1 ?_; refine Zl ?_; refine Zl ?_
  refine Zl ?_; refine Zl ?_; refine Zk ?_; refine JD ?_; refine JT ?_; refine X0 ?_; refine JR ?_; refine Zv ?_; refine Zw ?_; refine Z0 ?_; refine Z0 ?_; refine JD ?_
  exact X1 ⟨_, St.le_refl _, ⟨⟨100, 0, _, rfl, rfl, .inr ⟨6, _, rfl, rfl, rfl, rfl⟩⟩, rfl, rfl, trivial⟩, X2 _⟩
 by_cases h2 : (b.length : Int) < a
 ·rw [if_pos (.inr h2)]
  have h2' : ((b.map Xa).length : Int) < a := by omega
  refine X0 ?_; refine JR ?_; refine Zt (γ := 100) ?_; refine Z0 ?_; refine Z0 ?_; refine JD ?_; refine X0 ?_; refine X0 ?_; refine JR ?_; refine Z1 ?_; refine Z8 ?_; refine Z1 ?_; refine Z1 ?_; refine Z1 ?_
  refine Zd ?_; refine Zp ?_; refine Zn ?_; refine JD ?_; refine JT ?_; refine X0 ?_; refine JR ?_; refine Zv ?_; refine Zw ?_; refine Z0 ?_; refine Z0 ?_; refine JD ?_
  exact X1 ⟨_, St.le_refl _, ⟨⟨100, 0, _, rfl, rfl, .inr ⟨6, _, rfl, rfl, rfl, rfl⟩⟩, rfl, rfl, trivial⟩, X2 _⟩
 rw [if_neg (by omega)]
 have h2' : ¬ ((b.map Xa).length : Int) < a := by omega
 have hr := X6i b a 0 hb (fun _ => by omega)
 have hc := X3N (Y6 b a 0).1
 generalize Y6 b a 0 = r at *
 obtain ⟨c, at_, e⟩ := r
 simp only at hr hc ⊢
 generalize YS c = ce at *
 obtain ⟨k, n, name, key, src, dst⟩ := c
 simp only [XY] at hr hc ⊢
 by_cases he : e = 0
 ·subst he
  rw [if_pos rfl]
  by_cases h3 : ce = 0
  ·subst h3
   rw [if_neg (by simp)]
   repeat first | refine X0 ?_ | (refine JR ?_; (repeat first | refine Z1 ?_ | refine Z0 ?_ | refine Z00 ?_ | refine Zz ?_ | refine ZA ?_ | refine ZL ?_ | refine Zd ?_ | refine Z8 ?_ | refine Zp ?_ | refine Zu ?_ | refine Zs ?_ | refine Zt (γ := 100) ?_ | refine Zt (γ := 102) ?_ | refine Zy (γ := 101) ?_ | refine Zw ?_ | refine Zv ?_ | refine Zn ?_ | refine Z9 (hcon := hr) ?_ | refine Z9 (hcon := hc) ?_); refine JD ?_) | refine JT ?_ | refine JF ?_ | refine X3 ?_
   exact X1 ⟨_, St.le_refl _, ⟨⟨100, 0, _, rfl, rfl, .inr ⟨6, _, rfl, rfl, rfl, rfl⟩⟩, rfl, rfl, trivial⟩, X2 _⟩
  ·rw [if_pos h3]
   repeat first | refine X0 ?_ | (refine JR ?_; (repeat first | refine Z1 ?_ | refine Z0 ?_ | refine Z00 ?_ | refine Zz ?_ | refine ZA ?_ | refine ZL ?_ | refine Zd ?_ | refine Z8 ?_ | refine Zp ?_ | refine Zu ?_ | refine Zs ?_ | refine Zt (γ := 100) ?_ | refine Zt (γ := 102) ?_ | refine Zy (γ := 101) ?_ | refine Zw ?_ | refine Zv ?_ | refine Zn ?_ | refine Z9 (hcon := hr) ?_ | refine Z9 (hcon := hc) ?_); refine JD ?_) | refine JT ?_ | refine JF ?_ | refine X3 ?_
   exact X1 ⟨_, St.le_refl _, ⟨⟨100, 0, _, rfl, rfl, .inr ⟨6, _, rfl, rfl, rfl, rfl⟩⟩, rfl, rfl, trivial⟩, X2 _⟩
 ·rw [if_neg he, if_pos he]
  repeat first | refine X0 ?_ | (refine JR ?_; (repeat first | refine Z1 ?_ | refine Z0 ?_ | refine Z00 ?_ | refine Zz ?_ | refine ZA ?_ | refine Zd ?_ | refine Z8 ?_ | refine Zp ?_ | refine Zu ?_ | refine Zs ?_ | refine Zt (γ := 100) ?_ | refine Zt (γ := 102) ?_ | refine Zy (γ := 101) ?_ | refine Zw ?_ | refine Zv ?_ | refine Zn ?_ | refine Z9 (hcon := hr) ?_); refine JD ?_) | refine JT ?_ | refine JF ?_ | refine X3 ?_
  exact X1 ⟨_, St.le_refl _, ⟨⟨100, 0, _, rfl, rfl, .inr ⟨6, _, rfl, rfl, rfl, rfl⟩⟩, rfl, rfl, trivial⟩, X2 _⟩
end Go.Fw
namespace Go.Fw
open Go Go.Proofs
set_option maxRecDepth 100000
set_option linter.unusedVariables false
set_option linter.unusedSimpArgs false
theorem eq3 {α : Type} {x : α × Int × Int} (h : x.2.2 = 0) : x = (x.1, x.2.1, 0) := by rw [← h]
def Yq (b : List UInt8) : Nat → Int → Int → List Chg × Int × Int
 | 0, a, e => ([], a, e)
 | n + 1, a, e => if e ≠ 0 then ([], a, e) else ((XO b a e).1 :: (Yq b n (XO b a e).2.1 (XO b a e).2.2).1, (Yq b n (XO b a e).2.1 (XO b a e).2.2).2)
theorem X40 {b : List UInt8} {n : Nat} {a e : Int} (h : e ≠ 0) : Yq b n a e = ([], a, e) := by
 cases n with
 | zero => rfl
 | succ n => rw [Yq, if_pos h]
def rdX (b : List UInt8) : Rcd × Int × Int :=
 let k := rkI b 0 0 3
 let t := rnS b k.2.1 k.2.2
 let n := rnS b t.2.1 t.2.2
 let l := Yq b n.1.toNat n.2.1 n.2.2
 let r := Y6 b t.2.1 t.2.2
 let o := roS b r.2.1 r.2.2
 if k.1 = 1 then (⟨k.1, t.1, l.1, zR, false⟩, l.2) else if k.1 = 2 then (⟨k.1, t.1, [], r.1, o.1⟩, o.2) else (⟨k.1, t.1, [], zR, false⟩, t.2)
def rdF (b : List UInt8) (x : Rcd × Int × Int) : Rcd × Int :=
 let e1 := if x.2.2 = 0 ∧ x.2.1 < b.length then 2 else x.2.2
 let e2 := if e1 = 0 then Yj x.1 else e1
 if e2 ≠ 0 then (X1Z, e2) else (x.1, 0)
def rdS (b : List UInt8) : Rcd × Int := rdF b (rdX b)
theorem X3g {b : List UInt8} {x : Rcd} {a e : Int} (h : e ≠ 0) : rdF b (x, a, e) = (X1Z, e) := by
 unfold rdF
 simp only
 rw [if_neg (c := e = 0 ∧ a < b.length) (fun q => h q.1), if_neg h, if_pos h]
theorem X2S {b : List UInt8} {x : Rcd} {a : Int} (h : a < b.length) : rdF b (x, a, 0) = (X1Z, 2) := by
 unfold rdF
 simp [h]
theorem X23 {b : List UInt8} {x : Rcd} {a : Int} (h : ¬ a < b.length) (hc : Yj x = 0) : rdF b (x, a, 0) = (x, 0) := by
 unfold rdF
 simp [h, hc]
theorem X3H {b : List UInt8} {x : Rcd} {a : Int} (h : ¬ a < b.length) (hc : Yj x ≠ 0) : rdF b (x, a, 0) = (X1Z, Yj x) := by
 unfold rdF
 simp [h, hc]
theorem X4k {b : List UInt8} {a : Int} (h0 : 0 ≤ a) (h : (XO b a 0).2.2 = 0) : a < (XO b a 0).2.1 ∧ 0 ≤ (XO b a 0).2.1 ∧ (XO b a 0).2.1 ≤ b.length := by
 have := Xaf (b := b) (a := a) (c := (XO b a 0).1) (at_ := (XO b a 0).2.1) h0 (eq3 h)
 have h2 := this.1.2.2.1
 omega
theorem X0c {b : List UInt8} {a e : Int} (h : (rnS b a e).2.2 = 0) : 0 ≤ (rnS b a e).2.1 ∧ (rnS b a e).2.1 ≤ b.length := by
 have he : e = 0 := X27 (n := (rnS b a e).1) (m := (rnS b a e).2.1) (eq3 h)
 subst he
 rw [X15] at h ⊢
 obtain ⟨q, h1, h2⟩ := VJ b a h
 omega
theorem X58 (b : List UInt8) (a e : Int) : ∃ n : Nat, (rnS b a e).1 = n ∧ n ≤ 9223372036854775807 := by
 by_cases he : e = 0
 ·subst he
  rw [X15]
  by_cases h : (Xg b a).2.2 = 0
  ·have := X08 (b := b) (a := a) (n := (Xg b a).1) (e := (Xg b a).2.1) (eq3 h)
   exact ⟨(Xg b a).1.toNat, by omega, by omega⟩
  ·exact ⟨0, by rw [Xcc h]; rfl, by omega⟩
 ·rw [X3Y he]
  exact ⟨0, rfl, by omega⟩
theorem X7O {b : List UInt8} {a limit : Int} (h0 : 0 ≤ a) (h : (rkI b a 0 limit).2.2 = 0) : 0 ≤ (rkI b a 0 limit).2.1 ∧ (rkI b a 0 limit).2.1 ≤ b.length := by
 have := X39 (b := b) (a := a) (limit := limit) (k := (rkI b a 0 limit).1) (a1 := (rkI b a 0 limit).2.1) h0 (eq3 h)
 have h2 := this.1.2.2.1
 omega
theorem X6C {b : List UInt8} {a e : Int} (h0 : e = 0 → 0 ≤ a) (h : (Y6 b a e).2.2 = 0) : 0 ≤ (Y6 b a e).2.1 ∧ (Y6 b a e).2.1 ≤ b.length := by
 have he : e = 0 := by
  by_cases he : e = 0
  ·exact he
  ·exfalso
   unfold Y6 at h
   simp only at h
   have z5 := X57 (b := b) (n := (riS b _ _).1) (m := (riS b _ _).2.1) (eq3 h)
   have z4 := Vr (b := b) (s := (rsS b _ _).1) (m := (rsS b _ _).2.1) (eq3 z5)
   have z3 := Vr (b := b) (s := (rsS b _ _).1) (m := (rsS b _ _).2.1) (eq3 z4)
   have z2 := Vr (b := b) (s := (rsS b _ _).1) (m := (rsS b _ _).2.1) (eq3 z3)
   have z1 := Vr (b := b) (s := (rsS b _ _).1) (m := (rsS b _ _).2.1) (eq3 z2)
   exact he (XaQ (b := b) (k := (rkI b a e 7).1) (m := (rkI b a e 7).2.1) (eq3 z1))
 subst he
 have := Xa5 (b := b) (a := a) (r := (Y6 b a 0).1) (at_ := (Y6 b a 0).2.1) (h0 rfl) (eq3 h)
 have h2 := this.1.2.2.1
 have h3 := h0 rfl
 omega
theorem X0A {b : List UInt8} : ∀ (n : Nat) (a e : Int), (e = 0 → 0 ≤ a ∧ a ≤ b.length) → (∀ c ∈ (Yq b n a e).1, X05 c) ∧ ((Yq b n a e).1.length : Int) ≤ b.length + 1 ∧ (e = 0 → ((Yq b n a e).1.length : Int) ≤ b.length + 1 - a)
 | 0, a, e, h => by rw [Yq]; exact ⟨by simp, by simp; omega, fun he => by have := h he; simp; omega⟩
 | n + 1, a, e, h => by
  rw [Yq]
  by_cases he : e = 0
  ·subst he
   rw [if_neg (by simp)]
   have h1 := h rfl
   have hp := fun hz => X4k (b := b) (a := a) h1.1 hz
   have ih := X0A (b := b) n (XO b a 0).2.1 (XO b a 0).2.2 (fun hz => by have := hp hz; omega)
   have hc := X4m b a 0
   generalize XO b a 0 = c at *
   by_cases hz : c.2.2 = 0
   ·have h2 := hp hz
    have h3 := ih.2.2 hz
    refine ⟨fun x hx => ?_, ?_, fun _ => ?_⟩
    rotate_left
    ·simp only [List.length_cons]; omega
    ·simp only [List.length_cons]; omega
    rcases List.mem_cons.1 hx with rfl | hx
    ·exact hc
    ·exact ih.1 x hx
   ·rw [X40 hz]
    refine ⟨fun x hx => ?_, by simp; omega, fun _ => by simp; omega⟩
    simp at hx
    subst hx
    exact hc
  ·rw [if_pos he]
   exact ⟨by simp, by simp; omega, fun h => absurd h he⟩
theorem X3L (b : List UInt8) (hb : b.length ≤ 1073741824) : Con Tryz.prog 18 [] [.d (Xh b)] [] (.tup [XZ (rdS b).1, ai (rdS b).2]) := by
 refine X8 (xs := [XZ (rdS b).1, ai (rdS b).2]) Tryz.func18 rfl Tryz.ntmps18 rfl rfl rfl (fun E => ?_)
 have hb' : b.length ≤ 281474976710656 := by omega
 have hlm : (b.map Xa).length = b.length := by simp
 have hk := XbK b 0 0 3 hb' (fun _ => by omega)
 have hkp := fun h => X7O (b := b) (a := 0) (limit := 3) (by omega) h
 unfold rdS
 generalize hX : rdX b = X
 unfold rdX at hX
 generalize rkI b 0 0 3 = k at *
 obtain ⟨kd, a1, e1⟩ := k
 simp only at hk hkp hX
 have ht := X5p b a1 e1 hb'
 have htp := fun h => X0c (b := b) (a := a1) (e := e1) h
 generalize rnS b a1 e1 = t at *
 obtain ⟨ts, a2, e2⟩ := t
 simp only at ht htp hX
 refine X0 ?_; refine JR ?_; refine Zt (γ := 100) ?_; refine Z0 ?_; refine JD ?_; refine X0 ?_; refine JR ?_; refine Z1 ?_; refine Zv ?_; refine Zy (γ := 101) ?_; refine Z0 ?_; refine JD ?_; refine X0 ?_
 refine JR ?_; refine Z1 ?_; refine Z9 (hcon := hk) ?_; refine Z1 ?_; refine Z9 (hcon := ht) ?_; refine Zv ?_; refine Zt (γ := 102) ?_; refine Zw ?_; refine JD ?_; refine X0 ?_; refine X0 ?_; refine JR ?_
 refine Zz ?_; refine ZA ?_; refine JD ?_
 refine X2l ⟨85, [(0, .d (Xh b)), (2, .ptr 100 0), (4, .ptr 101 0), (5, .ptr 102 0)], [(100, .box [ai 0, ai 0, ani, ai 0, ai 0, X7 [], X7 [], X7 [], X7 [], ab false]), (101, oRd b X.2.1 X.2.2), (102, .box [ai X.1.kind, ai X.1.ts, .d (.sl 10 (X.1.changes.map Xx)), ai X.1.rule.kind, ai X.1.rule.n, X7 X.1.rule.name, X7 X.1.rule.key, X7 X.1.rule.src, X7 X.1.rule.dst, ab X.1.off])]⟩ ?_ ?_
 ·by_cases k1 : kd = 1
  ·rw [if_pos k1] at hX
   have hn := X5p b a2 e2 hb'
   have hnp := fun h => X0c (b := b) (a := a2) (e := e2) h
   have hnn := X58 b a2 e2
   generalize rnS b a2 e2 = nn at *
   obtain ⟨n, a3, e3⟩ := nn
   obtain ⟨m, hm, hml⟩ := hnn
   simp only at hm hn hnp hX
   subst hm
   rw [Int.toNat_natCast] at hX
   have hall := X0A (b := b) m a3 e3 (fun h => hnp h)
   generalize hL : Yq b m a3 e3 = L at *
   refine X5 ?_; refine X0 ?_; refine JR ?_; refine Zu ?_; refine Z0 ?_; refine JD ?_; refine JT ?_; refine X0 ?_; refine JR ?_; refine Z1 ?_; refine Z9 (hcon := hn) ?_; refine Z0 ?_; refine JD ?_
   refine X5 ?_
   refine Xu (X10 102 2 103 10 rfl rfl rfl rfl rfl) ?_
   refine XR (ι := List Chg × Nat × Int × Int) (fun q => q.1 ++ (Yq b q.2.1 q.2.2.1 q.2.2.2).1 = L.1 ∧ (Yq b q.2.1 q.2.2.1 q.2.2.2).2 = L.2 ∧ (q.2.2.2 = 0 → 0 ≤ q.2.2.1 ∧ q.2.2.1 ≤ b.length) ∧ q.2.1 ≤ 9223372036854775807)
    (fun q => ⟨85, [(0, .d (Xh b)), (2, .ptr 100 0), (4, .ptr 101 0), (5, .ptr 102 0), (6, ai q.2.1)], [(100, .box [ai 0, ai 0, ani, ai 0, ai 0, X7 [], X7 [], X7 [], X7 [], ab false]), (101, oRd b q.2.2.1 q.2.2.2), (102, .box [ai kd, ai ts, .own 103 (q.1.map Xx).length, ai 0, ai 0, X7 [], X7 [], X7 [], X7 [], ab false]), (103, .row 10 (q.1.map Xx))]⟩) (fun q => q.2.1) ([], m, a3, e3)
    ⟨by rw [hL]; rfl, by rw [hL], hnp, hml⟩
    (Xc rfl JM ⟨rfl, rfl, rfl, rfl, trivial⟩) ?_
   rintro ⟨acc, j, a, e⟩ ⟨h1, h2, h3, h4⟩
   simp only at h1 h2 h3 h4
   have fin : j = 0 ∨ e ≠ 0 → L = (acc, a, e) := by
    intro h
    have : Yq b j a e = ([], a, e) := by
     rcases h with rfl | h
     ·rfl
     ·exact X40 h
    rw [this] at h1 h2
    simp only [List.append_nil] at h1
    exact Prod.ext h1.symm h2.symm
   by_cases hj : j = 0
   ·subst hj
    have hLL := fin (.inl rfl)
    subst hLL
    refine X0 ?_; refine X0 ?_; refine JR ?_; refine Z1 ?_; refine Zp ?_; refine Z1 ?_; refine Zl ?_; refine Zl ?_; refine Zl ?_; refine Zl ?_; refine Zl ?_; refine Zn ?_; refine JD ?_; refine JF ?_
    refine Xv ?_
    refine St.le_trans (Y1 103 rfl) ?_
    refine St.le_trans (UT 102 2 103 rfl rfl rfl rfl) ?_
    subst hX
    exact Xc rfl JM ⟨rfl, rfl, rfl, trivial⟩
   by_cases he : e = 0
   case neg =>
    have hLL := fin (.inr he)
    subst hLL
    have hj' : (0 : Int) < j := by omega
    refine X0 ?_; refine X0 ?_; refine JR ?_; refine Z1 ?_; refine Zp ?_; refine Z1 ?_; refine Z1 ?_; refine Z00 ?_; refine Zz ?_; refine ZA ?_; refine Zu ?_; refine Zk ?_; refine JD ?_; refine JF ?_
    refine Xv ?_
    refine St.le_trans (Y1 103 rfl) ?_
    refine St.le_trans (UT 102 2 103 rfl rfl rfl rfl) ?_
    subst hX
    exact Xc rfl JM ⟨rfl, rfl, rfl, trivial⟩
   subst he
   obtain ⟨i, rfl⟩ : ∃ i, j = i + 1 := ⟨j - 1, by omega⟩
   have h5 := h3 rfl
   have hc := X6H b a 0 hb' (fun _ => h5)
   have hcp := fun h => X4k (b := b) (a := a) h5.1 h
   rw [Yq, if_neg (by simp)] at h1 h2
   generalize XO b a 0 = c at *
   obtain ⟨c, a', e'⟩ := c
   simp only at hc hcp h1 h2
   have hroom : (acc.map Xx).length ≤ 1073741825 := by
    have := congrArg List.length h1
    simp only [List.length_append, List.length_cons] at this
    simp only [List.length_map]
    omega
   have happ : (acc ++ [c]).map Xx = acc.map Xx ++ [Xx c] := by simp
   obtain ⟨op, id, src, dst, name, ⟨xk, xn, xd, xs, xl⟩⟩ := c
   simp only [Xy] at hc
   have hj' : (0 : Int) < (i + 1 : Nat) := by omega
   refine X0 ?_; refine X0 ?_; refine JR ?_; refine Z1 ?_; refine Zp ?_; refine Z1 ?_; refine Z1 ?_; refine Z00 ?_; refine Zz ?_; refine ZA ?_; refine Zu ?_; refine Zk ?_; refine JD ?_; refine JT ?_
   refine X3 ?_; refine X0 ?_; refine X5 ?_; refine JR ?_; refine Zz ?_; refine ZA ?_; refine Z1 ?_; refine Z9 (hcon := hc) ?_; refine Z5 ?_; refine Z6 ?_; refine Zz ?_; refine Zw ?_; refine JD ?_
   refine JR ?_; refine Z1 ?_
   refine Z4 (op := .sub) (r' := nj i) (u := .int .i64 ((i + 1 : Nat) : Int)) (v := .int .i64 1) ?_ (hr' := by exact congrArg (Value.int .i64) (show (((i + 1 : Nat) : Int) - 1) = (i : Int) by omega)) (hr := by exact Vw (by unfold Uw; omega))
   refine Z0 ?_; refine JD ?_
   refine ⟨(acc ++ [_], i, a', e'), ⟨by simpa using h1, h2, (fun h => by have := hcp h; exact ⟨by omega, by omega⟩ : e' = 0 → 0 ≤ a' ∧ a' ≤ b.length), (by omega : i ≤ 9223372036854775807)⟩, by show i < i + 1; omega, ?_⟩
   dsimp only
   rw [happ]
   exact Xc rfl JM ⟨rfl, rfl, by refine Eq.trans (b := AObj.box [_, _, .own 103 (_ + _), _, _, _, _, _, _, _]) rfl ?_; simp only [List.length_append, List.length_map, List.length_cons, List.length_nil], rfl, trivial⟩
  by_cases k2 : kd = 2
  ·rw [if_neg k1, if_pos k2] at hX
   have hr := X6i b a2 e2 hb' htp
   have hrp := fun h => X6C (b := b) (a := a2) (e := e2) (fun he => (htp he).1) h
   generalize Y6 b a2 e2 = r at *
   obtain ⟨r, a3, e3⟩ := r
   simp only at hr hrp hX
   have ho := Xas b a3 e3 hb' hrp
   generalize roS b a3 e3 = o at *
   obtain ⟨o, a4, e4⟩ := o
   obtain ⟨k, n, name, key, src, dst⟩ := r
   simp only [XY] at hr ho hX
   subst hX
   refine X5 ?_; refine X0 ?_; refine JR ?_; refine Zu ?_; refine Z0 ?_; refine JD ?_; refine JF ?_; refine X0 ?_; refine JR ?_; refine Zu ?_; refine Z0 ?_; refine JD ?_; refine JT ?_; refine X0 ?_
   refine JR ?_; refine Z1 ?_; refine Z9 (hcon := hr) ?_; refine Zz ?_; refine Zw ?_; refine JD ?_; refine JR ?_; refine Z1 ?_; refine Z9 (hcon := ho) ?_; refine Zz ?_; refine Zw ?_; refine JD ?_
   refine St.le_trans (Xm 102 (cs' := [ai kd, ai ts, .d (.sl 10 []), ai k, ai n, X7 name, X7 key, X7 src, X7 dst, ab o]) rfl JM rfl) ?_
   exact Xc rfl JM ⟨rfl, rfl, rfl, trivial⟩
  rw [if_neg k1, if_neg k2] at hX
  subst hX
  refine X5 ?_; refine X0 ?_; refine JR ?_; refine Zu ?_; refine Z0 ?_; refine JD ?_; refine JF ?_; refine X0 ?_; refine JR ?_; refine Zu ?_; refine Z0 ?_; refine JD ?_; refine JF ?_; refine X3 ?_
  refine St.le_trans (Xm 102 (cs' := [ai kd, ai ts, .d (.sl 10 []), ai 0, ai 0, X7 [], X7 [], X7 [], X7 [], ab false]) rfl JM rfl) ?_
  exact Xc rfl JM ⟨rfl, rfl, rfl, trivial⟩
 have hXok : UE X.1 := by
  subst hX
  split
  ·have hz := fun h => X0c (b := b) (a := a2) (e := e2) h
   have := X0A (b := b) (rnS b a2 e2).1.toNat (rnS b a2 e2).2.1 (rnS b a2 e2).2.2 (fun h => hz h)
   exact ⟨by simp only; omega, this.1⟩
  ·split <;> exact ⟨by simp, by simp⟩
 have hc := X3W X.1 hXok
 clear hX hXok hk hkp ht htp
 obtain ⟨x, a, e⟩ := X
 by_cases he : e = 0
 case neg =>
  rw [X3g he]
  clear hc
  obtain ⟨kd, ts, l, ⟨k, n, name, key, src, dst⟩, off⟩ := x
  simp only [XZ]
  repeat first | refine X0 ?_ | (refine JR ?_; (repeat first | refine Z1 ?_ | refine Z0 ?_ | refine Z00 ?_ | refine Zz ?_ | refine ZA ?_ | refine Zu ?_ | refine Zs ?_ | refine Zw ?_ | refine Zv ?_ | refine Zn ?_ | refine Zl ?_); refine JD ?_) | refine JT ?_ | refine JF ?_ | refine X3 ?_
  exact X1 ⟨_, Xm 100 (cs' := [ai 0, ai 0, .d (.sl 10 []), ai 0, ai 0, X7 [], X7 [], X7 [], X7 [], ab false]) rfl JM rfl, ⟨⟨100, 0, _, rfl, rfl, .inr ⟨10, _, rfl, rfl, rfl, rfl⟩⟩, rfl, trivial⟩, X2 _⟩
 subst he
 by_cases ha : a < b.length
 ·rw [X2S ha]
  have ha' : a < (b.map Xa).length := by omega
  clear hc
  obtain ⟨kd, ts, l, ⟨k, n, name, key, src, dst⟩, off⟩ := x
  simp only [XZ]
  repeat first | refine X0 ?_ | (refine JR ?_; (repeat first | refine Z1 ?_ | refine Z0 ?_ | refine Z00 ?_ | refine Zz ?_ | refine ZA ?_ | refine Zd ?_ | refine Z8 ?_ | refine Zu ?_ | refine Zs ?_ | refine Zw ?_ | refine Zv ?_ | refine Zk ?_); refine JD ?_) | refine JT ?_ | refine JF ?_ | refine X3 ?_
  exact X1 ⟨_, Xm 100 (cs' := [ai 0, ai 0, .d (.sl 10 []), ai 0, ai 0, X7 [], X7 [], X7 [], X7 [], ab false]) rfl JM rfl, ⟨⟨100, 0, _, rfl, rfl, .inr ⟨10, _, rfl, rfl, rfl, rfl⟩⟩, rfl, trivial⟩, X2 _⟩
 have ha' : ¬ a < (b.map Xa).length := by omega
 by_cases h3 : Yj x = 0
 ·rw [X23 ha h3]
  simp only at hc
  rw [h3] at hc
  obtain ⟨kd, ts, l, ⟨k, n, name, key, src, dst⟩, off⟩ := x
  simp only [XZ] at hc ⊢
  repeat first | refine X0 ?_ | (refine JR ?_; (repeat first | refine Z1 ?_ | refine Z0 ?_ | refine Z00 ?_ | refine Zz ?_ | refine ZA ?_ | refine ZL ?_ | refine Zd ?_ | refine Z8 ?_ | refine Zu ?_ | refine Zs ?_ | refine Zw ?_ | refine Zk ?_ | refine Z9 (hcon := hc) ?_); refine JD ?_) | refine JT ?_ | refine JF ?_ | refine X3 ?_
  exact X1 ⟨_, St.le_refl _, ⟨⟨100, 0, _, rfl, rfl, .inr ⟨10, _, rfl, rfl, rfl, rfl⟩⟩, rfl, trivial⟩, X2 _⟩
 ·rw [X3H ha h3]
  simp only at hc
  generalize Yj x = ce at *
  obtain ⟨kd, ts, l, ⟨k, n, name, key, src, dst⟩, off⟩ := x
  simp only [XZ] at hc ⊢
  repeat first | refine X0 ?_ | (refine JR ?_; (repeat first | refine Z1 ?_ | refine Z0 ?_ | refine Z00 ?_ | refine Zz ?_ | refine ZA ?_ | refine ZL ?_ | refine Zd ?_ | refine Z8 ?_ | refine Zu ?_ | refine Zs ?_ | refine Zw ?_ | refine Zv ?_ | refine Zk ?_ | refine Z9 (hcon := hc) ?_); refine JD ?_) | refine JT ?_ | refine JF ?_ | refine X3 ?_
  exact X1 ⟨_, Xm 100 (cs' := [ai 0, ai 0, .d (.sl 10 []), ai 0, ai 0, X7 [], X7 [], X7 [], X7 [], ab false]) rfl JM rfl, ⟨⟨100, 0, _, rfl, rfl, .inr ⟨10, _, rfl, rfl, rfl, rfl⟩⟩, rfl, trivial⟩, X2 _⟩
end Go.Fw
namespace Go.Fw
open Go Go.Proofs
set_option maxRecDepth 100000
set_option linter.unusedVariables false
set_option linter.unusedSimpArgs false
theorem X8k : VB ⟨5, 1, 0, 0, [107], .mk 2 5 0 [] []⟩ = [5, 1, 1, 107, 2, 10] := by
 unfold VB
 rw [if_pos (by rfl)]
 simp [XK, XC, Xz, Xe, vS, Xo, XV, Xn, X6, XD, zig]
theorem X7N : Vy ⟨7, 3, [84], [], [], []⟩ = [7, 1, 84, 0, 0, 0, 6] := by
 unfold Vy
 rw [if_pos (by rfl)]
 simp [Ym, Xe, vS, Xo, XD, zig]
theorem X99 : rdS [3, 172, 2] = (⟨3, 300, [], zR, false⟩, 0) := by rfl
theorem X2w : Con Tryz.prog 8 [] [] [] (ab true) := by
 refine X8 (xs := [ab true]) Tryz.func8 rfl Tryz.ntmps8 rfl rfl rfl (fun E => ?_)
 have h1 := X6O ⟨5, 1, 0, 0, [107], .mk 2 5 0 [] []⟩
 rw [X8k] at h1
 have h2 := X7E ⟨7, 3, [84], [], [], []⟩
 rw [X7N] at h2
 have h3 := X3L [3, 172, 2] (by decide)
 rw [X99] at h3
 simp only [Xy, XY, XZ] at h1 h2 h3
 refine X0 ?_; refine JR ?_; refine Z0 ?_; refine JD ?_; refine X0 ?_; refine JR ?_; refine Zv ?_; refine Zv ?_; refine Zt (γ := 100) ?_; refine Zw ?_; refine JD ?_; refine X0 ?_; refine JR ?_; refine Z5 ?_
 refine Z9 (hcon := h3) ?_; refine Z1 ?_; refine ZD ?_; refine ZD ?_; refine Zt (γ := 101) ?_; refine Zw ?_; refine Z0 ?_; refine JD ?_; refine X0 ?_; refine JR ?_; refine ZL ?_; refine Z9 (hcon := h1) ?_
 refine ZW ?_; refine Zo ?_; refine Z1 ?_; refine Zv ?_; refine Z9 (hcon := h2) ?_; refine ZW ?_; refine Zo ?_; refine Zk ?_; refine Z1 ?_; refine Z1 ?_; refine Zu ?_; refine Zk ?_; refine Z1 ?_; refine Zz ?_
 refine ZA ?_; refine Zu ?_; refine Zk ?_; refine Z1 ?_; refine Zz ?_; refine ZA ?_; refine Zu ?_; refine Zk ?_; refine Z0 ?_; refine JD ?_
 exact X1 ⟨_, St.le_refl _, ⟨rfl, trivial⟩, X2 _⟩
theorem X9r (c : Chg) (r : Rul) (hok : X05 c) : Con Tryz.prog 3 [] [Xy c, XY r] [] (ab true) := by
 refine X8 (xs := [ab true]) Tryz.func3 rfl Tryz.ntmps3 rfl rfl rfl (fun E => ?_)
 have ha := X2w
 have hf := X6z [c] 1 (by omega) (by simp) (by simpa using hok)
 have h1 := X6O c
 have h2 := X5a c hok.2
 have h3 := X7E r
 have h4 := X6E r
 generalize VE [c] (1 : Nat) = fw at *
 generalize VB c = w1 at *
 generalize Vy r = w2 at *
 obtain ⟨op, id, src, dst, name, ⟨k, n, d, s, l⟩⟩ := c
 obtain ⟨rk, rn, rname, key, rsrc, rdst⟩ := r
 simp only [Xy, XY, List.map_cons, List.map_nil, Xx] at hf h1 h2 h3 h4 ⊢
 cases fw with
 | false =>
  refine X0 ?_; refine JR ?_; refine Zy (γ := 100) ?_; refine Zy (γ := 101) ?_; refine Z0 ?_; refine JD ?_; refine X0 ?_; refine X0 ?_; refine JR ?_; refine ZL ?_; refine Z5 ?_; refine Z9 (hcon := hf) ?_
  refine Zr ?_; refine JD ?_; refine JT ?_; refine X0 ?_; refine JR ?_; refine Z9 (hcon := ha) ?_; refine Z0 ?_; refine JD ?_
  exact X1 ⟨_, St.le_refl _, ⟨rfl, trivial⟩, X2 _⟩
 | true =>
  refine X0 ?_; refine JR ?_; refine Zy (γ := 100) ?_; refine Zy (γ := 101) ?_; refine Z0 ?_; refine JD ?_; refine X0 ?_; refine X0 ?_; refine JR ?_; refine ZL ?_; refine Z5 ?_; refine Z9 (hcon := hf) ?_
  refine Zr ?_; refine JD ?_; refine JF ?_; refine X3 ?_; refine X0 ?_; refine JR ?_; refine ZL ?_; refine Z9 (hcon := h1) ?_; refine ZW ?_; refine ZL ?_; refine Z9 (hcon := h2) ?_; refine ZW ?_; refine Zo ?_
  refine Z1 ?_; refine ZL ?_; refine Z9 (hcon := h3) ?_; refine ZW ?_; refine ZL ?_; refine Z9 (hcon := h4) ?_; refine ZW ?_; refine Zo ?_; refine Zk ?_; refine Z1 ?_; refine Z9 (hcon := ha) ?_; refine Zk ?_; refine Z0 ?_
  refine JD ?_
  exact X1 ⟨_, St.le_refl _, ⟨rfl, trivial⟩, X2 _⟩
theorem X7q (r : Rcd) (hok : UE r) : Con Tryz.prog 13 [] [XZ r] [] (ab (VE r.changes (60 : Nat))) := by
 refine X8 (xs := [ab (VE r.changes (60 : Nat))]) Tryz.func13 rfl Tryz.ntmps13 rfl rfl rfl (fun E => ?_)
 have hf := X6z r.changes 60 (by omega) hok.1 hok.2
 obtain ⟨kd, ts, l, ⟨k, n, name, key, src, dst⟩, off⟩ := r
 simp only [XZ] at hf ⊢
 refine X0 ?_; refine JR ?_; refine Zy (γ := 100) ?_; refine Z0 ?_; refine JD ?_; refine X0 ?_; refine JR ?_; refine Zz ?_; refine ZA ?_; refine Z9 (hcon := hf) ?_; refine Z0 ?_; refine JD ?_
 exact X1 ⟨_, St.le_refl _, ⟨rfl, trivial⟩, X2 _⟩
theorem X9z (r : Rcd) (hok : UE r) : Con Tryz.prog 4 [] [XZ r] [] (ab true) := by
 refine X8 (xs := [ab true]) Tryz.func4 rfl Tryz.ntmps4 rfl rfl rfl (fun E => ?_)
 have ha := X2w
 have hf := X7q r hok
 have h1 := X3W r hok
 have h2 := X1C r hok
 have h3 := X4B r hok
 have h4 := XaL r hok
 generalize VE r.changes (60 : Nat) = fw at *
 generalize Yj r = e at *
 generalize X0B r = w at *
 obtain ⟨kd, ts, l, ⟨k, n, name, key, src, dst⟩, off⟩ := r
 simp only [XZ] at hf h1 h2 h3 h4 ⊢
 cases fw with
 | false =>
  refine X0 ?_; refine JR ?_; refine Zy (γ := 100) ?_; refine Z0 ?_; refine JD ?_; refine X0 ?_; refine X0 ?_; refine JR ?_; refine ZL ?_; refine Z9 (hcon := hf) ?_; refine Zr ?_; refine JD ?_; refine JT ?_
  refine X0 ?_; refine JR ?_; refine Z9 (hcon := ha) ?_; refine Z0 ?_; refine JD ?_
  exact X1 ⟨_, St.le_refl _, ⟨rfl, trivial⟩, X2 _⟩
 | true =>
  refine X0 ?_; refine JR ?_; refine Zy (γ := 100) ?_; refine Z0 ?_; refine JD ?_; refine X0 ?_; refine X0 ?_; refine JR ?_; refine ZL ?_; refine Z9 (hcon := hf) ?_; refine Zr ?_; refine JD ?_; refine JF ?_
  refine X3 ?_; refine X0 ?_; refine JR ?_; refine ZL ?_; refine Z9 (hcon := h1) ?_; refine ZL ?_; refine Z9 (hcon := h2) ?_; refine Zu ?_; refine Z1 ?_; refine ZL ?_; refine Z9 (hcon := h3) ?_; refine ZW ?_
  refine ZL ?_; refine Z9 (hcon := h4) ?_; refine ZW ?_; refine Zo ?_; refine Zk ?_; refine Z1 ?_; refine Z9 (hcon := ha) ?_; refine Zk ?_; refine Z0 ?_; refine JD ?_
  exact X1 ⟨_, St.le_refl _, ⟨rfl, trivial⟩, X2 _⟩
end Go.Fw
namespace Go.Fw
open Go Go.Proofs
set_option linter.unusedVariables false
theorem V9 : Tryz.prog.cellsOf 3 = 1 := by kernel_rfl
theorem X0D : Tryz.prog.cellsOf 9 = 1 := by kernel_rfl
theorem X9K : Tryz.prog.cellsOf 22 = 1 := by kernel_rfl
theorem X3r : Tryz.prog.cellsOf 24 = 5 := by kernel_rfl
theorem X5N : Tryz.prog.cellsOf 26 = 10 := by kernel_rfl
theorem X5A : Tryz.prog.cellsOf 28 = 6 := by kernel_rfl
def X52 (r : Rul) : List D := [.v (.int .i64 r.kind), .v (.int .i64 r.n), .v (.string (X4 r.name)), .v (.string (X4 r.key)), .v (.string (X4 r.src)), .v (.string (X4 r.dst))]
theorem XaN (c : Chg) : Xy c = .agg ((Xx c).map .d) := by
 obtain ⟨op, id, src, dst, name, ⟨k, n, d, s, l⟩⟩ := c
 rfl
theorem Xce (r : Rul) : XY r = .agg ((X52 r).map .d) := rfl
section
variable {H : Type} {enc : TypeId × Value → H} {W : World}
theorem X5v : ∀ n, OpensN enc Tryz.prog W n 24 XH YP
 | 0 => ⟨fun cs x hx => by simp [DataW.trod] at hx⟩
 | n + 1 =>
  (Xbx Tryz.underlying24 X3r (fun m hm =>
   X1s rfl V9 ((V5 Tryz.underlying3).at m) (X1s rfl V9 ((V5 Tryz.underlying3).at m) (X1s rfl V9 ((V5 Tryz.underlying3).at m)
    (X1s rfl X0D ((X0Y Tryz.underlying9).at m)
     (X1s rfl X9K (X5Y (p := XH) (f := YP) Tryz.underlying22 X3r (by decide) (fun m' hm' => X5v m')) XaE)))))).to
   (fun r => .mk r.1 r.2.1 r.2.2.1 r.2.2.2.1 r.2.2.2.2.1) fun r h => ⟨by rw [XH]; exact ⟨h.2.2.2.1, h.2.2.2.2.1.2, X1T h.2.2.2.2.1.1⟩, by rw [YP, VQ]; rfl⟩
termination_by n => n
decreasing_by omega
theorem Xa6 : Opens enc Tryz.prog W 24 XH YP := X6W X5v
theorem X4U : Opens enc Tryz.prog W 26 X05 Xx :=
 (X4j Tryz.underlying26 X5N
  (U5 rfl V9 (V5 Tryz.underlying3) (U5 rfl V9 (V5 Tryz.underlying3) (U5 rfl V9 (V5 Tryz.underlying3) (U5 rfl V9 (V5 Tryz.underlying3)
   (U5 rfl X0D (X0Y Tryz.underlying9) (U5 rfl X3r Xa6 X4h))))))).to
  (fun r => ⟨r.1, r.2.1, r.2.2.1, r.2.2.2.1, r.2.2.2.2.1, r.2.2.2.2.2.1⟩) fun r h => ⟨⟨h.2.2.2.2.1, h.2.2.2.2.2.1⟩, by
   obtain ⟨op, id, src, dst, name, v, u⟩ := r
   cases v
   rfl⟩
theorem X5o : Opens enc Tryz.prog W 28 (fun _ : Rul => True) X52 :=
 (X4j Tryz.underlying28 X5A
  (U5 rfl V9 (V5 Tryz.underlying3) (U5 rfl V9 (V5 Tryz.underlying3)
   (U5 rfl X0D (X0Y Tryz.underlying9) (U5 rfl X0D (X0Y Tryz.underlying9) (U5 rfl X0D (X0Y Tryz.underlying9) (U5 rfl X0D (X0Y Tryz.underlying9) X4h))))))).to
  (fun r => ⟨r.1, r.2.1, r.2.2.1, r.2.2.2.1, r.2.2.2.2.1, r.2.2.2.2.2.1⟩) fun r h => ⟨trivial, rfl⟩
end
end Go.Fw

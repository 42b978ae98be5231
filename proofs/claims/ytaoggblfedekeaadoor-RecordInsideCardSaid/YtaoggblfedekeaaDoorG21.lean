/- Changes and rules read at an offset: the program's. -/
import Derived.Test.YtaoggblfedekeaaDoorG08
import Derived.Test.YtaoggblfedekeaaDoorG20
import Derived.Test.YtaoggblfedekeaaDoorG19
import Derived.Test.YtaoggblfedekeaaDoorG14
import Derived.Test.YtaoggblfedekeaaDoorG15
import Derived.Test.YtaoggblfedekeaaDoorG16
import Derived.Test.YtaoggblfedekeaaDoorG18
import Derived.Test.YtaoggblfedekeaaDoorG12
import Derived.Test.YtaoggblfedekeaaDoorG07
import Derived.KernelRfl
set_option maxHeartbeats 32000000
namespace Go.Fw
open Go Go.Proofs
set_option maxRecDepth 100000
set_option linter.unusedVariables false
set_option linter.unusedSimpArgs false
abbrev zC : Chg := ⟨0, 0, 0, 0, [], zV⟩
abbrev X1e : Rcd := ⟨0, 0, [], zR, false⟩
def V3 (b : List UInt8) (a : Int) : Chg × Int × Int :=
 if a < 0 ∨ (b.length : Int) < a then (zC, 0, 1) else
  let r := XO b a 0
  let e := if r.2.2 = 0 then Y9 r.1 else r.2.2
  if e ≠ 0 then (zC, 0, e) else (r.1, r.2.1, 0)
def UX (b : List UInt8) (a : Int) : Rul × Int × Int :=
 if a < 0 ∨ (b.length : Int) < a then (zR, 0, 1) else
  let r := Yb b a 0
  let e := if r.2.2 = 0 then YU r.1 else r.2.2
  if e ≠ 0 then (zR, 0, e) else (r.1, r.2.1, 0)
theorem XaS (c : Chg) (ρ : Nat → Nat) : (Xy c).ren ρ = Xy c := by
 obtain ⟨op, id, src, dst, name, ⟨k, n, d, s, l⟩⟩ := c
 rfl
theorem X9C (r : Rul) (ρ : Nat → Nat) : (Y3 r).ren ρ = Y3 r := rfl
theorem X87 (b : List UInt8) (a e limit : Int) (hb : b.length ≤ 281474976710656) (ha : e = 0 → 0 ≤ a ∧ a ≤ b.length) : Con Tryd.prog 14 [(101, oRd b a e)] [.ptr 101 0, ai limit] [(101, oRd b (rkI b a e limit).2.1 (rkI b a e limit).2.2)] (ai (rkI b a e limit).1) := X0B 0 101 (X2v b a e limit hb ha)
theorem X5V (b : List UInt8) (a e : Int) (hb : b.length ≤ 281474976710656) : Con Tryd.prog 15 [(101, oRd b a e)] [.ptr 101 0] [(101, oRd b (rnS b a e).2.1 (rnS b a e).2.2)] (ai (rnS b a e).1) := X0B 0 101 (X18 b a e hb)
theorem Xay (b : List UInt8) (a e : Int) (hb : b.length ≤ 281474976710656) (ha : e = 0 → 0 ≤ a ∧ a ≤ b.length) : Con Tryd.prog 18 [(101, oRd b a e)] [.ptr 101 0] [(101, oRd b (roS b a e).2.1 (roS b a e).2.2)] (ab (roS b a e).1) := X0B 0 101 (X98 b a e hb ha)
theorem X3S (b : List UInt8) (a e : Int) (hb : b.length ≤ 281474976710656) (ha : e = 0 → 0 ≤ a ∧ a ≤ b.length) : Con Tryd.prog 16 [(101, oRd b a e)] [.ptr 101 0] [(101, oRd b (XO b a e).2.1 (XO b a e).2.2)] (Xy (XO b a e).1) := by
 have h := X0B 0 101 (Xa4 b a e hb ha)
 rw [XaS] at h
 exact h
theorem X4C (b : List UInt8) (a e : Int) (hb : b.length ≤ 281474976710656) (ha : e = 0 → 0 ≤ a ∧ a ≤ b.length) : Con Tryd.prog 17 [(101, oRd b a e)] [.ptr 101 0] [(101, oRd b (Yb b a e).2.1 (Yb b a e).2.2)] (Y3 (Yb b a e).1) := by
 have h := X0B 0 101 (X6P b a e hb ha)
 rw [X9C] at h
 exact h
theorem X9A (b : List UInt8) (a : Int) (hb : b.length ≤ 281474976710656) : Con Tryd.prog 11 [] [.d (Xv b), ai a] [] (.tup [Xy (V3 b a).1, ai (V3 b a).2.1, ai (V3 b a).2.2]) := by
 refine Xb (xs := [Xy (V3 b a).1, ai (V3 b a).2.1, ai (V3 b a).2.2]) Tryd.func11 rfl Tryd.ntmps11 rfl rfl rfl (fun E => ?_)
 have hlm : (b.map Xa).length = b.length := by simp
 unfold V3
 by_cases h1 : a < 0
 ·rw [if_pos (.inl h1)]
  refine X0 ?_; refine JR ?_; refine Zr (γ := 100) ?_; refine Z0 ?_; refine Z0 ?_; refine JD ?_; refine X0 ?_; refine X0 ?_; refine JR ?_; refine Z1 ?_; refine Z7 ?_; refine Z1 ?_; refine Zj ?_; refine Zj ?_
  refine Zj ?_; refine Zj ?_; refine Zi ?_; refine JD ?_; refine JT ?_; refine X0 ?_; refine JR ?_; refine Zt ?_; refine Zu ?_; refine Z0 ?_; refine Z0 ?_; refine JD ?_
  exact X1 ⟨_, XA 100 (cs' := [ai 0, ai 0, ai 0, ai 0, X8 [], ai 0, ai 0, ai 0, X8 [], .d (.sl 5 [])]) rfl JM rfl, ⟨⟨100, 0, _, rfl, rfl, .inr ⟨10, _, rfl, rfl, rfl, rfl⟩⟩, rfl, rfl, trivial⟩, X2 _⟩
 by_cases h2 : (b.length : Int) < a
 ·rw [if_pos (.inr h2)]
  have h2' : ((b.map Xa).length : Int) < a := by omega
  refine X0 ?_; refine JR ?_; refine Zr (γ := 100) ?_; refine Z0 ?_; refine Z0 ?_; refine JD ?_; refine X0 ?_; refine X0 ?_; refine JR ?_; refine Z1 ?_; refine Z7 ?_; refine Z1 ?_; refine Z1 ?_; refine Z1 ?_
  refine Zb ?_; refine Zn ?_; refine Zl ?_; refine JD ?_; refine JT ?_; refine X0 ?_; refine JR ?_; refine Zt ?_; refine Zu ?_; refine Z0 ?_; refine Z0 ?_; refine JD ?_
  exact X1 ⟨_, XA 100 (cs' := [ai 0, ai 0, ai 0, ai 0, X8 [], ai 0, ai 0, ai 0, X8 [], .d (.sl 5 [])]) rfl JM rfl, ⟨⟨100, 0, _, rfl, rfl, .inr ⟨10, _, rfl, rfl, rfl, rfl⟩⟩, rfl, rfl, trivial⟩, X2 _⟩
 rw [if_neg (by omega)]
 have h2' : ¬ ((b.map Xa).length : Int) < a := by omega
 have hr := X3S b a 0 hb (fun _ => by omega)
 have hc := X2c (XO b a 0).1
 generalize XO b a 0 = r at *
 obtain ⟨c, at_, e⟩ := r
 simp only at hr hc ⊢
 generalize Y9 c = ce at *
 obtain ⟨op, id, src, dst, name, ⟨k, n, d, s, l⟩⟩ := c
 simp only [Xy] at hr hc ⊢
 by_cases he : e = 0
 ·subst he
  rw [if_pos rfl]
  by_cases h3 : ce = 0
  ·subst h3
   rw [if_neg (by simp)]
   repeat first | refine X0 ?_ | (refine JR ?_; (repeat first | refine Z1 ?_ | refine Z0 ?_ | refine ZZ ?_ | refine Zy ?_ | refine Zz ?_ | refine ZK ?_ | refine Zb ?_ | refine Z7 ?_ | refine Zn ?_ | refine Zs ?_ | refine Zq ?_ | refine Zr (γ := 100) ?_ | refine Zr (γ := 102) ?_ | refine Zx (γ := 101) ?_ | refine Zu ?_ | refine Zt ?_ | refine Zl ?_ | refine Z8 (hcon := hr) ?_ | refine Z8 (hcon := hc) ?_); refine JD ?_) | refine JT ?_ | refine JF ?_ | refine X3 ?_
   exact X1 ⟨_, St.le_refl _, ⟨⟨100, 0, _, rfl, rfl, .inr ⟨10, _, rfl, rfl, rfl, rfl⟩⟩, rfl, rfl, trivial⟩, X2 _⟩
  ·rw [if_pos h3]
   repeat first | refine X0 ?_ | (refine JR ?_; (repeat first | refine Z1 ?_ | refine Z0 ?_ | refine ZZ ?_ | refine Zy ?_ | refine Zz ?_ | refine ZK ?_ | refine Zb ?_ | refine Z7 ?_ | refine Zn ?_ | refine Zs ?_ | refine Zq ?_ | refine Zr (γ := 100) ?_ | refine Zr (γ := 102) ?_ | refine Zx (γ := 101) ?_ | refine Zu ?_ | refine Zt ?_ | refine Zl ?_ | refine Z8 (hcon := hr) ?_ | refine Z8 (hcon := hc) ?_); refine JD ?_) | refine JT ?_ | refine JF ?_ | refine X3 ?_
   exact X1 ⟨_, XA 100 (cs' := [ai 0, ai 0, ai 0, ai 0, X8 [], ai 0, ai 0, ai 0, X8 [], .d (.sl 5 [])]) rfl JM rfl, ⟨⟨100, 0, _, rfl, rfl, .inr ⟨10, _, rfl, rfl, rfl, rfl⟩⟩, rfl, rfl, trivial⟩, X2 _⟩
 ·rw [if_neg he, if_pos he]
  repeat first | refine X0 ?_ | (refine JR ?_; (repeat first | refine Z1 ?_ | refine Z0 ?_ | refine ZZ ?_ | refine Zy ?_ | refine Zz ?_ | refine Zb ?_ | refine Z7 ?_ | refine Zn ?_ | refine Zs ?_ | refine Zq ?_ | refine Zr (γ := 100) ?_ | refine Zr (γ := 102) ?_ | refine Zx (γ := 101) ?_ | refine Zu ?_ | refine Zt ?_ | refine Zl ?_ | refine Z8 (hcon := hr) ?_); refine JD ?_) | refine JT ?_ | refine JF ?_ | refine X3 ?_
  exact X1 ⟨_, XA 100 (cs' := [ai 0, ai 0, ai 0, ai 0, X8 [], ai 0, ai 0, ai 0, X8 [], .d (.sl 5 [])]) rfl JM rfl, ⟨⟨100, 0, _, rfl, rfl, .inr ⟨10, _, rfl, rfl, rfl, rfl⟩⟩, rfl, rfl, trivial⟩, X2 _⟩
theorem X8c (b : List UInt8) (a : Int) (hb : b.length ≤ 281474976710656) : Con Tryd.prog 13 [] [.d (Xv b), ai a] [] (.tup [Y3 (UX b a).1, ai (UX b a).2.1, ai (UX b a).2.2]) := by
 refine Xb (xs := [Y3 (UX b a).1, ai (UX b a).2.1, ai (UX b a).2.2]) Tryd.func13 rfl Tryd.ntmps13 rfl rfl rfl (fun E => ?_)
 have hlm : (b.map Xa).length = b.length := by simp
 unfold UX
 by_cases h1 : a < 0
 ·rw [if_pos (.inl h1)]
  refine X0 ?_; refine JR ?_; refine Zr (γ := 100) ?_; refine Z0 ?_; refine Z0 ?_; refine JD ?_; refine X0 ?_; refine X0 ?_; refine JR ?_; refine Z1 ?_; refine Z7 ?_; refine Z1 ?_; refine Zj ?_; refine Zj ?_
  refine Zj ?_; refine Zj ?_; refine Zi ?_; refine JD ?_; refine JT ?_; refine X0 ?_; refine JR ?_; refine Zt ?_; refine Zu ?_; refine Z0 ?_; refine Z0 ?_; refine JD ?_
  exact X1 ⟨_, St.le_refl _, ⟨⟨100, 0, _, rfl, rfl, .inr ⟨6, _, rfl, rfl, rfl, rfl⟩⟩, rfl, rfl, trivial⟩, X2 _⟩
 by_cases h2 : (b.length : Int) < a
 ·rw [if_pos (.inr h2)]
  have h2' : ((b.map Xa).length : Int) < a := by omega
  refine X0 ?_; refine JR ?_; refine Zr (γ := 100) ?_; refine Z0 ?_; refine Z0 ?_; refine JD ?_; refine X0 ?_; refine X0 ?_; refine JR ?_; refine Z1 ?_; refine Z7 ?_; refine Z1 ?_; refine Z1 ?_; refine Z1 ?_
  refine Zb ?_; refine Zn ?_; refine Zl ?_; refine JD ?_; refine JT ?_; refine X0 ?_; refine JR ?_; refine Zt ?_; refine Zu ?_; refine Z0 ?_; refine Z0 ?_; refine JD ?_
  exact X1 ⟨_, St.le_refl _, ⟨⟨100, 0, _, rfl, rfl, .inr ⟨6, _, rfl, rfl, rfl, rfl⟩⟩, rfl, rfl, trivial⟩, X2 _⟩
 rw [if_neg (by omega)]
 have h2' : ¬ ((b.map Xa).length : Int) < a := by omega
 have hr := X4C b a 0 hb (fun _ => by omega)
 have hc := X2M (Yb b a 0).1
 generalize Yb b a 0 = r at *
 obtain ⟨c, at_, e⟩ := r
 simp only at hr hc ⊢
 generalize YU c = ce at *
 obtain ⟨k, n, name, key, src, dst⟩ := c
 simp only [Y3] at hr hc ⊢
 by_cases he : e = 0
 ·subst he
  rw [if_pos rfl]
  by_cases h3 : ce = 0
  ·subst h3
   rw [if_neg (by simp)]
   repeat first | refine X0 ?_ | (refine JR ?_; (repeat first | refine Z1 ?_ | refine Z0 ?_ | refine ZZ ?_ | refine Zy ?_ | refine Zz ?_ | refine ZK ?_ | refine Zb ?_ | refine Z7 ?_ | refine Zn ?_ | refine Zs ?_ | refine Zq ?_ | refine Zr (γ := 100) ?_ | refine Zr (γ := 102) ?_ | refine Zx (γ := 101) ?_ | refine Zu ?_ | refine Zt ?_ | refine Zl ?_ | refine Z8 (hcon := hr) ?_ | refine Z8 (hcon := hc) ?_); refine JD ?_) | refine JT ?_ | refine JF ?_ | refine X3 ?_
   exact X1 ⟨_, St.le_refl _, ⟨⟨100, 0, _, rfl, rfl, .inr ⟨6, _, rfl, rfl, rfl, rfl⟩⟩, rfl, rfl, trivial⟩, X2 _⟩
  ·rw [if_pos h3]
   repeat first | refine X0 ?_ | (refine JR ?_; (repeat first | refine Z1 ?_ | refine Z0 ?_ | refine ZZ ?_ | refine Zy ?_ | refine Zz ?_ | refine ZK ?_ | refine Zb ?_ | refine Z7 ?_ | refine Zn ?_ | refine Zs ?_ | refine Zq ?_ | refine Zr (γ := 100) ?_ | refine Zr (γ := 102) ?_ | refine Zx (γ := 101) ?_ | refine Zu ?_ | refine Zt ?_ | refine Zl ?_ | refine Z8 (hcon := hr) ?_ | refine Z8 (hcon := hc) ?_); refine JD ?_) | refine JT ?_ | refine JF ?_ | refine X3 ?_
   exact X1 ⟨_, St.le_refl _, ⟨⟨100, 0, _, rfl, rfl, .inr ⟨6, _, rfl, rfl, rfl, rfl⟩⟩, rfl, rfl, trivial⟩, X2 _⟩
 ·rw [if_neg he, if_pos he]
  repeat first | refine X0 ?_ | (refine JR ?_; (repeat first | refine Z1 ?_ | refine Z0 ?_ | refine ZZ ?_ | refine Zy ?_ | refine Zz ?_ | refine Zb ?_ | refine Z7 ?_ | refine Zn ?_ | refine Zs ?_ | refine Zq ?_ | refine Zr (γ := 100) ?_ | refine Zr (γ := 102) ?_ | refine Zx (γ := 101) ?_ | refine Zu ?_ | refine Zt ?_ | refine Zl ?_ | refine Z8 (hcon := hr) ?_); refine JD ?_) | refine JT ?_ | refine JF ?_ | refine X3 ?_
  exact X1 ⟨_, St.le_refl _, ⟨⟨100, 0, _, rfl, rfl, .inr ⟨6, _, rfl, rfl, rfl, rfl⟩⟩, rfl, rfl, trivial⟩, X2 _⟩
end Go.Fw
namespace Go.Fw
open Go Go.Proofs
set_option maxRecDepth 100000
set_option linter.unusedVariables false
set_option linter.unusedSimpArgs false
theorem eq3 {α : Type} {x : α × Int × Int} (h : x.2.2 = 0) : x = (x.1, x.2.1, 0) := by rw [← h]
def YB (b : List UInt8) : Nat → Int → Int → List Chg × Int × Int
 | 0, a, e => ([], a, e)
 | n + 1, a, e => if e ≠ 0 then ([], a, e) else ((XO b a e).1 :: (YB b n (XO b a e).2.1 (XO b a e).2.2).1, (YB b n (XO b a e).2.1 (XO b a e).2.2).2)
theorem X1G {b : List UInt8} {n : Nat} {a e : Int} (h : e ≠ 0) : YB b n a e = ([], a, e) := by
 cases n with
 | zero => rfl
 | succ n => rw [YB, if_pos h]
def rdX (b : List UInt8) : Rcd × Int × Int :=
 let k := rkI b 0 0 3
 let t := rnS b k.2.1 k.2.2
 let n := rnS b t.2.1 t.2.2
 let l := YB b n.1.toNat n.2.1 n.2.2
 let r := Yb b t.2.1 t.2.2
 let o := roS b r.2.1 r.2.2
 if k.1 = 1 then (⟨k.1, t.1, l.1, zR, false⟩, l.2) else if k.1 = 2 then (⟨k.1, t.1, [], r.1, o.1⟩, o.2) else (⟨k.1, t.1, [], zR, false⟩, t.2)
def rdF (b : List UInt8) (x : Rcd × Int × Int) : Rcd × Int :=
 let e1 := if x.2.2 = 0 ∧ x.2.1 < b.length then 2 else x.2.2
 let e2 := if e1 = 0 then YI x.1 else e1
 if e2 ≠ 0 then (X1e, e2) else (x.1, 0)
def rdS (b : List UInt8) : Rcd × Int := rdF b (rdX b)
theorem X2N {b : List UInt8} {x : Rcd} {a e : Int} (h : e ≠ 0) : rdF b (x, a, e) = (X1e, e) := by
 unfold rdF
 simp only
 rw [if_neg (c := e = 0 ∧ a < b.length) (fun q => h q.1), if_neg h, if_pos h]
theorem X30 {b : List UInt8} {x : Rcd} {a : Int} (h : a < b.length) : rdF b (x, a, 0) = (X1e, 2) := by
 unfold rdF
 simp [h]
theorem X39 {b : List UInt8} {x : Rcd} {a : Int} (h : ¬ a < b.length) (hc : YI x = 0) : rdF b (x, a, 0) = (x, 0) := by
 unfold rdF
 simp [h, hc]
theorem X2o {b : List UInt8} {x : Rcd} {a : Int} (h : ¬ a < b.length) (hc : YI x ≠ 0) : rdF b (x, a, 0) = (X1e, YI x) := by
 unfold rdF
 simp [h, hc]
theorem X5l {b : List UInt8} {a : Int} (h0 : 0 ≤ a) (h : (XO b a 0).2.2 = 0) : a < (XO b a 0).2.1 ∧ 0 ≤ (XO b a 0).2.1 ∧ (XO b a 0).2.1 ≤ b.length := by
 have := X69 (b := b) (a := a) (c := (XO b a 0).1) (at_ := (XO b a 0).2.1) h0 (eq3 h)
 have h2 := this.1.2.2.1
 omega
theorem X1C {b : List UInt8} {a e : Int} (h : (rnS b a e).2.2 = 0) : 0 ≤ (rnS b a e).2.1 ∧ (rnS b a e).2.1 ≤ b.length := by
 have he : e = 0 := Va (n := (rnS b a e).1) (m := (rnS b a e).2.1) (eq3 h)
 subst he
 rw [Vn] at h ⊢
 obtain ⟨q, h1, h2⟩ := X00 b a h
 omega
theorem X7p (b : List UInt8) (a e : Int) : ∃ n : Nat, (rnS b a e).1 = n ∧ n ≤ 9223372036854775807 := by
 by_cases he : e = 0
 ·subst he
  rw [Vn]
  by_cases h : (Xf b a).2.2 = 0
  ·have := UJ (b := b) (a := a) (n := (Xf b a).1) (e := (Xf b a).2.1) (eq3 h)
   exact ⟨(Xf b a).1.toNat, by omega, by omega⟩
  ·exact ⟨0, by rw [X8n h]; rfl, by omega⟩
 ·rw [X25 he]
  exact ⟨0, rfl, by omega⟩
theorem Xak {b : List UInt8} {a limit : Int} (h0 : 0 ≤ a) (h : (rkI b a 0 limit).2.2 = 0) : 0 ≤ (rkI b a 0 limit).2.1 ∧ (rkI b a 0 limit).2.1 ≤ b.length := by
 have := X05 (b := b) (a := a) (limit := limit) (k := (rkI b a 0 limit).1) (a1 := (rkI b a 0 limit).2.1) h0 (eq3 h)
 have h2 := this.1.2.2.1
 omega
theorem X9y {b : List UInt8} {a e : Int} (h0 : e = 0 → 0 ≤ a) (h : (Yb b a e).2.2 = 0) : 0 ≤ (Yb b a e).2.1 ∧ (Yb b a e).2.1 ≤ b.length := by
 have he : e = 0 := by
  by_cases he : e = 0
  ·exact he
  ·exfalso
   unfold Yb at h
   simp only at h
   have z5 := X2W (b := b) (n := (riS b _ _).1) (m := (riS b _ _).2.1) (eq3 h)
   have z4 := Ul (b := b) (s := (rsS b _ _).1) (m := (rsS b _ _).2.1) (eq3 z5)
   have z3 := Ul (b := b) (s := (rsS b _ _).1) (m := (rsS b _ _).2.1) (eq3 z4)
   have z2 := Ul (b := b) (s := (rsS b _ _).1) (m := (rsS b _ _).2.1) (eq3 z3)
   have z1 := Ul (b := b) (s := (rsS b _ _).1) (m := (rsS b _ _).2.1) (eq3 z2)
   exact he (X40 (b := b) (k := (rkI b a e 7).1) (m := (rkI b a e 7).2.1) (eq3 z1))
 subst he
 have := X5s (b := b) (a := a) (r := (Yb b a 0).1) (at_ := (Yb b a 0).2.1) (h0 rfl) (eq3 h)
 have h2 := this.1.2.2.1
 have h3 := h0 rfl
 omega
theorem X1f {b : List UInt8} : ∀ (n : Nat) (a e : Int), (e = 0 → 0 ≤ a ∧ a ≤ b.length) → (∀ c ∈ (YB b n a e).1, X01 c) ∧ ((YB b n a e).1.length : Int) ≤ b.length + 1 ∧ (e = 0 → ((YB b n a e).1.length : Int) ≤ b.length + 1 - a)
 | 0, a, e, h => by rw [YB]; exact ⟨by simp, by simp; omega, fun he => by have := h he; simp; omega⟩
 | n + 1, a, e, h => by
  rw [YB]
  by_cases he : e = 0
  ·subst he
   rw [if_neg (by simp)]
   have h1 := h rfl
   have hp := fun hz => X5l (b := b) (a := a) h1.1 hz
   have ih := X1f (b := b) n (XO b a 0).2.1 (XO b a 0).2.2 (fun hz => by have := hp hz; omega)
   have hc := X8m b a 0
   generalize XO b a 0 = c at *
   by_cases hz : c.2.2 = 0
   ·have h2 := hp hz
    have h3 := ih.2.2 hz
    refine ⟨fun x hx => ?_, ?_, fun _ => ?_⟩
    rotate_left
    ·simp only [List.length_cons]; omega
    ·simp only [List.length_cons]; omega
    rcases List.mem_cons.1 hx with rfl | hx
    ·exact hc
    ·exact ih.1 x hx
   ·rw [X1G hz]
    refine ⟨fun x hx => ?_, by simp; omega, fun _ => by simp; omega⟩
    simp at hx
    subst hx
    exact hc
  ·rw [if_pos he]
   exact ⟨by simp, by simp; omega, fun h => absurd h he⟩
theorem X3X (b : List UInt8) (hb : b.length ≤ 1073741824) : Con Tryd.prog 6 [] [.d (Xv b)] [] (.tup [YW (rdS b).1, ai (rdS b).2]) := by
 refine Xb (xs := [YW (rdS b).1, ai (rdS b).2]) Tryd.func6 rfl Tryd.ntmps6 rfl rfl rfl (fun E => ?_)
 have hb' : b.length ≤ 281474976710656 := by omega
 have hlm : (b.map Xa).length = b.length := by simp
 have hk := X87 b 0 0 3 hb' (fun _ => by omega)
 have hkp := fun h => Xak (b := b) (a := 0) (limit := 3) (by omega) h
 unfold rdS
 generalize hX : rdX b = X
 unfold rdX at hX
 generalize rkI b 0 0 3 = k at *
 obtain ⟨kd, a1, e1⟩ := k
 simp only at hk hkp hX
 have ht := X5V b a1 e1 hb'
 have htp := fun h => X1C (b := b) (a := a1) (e := e1) h
 generalize rnS b a1 e1 = t at *
 obtain ⟨ts, a2, e2⟩ := t
 simp only at ht htp hX
 refine X0 ?_; refine JR ?_; refine Zr (γ := 100) ?_; refine Z0 ?_; refine JD ?_; refine X0 ?_; refine JR ?_; refine Z1 ?_; refine Zt ?_; refine Zx (γ := 101) ?_; refine Z0 ?_; refine JD ?_; refine X0 ?_
 refine JR ?_; refine Z1 ?_; refine Z8 (hcon := hk) ?_; refine Z1 ?_; refine Z8 (hcon := ht) ?_; refine Zt ?_; refine Zr (γ := 102) ?_; refine Zu ?_; refine JD ?_; refine X0 ?_; refine X0 ?_; refine JR ?_
 refine Zy ?_; refine Zz ?_; refine JD ?_
 refine X3T ⟨85, [(0, .d (Xv b)), (2, .ptr 100 0), (4, .ptr 101 0), (5, .ptr 102 0)], [(100, .box [ai 0, ai 0, ani, ai 0, ai 0, X8 [], X8 [], X8 [], X8 [], ab false]), (101, oRd b X.2.1 X.2.2), (102, .box [ai X.1.kind, ai X.1.ts, .d (.sl 10 (X.1.changes.map XD)), ai X.1.rule.kind, ai X.1.rule.n, X8 X.1.rule.name, X8 X.1.rule.key, X8 X.1.rule.src, X8 X.1.rule.dst, ab X.1.off])]⟩ ?_ ?_
 ·by_cases k1 : kd = 1
  ·rw [if_pos k1] at hX
   have hn := X5V b a2 e2 hb'
   have hnp := fun h => X1C (b := b) (a := a2) (e := e2) h
   have hnn := X7p b a2 e2
   generalize rnS b a2 e2 = nn at *
   obtain ⟨n, a3, e3⟩ := nn
   obtain ⟨m, hm, hml⟩ := hnn
   simp only at hm hn hnp hX
   subst hm
   rw [Int.toNat_natCast] at hX
   have hall := X1f (b := b) m a3 e3 (fun h => hnp h)
   generalize hL : YB b m a3 e3 = L at *
   refine X5 ?_; refine X0 ?_; refine JR ?_; refine Zs ?_; refine Z0 ?_; refine JD ?_; refine JT ?_; refine X0 ?_; refine JR ?_; refine Z1 ?_; refine Z8 (hcon := hn) ?_; refine Z0 ?_; refine JD ?_
   refine X5 ?_
   refine Y6 (X2B 102 2 103 10 rfl rfl rfl rfl rfl) ?_
   refine XR (ι := List Chg × Nat × Int × Int) (fun q => q.1 ++ (YB b q.2.1 q.2.2.1 q.2.2.2).1 = L.1 ∧ (YB b q.2.1 q.2.2.1 q.2.2.2).2 = L.2 ∧ (q.2.2.2 = 0 → 0 ≤ q.2.2.1 ∧ q.2.2.1 ≤ b.length) ∧ q.2.1 ≤ 9223372036854775807)
    (fun q => ⟨85, [(0, .d (Xv b)), (2, .ptr 100 0), (4, .ptr 101 0), (5, .ptr 102 0), (6, ai q.2.1)], [(100, .box [ai 0, ai 0, ani, ai 0, ai 0, X8 [], X8 [], X8 [], X8 [], ab false]), (101, oRd b q.2.2.1 q.2.2.2), (102, .box [ai kd, ai ts, .own 103 (q.1.map XD).length, ai 0, ai 0, X8 [], X8 [], X8 [], X8 [], ab false]), (103, .row 10 (q.1.map XD))]⟩) (fun q => q.2.1) ([], m, a3, e3)
    ⟨by rw [hL]; rfl, by rw [hL], hnp, hml⟩
    (Xg rfl JM ⟨rfl, rfl, rfl, rfl, trivial⟩) ?_
   rintro ⟨acc, j, a, e⟩ ⟨h1, h2, h3, h4⟩
   simp only at h1 h2 h3 h4
   have fin : j = 0 ∨ e ≠ 0 → L = (acc, a, e) := by
    intro h
    have : YB b j a e = ([], a, e) := by
     rcases h with rfl | h
     ·rfl
     ·exact X1G h
    rw [this] at h1 h2
    simp only [List.append_nil] at h1
    exact Prod.ext h1.symm h2.symm
   by_cases hj : j = 0
   ·subst hj
    have hLL := fin (.inl rfl)
    subst hLL
    refine X0 ?_; refine X0 ?_; refine JR ?_; refine Z1 ?_; refine Zn ?_; refine Z1 ?_; refine Zj ?_; refine Zj ?_; refine Zj ?_; refine Zj ?_; refine Zj ?_; refine Zl ?_; refine JD ?_; refine JF ?_
    refine Xt ?_
    refine St.le_trans (Ut 103 rfl) ?_
    refine St.le_trans (X08 102 2 103 rfl rfl rfl rfl) ?_
    subst hX
    exact Xg rfl JM ⟨rfl, rfl, rfl, trivial⟩
   by_cases he : e = 0
   case neg =>
    have hLL := fin (.inr he)
    subst hLL
    have hj' : (0 : Int) < j := by omega
    refine X0 ?_; refine X0 ?_; refine JR ?_; refine Z1 ?_; refine Zn ?_; refine Z1 ?_; refine Z1 ?_; refine ZZ ?_; refine Zy ?_; refine Zz ?_; refine Zs ?_; refine Zi ?_; refine JD ?_; refine JF ?_
    refine Xt ?_
    refine St.le_trans (Ut 103 rfl) ?_
    refine St.le_trans (X08 102 2 103 rfl rfl rfl rfl) ?_
    subst hX
    exact Xg rfl JM ⟨rfl, rfl, rfl, trivial⟩
   subst he
   obtain ⟨i, rfl⟩ : ∃ i, j = i + 1 := ⟨j - 1, by omega⟩
   have h5 := h3 rfl
   have hc := X3S b a 0 hb' (fun _ => h5)
   have hcp := fun h => X5l (b := b) (a := a) h5.1 h
   rw [YB, if_neg (by simp)] at h1 h2
   generalize XO b a 0 = c at *
   obtain ⟨c, a', e'⟩ := c
   simp only at hc hcp h1 h2
   have hroom : (acc.map XD).length ≤ 1073741825 := by
    have := congrArg List.length h1
    simp only [List.length_append, List.length_cons] at this
    simp only [List.length_map]
    omega
   have happ : (acc ++ [c]).map XD = acc.map XD ++ [XD c] := by simp
   obtain ⟨op, id, src, dst, name, ⟨xk, xn, xd, xs, xl⟩⟩ := c
   simp only [Xy] at hc
   have hj' : (0 : Int) < (i + 1 : Nat) := by omega
   refine X0 ?_; refine X0 ?_; refine JR ?_; refine Z1 ?_; refine Zn ?_; refine Z1 ?_; refine Z1 ?_; refine ZZ ?_; refine Zy ?_; refine Zz ?_; refine Zs ?_; refine Zi ?_; refine JD ?_; refine JT ?_
   refine X3 ?_; refine X0 ?_; refine X5 ?_; refine JR ?_; refine Zy ?_; refine Zz ?_; refine Z1 ?_; refine Z8 (hcon := hc) ?_; refine Z5 ?_; refine Z6 ?_; refine Zy ?_; refine Zu ?_; refine JD ?_
   refine JR ?_; refine Z1 ?_
   refine Z4 (op := .sub) (r' := nj i) (u := .int .i64 ((i + 1 : Nat) : Int)) (v := .int .i64 1) ?_ (hr' := by exact congrArg (Value.int .i64) (show (((i + 1 : Nat) : Int) - 1) = (i : Int) by omega)) (hr := by exact VY (by unfold Uz; omega))
   refine Z0 ?_; refine JD ?_
   refine ⟨(acc ++ [_], i, a', e'), ⟨by simpa using h1, h2, (fun h => by have := hcp h; exact ⟨by omega, by omega⟩ : e' = 0 → 0 ≤ a' ∧ a' ≤ b.length), (by omega : i ≤ 9223372036854775807)⟩, by show i < i + 1; omega, ?_⟩
   dsimp only
   rw [happ]
   exact Xg rfl JM ⟨rfl, rfl, by refine Eq.trans (b := AObj.box [_, _, .own 103 (_ + _), _, _, _, _, _, _, _]) rfl ?_; simp only [List.length_append, List.length_map, List.length_cons, List.length_nil], rfl, trivial⟩
  by_cases k2 : kd = 2
  ·rw [if_neg k1, if_pos k2] at hX
   have hr := X4C b a2 e2 hb' htp
   have hrp := fun h => X9y (b := b) (a := a2) (e := e2) (fun he => (htp he).1) h
   generalize Yb b a2 e2 = r at *
   obtain ⟨r, a3, e3⟩ := r
   simp only at hr hrp hX
   have ho := Xay b a3 e3 hb' hrp
   generalize roS b a3 e3 = o at *
   obtain ⟨o, a4, e4⟩ := o
   obtain ⟨k, n, name, key, src, dst⟩ := r
   simp only [Y3] at hr ho hX
   subst hX
   refine X5 ?_; refine X0 ?_; refine JR ?_; refine Zs ?_; refine Z0 ?_; refine JD ?_; refine JF ?_; refine X0 ?_; refine JR ?_; refine Zs ?_; refine Z0 ?_; refine JD ?_; refine JT ?_; refine X0 ?_
   refine JR ?_; refine Z1 ?_; refine Z8 (hcon := hr) ?_; refine Zy ?_; refine Zu ?_; refine JD ?_; refine JR ?_; refine Z1 ?_; refine Z8 (hcon := ho) ?_; refine Zy ?_; refine Zu ?_; refine JD ?_
   refine St.le_trans (XA 102 (cs' := [ai kd, ai ts, .d (.sl 10 []), ai k, ai n, X8 name, X8 key, X8 src, X8 dst, ab o]) rfl JM rfl) ?_
   exact Xg rfl JM ⟨rfl, rfl, rfl, trivial⟩
  rw [if_neg k1, if_neg k2] at hX
  subst hX
  refine X5 ?_; refine X0 ?_; refine JR ?_; refine Zs ?_; refine Z0 ?_; refine JD ?_; refine JF ?_; refine X0 ?_; refine JR ?_; refine Zs ?_; refine Z0 ?_; refine JD ?_; refine JF ?_; refine X3 ?_
  refine St.le_trans (XA 102 (cs' := [ai kd, ai ts, .d (.sl 10 []), ai 0, ai 0, X8 [], X8 [], X8 [], X8 [], ab false]) rfl JM rfl) ?_
  exact Xg rfl JM ⟨rfl, rfl, rfl, trivial⟩
 have hXok : X0G X.1 := by
  subst hX
  split
  ·have hz := fun h => X1C (b := b) (a := a2) (e := e2) h
   have := X1f (b := b) (rnS b a2 e2).1.toNat (rnS b a2 e2).2.1 (rnS b a2 e2).2.2 (fun h => hz h)
   exact ⟨by simp only; omega, this.1⟩
  ·split <;> exact ⟨by simp, by simp⟩
 have hc := X60 X.1 hXok
 clear hX hXok hk hkp ht htp
 obtain ⟨x, a, e⟩ := X
 by_cases he : e = 0
 case neg =>
  rw [X2N he]
  clear hc
  obtain ⟨kd, ts, l, ⟨k, n, name, key, src, dst⟩, off⟩ := x
  simp only [YW]
  repeat first | refine X0 ?_ | (refine JR ?_; (repeat first | refine Z1 ?_ | refine Z0 ?_ | refine ZZ ?_ | refine Zy ?_ | refine Zz ?_ | refine Zs ?_ | refine Zq ?_ | refine Zu ?_ | refine Zt ?_ | refine Zl ?_ | refine Zj ?_); refine JD ?_) | refine JT ?_ | refine JF ?_ | refine X3 ?_
  exact X1 ⟨_, XA 100 (cs' := [ai 0, ai 0, .d (.sl 10 []), ai 0, ai 0, X8 [], X8 [], X8 [], X8 [], ab false]) rfl JM rfl, ⟨⟨100, 0, _, rfl, rfl, .inr ⟨10, _, rfl, rfl, rfl, rfl⟩⟩, rfl, trivial⟩, X2 _⟩
 subst he
 by_cases ha : a < b.length
 ·rw [X30 ha]
  have ha' : a < (b.map Xa).length := by omega
  clear hc
  obtain ⟨kd, ts, l, ⟨k, n, name, key, src, dst⟩, off⟩ := x
  simp only [YW]
  repeat first | refine X0 ?_ | (refine JR ?_; (repeat first | refine Z1 ?_ | refine Z0 ?_ | refine ZZ ?_ | refine Zy ?_ | refine Zz ?_ | refine Zb ?_ | refine Z7 ?_ | refine Zs ?_ | refine Zq ?_ | refine Zu ?_ | refine Zt ?_ | refine Zi ?_); refine JD ?_) | refine JT ?_ | refine JF ?_ | refine X3 ?_
  exact X1 ⟨_, XA 100 (cs' := [ai 0, ai 0, .d (.sl 10 []), ai 0, ai 0, X8 [], X8 [], X8 [], X8 [], ab false]) rfl JM rfl, ⟨⟨100, 0, _, rfl, rfl, .inr ⟨10, _, rfl, rfl, rfl, rfl⟩⟩, rfl, trivial⟩, X2 _⟩
 have ha' : ¬ a < (b.map Xa).length := by omega
 by_cases h3 : YI x = 0
 ·rw [X39 ha h3]
  simp only at hc
  rw [h3] at hc
  obtain ⟨kd, ts, l, ⟨k, n, name, key, src, dst⟩, off⟩ := x
  simp only [YW] at hc ⊢
  repeat first | refine X0 ?_ | (refine JR ?_; (repeat first | refine Z1 ?_ | refine Z0 ?_ | refine ZZ ?_ | refine Zy ?_ | refine Zz ?_ | refine ZK ?_ | refine Zb ?_ | refine Z7 ?_ | refine Zs ?_ | refine Zq ?_ | refine Zu ?_ | refine Zi ?_ | refine Z8 (hcon := hc) ?_); refine JD ?_) | refine JT ?_ | refine JF ?_ | refine X3 ?_
  exact X1 ⟨_, St.le_refl _, ⟨⟨100, 0, _, rfl, rfl, .inr ⟨10, _, rfl, rfl, rfl, rfl⟩⟩, rfl, trivial⟩, X2 _⟩
 ·rw [X2o ha h3]
  simp only at hc
  generalize YI x = ce at *
  obtain ⟨kd, ts, l, ⟨k, n, name, key, src, dst⟩, off⟩ := x
  simp only [YW] at hc ⊢
  repeat first | refine X0 ?_ | (refine JR ?_; (repeat first | refine Z1 ?_ | refine Z0 ?_ | refine ZZ ?_ | refine Zy ?_ | refine Zz ?_ | refine ZK ?_ | refine Zb ?_ | refine Z7 ?_ | refine Zs ?_ | refine Zq ?_ | refine Zu ?_ | refine Zt ?_ | refine Zi ?_ | refine Z8 (hcon := hc) ?_); refine JD ?_) | refine JT ?_ | refine JF ?_ | refine X3 ?_
  exact X1 ⟨_, XA 100 (cs' := [ai 0, ai 0, .d (.sl 10 []), ai 0, ai 0, X8 [], X8 [], X8 [], X8 [], ab false]) rfl JM rfl, ⟨⟨100, 0, _, rfl, rfl, .inr ⟨10, _, rfl, rfl, rfl, rfl⟩⟩, rfl, trivial⟩, X2 _⟩
end Go.Fw
namespace Go.Fw
open Go Go.Proofs
set_option maxRecDepth 100000
set_option linter.unusedVariables false
set_option linter.unusedSimpArgs false
theorem X9b : Vk ⟨5, 1, 0, 0, [107], .mk 2 5 0 [] []⟩ = [5, 1, 1, 107, 2, 10] := by
 unfold Vk
 rw [if_pos (by rfl)]
 simp [XI, XT, XP, Xk, vS, Xo, Y4, Xq, X6, XF, zig]
theorem X8v : Vh ⟨7, 3, [84], [], [], []⟩ = [7, 1, 84, 0, 0, 0, 6] := by
 unfold Vh
 rw [if_pos (by rfl)]
 simp [Yc, Xk, vS, Xo, XF, zig]
theorem XaT : rdS [3, 172, 2] = (⟨3, 300, [], zR, false⟩, 0) := by rfl
theorem X6t : Con Tryd.prog 5 [] [] [] (ab true) := by
 refine Xb (xs := [ab true]) Tryd.func5 rfl Tryd.ntmps5 rfl rfl rfl (fun E => ?_)
 have h1 := X4R ⟨5, 1, 0, 0, [107], .mk 2 5 0 [] []⟩
 rw [X9b] at h1
 have h2 := X4P ⟨7, 3, [84], [], [], []⟩
 rw [X8v] at h2
 have h3 := X3X [3, 172, 2] (by decide)
 rw [XaT] at h3
 simp only [Xy, Y3, YW] at h1 h2 h3
 refine X0 ?_; refine JR ?_; refine Z0 ?_; refine JD ?_; refine X0 ?_; refine JR ?_; refine Zt ?_; refine Zt ?_; refine Zr (γ := 100) ?_; refine Zu ?_; refine JD ?_; refine X0 ?_; refine JR ?_; refine Z5 ?_
 refine Z8 (hcon := h3) ?_; refine Z1 ?_; refine ZC ?_; refine ZC ?_; refine Zr (γ := 101) ?_; refine Zu ?_; refine Z0 ?_; refine JD ?_; refine X0 ?_; refine JR ?_; refine ZK ?_; refine Z8 (hcon := h1) ?_
 refine ZV ?_; refine Zm ?_; refine Z1 ?_; refine Zt ?_; refine Z8 (hcon := h2) ?_; refine ZV ?_; refine Zm ?_; refine Zi ?_; refine Z1 ?_; refine Z1 ?_; refine Zs ?_; refine Zi ?_; refine Z1 ?_; refine Zy ?_
 refine Zz ?_; refine Zs ?_; refine Zi ?_; refine Z1 ?_; refine Zy ?_; refine Zz ?_; refine Zs ?_; refine Zi ?_; refine Z0 ?_; refine JD ?_
 exact X1 ⟨_, St.le_refl _, ⟨rfl, trivial⟩, X2 _⟩
end Go.Fw
namespace Go.Fw
open Go Go.Proofs
set_option maxRecDepth 100000
set_option linter.unusedVariables false
set_option linter.unusedSimpArgs false
theorem XaX : ∀ (k : SK) (u : Value), Yp u = some k → UQ u u = true := by
 intro k u h
 cases u <;> simp [Yp] at h <;> simp [UQ]
theorem XaO (us : List Value) (ks : List SK) (h : us.map Yp = ks.map some) : Uh us us = true := by
 induction us generalizing ks with
 | nil => rfl
 | cons u us ih =>
  cases ks with
  | nil => simp at h
  | cons k ks =>
   simp only [List.map_cons, List.cons.injEq] at h
   unfold Uh
   rw [XaX k u h.1, ih ks h.2]
   rfl
theorem X8b (c : Chg) (hok : XU c.v) : Con Tryd.prog 12 [] [Xy c, Xy c] [] (ab true) := by
 refine Xb (xs := [ab true]) Tryd.func12 rfl Tryd.ntmps12 rfl rfl rfl (fun E => ?_)
 have ho := X5O c.v hok
 unfold X0h at ho
 obtain ⟨op, id, src, dst, name, ⟨k, n, d, s, l⟩⟩ := c
 simp only [Xy, Xh] at ho ⊢
 repeat first | refine X0 ?_ | (refine JR ?_; (repeat first | refine Z1 ?_ | refine Z0 ?_ | refine Zy ?_ | refine Zz ?_ | refine ZK ?_ | refine Zs ?_ | refine Zm ?_ | refine Zx (γ := 100) ?_ | refine Zx (γ := 101) ?_ | refine Zi ?_ | refine Z8 (hcon := ho) ?_); refine JD ?_)
 exact X1 ⟨_, St.le_refl _, ⟨rfl, trivial⟩, X2 _⟩
theorem Xas (b : List UInt8) (hb : b.length ≤ 1073741824) : X0G (rdS b).1 := by
 have h1 : X0G (rdX b).1 := by
  unfold rdX
  simp only
  split
  ·have hz := fun h => X1C (b := b) (a := (rnS b (rkI b 0 0 3).2.1 (rkI b 0 0 3).2.2).2.1) (e := (rnS b (rkI b 0 0 3).2.1 (rkI b 0 0 3).2.2).2.2) h
   have := X1f (b := b) (rnS b (rnS b (rkI b 0 0 3).2.1 (rkI b 0 0 3).2.2).2.1 (rnS b (rkI b 0 0 3).2.1 (rkI b 0 0 3).2.2).2.2).1.toNat _ _ (fun h => hz h)
   exact ⟨by simp only; omega, this.1⟩
  ·split <;> exact ⟨by simp, by simp⟩
 unfold rdS
 generalize rdX b = X at *
 obtain ⟨x, a, e⟩ := X
 by_cases he : e = 0
 ·subst he
  by_cases ha : a < b.length
  ·rw [X30 ha]; exact ⟨by simp, by simp⟩
  ·by_cases h3 : YI x = 0
   ·rw [X39 ha h3]; exact h1
   ·rw [X2o ha h3]; exact ⟨by simp, by simp⟩
 ·rw [X2N he]; exact ⟨by simp, by simp⟩
end Go.Fw
namespace Go.Fw
open Go
set_option linter.unusedVariables false
theorem X5B {b : List UInt8} : ∀ (n : Nat) (a : Int) (l : List Chg) (z : Int), 0 ≤ a → a ≤ b.length → YB b n a 0 = (l, z, 0) → only b a z (YS l) ∧ l.length = n
 | 0, a, l, z, h0, h1, h => by
  rw [YB] at h
  simp only [Prod.mk.injEq, and_true] at h
  obtain ⟨rfl, rfl⟩ := h
  exact ⟨X02 h0 h1, rfl⟩
 | n + 1, a, l, z, h0, h1, h => by
  rw [YB, if_neg (by simp)] at h
  have hp := fun hz => X69 (b := b) (a := a) (c := (XO b a 0).1) (at_ := (XO b a 0).2.1) h0 (eq3 hz)
  generalize XO b a 0 = c at *
  obtain ⟨c, a', e⟩ := c
  simp only at h hp
  by_cases he : e = 0
  ·subst he
   have hp := hp rfl
   generalize hr : YB b n a' 0 = r at h
   obtain ⟨l', z', e'⟩ := r
   simp only [Prod.mk.injEq] at h
   obtain ⟨rfl, rfl, rfl⟩ := h
   have h2 := hp.1.2.2.1
   have ih := X5B n a' l' z' (by omega) h2 hr
   exact ⟨Ym hp.1 ih.1, by simp [ih.2]⟩
  ·rw [X1G he] at h
   simp only [Prod.mk.injEq] at h
   exact absurd h.2.2 he
theorem X7o {b : List UInt8} {a z : Int} {o : Bool} (h0 : 0 ≤ a) (h : roS b a 0 = (o, z, 0)) : only b a z [if o then 1 else 0] := by
 unfold roS at h
 rw [if_neg (by simp)] at h
 split at h
 ·simp at h
 ·rename_i h1
  obtain ⟨c, hc⟩ : ∃ c, b[a.toNat]? = some c := ⟨_, List.getElem?_eq_getElem (by omega)⟩
  rw [hc, Option.getD_some] at h
  split at h
  ·simp at h
  ·rename_i h2
   simp only [Prod.mk.injEq, and_true] at h
   obtain ⟨rfl, rfl⟩ := h
   have hb := X3a h0 hc
   have hc2 : c = 0 ∨ c = 1 := by
    have : c.toNat = 0 ∨ c.toNat = 1 := by omega
    rcases this with h | h
    ·exact .inl (UInt8.toNat_inj.1 h)
    ·exact .inr (UInt8.toNat_inj.1 h)
   rcases hc2 with rfl | rfl
   ·exact hb
   ·exact hb
theorem Xai {b : List UInt8} {a e m : Int} {o : Bool} (h : roS b a e = (o, m, 0)) : e = 0 := by
 by_cases he : e = 0
 ·exact he
 ·unfold roS at h
  rw [if_pos he] at h
  simp at h
  exact absurd h.2.2 he
theorem XaK {b : List UInt8} {a e : Int} {r : Rul} {m : Int} (h : Yb b a e = (r, m, 0)) : e = 0 := by
 by_cases he : e = 0
 ·exact he
 ·exfalso
  unfold Yb at h
  simp only [Prod.mk.injEq] at h
  have z5 := X2W (b := b) (n := (riS b _ _).1) (m := (riS b _ _).2.1) (eq3 h.2.2)
  have z4 := Ul (b := b) (s := (rsS b _ _).1) (m := (rsS b _ _).2.1) (eq3 z5)
  have z3 := Ul (b := b) (s := (rsS b _ _).1) (m := (rsS b _ _).2.1) (eq3 z4)
  have z2 := Ul (b := b) (s := (rsS b _ _).1) (m := (rsS b _ _).2.1) (eq3 z3)
  have z1 := Ul (b := b) (s := (rsS b _ _).1) (m := (rsS b _ _).2.1) (eq3 z2)
  exact he (X40 (b := b) (k := (rkI b a e 7).1) (m := (rkI b a e 7).2.1) (eq3 z1))
theorem X6C {b : List UInt8} {r : Rcd} (h : rdS b = (r, 0)) : YI r = 0 ∧ Um r = b := by
 have hX : YI r = 0 ∧ ∃ z : Int, rdX b = (r, z, 0) ∧ ¬ z < b.length := by
  unfold rdS at h
  generalize rdX b = X at *
  obtain ⟨x, a, e⟩ := X
  by_cases he : e = 0
  ·subst he
   by_cases ha : a < b.length
   ·rw [X30 ha] at h; simp at h
   ·by_cases h3 : YI x = 0
    ·rw [X39 ha h3] at h
     simp only [Prod.mk.injEq, and_true] at h
     subst h
     exact ⟨h3, a, rfl, ha⟩
    ·rw [X2o ha h3] at h
     simp only [Prod.mk.injEq] at h
     exact absurd h.2 h3
  ·rw [X2N he] at h
   simp only [Prod.mk.injEq] at h
   exact absurd h.2 he
 obtain ⟨hE, z, hX, hz⟩ := hX
 refine ⟨hE, ?_⟩
 have key : only b 0 z (Um r) := by
  unfold rdX at hX
  simp only at hX
  generalize hk : rkI b 0 0 3 = k at hX
  obtain ⟨kd, a1, e1⟩ := k
  simp only at hX
  generalize ht : rnS b a1 e1 = t at hX
  obtain ⟨ts, a2, e2⟩ := t
  simp only at hX
  by_cases k1 : kd = 1
  ·rw [if_pos k1] at hX
   generalize hn : rnS b a2 e2 = n at hX
   obtain ⟨n, a3, e3⟩ := n
   simp only at hX
   generalize hl : YB b n.toNat a3 e3 = l at hX
   obtain ⟨l, a4, e4⟩ := l
   simp only [Prod.mk.injEq] at hX
   obtain ⟨rfl, rfl, rfl⟩ := hX
   have e3z : e3 = 0 := by
    by_cases he : e3 = 0
    ·exact he
    ·rw [X1G he] at hl
     simp only [Prod.mk.injEq] at hl
     exact absurd hl.2.2 he
   subst e3z
   obtain rfl := Va hn
   obtain rfl := Va ht
   obtain ⟨p1, p2, p3, p4⟩ := X05 (by omega) hk
   rw [Vn] at ht hn
   obtain ⟨q1, q2, q3, q4⟩ := UJ ht
   obtain ⟨s1, s2, s3, s4⟩ := UJ hn
   obtain ⟨u1, u2⟩ := X5B n.toNat a3 l a4 (by have := s1.1; omega) s1.2.2.1 hl
   unfold Um
   simp only [k1, if_true]
   rw [show ((l.length : Nat) : Int) = n by omega, X11, ← k1]
   exact Ym p1 (Ym q1 (Ym s1 u1))
  ·rw [if_neg k1] at hX
   by_cases k2 : kd = 2
   ·rw [if_pos k2] at hX
    generalize hr : Yb b a2 e2 = r at hX
    obtain ⟨r, a3, e3⟩ := r
    simp only at hX
    generalize ho : roS b a3 e3 = o at hX
    obtain ⟨o, a4, e4⟩ := o
    simp only [Prod.mk.injEq] at hX
    obtain ⟨rfl, rfl, rfl⟩ := hX
    obtain rfl := Xai ho
    obtain rfl := XaK hr
    obtain rfl := Va ht
    obtain ⟨p1, p2, p3, p4⟩ := X05 (by omega) hk
    rw [Vn] at ht
    obtain ⟨q1, q2, q3, q4⟩ := UJ ht
    have s1 := X5s (by have := q1.1; omega) hr
    have u1 := X7o (by omega) ho
    unfold Um
    simp only [k2, show ¬ ((2 : Int) = 1) by omega, if_false, if_true]
    rw [X11, ← k2]
    exact Ym p1 (Ym q1 (Ym s1.1 u1))
   ·rw [if_neg k2] at hX
    simp only [Prod.mk.injEq] at hX
    obtain ⟨rfl, rfl, rfl⟩ := hX
    obtain rfl := Va ht
    obtain ⟨p1, p2, p3, p4⟩ := X05 (by omega) hk
    rw [Vn] at ht
    obtain ⟨q1, q2, q3, q4⟩ := UJ ht
    unfold Um
    simp only [if_neg k1, if_neg k2, List.append_nil]
    rw [X11]
    exact Ym p1 q1
 have hzl := key.2.2.1
 have := key.2.2.2
 rw [show z = b.length by omega] at this
 simpa using this.symm
end Go.Fw
namespace Go.Fw
open Go Go.Proofs
set_option maxRecDepth 100000
set_option linter.unusedVariables false
set_option linter.unusedSimpArgs false
theorem X7a (b : List UInt8) : Con Tryd.prog 3 [] [.d (Xv b)] [] (ab true) := by
 refine Xb (xs := [ab true]) Tryd.func3 rfl Tryd.ntmps3 rfl rfl rfl (fun E => ?_)
 have hlm : (b.map Xa).length = b.length := by simp
 have ha := X6t
 by_cases hb : 600 < b.length
 ·have hb' : (600 : Int) < (b.map Xa).length := by omega
  refine X0 ?_; refine JR ?_; refine Z0 ?_; refine JD ?_; refine X0 ?_; refine X0 ?_; refine JR ?_; refine Z1 ?_; refine Zb ?_; refine Zn ?_; refine JD ?_; refine JT ?_; refine X0 ?_; refine JR ?_
  refine Z8 (hcon := ha) ?_; refine Z0 ?_; refine JD ?_
  exact X1 ⟨_, St.le_refl _, ⟨rfl, trivial⟩, X2 _⟩
 have hb' : ¬ (600 : Int) < (b.map Xa).length := by omega
 have h1 := X3X b (by omega)
 have hok := Xas b (by omega)
 have ho : ∀ r, rdS b = (r, 0) → YI r = 0 ∧ Um r = b := fun r h => X6C h
 generalize rdS b = r at *
 obtain ⟨r, e⟩ := r
 by_cases he : e = 0
 ·subst he
  obtain ⟨hE, hp⟩ := ho r rfl
  have h2 := X77 r hok
  unfold X2G at h2
  rw [if_pos hE, hp] at h2
  clear ho hE hp hok
  obtain ⟨kd, ts, l, ⟨k, n, name, key, src, dst⟩, off⟩ := r
  simp only [YW] at h1 h2
  refine X0 ?_; refine JR ?_; refine Z0 ?_; refine JD ?_; refine X0 ?_; refine X0 ?_; refine JR ?_; refine Z1 ?_; refine Zb ?_; refine Zn ?_; refine JD ?_; refine JF ?_; refine X3 ?_; refine X0 ?_
  refine JR ?_; refine Z1 ?_; refine Z8 (hcon := h1) ?_; refine Z1 ?_; refine ZC ?_; refine ZC ?_; refine Zr (γ := 100) ?_; refine Zu ?_; refine Z0 ?_; refine JD ?_; refine X0 ?_; refine JR ?_; refine Z1 ?_
  refine Zq ?_; refine Z1 ?_; refine ZK ?_; refine Z8 (hcon := h2) ?_; refine ZV ?_; refine Z1 ?_; refine ZV ?_; refine Zm ?_; refine Zl ?_; refine Z1 ?_; refine Z8 (hcon := ha) ?_; refine Zi ?_; refine Z0 ?_; refine JD ?_
  exact X1 ⟨_, St.le_refl _, ⟨rfl, trivial⟩, X2 _⟩
 ·clear ho hok
  obtain ⟨kd, ts, l, ⟨k, n, name, key, src, dst⟩, off⟩ := r
  simp only [YW] at h1
  refine X0 ?_; refine JR ?_; refine Z0 ?_; refine JD ?_; refine X0 ?_; refine X0 ?_; refine JR ?_; refine Z1 ?_; refine Zb ?_; refine Zn ?_; refine JD ?_; refine JF ?_; refine X3 ?_; refine X0 ?_
  refine JR ?_; refine Z1 ?_; refine Z8 (hcon := h1) ?_; refine Z1 ?_; refine ZC ?_; refine ZC ?_; refine Zr (γ := 100) ?_; refine Zu ?_; refine Z0 ?_; refine JD ?_; refine X0 ?_; refine JR ?_; refine Z1 ?_
  refine Zq ?_; refine Z1 ?_; refine Zj ?_; refine Zj ?_; refine Zj ?_; refine Zj ?_; refine Zj ?_; refine Zj ?_; refine Zi ?_; refine Z1 ?_; refine Z8 (hcon := ha) ?_; refine Zi ?_; refine Z0 ?_; refine JD ?_
  exact X1 ⟨_, St.le_refl _, ⟨rfl, trivial⟩, X2 _⟩
end Go.Fw
namespace Go.Fw
open Go Go.Proofs
set_option linter.unusedVariables false
theorem X80 : Tryd.prog.cellsOf 5 = 1 := by kernel_rfl
section
variable {H : Type} {enc : TypeId × Value → H} {W : World}
theorem X4n : Opens enc Tryd.prog W 22 (fun _ : List UInt8 => True) (fun l => [Xv l]) :=
 (X8X Tryd.underlying22 X80 (by decide) (X6F Tryd.underlying5)).to id fun _ _ => ⟨trivial, rfl⟩
end
end Go.Fw

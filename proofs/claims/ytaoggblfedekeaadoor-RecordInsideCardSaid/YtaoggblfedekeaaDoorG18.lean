/- Few changes. -/
import Derived.Test.YtaoggblfedekeaaDoorG08
import Derived.Test.YtaoggblfedekeaaDoorG17
import Derived.Test.YtaoggblfedekeaaDoorG11
import Derived.Test.YtaoggblfedekeaaDoorG14
import Derived.Test.YtaoggblfedekeaaDoorG07
import Derived.Test.YtaoggblfedekeaaDoorG16
set_option maxHeartbeats 16000000
namespace Go.Fw
open Go Go.Proofs
set_option maxRecDepth 100000
set_option linter.unusedVariables false
set_option linter.unusedSimpArgs false
def XD : Chg → List D
 | ⟨op, id, src, dst, name, .mk k n d s l⟩ => [.v (.int .i64 op), .v (.int .i64 id), .v (.int .i64 src), .v (.int .i64 dst), .v (.string (X4 name)), .v (.int .i64 k), .v (.int .i64 n), .v (.int .i64 d), .v (.string (X4 s)), .sl 5 (Xm l)]
def X01 (c : Chg) : Prop := c.name.length ≤ 9223372036854775807 ∧ XU c.v
def UM : List Chg → Int → Int
 | [], left => left
 | c :: r, left => if left < 0 then left else UM r (YR 12 c.v (left - 3 - (c.name.length / 50 : Nat)))
def X1r (l : List Chg) (most : Int) : Bool := decide (0 ≤ UM l (most * 4)) && decide ((l.length : Int) ≤ most)
theorem XaD {l : List Chg} {left : Int} (h : left < 0) : UM l left = left := by
 cases l with
 | nil => rfl
 | cons x r => rw [UM, if_pos h]
theorem X6R {l : List Chg} {i : Nat} {x : Chg} {left : Int} (h : l[i]? = some x) (h0 : ¬ left < 0) : UM (l.drop i) left = UM (l.drop (i + 1)) (YR 12 x.v (left - 3 - (x.name.length / 50 : Nat))) := by
 rw [List.drop_eq_getElem_cons (List.getElem?_eq_some_iff.1 h).1, (List.getElem?_eq_some_iff.1 h).2, UM, if_neg h0]
theorem X6V (v : Val) (dp : Nat) (left : Int) (hok : XU v) (h1 : -200000000000000000 ≤ left) (h2 : left ≤ 1000000) : -400000000000000000 ≤ YR dp v left ∧ YR dp v left ≤ 1000000 := by
 obtain ⟨k, n, d, s, l⟩ := v
 rw [XU] at hok
 rw [YR]
 split
 ·omega
 ·exact X2m (by omega) (by omega) fun x hx q q1 q2 => X2a x (dp - 1) q (VS hok.2.2 hx) q1 q2
theorem X8M (l : List Chg) (most : Nat) (hm : most ≤ 1000) (hl : l.length ≤ 9223372036854775807) (hok : ∀ c ∈ l, X01 c) : Con Tryd.prog 8 [] [.d (.sl 10 (l.map XD)), ai most] [] (ab (X1r l most)) := by
 have hlm : (l.map XD).length = l.length := by simp
 refine Xb (xs := [ab (X1r l most)]) Tryd.func8 rfl Tryd.ntmps8 rfl rfl rfl (fun E => ?_)
 unfold X1r
 refine X0 ?_; refine JR ?_; refine Z0 ?_; refine JD ?_; refine X0 ?_; refine JR ?_; refine Z1 ?_; refine ZY ?_; refine Z0 ?_; refine JD ?_; refine X0 ?_; refine X0 ?_; refine JR ?_; refine Z0 ?_
 refine JD ?_; refine X5 ?_
 generalize hG : UM l ((most : Int) * 4) = G
 refine XR (ι := Nat × Int) (fun q => q.1 ≤ l.length ∧ -400000000000000000 ≤ q.2 ∧ q.2 ≤ 1000000 ∧ UM (l.drop q.1) q.2 = G) (fun q => ⟨43, [(0, .d (.sl 10 (l.map XD))), (1, ai most), (5, ai q.2), (6, ai q.1)], []⟩) (fun q => l.length - q.1) (0, (most : Int) * 4) ⟨by omega, by omega, by omega, hG⟩
  (Xg rfl ⟨JL, JL, JL, JL, trivial⟩ trivial) ?_
 rintro ⟨i, cur⟩ ⟨hi, c1, c2, hg⟩
 simp only at hi c1 c2 hg
 have fin : ∀ b : Bool, (b = true ↔ (l.length : Int) ≤ most) → b = decide ((l.length : Int) ≤ most) := fun b hb => by cases b <;> simp_all
 by_cases hil : i < l.length
 case neg =>
  obtain rfl : i = l.length := by omega
  rw [List.drop_length, UM] at hg
  subst hg
  have hn : ¬ ((l.length : Nat) : Int) < (l.map XD).length := by omega
  by_cases hpos : 0 ≤ cur
  ·rw [decide_eq_true hpos, Bool.true_and]
   by_cases hle : (l.length : Int) ≤ most
   ·rw [decide_eq_true hle]
    refine X0 ?_; refine X0 ?_; refine JR ?_; refine Z1 ?_; refine Z1 ?_; refine Zb ?_; refine Z7 ?_; refine Z1 ?_; refine Zj ?_; refine Zj ?_; refine Zl ?_; refine JD ?_; refine JF ?_; refine Xt ?_
    refine X0 ?_; refine JR ?_; refine Z1 ?_; refine Z2 ?_; refine Z1 ?_; refine Z1 ?_; refine Zb ?_; refine Z1 ?_; refine Zh ?_; refine Zi ?_; refine Z0 ?_; refine JD ?_
    first | exact X1 ⟨_, St.le_refl _, ⟨rfl, trivial⟩, X2 _⟩ | exact X1 ⟨_, Xi 4 (y := ab true) (AVal.le_of_eq (by refine Eq.trans (b := ab (decide _)) rfl ?_; exact congrArg ab (by simp; omega))), ⟨rfl, trivial⟩, X2 _⟩ | fail
   ·rw [decide_eq_false hle]
    refine X0 ?_; refine X0 ?_; refine JR ?_; refine Z1 ?_; refine Z1 ?_; refine Zb ?_; refine Z7 ?_; refine Z1 ?_; refine Zj ?_; refine Zj ?_; refine Zl ?_; refine JD ?_; refine JF ?_; refine Xt ?_
    refine X0 ?_; refine JR ?_; refine Z1 ?_; refine Z2 ?_; refine Z1 ?_; refine Z1 ?_; refine Zb ?_; refine Z1 ?_; refine Zh ?_; refine Zi ?_; refine Z0 ?_; refine JD ?_
    first | exact X1 ⟨_, St.le_refl _, ⟨rfl, trivial⟩, X2 _⟩ | exact X1 ⟨_, Xi 4 (y := ab false) (AVal.le_of_eq (by refine Eq.trans (b := ab (decide _)) rfl ?_; exact congrArg ab (by simp; omega))), ⟨rfl, trivial⟩, X2 _⟩ | fail
  ·rw [decide_eq_false hpos, Bool.false_and]
   refine X0 ?_; refine X0 ?_; refine JR ?_; refine Z1 ?_; refine Z1 ?_; refine Zb ?_; refine Z7 ?_; refine Z1 ?_; refine Zj ?_; refine Zj ?_; refine Zl ?_; refine JD ?_; refine JF ?_; refine Xt ?_
   refine X0 ?_; refine JR ?_; refine Z1 ?_; refine Z2 ?_; refine Z1 ?_; refine Zj ?_; refine Zj ?_; refine Zj ?_; refine Zj ?_; refine Zl ?_; refine Z0 ?_; refine JD ?_
   first | exact X1 ⟨_, St.le_refl _, ⟨rfl, trivial⟩, X2 _⟩ | exact X1 ⟨_, Xi 4 (y := ab false) (AVal.le_of_eq (by refine Eq.trans (b := ab (decide _)) rfl ?_; exact congrArg ab (by simp; omega))), ⟨rfl, trivial⟩, X2 _⟩ | fail
 have hn : (i : Int) < (l.map XD).length := by omega
 by_cases hneg : cur < 0
 ·rw [XaD hneg] at hg
  subst hg
  have hpos : ¬ 0 ≤ cur := by omega
  rw [decide_eq_false hpos, Bool.false_and]
  refine X0 ?_; refine X0 ?_; refine JR ?_; refine Z1 ?_; refine Z1 ?_; refine Zb ?_; refine Z7 ?_; refine Z1 ?_; refine Z1 ?_; refine Z2 ?_; refine Zi ?_; refine JD ?_; refine JF ?_; refine Xt ?_
  refine X0 ?_; refine JR ?_; refine Z1 ?_; refine Z2 ?_; refine Z1 ?_; refine Zj ?_; refine Zj ?_; refine Zj ?_; refine Zj ?_; refine Zl ?_; refine Z0 ?_; refine JD ?_
  first | exact X1 ⟨_, St.le_refl _, ⟨rfl, trivial⟩, X2 _⟩ | exact X1 ⟨_, Xi 4 (y := ab false) (AVal.le_of_eq (by refine Eq.trans (b := ab (decide _)) rfl ?_; exact congrArg ab (by simp; omega))), ⟨rfl, trivial⟩, X2 _⟩ | fail
 have hpos : 0 ≤ cur := by omega
 obtain ⟨x, hx⟩ := XX (l := l) hil
 have hxc : (l.map XD)[i]? = some (XD x) := Ua hx
 have hxo := hok x (List.mem_of_getElem? hx)
 rw [X6R hx hneg] at hg
 obtain ⟨op, id, src, dst, name, v⟩ := x
 obtain ⟨o1, o2⟩ := hxo
 simp only at o1 o2 hg
 have hsz : (X4 name).size = name.length := rfl
 have hcall := X4f v o2 12 (cur - 3 - (name.length / 50 : Nat)) (by omega) (by omega) (by omega)
 have hlow := X6V v 12 (cur - 3 - (name.length / 50 : Nat)) o2 (by omega) (by omega)
 generalize YR 12 v (cur - 3 - (name.length / 50 : Nat)) = z at *
 obtain ⟨xk, xn, xd, xs, xl⟩ := v
 simp only [Xh, XD] at hcall hxc
 refine X0 ?_; refine X0 ?_; refine JR ?_; refine Z1 ?_; refine Z1 ?_; refine Zb ?_; refine Z7 ?_; refine Z1 ?_; refine Z1 ?_; refine Z2 ?_; refine Zi ?_; refine JD ?_; refine JT ?_; refine X3 ?_
 refine X0 ?_; refine X5 ?_; refine JR ?_; refine Z1 ?_; refine Z1 ?_; refine ZH ?_; refine ZM ?_; refine ZI ?_; refine Z1 ?_; refine ZQ ?_; refine Z1 ?_; refine Z1 ?_; refine ZH ?_; refine ZM ?_; refine ZJ ?_
 refine Za ?_; refine Zw (op := .quo) (r' := nj ((X4 name).size / 50)) (u := nj (X4 name).size) (v := nj 50) ?_ (hr := by exact UV (by omega) (by rw [XJ]; omega)); refine ZQ ?_; refine Z8 (hcon := hcall) ?_
 refine Z0 ?_; refine JD ?_; refine JR ?_; refine Z1 ?_; refine Zc ?_; refine Z0 ?_; refine JD ?_
 exact ⟨(i + 1, z), ⟨by show i + 1 ≤ l.length; omega, hlow.1, hlow.2, hg⟩, by show l.length - (i + 1) < l.length - i; omega, Xg rfl ⟨JL, JL, JL, JL, trivial⟩ trivial⟩
end Go.Fw
namespace Go.Fw
open Go Go.Proofs
set_option maxRecDepth 100000
set_option linter.unusedVariables false
set_option linter.unusedSimpArgs false
abbrev oRd (b : List UInt8) (a e : Int) : AObj := .box [.d (Xv b), ai a, ai e]
theorem X4x (b : List UInt8) (a e x : Int) : Con Tryd.prog 83 [(0, oRd b a e)] [.ptr 0 0, ai x] [(0, oRd b a (if e = 0 then x else e))] (.tup []) := by
 refine Xb (xs := []) Tryd.func83 rfl Tryd.ntmps83 rfl rfl rfl (fun E => ?_)
 by_cases h : e = 0
 ·rw [if_pos h]
  refine X0 ?_; refine JR ?_; refine Z1 ?_; refine ZZ ?_; refine Zy ?_; refine Zz ?_; refine Zs ?_; refine JD ?_; refine JT ?_; refine JR ?_; refine Z1 ?_; refine Z1 ?_; refine ZZ ?_; refine Zy ?_; refine Zu ?_
  refine JD ?_
  exact (show X1h _ _ _ _ _ from ⟨_, St.le_refl _, trivial, Xc ⟨rfl, trivial⟩⟩)
 ·rw [if_neg h]
  refine X0 ?_; refine JR ?_; refine Z1 ?_; refine ZZ ?_; refine Zy ?_; refine Zz ?_; refine Zs ?_; refine JD ?_; refine JF ?_; refine X3 ?_
  exact (show X1h _ _ _ _ _ from ⟨_, St.le_refl _, trivial, Xc ⟨rfl, trivial⟩⟩)
theorem X0j (b : List UInt8) (a e : Int) (hb : b.length ≤ 281474976710656) : Con Tryd.prog 66 [(0, oRd b a e)] [.ptr 0 0] [(0, if e = 0 then oRd b (Xn b a).2.1 (Xn b a).2.2 else oRd b a e)] (ai (if e = 0 then (Xn b a).1 else 0)) := by
 refine Xb (xs := [ai (if e = 0 then (Xn b a).1 else 0)]) Tryd.func66 rfl Tryd.ntmps66 rfl rfl rfl (fun E => ?_)
 by_cases h : e = 0
 ·rw [if_pos h, if_pos h]
  repeat first | refine X0 ?_ | (refine JR ?_; (repeat first | refine Z1 ?_ | refine Z0 ?_ | refine ZZ ?_ | refine Zy ?_ | refine Zz ?_ | refine Zq ?_ | refine Zu ?_ | refine ZC ?_ | refine Z8 (hcon := X3B b a hb) ?_); refine JD ?_) | refine JF ?_ | refine X3 ?_
  exact X1 ⟨_, St.le_refl _, ⟨rfl, trivial⟩, Xc ⟨rfl, trivial⟩⟩
 ·rw [if_neg h, if_neg h]
  refine X0 ?_; refine JR ?_; refine Z0 ?_; refine JD ?_; refine X0 ?_; refine X0 ?_; refine JR ?_; refine Z1 ?_; refine ZZ ?_; refine Zy ?_; refine Zz ?_; refine Zq ?_; refine JD ?_; refine JT ?_
  refine X0 ?_; refine JR ?_; refine Z0 ?_; refine JD ?_
  exact X1 ⟨_, St.le_refl _, ⟨rfl, trivial⟩, Xc ⟨rfl, trivial⟩⟩
end Go.Fw
namespace Go.Fw
open Go Go.Proofs
set_option maxRecDepth 100000
set_option linter.unusedVariables false
set_option linter.unusedSimpArgs false
def rkS (b : List UInt8) (a : Nat) (e limit : Int) : Int × Int × Int :=
 if e ≠ 0 then (0, (a : Int), e) else if b.length ≤ a then (0, (a : Int), 3) else
  if ((((b[a]?).getD 0).toNat : Nat) : Int) < 1 ∨ limit < ((((b[a]?).getD 0).toNat : Nat) : Int) then (0, (a : Int), 2) else ((((b[a]?).getD 0).toNat : Nat), (a : Int) + 1, 0)
theorem X8A (b : List UInt8) (a : Nat) (e limit : Int) (hb : b.length ≤ 281474976710656) (ha : a ≤ 281474976710656) : Con Tryd.prog 14 [(0, oRd b a e)] [.ptr 0 0, ai limit] [(0, oRd b (rkS b a e limit).2.1 (rkS b a e limit).2.2)] (ai (rkS b a e limit).1) := by
 refine Xb (xs := [ai (rkS b a e limit).1]) Tryd.func14 rfl Tryd.ntmps14 rfl rfl rfl (fun E => ?_)
 have hlm : (b.map Xa).length = b.length := by simp
 by_cases he : e = 0
 case neg =>
  rw [show rkS b a e limit = (0, (a : Int), e) by unfold rkS; rw [if_pos he]]
  refine X0 ?_; refine JR ?_; refine Z0 ?_; refine JD ?_; refine X0 ?_; refine X5 ?_; refine X0 ?_; refine JR ?_; refine Z1 ?_; refine ZZ ?_; refine Zy ?_; refine Zz ?_; refine Zq ?_; refine Z0 ?_
  refine JD ?_; refine JT ?_; refine X3 ?_; refine X0 ?_; refine JR ?_; refine Z0 ?_; refine JD ?_
  exact X1 ⟨_, St.le_refl _, ⟨rfl, trivial⟩, Xc ⟨rfl, trivial⟩⟩
 subst he
 by_cases h1 : b.length ≤ a
 ·rw [show rkS b a 0 limit = (0, (a : Int), 3) by unfold rkS; rw [if_neg (by simp), if_pos h1]]
  have h1' : ((b.map Xa).length : Int) ≤ a := by omega
  repeat first | refine X0 ?_ | (refine JR ?_; (repeat first | refine Z1 ?_ | refine Z0 ?_ | refine ZZ ?_ | refine Zy ?_ | refine Zz ?_ | refine Zb ?_ | refine Z2 ?_ | refine Zq ?_ | refine Zu ?_); refine JD ?_) | refine JT ?_ | refine JF ?_ | refine X5 ?_
  exact X1 ⟨_, St.le_refl _, ⟨rfl, trivial⟩, Xc ⟨rfl, trivial⟩⟩
 have h1' : ¬ ((b.map Xa).length : Int) ≤ a := by omega
 obtain ⟨c, hc⟩ := XX (l := b) (k := a) (by omega)
 have hrk : rkS b a 0 limit = if ((c.toNat : Nat) : Int) < 1 ∨ limit < ((c.toNat : Nat) : Int) then (0, (a : Int), 2) else (((c.toNat : Nat) : Int), (a : Int) + 1, 0) := by
  unfold rkS; rw [if_neg (by simp), if_neg h1, hc, Option.getD_some]
 have hxm : (b.map Xa)[a]? = some (Xa c) := Ua hc
 by_cases h2 : ((c.toNat : Nat) : Int) < 1
 ·rw [hrk, if_pos (.inl h2)]
  repeat first | refine X0 ?_ | (refine JR ?_; (repeat first | refine Z1 ?_ | refine Z0 ?_ | refine ZZ ?_ | refine Zy ?_ | refine Zz ?_ | refine ZJ ?_ | refine Zb ?_ | refine Z7 ?_ | refine Z2 ?_ | refine Zq ?_ | refine Zu ?_ | refine Zi ?_ | refine ZH ?_ | refine Zj ?_); refine JD ?_) | refine JT ?_ | refine JF ?_ | refine X5 ?_
  exact X1 ⟨_, St.le_refl _, ⟨rfl, trivial⟩, Xc ⟨rfl, trivial⟩⟩
 by_cases h3 : limit < ((c.toNat : Nat) : Int)
 ·rw [hrk, if_pos (.inr h3)]
  repeat first | refine X0 ?_ | (refine JR ?_; (repeat first | refine Z1 ?_ | refine Z0 ?_ | refine ZZ ?_ | refine Zy ?_ | refine Zz ?_ | refine ZJ ?_ | refine Zb ?_ | refine Z7 ?_ | refine Zn ?_ | refine Z2 ?_ | refine Zq ?_ | refine Zu ?_ | refine Zl ?_ | refine ZH ?_ | refine Z00 ?_); refine JD ?_) | refine JT ?_ | refine JF ?_ | refine X5 ?_
  exact X1 ⟨_, St.le_refl _, ⟨rfl, trivial⟩, Xc ⟨rfl, trivial⟩⟩
 rw [hrk, if_neg (by omega)]
 repeat first | refine X0 ?_ | (refine JR ?_; (repeat first | refine Z4 (op := .sub) (r' := nj a) (u := .int .i64 ((a : Int) + 1)) (v := .int .i64 1) ?_ (hr' := by exact congrArg (Value.int .i64) (show ((a : Int) + 1 - 1) = (a : Int) by omega)) (hr := by exact VY (by unfold Uz; omega)) | refine Z1 ?_ | refine Z0 ?_ | refine ZZ ?_ | refine Zy ?_ | refine Zz ?_ | refine ZJ ?_ | refine Zb ?_ | refine Z7 ?_ | refine Zn ?_ | refine Z2 ?_ | refine Zq ?_ | refine Zc ?_ | refine Zu ?_ | refine Zl ?_ | refine ZH ?_ | refine Z00 ?_); refine JD ?_) | refine JF ?_ | refine X5 ?_
 exact X1 ⟨_, St.le_refl _, ⟨rfl, trivial⟩, Xc ⟨rfl, trivial⟩⟩
theorem X6N (b : List UInt8) (a e : Int) (hb : b.length ≤ 281474976710656) : Con Tryd.prog 15 [(0, oRd b a e)] [.ptr 0 0] [(0, if e = 0 then oRd b (Xf b a).2.1 (Xf b a).2.2 else oRd b a e)] (ai (if e = 0 then (Xf b a).1 else 0)) := by
 refine Xb (xs := [ai (if e = 0 then (Xf b a).1 else 0)]) Tryd.func15 rfl Tryd.ntmps15 rfl rfl rfl (fun E => ?_)
 by_cases h : e = 0
 ·rw [if_pos h, if_pos h]
  have hu := X1s b a hb
  generalize Xf b a = u at *
  obtain ⟨u1, u2, u3⟩ := u
  repeat first | refine X0 ?_ | (refine JR ?_; (repeat first | refine Z1 ?_ | refine Z0 ?_ | refine ZZ ?_ | refine Zy ?_ | refine Zz ?_ | refine Zs ?_ | refine Zu ?_ | refine ZC ?_ | refine Z8 (hcon := hu) ?_); refine JD ?_) | refine JT ?_
  exact X1 ⟨_, St.le_refl _, ⟨rfl, trivial⟩, Xc ⟨rfl, trivial⟩⟩
 ·rw [if_neg h, if_neg h]
  refine X0 ?_; refine JR ?_; refine Z0 ?_; refine JD ?_; refine X0 ?_; refine JR ?_; refine Z0 ?_; refine JD ?_; refine X0 ?_; refine X0 ?_; refine JR ?_; refine Z1 ?_; refine ZZ ?_; refine Zy ?_
  refine Zz ?_; refine Zs ?_; refine JD ?_; refine JF ?_; refine X3 ?_; refine X0 ?_; refine JR ?_; refine Z1 ?_; refine Z0 ?_; refine JD ?_
  exact X1 ⟨_, St.le_refl _, ⟨rfl, trivial⟩, Xc ⟨rfl, trivial⟩⟩
end Go.Fw
namespace Go.Fw
open Go Go.Proofs
set_option maxRecDepth 100000
set_option linter.unusedVariables false
set_option linter.unusedSimpArgs false
def Yg (k : Int) (u : Int × Int × Int) : Int := if u.2.2 ≠ 0 then u.2.2 else if Ui k u.1 then 2 else 0
theorem Xa3 (b : List UInt8) (a e : Int) (hb : b.length ≤ 281474976710656) : Con Tryd.prog 67 [(0, oRd b a e)] [.ptr 0 0, ai 64, ab false] [(0, oRd b (Xf b a).2.1 (Yg 8 (Xf b a)))] (ai (Xf b a).1) := by
 have hu := X1s b a hb
 have hz : (Xf b a).2.2 ≠ 0 → (Xf b a).1 = 0 := by
  intro h; rw [X1j] at h ⊢
  split
  ·rfl
  ·split
   ·rfl
   ·rename_i h1 h2; simp [h1, h2] at h
 generalize Xf b a = u at *
 obtain ⟨n, at_, e'⟩ := u
 simp only at hz
 refine Xb (xs := [ai n]) Tryd.func67 rfl Tryd.ntmps67 rfl rfl rfl (fun E => ?_)
 by_cases h : 64 < n
 ·have he : e' = 0 := by
   by_cases h0 : e' = 0
   ·exact h0
   ·have := hz h0; omega
  subst he
  rw [show Yg 8 (n, at_, 0) = 2 by simp [Yg, Ui, h]]
  repeat first | refine X0 ?_ | (refine JR ?_; (repeat first | refine Z1 ?_ | refine Z0 ?_ | refine ZZ ?_ | refine Zy ?_ | refine Zz ?_ | refine Zn ?_ | refine Zu ?_ | refine ZC ?_ | refine Zi ?_ | refine Zj ?_ | refine Zk ?_ | refine Z8 (hcon := hu) ?_ | refine Z8 (hcon := X4x b at_ 0 2) ?_); refine JD ?_) | refine JT ?_
  exact X1 ⟨_, St.le_refl _, ⟨rfl, trivial⟩, Xc ⟨rfl, trivial⟩⟩
 ·rw [show Yg 8 (n, at_, e') = e' by by_cases h0 : e' = 0 <;> simp [Yg, Ui, h, h0]]
  repeat first | refine X0 ?_ | (refine JR ?_; (repeat first | refine Z1 ?_ | refine Z0 ?_ | refine ZZ ?_ | refine Zy ?_ | refine Zz ?_ | refine Zn ?_ | refine Zu ?_ | refine ZC ?_ | refine Zl ?_ | refine Zj ?_ | refine Z8 (hcon := hu) ?_); refine JD ?_) | refine JF ?_ | refine X3 ?_
  exact X1 ⟨_, St.le_refl _, ⟨rfl, trivial⟩, Xc ⟨rfl, trivial⟩⟩
theorem X75 (b : List UInt8) (a e : Int) (hb : b.length ≤ 281474976710656) : Con Tryd.prog 67 [(0, oRd b a e)] [.ptr 0 0, ai 25, ab true] [(0, oRd b (Xf b a).2.1 (Yg 7 (Xf b a)))] (ai (Xf b a).1) := by
 have hu := X1s b a hb
 have hz : (Xf b a).2.2 ≠ 0 → (Xf b a).1 = 0 := by
  intro h; rw [X1j] at h ⊢
  split
  ·rfl
  ·split
   ·rfl
   ·rename_i h1 h2; simp [h1, h2] at h
 have hp : 0 ≤ (Xf b a).1 := by
  rw [X1j]
  split
  ·simp
  ·split <;> simp
 generalize Xf b a = u at *
 obtain ⟨n, at_, e'⟩ := u
 simp only at hz hp
 refine Xb (xs := [ai n]) Tryd.func67 rfl Tryd.ntmps67 rfl rfl rfl (fun E => ?_)
 have hf := X4x b at_ e' 2
 by_cases h : 25 < n
 ·have he : e' = 0 := by
   by_cases h0 : e' = 0
   ·exact h0
   ·have := hz h0; omega
  subst he
  rw [show Yg 7 (n, at_, 0) = 2 by simp [Yg, Ui, h]]
  rw [if_pos rfl] at hf
  repeat first | refine X0 ?_ | (refine JR ?_; (repeat first | refine Z1 ?_ | refine Z0 ?_ | refine ZZ ?_ | refine Zy ?_ | refine Zz ?_ | refine Zn ?_ | refine Zu ?_ | refine ZC ?_ | refine Zi ?_ | refine Zj ?_ | refine Zk ?_ | refine Z8 (hcon := hu) ?_ | refine Z8 (hcon := hf) ?_); refine JD ?_) | refine JT ?_
  exact X1 ⟨_, St.le_refl _, ⟨rfl, trivial⟩, Xc ⟨rfl, trivial⟩⟩
 ·by_cases h2 : n % 2 = 0
  ·rw [show Yg 7 (n, at_, e') = if e' = 0 then 2 else e' by simp only [Yg, Ui]; by_cases h0 : e' = 0 <;> simp [h0, h2]]
   repeat first | refine X0 ?_ | (refine JR ?_; (repeat first | refine Z1 ?_ | refine Z0 ?_ | refine ZZ ?_ | refine Zy ?_ | refine Zz ?_ | refine Zn ?_ | refine Zs ?_ | refine ZG ?_ | refine Zu ?_ | refine ZC ?_ | refine Zi ?_ | refine Zl ?_ | refine Z8 (hcon := hu) ?_ | refine Z8 (hcon := hf) ?_); refine JD ?_) | refine JT ?_
   exact X1 ⟨_, St.le_refl _, ⟨rfl, trivial⟩, Xc ⟨rfl, trivial⟩⟩
  ·rw [show Yg 7 (n, at_, e') = e' by by_cases h0 : e' = 0 <;> simp [Yg, Ui, h, h2, h0]]
   repeat first | refine X0 ?_ | (refine JR ?_; (repeat first | refine Z1 ?_ | refine Z0 ?_ | refine ZZ ?_ | refine Zy ?_ | refine Zz ?_ | refine Zn ?_ | refine Zs ?_ | refine ZG ?_ | refine Zu ?_ | refine ZC ?_ | refine Zi ?_ | refine Zl ?_ | refine Z8 (hcon := hu) ?_); refine JD ?_) | refine JF ?_ | refine X3 ?_
   exact X1 ⟨_, St.le_refl _, ⟨rfl, trivial⟩, Xc ⟨rfl, trivial⟩⟩
def YO (b : List UInt8) (a : Nat) (m : Nat) (want : Int) : Int × Int × Int :=
 if a = b.length then (0, (a : Int), 3) else let k : Int := ((b[a]?).getD 0).toNat
  if 8 < k ∨ (k = 8 ∧ m = 0) ∨ (want ≠ 0 ∧ k ≠ want) then (0, (a : Int), 2) else (k, (a : Int) + 1, 0)
theorem X7M (b : List UInt8) (a m : Nat) (want : Int) (hm : m ≤ 8) (ha : a ≤ b.length) (hb : b.length ≤ 281474976710656) : Con Tryd.prog 65 [(0, oRd b a 0)] [.ptr 0 0, ai (8 - m), ai want] [(0, oRd b (YO b a m want).2.1 (YO b a m want).2.2)] (ai (YO b a m want).1) := by
 refine Xb (xs := [ai (YO b a m want).1]) Tryd.func65 rfl Tryd.ntmps65 rfl rfl rfl (fun E => ?_)
 by_cases ha' : a = b.length
 ·rw [show YO b a m want = (0, (a : Int), 3) by unfold YO; rw [if_pos ha']]
  have hai : (a : Int) = b.length := by omega
  repeat first | refine X0 ?_ | (refine JR ?_; (repeat first | refine Z1 ?_ | refine Z0 ?_ | refine ZZ ?_ | refine Zy ?_ | refine Zz ?_ | refine Zb ?_ | refine Zs ?_ | refine Zq ?_ | refine Zu ?_); refine JD ?_) | refine JT ?_ | refine JF ?_ | refine X3 ?_
  exact X1 ⟨_, St.le_refl _, ⟨rfl, trivial⟩, Xc ⟨rfl, trivial⟩⟩
 obtain ⟨c, hc⟩ := XX (l := b) (k := a) (by omega)
 have e1 : YO b a m want = if 8 < (c.toNat : Int) ∨ ((c.toNat : Int) = 8 ∧ m = 0) ∨ (want ≠ 0 ∧ (c.toNat : Int) ≠ want) then (0, (a : Int), 2) else ((c.toNat : Int), (a : Int) + 1, 0) := by
  unfold YO; rw [if_neg ha', hc]; rfl
 have hai : (a : Int) ≠ b.length := by omega
 by_cases h8 : 8 < (c.toNat : Int)
 ·rw [e1, if_pos (.inl h8)]
  repeat first | refine X0 ?_ | (refine JR ?_; (repeat first | refine Z1 ?_ | refine Z0 ?_ | refine ZZ ?_ | refine Zy ?_ | refine Zz ?_ | refine ZJ ?_ | refine Zb ?_ | refine Zn ?_ | refine Zs ?_ | refine Zq ?_ | refine Zu ?_ | refine Zi ?_ | refine ZH ?_ | refine Z00 ?_ | refine Zj ?_ | refine Zk ?_); refine JD ?_) | refine JT ?_ | refine JF ?_ | refine X3 ?_
  exact X1 ⟨_, St.le_refl _, ⟨rfl, trivial⟩, Xc ⟨rfl, trivial⟩⟩
 by_cases hw : want ≠ 0 ∧ (c.toNat : Int) ≠ want
 ·rw [e1, if_pos (.inr (.inr hw))]
  obtain ⟨hw1, hw2⟩ := hw
  by_cases hk : (c.toNat : Int) = 8
  ·by_cases hm0 : m = 0
   ·have : (8 : Int) - m ≥ 8 := by omega
    repeat first | refine X0 ?_ | (refine JR ?_; (repeat first | refine Z1 ?_ | refine Z0 ?_ | refine ZZ ?_ | refine Zy ?_ | refine Zz ?_ | refine ZJ ?_ | refine Zb ?_ | refine Zn ?_ | refine Z2 ?_ | refine Zs ?_ | refine Zq ?_ | refine Zu ?_ | refine Zi ?_ | refine Zl ?_ | refine ZH ?_ | refine Z00 ?_ | refine Zj ?_ | refine Zk ?_); refine JD ?_) | refine JT ?_ | refine JF ?_ | refine X3 ?_
    exact X1 ⟨_, St.le_refl _, ⟨rfl, trivial⟩, Xc ⟨rfl, trivial⟩⟩
   ·have : ¬ (8 : Int) - m ≥ 8 := by omega
    repeat first | refine X0 ?_ | (refine JR ?_; (repeat first | refine Z1 ?_ | refine Z0 ?_ | refine ZZ ?_ | refine Zy ?_ | refine Zz ?_ | refine ZJ ?_ | refine Zb ?_ | refine Zn ?_ | refine Z2 ?_ | refine Zs ?_ | refine Zq ?_ | refine Zu ?_ | refine Zi ?_ | refine Zl ?_ | refine ZH ?_ | refine Z00 ?_); refine JD ?_) | refine JT ?_ | refine JF ?_ | refine X3 ?_
    exact X1 ⟨_, St.le_refl _, ⟨rfl, trivial⟩, Xc ⟨rfl, trivial⟩⟩
  ·repeat first | refine X0 ?_ | (refine JR ?_; (repeat first | refine Z1 ?_ | refine Z0 ?_ | refine ZZ ?_ | refine Zy ?_ | refine Zz ?_ | refine ZJ ?_ | refine Zb ?_ | refine Zn ?_ | refine Zs ?_ | refine Zq ?_ | refine Zu ?_ | refine Zi ?_ | refine Zl ?_ | refine ZH ?_ | refine Z00 ?_ | refine Zj ?_); refine JD ?_) | refine JT ?_ | refine JF ?_ | refine X3 ?_
   exact X1 ⟨_, St.le_refl _, ⟨rfl, trivial⟩, Xc ⟨rfl, trivial⟩⟩
 by_cases hk : (c.toNat : Int) = 8
 ·by_cases hm0 : m = 0
  ·rw [e1, if_pos (.inr (.inl ⟨hk, hm0⟩))]
   have : (8 : Int) - m ≥ 8 := by omega
   repeat first | refine X0 ?_ | (refine JR ?_; (repeat first | refine Z1 ?_ | refine Z0 ?_ | refine ZZ ?_ | refine Zy ?_ | refine Zz ?_ | refine ZJ ?_ | refine Zb ?_ | refine Zn ?_ | refine Z2 ?_ | refine Zs ?_ | refine Zq ?_ | refine Zu ?_ | refine Zi ?_ | refine Zl ?_ | refine ZH ?_ | refine Z00 ?_ | refine Zj ?_ | refine Zk ?_); refine JD ?_) | refine JT ?_ | refine JF ?_ | refine X3 ?_
   exact X1 ⟨_, St.le_refl _, ⟨rfl, trivial⟩, Xc ⟨rfl, trivial⟩⟩
  ·rw [e1, if_neg (by omega)]
   have : ¬ (8 : Int) - m ≥ 8 := by omega
   by_cases hw0 : want = 0
   ·repeat first | refine X0 ?_ | (refine JR ?_; (repeat first | refine Z1 ?_ | refine Z0 ?_ | refine ZZ ?_ | refine Zy ?_ | refine Zz ?_ | refine ZJ ?_ | refine Zb ?_ | refine Zn ?_ | refine Z2 ?_ | refine Zs ?_ | refine Zq ?_ | refine Zc ?_ | refine Zu ?_ | refine Zi ?_ | refine Zl ?_ | refine ZH ?_ | refine Z00 ?_ | refine Zj ?_); refine JD ?_) | refine JF ?_ | refine X3 ?_
    exact X1 ⟨_, St.le_refl _, ⟨rfl, trivial⟩, Xc ⟨rfl, trivial⟩⟩
   ·have hw1 : (c.toNat : Int) = want := by omega
    repeat first | refine X0 ?_ | (refine JR ?_; (repeat first | refine Z1 ?_ | refine Z0 ?_ | refine ZZ ?_ | refine Zy ?_ | refine Zz ?_ | refine ZJ ?_ | refine Zb ?_ | refine Zn ?_ | refine Z2 ?_ | refine Zs ?_ | refine Zq ?_ | refine Zc ?_ | refine Zu ?_ | refine Zi ?_ | refine Zl ?_ | refine ZH ?_ | refine Z00 ?_); refine JD ?_) | refine JF ?_ | refine X3 ?_
    exact X1 ⟨_, St.le_refl _, ⟨rfl, trivial⟩, Xc ⟨rfl, trivial⟩⟩
 ·rw [e1, if_neg (by omega)]
  by_cases hw0 : want = 0
  ·repeat first | refine X0 ?_ | (refine JR ?_; (repeat first | refine Z1 ?_ | refine Z0 ?_ | refine ZZ ?_ | refine Zy ?_ | refine Zz ?_ | refine ZJ ?_ | refine Zb ?_ | refine Zn ?_ | refine Zs ?_ | refine Zq ?_ | refine Zc ?_ | refine Zu ?_ | refine Zl ?_ | refine ZH ?_ | refine Z00 ?_ | refine Zj ?_); refine JD ?_) | refine JF ?_ | refine X3 ?_
   exact X1 ⟨_, St.le_refl _, ⟨rfl, trivial⟩, Xc ⟨rfl, trivial⟩⟩
  ·have hw1 : (c.toNat : Int) = want := by omega
   repeat first | refine X0 ?_ | (refine JR ?_; (repeat first | refine Z1 ?_ | refine Z0 ?_ | refine ZZ ?_ | refine Zy ?_ | refine Zz ?_ | refine ZJ ?_ | refine Zb ?_ | refine Zn ?_ | refine Zs ?_ | refine Zq ?_ | refine Zc ?_ | refine Zu ?_ | refine Zi ?_ | refine Zl ?_ | refine ZH ?_ | refine Z00 ?_ | refine Zj ?_); refine JD ?_) | refine JF ?_ | refine X3 ?_
   exact X1 ⟨_, St.le_refl _, ⟨rfl, trivial⟩, Xc ⟨rfl, trivial⟩⟩
end Go.Fw
namespace Go.Fw
open Go Go.Proofs
set_option maxRecDepth 100000
set_option linter.unusedVariables false
set_option linter.unusedSimpArgs false
def UK (b : List UInt8) (a : Nat) (nest want : Int) (r : Val × Int × Int) : Prop :=
 Con Tryd.prog 52 [(0, oRd b a 0)] [.ptr 0 0, ai nest, ai want] [(0, oRd b r.2.1 r.2.2)] (Xh r.1)
def XY (c : Val × Int × Int) : Val × Int × Int := if c.2.2 = 0 ∧ X6 8 c.1 = false then (c.1, c.2.1, 2) else c
theorem X3K (l : List Val) (k n d : Int) (s : List UInt8) (q : List Val) : Xm l ++ [[.v (.int .i64 k), .v (.int .i64 n), .v (.int .i64 d), .v (.string (X4 s)), .sl 5 (Xm q)]] = Xm (l ++ [.mk k n d s q]) := by
 rw [Vl l, Vl (l ++ _), List.map_append, List.map_cons, List.map_nil, YK]
theorem X93 {b : List UInt8} {a m : Nat} {want : Int} (h : (YO b a m want).2.2 ≠ 0) (gl gp : Nat → Int → Val × Int × Int) : Yt gl gp m b a want = (zV, (YO b a m want).2.1, (YO b a m want).2.2) := by
 unfold YO at *
 unfold Yt
 by_cases ha : a = b.length
 ·rw [if_pos ha] at *; rw [if_pos (by omega)]
 ·rw [if_neg ha] at *
  rw [if_neg (by omega), Int.toNat_natCast]
  simp only at *
  split
  ·rfl
  ·rename_i h2; rw [if_neg h2] at h; simp at h
theorem X7E {b : List UInt8} {a m : Nat} {want : Int} (ha : a ≤ b.length) (h : (YO b a m want).2.2 = 0) :
  ∃ k : Nat, YO b a m want = ((k : Int), (a : Int) + 1, 0) ∧ a < b.length ∧ k ≤ 8 ∧ (k = 8 → m ≠ 0) ∧ (want ≠ 0 → (k : Int) = want) ∧ ∀ gl gp, Yt gl gp m b a want = XY (XW gl gp b (a + 1) k) := by
 unfold YO at *
 by_cases ha' : a = b.length
 ·rw [if_pos ha'] at h; simp at h
 rw [if_neg ha'] at *
 simp only at *
 split at h
 ·simp at h
 rename_i h2
 refine ⟨_, by rw [if_neg h2], by omega, by omega, fun h3 h4 => h2 (.inr (.inl ⟨by omega, h4⟩)), fun h3 => Classical.byContradiction fun h4 => h2 (.inr (.inr ⟨h3, h4⟩)), fun gl gp => ?_⟩
 unfold Yt
 rw [if_neg (by omega), Int.toNat_natCast]
 simp only
 rw [if_neg h2]
 rfl
theorem X9q (b : List UInt8) (m a : Nat) (want : Int) (gl gp : Nat → Int → Val × Int × Int) (R : Val × Int × Int) (hm : m ≤ 8) (ha : a < b.length) (hb : b.length ≤ 281474976710656)
  (hge : ∀ i q : Nat, q ≤ b.length → YG b (gl i q).2) (hg : ∀ i q : Nat, q ≤ b.length → UK b q (8 - m + 1) 0 (gl i q))
  (hk : Con Tryd.prog 65 [(0, oRd b a 0)] [.ptr 0 0, ai (8 - m), ai want] [(0, oRd b ((a : Int) + 1) 0)] (ai 8)) (hG : R = XY (XW gl gp b (a + 1) 8)) : UK b a (8 - m) want R := by
 refine Xb (xs := [Xh R.1]) Tryd.func52 rfl Tryd.ntmps52 rfl rfl rfl (fun E => ?_)
 ·have hc := Xa3 b (a + 1) 0 hb
  have hcz : XW gl gp b (a + 1) 8 = if Yg 8 (Xf b (a + 1)) ≠ 0 then (.mk 8 0 0 [] [], (Xf b (a + 1)).2.1, Yg 8 (Xf b (a + 1))) else
    (.mk 8 0 0 [] (Xr gl (Xf b (a + 1)).2.1 (Xf b (a + 1)).1.toNat).1, (Xr gl (Xf b (a + 1)).2.1 (Xf b (a + 1)).1.toNat).2.1, (Xr gl (Xf b (a + 1)).2.1 (Xf b (a + 1)).1.toNat).2.2) := by
   simp only [XW, Yg]
   by_cases e1 : (Xf b (a + 1)).2.2 = 0
   ·by_cases e2 : Ui 8 (Xf b (a + 1)).1 = true <;> simp [e1, e2]
   ·simp [e1]
  have hue := X00 b (a + 1)
  obtain ⟨N, hN⟩ := X1W b (a + 1)
  have hNb : Yg 8 (Xf b (a + 1)) = 0 → (Xf b (a + 1)).2.2 = 0 ∧ N ≤ 64 := by
   unfold Yg
   rw [hN]
   split
   ·intro h; contradiction
   ·rename_i h1
    split
    ·intro h; simp at h
    ·rename_i h2
     refine fun _ => ⟨Classical.not_not.1 h1, ?_⟩
     simp [Ui] at h2
     omega
  generalize Yg 8 (Xf b (a + 1)) = ce at *
  generalize Xf b (a + 1) = u at *
  obtain ⟨n, a2, e2⟩ := u
  simp only at hN
  subst hN
  simp only [Int.toNat_natCast] at hc hcz hue hNb
  by_cases hce : ce = 0
  case neg =>
   rw [if_pos hce] at hcz
   rw [hcz] at hG
   obtain rfl : R = (.mk 8 0 0 [] [], a2, ce) := by rw [hG]; simp [XY, hce]
   repeat first | refine X0 ?_ | (refine JR ?_; (repeat first | refine Z1 ?_ | refine Z0 ?_ | refine ZZ ?_ | refine Zy ?_ | refine Zz ?_ | refine Zs ?_ | refine Zq ?_ | refine Zr (γ := 100) ?_ | refine Zr (γ := 101) ?_ | refine Zu ?_ | refine Zt ?_ | refine Z8 (hcon := hk) ?_ | refine Z8 (hcon := hc) ?_); refine JD ?_) | refine JT ?_ | refine JF ?_ | refine X5 ?_ | refine X3 ?_
   refine XR (fun _ : Unit => True) (fun _ => ⟨135, [(0, .ptr 0 0), (1, ai (8 - m)), (2, ai want), (6, .ptr 100 0), (7, .ptr 101 0), (11, ai N), (12, ai 0)], [(0, oRd b a2 ce), (100, .box [ai 0, ai 0, ai 0, .d (.v (.string (X4 []))), ani]), (101, .box [ai 8, ai 0, ai 0, .d (.v (.string (X4 []))), ani])]⟩) (fun _ => 0) () trivial
    (Xg rfl ⟨JL, JL, JL, JL, JL, JL, JL, trivial⟩ ⟨rfl, rfl, rfl, trivial⟩) ?_
   intro _ _
   by_cases h0N : 0 < N
   ·refine X0 ?_; refine X0 ?_; refine JR ?_; refine Z1 ?_; refine Z1 ?_; refine Z7 ?_; refine Z1 ?_; refine Z1 ?_; refine ZZ ?_; refine Zy ?_; refine Zz ?_; refine Zs ?_; refine Zi ?_; refine JD ?_; refine JF ?_
    refine Xt ?_; refine X0 ?_; refine X0 ?_; refine JR ?_; refine Z1 ?_; refine ZZ ?_; refine Zy ?_; refine Zz ?_; refine Zs ?_; refine Z1 ?_; refine Zj ?_; refine Zj ?_; refine Zj ?_; refine Zl ?_
    refine JD ?_; refine JF ?_; refine X3 ?_; refine X0 ?_; refine JR ?_; refine ZK ?_; refine Zu ?_; refine JD ?_
    exact X1 ⟨_, XA 100 (cs := [ai 8, ai 0, ai 0, .d (.v (.string (X4 []))), ani]) (cs' := [ai 8, ai 0, ai 0, .d (.v (.string (X4 []))), .d (.sl 5 [])]) rfl ⟨AVal.le_refl _, AVal.le_refl _, AVal.le_refl _, AVal.le_refl _, AVal.le_nil 5, trivial⟩ rfl, ⟨⟨100, 0, _, rfl, rfl, .inr ⟨5, _, rfl, rfl, rfl, rfl⟩⟩, trivial⟩, Xc ⟨rfl, trivial⟩⟩
   ·refine X0 ?_; refine X0 ?_; refine JR ?_; refine Z1 ?_; refine Z1 ?_; refine Z7 ?_; refine Z1 ?_; refine Zj ?_; refine Zj ?_; refine Zj ?_; refine Zj ?_; refine Zj ?_; refine Zl ?_; refine JD ?_; refine JF ?_
    refine Xt ?_; refine X0 ?_; refine X0 ?_; refine JR ?_; refine Z1 ?_; refine ZZ ?_; refine Zy ?_; refine Zz ?_; refine Zs ?_; refine Z1 ?_; refine Zj ?_; refine Zj ?_; refine Zj ?_; refine Zl ?_
    refine JD ?_; refine JF ?_; refine X3 ?_; refine X0 ?_; refine JR ?_; refine ZK ?_; refine Zu ?_; refine JD ?_
    exact X1 ⟨_, XA 100 (cs := [ai 8, ai 0, ai 0, .d (.v (.string (X4 []))), ani]) (cs' := [ai 8, ai 0, ai 0, .d (.v (.string (X4 []))), .d (.sl 5 [])]) rfl ⟨AVal.le_refl _, AVal.le_refl _, AVal.le_refl _, AVal.le_refl _, AVal.le_nil 5, trivial⟩ rfl, ⟨⟨100, 0, _, rfl, rfl, .inr ⟨5, _, rfl, rfl, rfl, rfl⟩⟩, trivial⟩, Xc ⟨rfl, trivial⟩⟩
  subst hce
  obtain ⟨he2, hN⟩ := hNb rfl
  subst he2
  rw [if_neg (by simp)] at hcz
  rw [hcz] at hG
  clear hcz
  have h00 := hue rfl
  simp only at h00
  clear hue
  repeat first | refine X0 ?_ | (refine JR ?_; (repeat first | refine Z1 ?_ | refine Z0 ?_ | refine ZZ ?_ | refine Zy ?_ | refine Zz ?_ | refine Zs ?_ | refine Zq ?_ | refine Zr (γ := 100) ?_ | refine Zr (γ := 101) ?_ | refine Zu ?_ | refine Zt ?_ | refine Z8 (hcon := hk) ?_ | refine Z8 (hcon := hc) ?_); refine JD ?_) | refine JT ?_ | refine JF ?_ | refine X5 ?_ | refine X3 ?_
  refine Y6 (X2B 101 4 121 5 (cs := [ai 8, ai 0, ai 0, .d (.v (.string (X4 []))), ani]) rfl rfl rfl rfl rfl) ?_
  refine XR (fun i : Nat => i ≤ N ∧ (Xr gl a2 i).1.length = i) (fun i => ⟨135, [(0, .ptr 0 0), (1, ai (8 - m)), (2, ai want), (6, .ptr 100 0), (7, .ptr 101 0), (11, ai N), (12, ai i)], [(0, oRd b (Xr gl a2 i).2.1 (Xr gl a2 i).2.2), (100, .box [ai 0, ai 0, ai 0, .d (.v (.string (X4 []))), ani]), (101, .box [ai 8, ai 0, ai 0, .d (.v (.string (X4 []))), .own 121 (Xr gl a2 i).1.length]), (121, .row 5 (Xm (Xr gl a2 i).1))]⟩) (fun i => N - i) 0 ⟨by omega, rfl⟩
   (Xg rfl ⟨JL, JL, JL, JL, JL, JL, JL, trivial⟩ ⟨rfl, rfl, rfl, rfl, trivial⟩) ?_
  intro i hi
  obtain ⟨hi, hil⟩ := hi
  have hlen := U3 (Xr gl a2 i).1
  by_cases hpe : (Xr gl a2 i).2.2 = 0
  case neg =>
   have hst := X0q hpe N hi
   rw [hst] at hG
   generalize Xr gl a2 i = p at *
   obtain ⟨l, pa, pe⟩ := p
   simp only at hpe hil hG hlen hst
   clear hst
   obtain rfl : R = (.mk 8 0 0 [] l, pa, pe) := by rw [hG]; simp [XY, hpe]
   refine Y6 (Ut 121 rfl) ?_
   refine Y6 (X08 101 4 121 (cs := [ai 8, ai 0, ai 0, .d (.v (.string (X4 []))), .own 121 l.length]) (sz := 5) (xs := Xm l) rfl rfl rfl hlen.symm) ?_
   by_cases hiN : i < N
   ·refine X0 ?_; refine X0 ?_; refine JR ?_; refine Z1 ?_; refine Z1 ?_; refine Z7 ?_; refine Z1 ?_; refine Z1 ?_; refine ZZ ?_; refine Zy ?_; refine Zz ?_; refine Zs ?_; refine Zi ?_; refine JD ?_; refine JF ?_
    refine Xt ?_; refine X0 ?_; refine X0 ?_; refine JR ?_; refine Z1 ?_; refine ZZ ?_; refine Zy ?_; refine Zz ?_; refine Zs ?_; refine Z1 ?_; refine Zj ?_; refine Zj ?_; refine Zj ?_; refine Zl ?_
    refine JD ?_; refine JF ?_; refine X3 ?_; refine X0 ?_; refine JR ?_; refine ZK ?_; refine Zu ?_; refine JD ?_
    exact X1 ⟨_, St.le_refl _, ⟨⟨100, 0, _, rfl, rfl, .inr ⟨5, _, rfl, rfl, rfl, rfl⟩⟩, trivial⟩, Xc ⟨rfl, trivial⟩⟩
   ·refine X0 ?_; refine X0 ?_; refine JR ?_; refine Z1 ?_; refine Z1 ?_; refine Z7 ?_; refine Z1 ?_; refine Zj ?_; refine Zj ?_; refine Zj ?_; refine Zj ?_; refine Zj ?_; refine Zl ?_; refine JD ?_; refine JF ?_
    refine Xt ?_; refine X0 ?_; refine X0 ?_; refine JR ?_; refine Z1 ?_; refine ZZ ?_; refine Zy ?_; refine Zz ?_; refine Zs ?_; refine Z1 ?_; refine Zj ?_; refine Zj ?_; refine Zj ?_; refine Zl ?_
    refine JD ?_; refine JF ?_; refine X3 ?_; refine X0 ?_; refine JR ?_; refine ZK ?_; refine Zu ?_; refine JD ?_
    exact X1 ⟨_, St.le_refl _, ⟨⟨100, 0, _, rfl, rfl, .inr ⟨5, _, rfl, rfl, rfl, rfl⟩⟩, trivial⟩, Xc ⟨rfl, trivial⟩⟩
  by_cases hiN : i < N
  case neg =>
   obtain rfl : i = N := by omega
   generalize Xr gl a2 i = p at *
   obtain ⟨l, pa, pe⟩ := p
   simp only at hpe hil hG hlen
   subst hpe
   have hval := Ur (.mk 8 0 0 [] l)
   simp only [Xh] at hval
   refine Y6 (Ut 121 rfl) ?_
   refine Y6 (X08 101 4 121 (cs := [ai 8, ai 0, ai 0, .d (.v (.string (X4 []))), .own 121 l.length]) (sz := 5) (xs := Xm l) rfl rfl rfl hlen.symm) ?_
   cases hv : X6 8 (.mk 8 0 0 [] l) with
   | false =>
    rw [hv] at hval
    obtain rfl : R = (.mk 8 0 0 [] l, pa, 2) := by rw [hG]; simp [XY, hv]
    refine X0 ?_; refine X0 ?_; refine JR ?_; refine Z1 ?_; refine Z1 ?_; refine Z7 ?_; refine Z1 ?_; refine Zj ?_; refine Zj ?_; refine Zj ?_; refine Zj ?_; refine Zj ?_; refine Zl ?_; refine JD ?_; refine JF ?_
    refine Xt ?_; refine X0 ?_; refine X0 ?_; refine JR ?_; refine Z1 ?_; refine ZZ ?_; refine Zy ?_; refine Zz ?_; refine Zs ?_; refine Z1 ?_; refine ZK ?_; refine Z8 (hcon := hval) ?_; refine Zp ?_
    refine Zi ?_; refine JD ?_; refine JT ?_; refine JR ?_; refine Z1 ?_; refine ZZ ?_; refine Zy ?_; refine Zu ?_; refine JD ?_; refine X0 ?_; refine JR ?_; refine ZK ?_; refine Zu ?_; refine JD ?_
    exact X1 ⟨_, St.le_refl _, ⟨⟨100, 0, _, rfl, rfl, .inr ⟨5, _, rfl, rfl, rfl, rfl⟩⟩, trivial⟩, Xc ⟨rfl, trivial⟩⟩
   | true =>
    rw [hv] at hval
    obtain rfl : R = (.mk 8 0 0 [] l, pa, 0) := by rw [hG]; simp [XY, hv]
    refine X0 ?_; refine X0 ?_; refine JR ?_; refine Z1 ?_; refine Z1 ?_; refine Z7 ?_; refine Z1 ?_; refine Zj ?_; refine Zj ?_; refine Zj ?_; refine Zj ?_; refine Zj ?_; refine Zl ?_; refine JD ?_; refine JF ?_
    refine Xt ?_; refine X0 ?_; refine X0 ?_; refine JR ?_; refine Z1 ?_; refine ZZ ?_; refine Zy ?_; refine Zz ?_; refine Zs ?_; refine Z1 ?_; refine ZK ?_; refine Z8 (hcon := hval) ?_; refine Zp ?_
    refine Zi ?_; refine JD ?_; refine JF ?_; refine X3 ?_; refine X0 ?_; refine JR ?_; refine ZK ?_; refine Zu ?_; refine JD ?_
    exact X1 ⟨_, St.le_refl _, ⟨⟨100, 0, _, rfl, rfl, .inr ⟨5, _, rfl, rfl, rfl, rfl⟩⟩, trivial⟩, Xc ⟨rfl, trivial⟩⟩
  obtain ⟨q, hq1, hq2⟩ := X15 hge h00 i hpe
  have hcall := hg i q hq2
  unfold UK at hcall
  have hsucc := VL hpe
  have hsl := X4G hpe
  rw [hq1] at hsucc
  generalize gl i q = r at hcall hsucc
  generalize Xr gl a2 i = p at *
  obtain ⟨l, pa, pe⟩ := p
  obtain ⟨x, xa, xe⟩ := r
  simp only at hq1 hpe hil hsucc hlen hcall
  subst hq1 hpe
  obtain ⟨xk, xn, xd, xs, xl⟩ := x
  simp only [Xh] at hcall
  skip
  refine X0 ?_; refine X0 ?_; refine JR ?_; refine Z1 ?_; refine Z1 ?_; refine Z7 ?_; refine Z1 ?_; refine Z1 ?_; refine ZZ ?_; refine Zy ?_; refine Zz ?_; refine Zs ?_; refine Zi ?_; refine JD ?_; refine JT ?_
  refine X3 ?_; refine X0 ?_; refine X5 ?_; refine JR ?_; refine Zy ?_; refine Zz ?_; refine Z1 ?_; refine Z1 ?_; refine Zc ?_; refine Z8 (hcon := hcall) ?_; refine Z5 ?_; refine Z6 ?_; refine Zy ?_
  refine Zu ?_; refine JD ?_; refine JR ?_; refine Z1 ?_; refine Zc ?_; refine Z0 ?_; refine JD ?_
  refine ⟨i + 1, ⟨by omega, hsl⟩, by omega, ?_⟩
  dsimp only
  rw [hsucc]
  refine Xg rfl ⟨JL, JL, JL, JL, JL, JL, JL, trivial⟩ ⟨rfl, rfl, ?_, ?_, trivial⟩
  ·refine Eq.trans (b := AObj.box ([ai 8, ai 0, ai 0, .d (.v (.string (X4 []))), .own 121 _])) rfl ?_
   congr 6; simp [hlen]
  ·exact congrArg (AObj.row 5) (X3K l xk xn xd xs xl)
end Go.Fw
namespace Go.Fw
open Go Go.Proofs
set_option maxRecDepth 100000
set_option linter.unusedVariables false
set_option linter.unusedSimpArgs false
theorem X7z (b : List UInt8) (m a : Nat) (want : Int) (gl gp : Nat → Int → Val × Int × Int) (R : Val × Int × Int) (hm : m ≤ 8) (ha : a < b.length) (hb : b.length ≤ 281474976710656)
  (hge : ∀ i q : Nat, q ≤ b.length → YG b (gp i q).2) (hg : ∀ i q : Nat, q ≤ b.length → UK b q (8 - m) (5 + (i % 2 : Nat)) (gp i q))
  (hk : Con Tryd.prog 65 [(0, oRd b a 0)] [.ptr 0 0, ai (8 - m), ai want] [(0, oRd b ((a : Int) + 1) 0)] (ai 7)) (hG : R = XY (XW gl gp b (a + 1) 7)) : UK b a (8 - m) want R := by
 refine Xb (xs := [Xh R.1]) Tryd.func52 rfl Tryd.ntmps52 rfl rfl rfl (fun E => ?_)
 ·have hc := X75 b (a + 1) 0 hb
  have hcz : XW gl gp b (a + 1) 7 = if Yg 7 (Xf b (a + 1)) ≠ 0 then (.mk 7 0 0 [] [], (Xf b (a + 1)).2.1, Yg 7 (Xf b (a + 1))) else
    (.mk 7 0 0 [] (Xr gp (Xf b (a + 1)).2.1 (Xf b (a + 1)).1.toNat).1, (Xr gp (Xf b (a + 1)).2.1 (Xf b (a + 1)).1.toNat).2.1, (Xr gp (Xf b (a + 1)).2.1 (Xf b (a + 1)).1.toNat).2.2) := by
   simp only [XW, Yg]
   by_cases e1 : (Xf b (a + 1)).2.2 = 0
   ·by_cases e2 : Ui 7 (Xf b (a + 1)).1 = true <;> simp [e1, e2]
   ·simp [e1]
  have hue := X00 b (a + 1)
  obtain ⟨N, hN⟩ := X1W b (a + 1)
  have hNb : Yg 7 (Xf b (a + 1)) = 0 → (Xf b (a + 1)).2.2 = 0 ∧ N ≤ 64 := by
   unfold Yg
   rw [hN]
   split
   ·intro h; contradiction
   ·rename_i h1
    split
    ·intro h; simp at h
    ·rename_i h2
     refine fun _ => ⟨Classical.not_not.1 h1, ?_⟩
     simp [Ui] at h2
     omega
  generalize Yg 7 (Xf b (a + 1)) = ce at *
  generalize Xf b (a + 1) = u at *
  obtain ⟨n, a2, e2⟩ := u
  simp only at hN
  subst hN
  simp only [Int.toNat_natCast] at hc hcz hue hNb
  by_cases hce : ce = 0
  case neg =>
   rw [if_pos hce] at hcz
   rw [hcz] at hG
   obtain rfl : R = (.mk 7 0 0 [] [], a2, ce) := by rw [hG]; simp [XY, hce]
   repeat first | refine X0 ?_ | (refine JR ?_; (repeat first | refine Z1 ?_ | refine Z0 ?_ | refine ZZ ?_ | refine Zy ?_ | refine Zz ?_ | refine Zs ?_ | refine Zq ?_ | refine Zr (γ := 100) ?_ | refine Zr (γ := 101) ?_ | refine Zu ?_ | refine Zt ?_ | refine Z8 (hcon := hk) ?_ | refine Z8 (hcon := hc) ?_); refine JD ?_) | refine JT ?_ | refine JF ?_ | refine X5 ?_ | refine X3 ?_
   refine XR (fun _ : Unit => True) (fun _ => ⟨135, [(0, .ptr 0 0), (1, ai (8 - m)), (2, ai want), (6, .ptr 100 0), (7, .ptr 101 0), (13, ai N), (14, ai 0)], [(0, oRd b a2 ce), (100, .box [ai 0, ai 0, ai 0, .d (.v (.string (X4 []))), ani]), (101, .box [ai 7, ai 0, ai 0, .d (.v (.string (X4 []))), ani])]⟩) (fun _ => 0) () trivial
    (Xg rfl ⟨JL, JL, JL, JL, JL, JL, JL, trivial⟩ ⟨rfl, rfl, rfl, trivial⟩) ?_
   intro _ _
   by_cases h0N : 0 < N
   ·refine X0 ?_; refine X0 ?_; refine JR ?_; refine Z1 ?_; refine Z1 ?_; refine Z7 ?_; refine Z1 ?_; refine Z1 ?_; refine ZZ ?_; refine Zy ?_; refine Zz ?_; refine Zs ?_; refine Zi ?_; refine JD ?_; refine JF ?_
    refine Xt ?_; refine X0 ?_; refine X0 ?_; refine JR ?_; refine Z1 ?_; refine ZZ ?_; refine Zy ?_; refine Zz ?_; refine Zs ?_; refine Z1 ?_; refine Zj ?_; refine Zj ?_; refine Zj ?_; refine Zl ?_
    refine JD ?_; refine JF ?_; refine X3 ?_; refine X0 ?_; refine JR ?_; refine ZK ?_; refine Zu ?_; refine JD ?_
    exact X1 ⟨_, XA 100 (cs := [ai 7, ai 0, ai 0, .d (.v (.string (X4 []))), ani]) (cs' := [ai 7, ai 0, ai 0, .d (.v (.string (X4 []))), .d (.sl 5 [])]) rfl ⟨AVal.le_refl _, AVal.le_refl _, AVal.le_refl _, AVal.le_refl _, AVal.le_nil 5, trivial⟩ rfl, ⟨⟨100, 0, _, rfl, rfl, .inr ⟨5, _, rfl, rfl, rfl, rfl⟩⟩, trivial⟩, Xc ⟨rfl, trivial⟩⟩
   ·refine X0 ?_; refine X0 ?_; refine JR ?_; refine Z1 ?_; refine Z1 ?_; refine Z7 ?_; refine Z1 ?_; refine Zj ?_; refine Zj ?_; refine Zj ?_; refine Zj ?_; refine Zj ?_; refine Zl ?_; refine JD ?_; refine JF ?_
    refine Xt ?_; refine X0 ?_; refine X0 ?_; refine JR ?_; refine Z1 ?_; refine ZZ ?_; refine Zy ?_; refine Zz ?_; refine Zs ?_; refine Z1 ?_; refine Zj ?_; refine Zj ?_; refine Zj ?_; refine Zl ?_
    refine JD ?_; refine JF ?_; refine X3 ?_; refine X0 ?_; refine JR ?_; refine ZK ?_; refine Zu ?_; refine JD ?_
    exact X1 ⟨_, XA 100 (cs := [ai 7, ai 0, ai 0, .d (.v (.string (X4 []))), ani]) (cs' := [ai 7, ai 0, ai 0, .d (.v (.string (X4 []))), .d (.sl 5 [])]) rfl ⟨AVal.le_refl _, AVal.le_refl _, AVal.le_refl _, AVal.le_refl _, AVal.le_nil 5, trivial⟩ rfl, ⟨⟨100, 0, _, rfl, rfl, .inr ⟨5, _, rfl, rfl, rfl, rfl⟩⟩, trivial⟩, Xc ⟨rfl, trivial⟩⟩
  subst hce
  obtain ⟨he2, hN⟩ := hNb rfl
  subst he2
  rw [if_neg (by simp)] at hcz
  rw [hcz] at hG
  clear hcz
  have h00 := hue rfl
  simp only at h00
  clear hue
  repeat first | refine X0 ?_ | (refine JR ?_; (repeat first | refine Z1 ?_ | refine Z0 ?_ | refine ZZ ?_ | refine Zy ?_ | refine Zz ?_ | refine Zs ?_ | refine Zq ?_ | refine Zr (γ := 100) ?_ | refine Zr (γ := 101) ?_ | refine Zu ?_ | refine Zt ?_ | refine Z8 (hcon := hk) ?_ | refine Z8 (hcon := hc) ?_); refine JD ?_) | refine JT ?_ | refine JF ?_ | refine X5 ?_ | refine X3 ?_
  refine Y6 (X2B 101 4 121 5 (cs := [ai 7, ai 0, ai 0, .d (.v (.string (X4 []))), ani]) rfl rfl rfl rfl rfl) ?_
  refine XR (fun i : Nat => i ≤ N ∧ (Xr gp a2 i).1.length = i) (fun i => ⟨135, [(0, .ptr 0 0), (1, ai (8 - m)), (2, ai want), (6, .ptr 100 0), (7, .ptr 101 0), (13, ai N), (14, ai i)], [(0, oRd b (Xr gp a2 i).2.1 (Xr gp a2 i).2.2), (100, .box [ai 0, ai 0, ai 0, .d (.v (.string (X4 []))), ani]), (101, .box [ai 7, ai 0, ai 0, .d (.v (.string (X4 []))), .own 121 (Xr gp a2 i).1.length]), (121, .row 5 (Xm (Xr gp a2 i).1))]⟩) (fun i => N - i) 0 ⟨by omega, rfl⟩
   (Xg rfl ⟨JL, JL, JL, JL, JL, JL, JL, trivial⟩ ⟨rfl, rfl, rfl, rfl, trivial⟩) ?_
  intro i hi
  obtain ⟨hi, hil⟩ := hi
  have hlen := U3 (Xr gp a2 i).1
  by_cases hpe : (Xr gp a2 i).2.2 = 0
  case neg =>
   have hst := X0q hpe N hi
   rw [hst] at hG
   generalize Xr gp a2 i = p at *
   obtain ⟨l, pa, pe⟩ := p
   simp only at hpe hil hG hlen hst
   clear hst
   obtain rfl : R = (.mk 7 0 0 [] l, pa, pe) := by rw [hG]; simp [XY, hpe]
   refine Y6 (Ut 121 rfl) ?_
   refine Y6 (X08 101 4 121 (cs := [ai 7, ai 0, ai 0, .d (.v (.string (X4 []))), .own 121 l.length]) (sz := 5) (xs := Xm l) rfl rfl rfl hlen.symm) ?_
   by_cases hiN : i < N
   ·refine X0 ?_; refine X0 ?_; refine JR ?_; refine Z1 ?_; refine Z1 ?_; refine Z7 ?_; refine Z1 ?_; refine Z1 ?_; refine ZZ ?_; refine Zy ?_; refine Zz ?_; refine Zs ?_; refine Zi ?_; refine JD ?_; refine JF ?_
    refine Xt ?_; refine X0 ?_; refine X0 ?_; refine JR ?_; refine Z1 ?_; refine ZZ ?_; refine Zy ?_; refine Zz ?_; refine Zs ?_; refine Z1 ?_; refine Zj ?_; refine Zj ?_; refine Zj ?_; refine Zl ?_
    refine JD ?_; refine JF ?_; refine X3 ?_; refine X0 ?_; refine JR ?_; refine ZK ?_; refine Zu ?_; refine JD ?_
    exact X1 ⟨_, St.le_refl _, ⟨⟨100, 0, _, rfl, rfl, .inr ⟨5, _, rfl, rfl, rfl, rfl⟩⟩, trivial⟩, Xc ⟨rfl, trivial⟩⟩
   ·refine X0 ?_; refine X0 ?_; refine JR ?_; refine Z1 ?_; refine Z1 ?_; refine Z7 ?_; refine Z1 ?_; refine Zj ?_; refine Zj ?_; refine Zj ?_; refine Zj ?_; refine Zj ?_; refine Zl ?_; refine JD ?_; refine JF ?_
    refine Xt ?_; refine X0 ?_; refine X0 ?_; refine JR ?_; refine Z1 ?_; refine ZZ ?_; refine Zy ?_; refine Zz ?_; refine Zs ?_; refine Z1 ?_; refine Zj ?_; refine Zj ?_; refine Zj ?_; refine Zl ?_
    refine JD ?_; refine JF ?_; refine X3 ?_; refine X0 ?_; refine JR ?_; refine ZK ?_; refine Zu ?_; refine JD ?_
    exact X1 ⟨_, St.le_refl _, ⟨⟨100, 0, _, rfl, rfl, .inr ⟨5, _, rfl, rfl, rfl, rfl⟩⟩, trivial⟩, Xc ⟨rfl, trivial⟩⟩
  by_cases hiN : i < N
  case neg =>
   obtain rfl : i = N := by omega
   generalize Xr gp a2 i = p at *
   obtain ⟨l, pa, pe⟩ := p
   simp only at hpe hil hG hlen
   subst hpe
   have hval := Ur (.mk 7 0 0 [] l)
   simp only [Xh] at hval
   refine Y6 (Ut 121 rfl) ?_
   refine Y6 (X08 101 4 121 (cs := [ai 7, ai 0, ai 0, .d (.v (.string (X4 []))), .own 121 l.length]) (sz := 5) (xs := Xm l) rfl rfl rfl hlen.symm) ?_
   cases hv : X6 8 (.mk 7 0 0 [] l) with
   | false =>
    rw [hv] at hval
    obtain rfl : R = (.mk 7 0 0 [] l, pa, 2) := by rw [hG]; simp [XY, hv]
    refine X0 ?_; refine X0 ?_; refine JR ?_; refine Z1 ?_; refine Z1 ?_; refine Z7 ?_; refine Z1 ?_; refine Zj ?_; refine Zj ?_; refine Zj ?_; refine Zj ?_; refine Zj ?_; refine Zl ?_; refine JD ?_; refine JF ?_
    refine Xt ?_; refine X0 ?_; refine X0 ?_; refine JR ?_; refine Z1 ?_; refine ZZ ?_; refine Zy ?_; refine Zz ?_; refine Zs ?_; refine Z1 ?_; refine ZK ?_; refine Z8 (hcon := hval) ?_; refine Zp ?_
    refine Zi ?_; refine JD ?_; refine JT ?_; refine JR ?_; refine Z1 ?_; refine ZZ ?_; refine Zy ?_; refine Zu ?_; refine JD ?_; refine X0 ?_; refine JR ?_; refine ZK ?_; refine Zu ?_; refine JD ?_
    exact X1 ⟨_, St.le_refl _, ⟨⟨100, 0, _, rfl, rfl, .inr ⟨5, _, rfl, rfl, rfl, rfl⟩⟩, trivial⟩, Xc ⟨rfl, trivial⟩⟩
   | true =>
    rw [hv] at hval
    obtain rfl : R = (.mk 7 0 0 [] l, pa, 0) := by rw [hG]; simp [XY, hv]
    refine X0 ?_; refine X0 ?_; refine JR ?_; refine Z1 ?_; refine Z1 ?_; refine Z7 ?_; refine Z1 ?_; refine Zj ?_; refine Zj ?_; refine Zj ?_; refine Zj ?_; refine Zj ?_; refine Zl ?_; refine JD ?_; refine JF ?_
    refine Xt ?_; refine X0 ?_; refine X0 ?_; refine JR ?_; refine Z1 ?_; refine ZZ ?_; refine Zy ?_; refine Zz ?_; refine Zs ?_; refine Z1 ?_; refine ZK ?_; refine Z8 (hcon := hval) ?_; refine Zp ?_
    refine Zi ?_; refine JD ?_; refine JF ?_; refine X3 ?_; refine X0 ?_; refine JR ?_; refine ZK ?_; refine Zu ?_; refine JD ?_
    exact X1 ⟨_, St.le_refl _, ⟨⟨100, 0, _, rfl, rfl, .inr ⟨5, _, rfl, rfl, rfl, rfl⟩⟩, trivial⟩, Xc ⟨rfl, trivial⟩⟩
  obtain ⟨q, hq1, hq2⟩ := X15 hge h00 i hpe
  have hcall := hg i q hq2
  unfold UK at hcall
  have hsucc := VL hpe
  have hsl := X4G hpe
  rw [hq1] at hsucc
  generalize gp i q = r at hcall hsucc
  generalize Xr gp a2 i = p at *
  obtain ⟨l, pa, pe⟩ := p
  obtain ⟨x, xa, xe⟩ := r
  simp only at hq1 hpe hil hsucc hlen hcall
  subst hq1 hpe
  obtain ⟨xk, xn, xd, xs, xl⟩ := x
  simp only [Xh] at hcall
  have hi2 : ((i : Int) % 2) = ((i % 2 : Nat) : Int) := by omega
  refine X0 ?_; refine X0 ?_; refine JR ?_; refine Z1 ?_; refine Z1 ?_; refine Z7 ?_; refine Z1 ?_; refine Z1 ?_; refine ZZ ?_; refine Zy ?_; refine Zz ?_; refine Zs ?_; refine Zi ?_; refine JD ?_; refine JT ?_
  refine X3 ?_; refine X0 ?_; refine X5 ?_; refine JR ?_; refine Zy ?_; refine Zz ?_; refine Z1 ?_; refine Z1 ?_; refine Z1 ?_
  refine Z01 (op := .rem) (r' := .int .i64 ((i % 2 : Nat) : Int)) (u := .int .i64 i) (v := .int .i64 2) ?_ (hr' := by exact congrArg (Value.int .i64) hi2); refine Zc ?_; refine Z8 (hcon := hcall) ?_; refine Z5 ?_
  refine Z6 ?_; refine Zy ?_; refine Zu ?_; refine JD ?_; refine JR ?_; refine Z1 ?_; refine Zc ?_; refine Z0 ?_; refine JD ?_
  refine ⟨i + 1, ⟨by omega, hsl⟩, by omega, ?_⟩
  dsimp only
  rw [hsucc]
  refine Xg rfl ⟨JL, JL, JL, JL, JL, JL, JL, trivial⟩ ⟨rfl, rfl, ?_, ?_, trivial⟩
  ·refine Eq.trans (b := AObj.box ([ai 7, ai 0, ai 0, .d (.v (.string (X4 []))), .own 121 _])) rfl ?_
   congr 6; simp [hlen]
  ·exact congrArg (AObj.row 5) (X3K l xk xn xd xs xl)
end Go.Fw

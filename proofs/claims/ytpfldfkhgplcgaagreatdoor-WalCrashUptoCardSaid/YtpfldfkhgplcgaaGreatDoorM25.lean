/- Records read: the program's. -/
import Derived.Test.YtpfldfkhgplcgaaGreatDoorChecked
import Derived.Test.YtpfldfkhgplcgaaGreatDoorM24
set_option maxHeartbeats 32000000
namespace Go.Fw
open Go Go.Proofs
set_option maxRecDepth 100000
set_option linter.unusedVariables false
set_option linter.unusedSimpArgs false
theorem eq3 {α : Type} {x : α × Int × Int} (h : x.2.2 = 0) : x = (x.1, x.2.1, 0) := by rw [← h]
def Vd (b : List UInt8) : Nat → Int → Int → List Chg × Int × Int
 | 0, a, e => ([], a, e)
 | n + 1, a, e => if e ≠ 0 then ([], a, e) else ((YT b a e).1 :: (Vd b n (YT b a e).2.1 (YT b a e).2.2).1, (Vd b n (YT b a e).2.1 (YT b a e).2.2).2)
theorem Xas {b : List UInt8} {n : Nat} {a e : Int} (h : e ≠ 0) : Vd b n a e = ([], a, e) := by
 cases n with
 | zero => rfl
 | succ n => rw [Vd, if_pos h]
def rdX (b : List UInt8) : Rcd × Int × Int :=
 let k := rkI b 0 0 3
 let t := rnS b k.2.1 k.2.2
 let n := rnS b t.2.1 t.2.2
 let l := Vd b n.1.toNat n.2.1 n.2.2
 let r := UJ b t.2.1 t.2.2
 let o := roS b r.2.1 r.2.2
 if k.1 = 1 then (⟨k.1, t.1, l.1, zR, false⟩, l.2) else if k.1 = 2 then (⟨k.1, t.1, [], r.1, o.1⟩, o.2) else (⟨k.1, t.1, [], zR, false⟩, t.2)
def rdF (b : List UInt8) (x : Rcd × Int × Int) : Rcd × Int :=
 let e1 := if x.2.2 = 0 ∧ x.2.1 < b.length then 2 else x.2.2
 let e2 := if e1 = 0 then Yy x.1 else e1
 if e2 ≠ 0 then (X0V, e2) else (x.1, 0)
def rdS (b : List UInt8) : Rcd × Int := rdF b (rdX b)
theorem Xi4 {b : List UInt8} {x : Rcd} {a e : Int} (h : e ≠ 0) : rdF b (x, a, e) = (X0V, e) := by
 unfold rdF
 simp only
 rw [if_neg (c := e = 0 ∧ a < b.length) (fun q => h q.1), if_neg h, if_pos h]
theorem XgR {b : List UInt8} {x : Rcd} {a : Int} (h : a < b.length) : rdF b (x, a, 0) = (X0V, 2) := by
 unfold rdF
 simp [h]
theorem X8j {b : List UInt8} {x : Rcd} {a : Int} (h : ¬ a < b.length) (hc : Yy x = 0) : rdF b (x, a, 0) = (x, 0) := by
 unfold rdF
 simp [h, hc]
theorem Xie {b : List UInt8} {x : Rcd} {a : Int} (h : ¬ a < b.length) (hc : Yy x ≠ 0) : rdF b (x, a, 0) = (X0V, Yy x) := by
 unfold rdF
 simp [h, hc]
theorem XaL {b : List UInt8} {a : Int} (h0 : 0 ≤ a) (h : (YT b a 0).2.2 = 0) : a < (YT b a 0).2.1 ∧ 0 ≤ (YT b a 0).2.1 ∧ (YT b a 0).2.1 ≤ b.length := by
 have := Xf7 (b := b) (a := a) (c := (YT b a 0).1) (at_ := (YT b a 0).2.1) h0 (eq3 h)
 have h2 := this.1.2.2.1
 omega
theorem X5M {b : List UInt8} {a e : Int} (h : (rnS b a e).2.2 = 0) : 0 ≤ (rnS b a e).2.1 ∧ (rnS b a e).2.1 ≤ b.length := by
 have he : e = 0 := X4J (n := (rnS b a e).1) (m := (rnS b a e).2.1) (eq3 h)
 subst he
 rw [X3j] at h ⊢
 obtain ⟨q, h1, h2⟩ := X1W b a h
 omega
theorem Xcv (b : List UInt8) (a e : Int) : ∃ n : Nat, (rnS b a e).1 = n ∧ n ≤ 9223372036854775807 := by
 by_cases he : e = 0
 ·subst he
  rw [X3j]
  by_cases h : (Xk b a).2.2 = 0
  ·have := X1C (b := b) (a := a) (n := (Xk b a).1) (e := (Xk b a).2.1) (eq3 h)
   exact ⟨(Xk b a).1.toNat, by omega, by omega⟩
  ·exact ⟨0, by rw [XcJ h]; rfl, by omega⟩
 ·rw [X7n he]
  exact ⟨0, rfl, by omega⟩
theorem Xef {b : List UInt8} {a limit : Int} (h0 : 0 ≤ a) (h : (rkI b a 0 limit).2.2 = 0) : 0 ≤ (rkI b a 0 limit).2.1 ∧ (rkI b a 0 limit).2.1 ≤ b.length := by
 have := X6V (b := b) (a := a) (limit := limit) (k := (rkI b a 0 limit).1) (a1 := (rkI b a 0 limit).2.1) h0 (eq3 h)
 have h2 := this.1.2.2.1
 omega
theorem Xer {b : List UInt8} {a e : Int} (h0 : e = 0 → 0 ≤ a) (h : (UJ b a e).2.2 = 0) : 0 ≤ (UJ b a e).2.1 ∧ (UJ b a e).2.1 ≤ b.length := by
 have he : e = 0 := by
  by_cases he : e = 0
  ·exact he
  ·exfalso
   unfold UJ at h
   simp only at h
   have z5 := XaT (b := b) (n := (riS b _ _).1) (m := (riS b _ _).2.1) (eq3 h)
   have z4 := X0W (b := b) (s := (rsS b _ _).1) (m := (rsS b _ _).2.1) (eq3 z5)
   have z3 := X0W (b := b) (s := (rsS b _ _).1) (m := (rsS b _ _).2.1) (eq3 z4)
   have z2 := X0W (b := b) (s := (rsS b _ _).1) (m := (rsS b _ _).2.1) (eq3 z3)
   have z1 := X0W (b := b) (s := (rsS b _ _).1) (m := (rsS b _ _).2.1) (eq3 z2)
   exact he (XbO (b := b) (k := (rkI b a e 7).1) (m := (rkI b a e 7).2.1) (eq3 z1))
 subst he
 have := Xcd (b := b) (a := a) (r := (UJ b a 0).1) (at_ := (UJ b a 0).2.1) (h0 rfl) (eq3 h)
 have h2 := this.1.2.2.1
 have h3 := h0 rfl
 omega
theorem X6b {b : List UInt8} : ∀ (n : Nat) (a e : Int), (e = 0 → 0 ≤ a ∧ a ≤ b.length) → (∀ c ∈ (Vd b n a e).1, X3C c) ∧ ((Vd b n a e).1.length : Int) ≤ b.length + 1 ∧ (e = 0 → ((Vd b n a e).1.length : Int) ≤ b.length + 1 - a)
 | 0, a, e, h => by rw [Vd]; exact ⟨by simp, by simp; omega, fun he => by have := h he; simp; omega⟩
 | n + 1, a, e, h => by
  rw [Vd]
  by_cases he : e = 0
  ·subst he
   rw [if_neg (by simp)]
   have h1 := h rfl
   have hp := fun hz => XaL (b := b) (a := a) h1.1 hz
   have ih := X6b (b := b) n (YT b a 0).2.1 (YT b a 0).2.2 (fun hz => by have := hp hz; omega)
   have hc := Xfy b a 0
   generalize YT b a 0 = c at *
   by_cases hz : c.2.2 = 0
   ·have h2 := hp hz
    have h3 := ih.2.2 hz
    refine ⟨fun x hx => ?_, ?_, fun _ => ?_⟩
    rotate_left
    ·simp only [List.length_cons]; omega
    ·simp only [List.length_cons]; omega
    rcases List.mem_cons.1 hx with rfl | hx
    ·exact hc
    ·exact ih.1 x hx
   ·rw [Xas hz]
    refine ⟨fun x hx => ?_, by simp; omega, fun _ => by simp; omega⟩
    simp at hx
    subst hx
    exact hc
  ·rw [if_pos he]
   exact ⟨by simp, by simp; omega, fun h => absurd h he⟩
theorem XhW (b : List UInt8) (hb : b.length ≤ 1073741824) : Con Tryz.prog 73 [] [.d (Xf b)] [] (.tup [Yz (rdS b).1, ai (rdS b).2]) := by
 refine Xa (xs := [Yz (rdS b).1, ai (rdS b).2]) Tryz.func73 rfl Tryz.ntmps73 rfl rfl rfl (fun E => ?_)
 have hb' : b.length ≤ 281474976710656 := by omega
 have hlm : (b.map X6).length = b.length := by simp
 have hk := Xh4 b 0 0 3 hb' (fun _ => by omega)
 have hkp := fun h => Xef (b := b) (a := 0) (limit := 3) (by omega) h
 unfold rdS
 generalize hX : rdX b = X
 unfold rdX at hX
 generalize rkI b 0 0 3 = k at *
 obtain ⟨kd, a1, e1⟩ := k
 simp only at hk hkp hX
 have ht := Xbl b a1 e1 hb'
 have htp := fun h => X5M (b := b) (a := a1) (e := e1) h
 generalize rnS b a1 e1 = t at *
 obtain ⟨ts, a2, e2⟩ := t
 simp only at ht htp hX
 refine Qka ?_; refine Qx ?_; refine Zx ?_; refine ZA (γ := 101) ?_; refine Qx ?_; refine Z9 (hcon := hk) ?_; refine Z1 ?_; refine Z9 (hcon := ht) ?_; refine Zx ?_; refine QWd ?_; refine Qzb ?_; refine JD ?_
 refine X9X ⟨85, [(0, .d (Xf b)), (2, .ptr 100 0), (4, .ptr 101 0), (5, .ptr 102 0)], [(100, .box [ai 0, ai 0, ani, ai 0, ai 0, Xc [], Xc [], Xc [], Xc [], ab false]), (101, oRd b X.2.1 X.2.2), (102, .box [ai X.1.kind, ai X.1.ts, .d (.sl 10 (X.1.changes.map XT)), ai X.1.rule.kind, ai X.1.rule.n, Xc X.1.rule.name, Xc X.1.rule.key, Xc X.1.rule.src, Xc X.1.rule.dst, ab X.1.off])]⟩ ?_ ?_
 ·by_cases k1 : kd = 1
  ·rw [if_pos k1] at hX
   have hn := Xbl b a2 e2 hb'
   have hnp := fun h => X5M (b := b) (a := a2) (e := e2) h
   have hnn := Xcv b a2 e2
   generalize rnS b a2 e2 = nn at *
   obtain ⟨n, a3, e3⟩ := nn
   obtain ⟨m, hm, hml⟩ := hnn
   simp only at hm hn hnp hX
   subst hm
   rw [Int.toNat_natCast] at hX
   have hall := X6b (b := b) m a3 e3 (fun h => hnp h)
   generalize hL : Vd b m a3 e3 = L at *
   refine X5 ?_; refine Qla ?_; refine Qf ?_; refine Z9 (hcon := hn) ?_; refine Qc ?_; refine X5 ?_; refine Xi (X0a 102 2 103 10 rfl rfl rfl rfl rfl) ?_
   refine Xu (ι := List Chg × Nat × Int × Int) (fun q => q.1 ++ (Vd b q.2.1 q.2.2.1 q.2.2.2).1 = L.1 ∧ (Vd b q.2.1 q.2.2.1 q.2.2.2).2 = L.2 ∧ (q.2.2.2 = 0 → 0 ≤ q.2.2.1 ∧ q.2.2.1 ≤ b.length) ∧ q.2.1 ≤ 9223372036854775807)
    (fun q => ⟨85, [(0, .d (Xf b)), (2, .ptr 100 0), (4, .ptr 101 0), (5, .ptr 102 0), (6, ai q.2.1)], [(100, .box [ai 0, ai 0, ani, ai 0, ai 0, Xc [], Xc [], Xc [], Xc [], ab false]), (101, oRd b q.2.2.1 q.2.2.2), (102, .box [ai kd, ai ts, .own 103 (q.1.map XT).length, ai 0, ai 0, Xc [], Xc [], Xc [], Xc [], ab false]), (103, .row 10 (q.1.map XT))]⟩) (fun q => q.2.1) ([], m, a3, e3)
    ⟨by rw [hL]; rfl, by rw [hL], hnp, hml⟩
    (X9 rfl JM ⟨rfl, rfl, rfl, rfl, trivial⟩) ?_
   rintro ⟨acc, j, a, e⟩ ⟨h1, h2, h3, h4⟩
   simp only at h1 h2 h3 h4
   have fin : j = 0 ∨ e ≠ 0 → L = (acc, a, e) := by
    intro h
    have : Vd b j a e = ([], a, e) := by
     rcases h with rfl | h
     ·rfl
     ·exact Xas h
    rw [this] at h1 h2
    simp only [List.append_nil] at h1
    exact Prod.ext h1.symm h2.symm
   by_cases hj : j = 0
   ·subst hj
    have hLL := fin (.inl rfl)
    subst hLL
    refine Qg ?_; refine Zs ?_; refine Qca ?_; refine QLa ?_; refine Qm ?_; refine St.le_trans (XL 103 rfl) ?_; refine St.le_trans (Vn 102 2 103 rfl rfl rfl rfl) ?_
    subst hX
    exact X9 rfl JM ⟨rfl, rfl, rfl, trivial⟩
   by_cases he : e = 0
   case neg =>
    have hLL := fin (.inr he)
    subst hLL
    have hj' : (0 : Int) < j := by omega
    refine Qg ?_; refine Zs ?_; refine Qy ?_; refine Qgd ?_; refine Zn ?_; refine Qm ?_; refine St.le_trans (XL 103 rfl) ?_; refine St.le_trans (Vn 102 2 103 rfl rfl rfl rfl) ?_
    subst hX
    exact X9 rfl JM ⟨rfl, rfl, rfl, trivial⟩
   subst he
   obtain ⟨i, rfl⟩ : ∃ i, j = i + 1 := ⟨j - 1, by omega⟩
   have h5 := h3 rfl
   have hc := Xgn b a 0 hb' (fun _ => h5)
   have hcp := fun h => XaL (b := b) (a := a) h5.1 h
   rw [Vd, if_neg (by simp)] at h1 h2
   generalize YT b a 0 = c at *
   obtain ⟨c, a', e'⟩ := c
   simp only at hc hcp h1 h2
   have hroom : (acc.map XT).length ≤ 1073741825 := by
    have := congrArg List.length h1
    simp only [List.length_append, List.length_cons] at this
    simp only [List.length_map]
    omega
   have happ : (acc ++ [c]).map XT = acc.map XT ++ [XT c] := by simp
   obtain ⟨op, id, src, dst, name, ⟨xk, xn, xd, xs, xl⟩⟩ := c
   simp only [Ye] at hc
   have hj' : (0 : Int) < (i + 1 : Nat) := by omega
   refine Qg ?_; refine Zs ?_; refine Qy ?_; refine Qgd ?_; refine Zn ?_; refine Qlb ?_; refine QUc ?_; refine Z1 ?_; refine Z9 (hcon := hc) ?_; refine Qpd ?_; refine Qhd ?_; refine Ql ?_; refine Z4 (op := .sub) (r' := nj i) (u := .int .i64 ((i + 1 : Nat) : Int)) (v := .int .i64 1) ?_ (hr' := by exact congrArg (Value.int .i64) (show (((i + 1 : Nat) : Int) - 1) = (i : Int) by omega)) (hr := by exact X0M (by unfold U6; omega)); refine Qc ?_
   refine ⟨(acc ++ [_], i, a', e'), ⟨by simpa using h1, h2, (fun h => by have := hcp h; exact ⟨by omega, by omega⟩ : e' = 0 → 0 ≤ a' ∧ a' ≤ b.length), (by omega : i ≤ 9223372036854775807)⟩, by show i < i + 1; omega, ?_⟩
   dsimp only
   rw [happ]
   exact X9 rfl JM ⟨rfl, rfl, by refine Eq.trans (b := AObj.box [_, _, .own 103 (_ + _), _, _, _, _, _, _, _]) rfl ?_; simp only [List.length_append, List.length_map, List.length_cons, List.length_nil], rfl, trivial⟩
  by_cases k2 : kd = 2
  ·rw [if_neg k1, if_pos k2] at hX
   have hr := Xc6 b a2 e2 hb' htp
   have hrp := fun h => Xer (b := b) (a := a2) (e := e2) (fun he => (htp he).1) h
   generalize UJ b a2 e2 = r at *
   obtain ⟨r, a3, e3⟩ := r
   simp only at hr hrp hX
   have ho := XbX b a3 e3 hb' hrp
   generalize roS b a3 e3 = o at *
   obtain ⟨o, a4, e4⟩ := o
   obtain ⟨k, n, name, key, src, dst⟩ := r
   simp only [Uv] at hr ho hX
   subst hX
   refine X5 ?_; refine Qra ?_; refine Qla ?_; refine Qf ?_; refine Z9 (hcon := hr) ?_; refine Qhd ?_; refine Ql ?_; refine Z9 (hcon := ho) ?_; refine Qhd ?_; refine St.le_trans (XJ 102 (cs' := [ai kd, ai ts, .d (.sl 10 []), ai k, ai n, Xc name, Xc key, Xc src, Xc dst, ab o]) rfl JM rfl) ?_; exact X9 rfl JM ⟨rfl, rfl, rfl, trivial⟩
  rw [if_neg k1, if_neg k2] at hX
  subst hX
  refine X5 ?_; refine Qra ?_; refine Qra ?_; refine X4 ?_; refine St.le_trans (XJ 102 (cs' := [ai kd, ai ts, .d (.sl 10 []), ai 0, ai 0, Xc [], Xc [], Xc [], Xc [], ab false]) rfl JM rfl) ?_; exact X9 rfl JM ⟨rfl, rfl, rfl, trivial⟩
 have hXok : Vx X.1 := by
  subst hX
  split
  ·have hz := fun h => X5M (b := b) (a := a2) (e := e2) h
   have := X6b (b := b) (rnS b a2 e2).1.toNat (rnS b a2 e2).2.1 (rnS b a2 e2).2.2 (fun h => hz h)
   exact ⟨by simp only; omega, this.1⟩
  ·split <;> exact ⟨by simp, by simp⟩
 have hc := X76 X.1 hXok
 clear hX hXok hk hkp ht htp
 obtain ⟨x, a, e⟩ := X
 by_cases he : e = 0
 case neg =>
  rw [Xi4 he]
  clear hc
  obtain ⟨kd, ts, l, ⟨k, n, name, key, src, dst⟩, off⟩ := x
  simp only [Yz]
  repeat first | refine X0 ?_ | (refine JR ?_; (repeat first | refine Z1 ?_ | refine Z0 ?_ | refine Z01 ?_ | refine ZB ?_ | refine ZC ?_ | refine Zl ?_ | refine Zv ?_ | refine Zy ?_ | refine Zx ?_ | refine Zq ?_ | refine Zo ?_); refine JD ?_) | refine JT ?_ | refine JF ?_ | refine X4 ?_
  exact QXd
 subst he
 by_cases ha : a < b.length
 ·rw [XgR ha]
  have ha' : a < (b.map X6).length := by omega
  clear hc
  obtain ⟨kd, ts, l, ⟨k, n, name, key, src, dst⟩, off⟩ := x
  simp only [Yz]
  repeat first | refine X0 ?_ | (refine JR ?_; (repeat first | refine Z1 ?_ | refine Z0 ?_ | refine Z01 ?_ | refine ZB ?_ | refine ZC ?_ | refine Zd ?_ | refine Z8 ?_ | refine Zl ?_ | refine Zv ?_ | refine Zy ?_ | refine Zx ?_ | refine Zn ?_); refine JD ?_) | refine JT ?_ | refine JF ?_ | refine X4 ?_
  exact QXd
 have ha' : ¬ a < (b.map X6).length := by omega
 by_cases h3 : Yy x = 0
 ·rw [X8j ha h3]
  simp only at hc
  rw [h3] at hc
  obtain ⟨kd, ts, l, ⟨k, n, name, key, src, dst⟩, off⟩ := x
  simp only [Yz] at hc ⊢
  repeat first | refine X0 ?_ | (refine JR ?_; (repeat first | refine Z1 ?_ | refine Z0 ?_ | refine Z01 ?_ | refine ZB ?_ | refine ZC ?_ | refine ZL ?_ | refine Zd ?_ | refine Z8 ?_ | refine Zl ?_ | refine Zv ?_ | refine Zy ?_ | refine Zn ?_ | refine Z9 (hcon := hc) ?_); refine JD ?_) | refine JT ?_ | refine JF ?_ | refine X4 ?_
  exact X1 ⟨_, St.le_refl _, ⟨⟨100, 0, _, rfl, rfl, .inr ⟨10, _, rfl, rfl, rfl, rfl⟩⟩, rfl, trivial⟩, X3 _⟩
 ·rw [Xie ha h3]
  simp only at hc
  generalize Yy x = ce at *
  obtain ⟨kd, ts, l, ⟨k, n, name, key, src, dst⟩, off⟩ := x
  simp only [Yz] at hc ⊢
  repeat first | refine X0 ?_ | (refine JR ?_; (repeat first | refine Z1 ?_ | refine Z0 ?_ | refine Z01 ?_ | refine ZB ?_ | refine ZC ?_ | refine ZL ?_ | refine Zd ?_ | refine Z8 ?_ | refine Zl ?_ | refine Zv ?_ | refine Zy ?_ | refine Zx ?_ | refine Zn ?_ | refine Z9 (hcon := hc) ?_); refine JD ?_) | refine JT ?_ | refine JF ?_ | refine X4 ?_
  exact QXd
open Go
structure At (b : List UInt8) (q : Nat) (w : List UInt8) : Prop where
 le : q ≤ b.length
 eq : b.drop q = w
theorem At.step {b : List UInt8} {q : Nat} {u w : List UInt8} (h : At b q (u ++ w)) : At b (q + u.length) w := by
 have h1 := congrArg List.length h.eq
 simp only [List.length_drop, List.length_append] at h1
 refine ⟨by have := h.le; omega, ?_⟩
 rw [← List.drop_drop, h.eq, List.drop_left]
theorem At.split {b : List UInt8} {q : Nat} {u w : List UInt8} (h : At b q (u ++ w)) : b = b.take q ++ u ++ w ∧ (b.take q).length = q := by
 refine ⟨?_, by have := h.le; simp; omega⟩
 rw [List.append_assoc, ← h.eq, List.take_append_drop]
theorem At.cons {b : List UInt8} {q : Nat} {c : UInt8} {w : List UInt8} (h : At b q (c :: w)) : b[q]? = some c ∧ At b (q + 1) w := by
 refine ⟨?_, At.step (u := [c]) h⟩
 have := congrArg (·[0]?) h.eq
 simpa using this
theorem X7d {b : List UInt8} {q : Nat} {k limit : Int} {w : List UInt8} (h : At b q (UInt8.ofNat k.toNat :: w)) (hk : 1 ≤ k ∧ k ≤ limit ∧ k ≤ 255) : rkI b q 0 limit = (k, ((q + 1 : Nat) : Int), 0) := by
 obtain ⟨h1, h2⟩ := h.cons
 have hlt := (List.getElem?_eq_some_iff.1 h1).1
 unfold rkI rkS
 rw [if_neg (by simp), if_neg (by simp), Int.toNat_natCast, if_neg (by omega), h1, Option.getD_some, UZ (by omega), if_neg (by omega)]
 simp only [Prod.mk.injEq, and_true]
 constructor
 ·omega
 ·omega
theorem X36 {b : List UInt8} {q : Nat} {n : Int} {w : List UInt8} (h : At b q (Xh n ++ w)) (hn : 0 ≤ n ∧ n ≤ 9223372036854775807) : rnS b q 0 = (n, ((q + (Xh n).length : Nat) : Int), 0) := by
 obtain ⟨h1, h2⟩ := h.split
 have := X2C hn (b.take q) w
 rw [X3j]
 rw [← h1, h2] at this
 rw [this]
 simp
theorem Xc1 {b : List UInt8} {q : Nat} {n : Int} {w : List UInt8} (h : At b q (XS n ++ w)) (hn : -9223372036854775808 ≤ n ∧ n ≤ 9223372036854775807) : riS b q 0 = (n, ((q + (XS n).length : Nat) : Int), 0) := by
 obtain ⟨h1, h2⟩ := h.split
 have := X4A hn (b.take q) w
 rw [X5T]
 rw [← h1, h2] at this
 rw [this]
 simp
theorem X2w {b : List UInt8} {q : Nat} {s : List UInt8} {w : List UInt8} (h : At b q (Xw s ++ w)) (hn : s.length ≤ 20) : rsS b q 0 = (s, ((q + (Xw s).length : Nat) : Int), 0) := by
 obtain ⟨h1, h2⟩ := h.split
 have := X7S (s := s) (most := 20) (by omega) (by omega) (b.take q) w
 rw [X6m]
 rw [← h1, h2] at this
 rw [this]
 simp
theorem XgG {b : List UInt8} {q : Nat} {v : Val} {w : List UInt8} (h : At b q (Ym v ++ w)) (hv : X8 8 v = true) : rvS b q 0 = (v, ((q + (Ym v).length : Nat) : Int), 0) := by
 obtain ⟨h1, h2⟩ := h.split
 have := Xil hv (b.take q) w
 rw [X6r]
 rw [← h1, h2] at this
 rw [this]
 simp
theorem XcR {v : Val} (h : V6 v = true) : v = zV := by
 obtain ⟨k, n, d, s, l⟩ := v
 unfold V6 at h
 rw [Bool.and_eq_true] at h
 obtain ⟨h1, h0⟩ := h
 obtain rfl : k = 0 := of_decide_eq_true h0
 rw [X8] at h1
 simp at h1
 obtain ⟨⟨⟨h2, h3⟩, h4⟩, h5⟩ := h1
 subst h2; subst h3; subst h4; subst h5
 rfl
theorem XgU {c : Chg} (h : YM c = 0) : (c.op ≠ 6 → c.src = 0 ∧ c.dst = 0) ∧ (XV c.op = false → c.name = []) ∧ (XQ c.op = false → c.v = zV) := by
 unfold YM at h
 split at h
 ·omega
 rename_i h1
 split at h
 ·omega
 rename_i h2
 split at h
 ·omega
 rename_i h3
 refine ⟨fun hk => ⟨?_, ?_⟩, fun hn => ?_, fun hv => ?_⟩
 ·by_cases he : c.src = 0
  ·exact he
  ·exact absurd (.inr ⟨hk, .inl he⟩) h2
 ·by_cases he : c.dst = 0
  ·exact he
  ·exact absurd (.inr ⟨hk, .inr he⟩) h2
 ·by_cases he : c.name = []
  ·exact he
  ·exact absurd (.inl ⟨hn, he⟩) h3
 ·refine XcR ?_
  cases hz : V6 c.v with
  | true => rfl
  | false => exact absurd (.inr ⟨hv, hz⟩) h3
theorem At.eqv {b : List UInt8} {q q' : Nat} {w w' : List UInt8} (h : At b q w) (hq : q = q') (hw : w = w') : At b q' w' := hq ▸ hw ▸ h
theorem Xgl {b : List UInt8} {q : Nat} {c : Chg} {w : List UInt8} (hc : YM c = 0) (h : At b q (Ya c ++ w)) : YT b q 0 = (c, ((q + (Ya c).length : Nat) : Int), 0) ∧ At b (q + (Ya c).length) w := by
 refine ⟨?_, h.step⟩
 obtain ⟨o1, o2, o3, o4, o5⟩ := X4H hc
 obtain ⟨z1, z2, z3⟩ := XgU hc
 obtain ⟨op, id, src, dst, name, v⟩ := c
 simp only at o1 o2 o3 o4 o5 z1 z2 z3
 have hput : Ya ⟨op, id, src, dst, name, v⟩ = UInt8.ofNat op.toNat :: (Xh id ++ ((if op = 6 then Xh src ++ Xh dst else []) ++ ((if XV op = true then Xw name else []) ++ (if XQ op = true then Ym v else [])))) := by
  unfold Ya; simp only [List.append_assoc]
 rw [hput] at h ⊢
 rw [List.cons_append] at h
 have k1 := X7d h (limit := 8) (by omega)
 have h1 := h.cons.2
 rw [List.append_assoc] at h1
 have k2 := X36 h1 (by omega)
 have h2 := h1.step
 unfold YT
 rw [k1]
 simp only
 rw [k2]
 simp only
 by_cases h6 : op = 6
 ·subst h6
  have s3 := o3 rfl
  have hn := o4 rfl
  have hv := z3 rfl
  subst hv
  simp only [if_true, show XV 6 = true by decide, show XQ 6 = false by decide, Bool.false_eq_true, if_false, List.append_nil] at h2 ⊢
  rw [List.append_assoc, List.append_assoc] at h2
  have k3 := X36 h2 (by omega)
  have h3 := h2.step
  have k4 := X36 h3 (by omega)
  have h4 := h3.step
  have k5 := X2w h4 hn
  rw [k3]
  simp only
  rw [k4]
  simp only
  rw [k5]
  simp only [Prod.mk.injEq, true_and, and_true, List.length_cons, List.length_append]
  omega
 ·have z1 := z1 h6
  obtain ⟨rfl, rfl⟩ := z1
  simp only [if_neg h6, List.nil_append] at h2 ⊢
  by_cases hn : XV op = true
  ·simp only [if_pos hn] at h2 ⊢
   rw [List.append_assoc] at h2
   have k5 := X2w h2 (o4 hn)
   have h3 := h2.step
   rw [k5]
   simp only
   by_cases hv : XQ op = true
   ·simp only [if_pos hv] at h3 ⊢
    have k6 := XgG h3 (o5 hv).1
    rw [k6]
    simp only [Prod.mk.injEq, true_and, and_true, List.length_cons, List.length_append]
    omega
   ·simp only [if_neg hv, List.append_nil] at h3 ⊢
    have := z3 (by simpa using hv)
    subst this
    simp only [Prod.mk.injEq, true_and, and_true, List.length_cons, List.length_append]
    omega
  ·have hv : ¬ XQ op = true := by revert hn; unfold XV XQ; simp; omega
   simp only [if_neg hn, if_neg hv, List.append_nil, List.nil_append] at h2 ⊢
   have e1 := z2 (by simpa using hn)
   have e2 := z3 (by simpa using hv)
   subst e1
   subst e2
   simp only [Prod.mk.injEq, true_and, and_true, List.length_cons, List.length_append]
   omega
theorem Xf3 {b : List UInt8} {q : Nat} {r : Rul} {w : List UInt8} (hr : V2 r = 0) (h : At b q (Ua r ++ w)) : UJ b q 0 = (r, ((q + (Ua r).length : Nat) : Int), 0) ∧ At b (q + (Ua r).length) w := by
 refine ⟨?_, h.step⟩
 obtain ⟨o1, ⟨l1, l2, l3, l4⟩, o3⟩ := X2o hr
 obtain ⟨k, n, name, key, src, dst⟩ := r
 simp only at o1 l1 l2 l3 l4 o3
 have hput : Ua ⟨k, n, name, key, src, dst⟩ = UInt8.ofNat k.toNat :: (Xw name ++ (Xw key ++ (Xw src ++ (Xw dst ++ XS n)))) := by
  unfold Ua; simp only [List.append_assoc]
 rw [hput] at h ⊢
 rw [List.cons_append] at h
 have k1 := X7d h (limit := 7) (by omega)
 have h1 := h.cons.2
 simp only [List.append_assoc] at h1
 have k2 := X2w h1 l1
 have h2 := h1.step
 have k3 := X2w h2 l2
 have h3 := h2.step
 have k4 := X2w h3 l3
 have h4 := h3.step
 have k5 := X2w h4 l4
 have h5 := h4.step
 have k6 := Xc1 h5 o1
 unfold UJ
 rw [k1]
 simp only
 rw [k2]
 simp only
 rw [k3]
 simp only
 rw [k4]
 simp only
 rw [k5]
 simp only
 rw [k6]
 simp only [Prod.mk.injEq, true_and, and_true, List.length_cons, List.length_append]
 omega
theorem X8B {b : List UInt8} : ∀ (l : List Chg) (q : Nat) (w : List UInt8), (∀ c ∈ l, YM c = 0) → At b q (YV l ++ w) → Vd b l.length q 0 = (l, ((q + (YV l).length : Nat) : Int), 0) ∧ At b (q + (YV l).length) w
 | [], q, w, _, h => ⟨rfl, h⟩
 | c :: l, q, w, hc, h => by
  have hput : YV (c :: l) = Ya c ++ YV l := rfl
  rw [hput, List.append_assoc] at h
  obtain ⟨h1, h2⟩ := Xgl (hc c (by simp)) h
  obtain ⟨h3, h4⟩ := X8B l _ w (fun x hx => hc x (by simp [hx])) h2
  rw [hput, List.length_append]
  refine ⟨?_, by rw [← Nat.add_assoc]; exact h4⟩
  rw [List.length_cons, Vd, if_neg (by simp), h1]
  simp only
  rw [h3]
  simp only [Prod.mk.injEq, true_and, and_true]
  omega
theorem X87 {r : Rul} (h : X0G r = true) : r = zR := by
 obtain ⟨k, n, name, key, src, dst⟩ := r
 unfold X0G at h
 have := of_decide_eq_true h
 simp only at this
 obtain ⟨rfl, rfl, rfl, rfl, rfl, rfl⟩ := this
 rfl
theorem XfV {r : Rcd} (h : Yy r = 0) : rdS (Uu r) = (r, 0) := by
 obtain ⟨hkd, hts, h1, h2, h3, h4⟩ := X7o h
 have hX : rdX (Uu r) = (r, ((Uu r).length : Int), 0) := by
  obtain ⟨kd, ts, l, rl, off⟩ := r
  simp only at hkd hts h1 h2 h3 h4
  generalize hb : Uu ⟨kd, ts, l, rl, off⟩ = b
  have hA : At b 0 (Uu ⟨kd, ts, l, rl, off⟩) := ⟨by omega, by rw [hb]; rfl⟩
  unfold Uu at hA hb
  simp only at hA hb
  have k1 := X7d hA (limit := 3) (by omega)
  have a1 := hA.cons.2
  have k2 := X36 a1 (by omega)
  have a2 := a1.step
  unfold rdX
  rw [show ((0 : Nat) : Int) = 0 from rfl] at k1
  rw [k1]
  simp only
  rw [k2]
  simp only
  rcases hkd with rfl | rfl | rfl
  ·obtain ⟨h1, hl⟩ := h1 (by decide)
   simp only [if_true] at a2 hb ⊢
   have k3 := X36 a2 (n := (l.length : Nat)) (by omega)
   have a3 := a2.step
   rw [k3]
   simp only [Int.toNat_natCast]
   obtain ⟨k4, a4⟩ := X8B l _ [] h1 (by rw [List.append_nil]; exact a3)
   rw [k4]
   obtain ⟨e1, e2⟩ := h4 (by decide)
   subst e1
   have e2 := X87 e2
   subst e2
   simp only [Prod.mk.injEq, true_and, and_true]
   rw [← hb]
   simp only [List.length_cons, List.length_append]
   omega
  ·have h2 := h2 rfl
   obtain rfl := h3 (by decide)
   simp only [show ¬ ((2 : Int) = 1) by omega, if_false, if_true] at a2 hb ⊢
   obtain ⟨k4, a4⟩ := Xf3 h2 a2
   rw [k4]
   simp only
   have hro : roS b ((0 + 1 + (Xh ts).length + (Ua rl).length : Nat) : Int) 0 = (off, ((0 + 1 + (Xh ts).length + (Ua rl).length + 1 : Nat) : Int), 0) := by
    obtain ⟨c1, c2⟩ := a4.cons
    have hlt := (List.getElem?_eq_some_iff.1 c1).1
    unfold roS
    rw [if_neg (by simp), if_neg (by omega), Int.toNat_natCast, c1, Option.getD_some]
    cases off <;> simp <;> omega
   rw [hro]
   simp only [Prod.mk.injEq, true_and, and_true]
   rw [← hb]
   simp only [List.length_cons, List.length_append, List.length_nil]
   omega
  ·obtain rfl := h3 (by decide)
   obtain ⟨e1, e2⟩ := h4 (by decide)
   subst e1
   have e2 := X87 e2
   subst e2
   simp only [show ¬ ((3 : Int) = 1) by omega, show ¬ ((3 : Int) = 2) by omega, if_false] at a2 hb ⊢
   simp only [Prod.mk.injEq, true_and, and_true]
   rw [← hb]
   simp only [List.length_cons, List.length_append, List.length_nil]
   omega
 unfold rdS
 rw [hX]
 exact X8j (by omega) h
structure Wr where
 at_ : Int
 b : List UInt8
structure Disk where
 sectors : List (List UInt8)
 pending : List Wr
 on : Bool
abbrev Yj (l : List UInt8) : List D := [Xf l]
abbrev cWr (w : Wr) : List D := [.v (.int .i64 w.at_), Xf w.b]
abbrev XE (l : List (List UInt8)) : D := .sl 1 (l.map Yj)
abbrev XA (l : List Wr) : D := .sl 2 (l.map cWr)
abbrev XK (d : Disk) : AVal := .agg [.d (XE d.sectors), .d (XA d.pending), ab d.on]
def Yp (d : Disk) : Bool :=
 decide (1 ≤ d.sectors.length ∧ d.sectors.length ≤ 4096 ∧ (d.on = true ∨ d.pending.length = 0) ∧ (∀ s ∈ d.sectors, s.length = 64) ∧
  ∀ w ∈ d.pending, 0 ≤ w.at_ ∧ w.at_ < d.sectors.length ∧ w.b.length = 64)
theorem X4d {α : Type} {l : List α} {p : α → Prop} (h : ∀ (i : Nat) (x : α), l[i]? = some x → p x) : ∀ x ∈ l, p x := by
 intro x hx
 obtain ⟨i, hi⟩ := List.getElem?_of_mem hx
 exact h i x hi
theorem Xaz {secs : List (List UInt8)} {pend : List Wr} {on : Bool} {k : Nat} {w : Wr} (hw : pend[k]? = some w) (hb : ¬ (0 ≤ w.at_ ∧ w.at_ < secs.length ∧ w.b.length = 64)) : Yp ⟨secs, pend, on⟩ = false := by
 simp only [Yp, decide_eq_false_iff_not]
 exact fun hf => hb (hf.2.2.2.2 w (List.mem_of_getElem? hw))
theorem XaI {secs : List (List UInt8)} {pend : List Wr} {on : Bool} {k : Nat} {s : List UInt8} (hw : secs[k]? = some s) (hb : s.length ≠ 64) : Yp ⟨secs, pend, on⟩ = false := by
 simp only [Yp, decide_eq_false_iff_not]
 exact fun hf => hb (hf.2.2.2.1 s (List.mem_of_getElem? hw))
theorem X1a (d : Disk) : Con Tryz.prog 53 [] [XK d] [] (ab (Yp d)) := by
 obtain ⟨secs, pend, on⟩ := d
 refine Xa (xs := [ab (Yp ⟨secs, pend, on⟩)]) Tryz.func53 rfl Tryz.ntmps53 rfl rfl rfl (fun E => ?_)
 by_cases hok : 1 ≤ secs.length ∧ secs.length ≤ 4096 ∧ (on = true ∨ pend.length = 0)
 case neg =>
  have hv : Yp ⟨secs, pend, on⟩ = false := by simp only [Yp, decide_eq_false_iff_not]; exact fun h => hok ⟨h.1, h.2.1, h.2.2.1⟩
  by_cases h1 : secs.length < 1
  ·repeat first | refine X0 ?_ | (refine JR ?_; (repeat first | refine Z1 ?_ | refine Z0 ?_ | refine ZB ?_ | refine ZC ?_ | refine Zd ?_ | refine Z8 ?_ | refine ZA (γ := 100) ?_ | refine Zn ?_ | refine Zo ?_ | refine Zp ?_); refine JD ?_) | refine JT ?_
   exact QYd
  by_cases h2 : 4096 < secs.length
  ·refine QAb ?_; refine Qob ?_; refine QKa ?_; refine Zd ?_; refine Qba ?_; refine Qca ?_; refine QZd ?_; exact QYd
  have h3 : 0 < pend.length := by
   rcases Nat.eq_zero_or_pos pend.length with h | h
   ·exact (hok ⟨by omega, by omega, .inr h⟩).elim
   ·exact h
  cases on with
  | true => exact (hok ⟨by omega, by omega, .inl rfl⟩).elim
  | false =>
   refine QAb ?_; refine Qae ?_; refine QKa ?_; refine QUa ?_; refine Zn ?_; refine Zq ?_; refine Qq ?_; exact QYd
 obtain ⟨k1, k2, k3⟩ := hok
 refine X9a 0 1 rfl rfl (fun hmx => ?_)
 simp only [List.length_map] at hmx
 refine QGa ?_
 refine Xbc ⟨64, [(1, .ptr 100 0)], [(100, .box [.d (XE secs), .d (XA pend), ab on])]⟩ ?_ ?_
 ·cases on with
  | true =>
   refine QIa ?_; refine Qae ?_; refine Qvc ?_; exact Qbe
  | false =>
   have k4 : pend.length = 0 := by simpa using k3
   refine QIa ?_; refine Qae ?_; refine QKa ?_; refine QUa ?_; refine Zn ?_; exact Qbe
 refine QMd ?_
 refine Xu (fun k : Nat => k ≤ secs.length ∧ ∀ (i : Nat) s, i < k → secs[i]? = some s → s.length = 64) (fun k => ⟨64, [(1, .ptr 100 0), (29, .d (XE secs)), (30, ai (secs.map Yj).length), (31, ai k)], [(100, .box [.d (XE secs), .d (XA pend), ab on])]⟩) (fun k => secs.length - k) 0 ⟨by omega, by omega⟩
  (X9 rfl ⟨JL, JL, JL, JL, trivial⟩ ⟨rfl, trivial⟩) ?_
 rintro k ⟨hk, hp⟩
 refine QB ?_
 refine VB rfl (fun h => ?_) (fun h => ?_)
 ·have h := of_decide_eq_true h
  simp only [List.length_map] at h
  obtain ⟨s, hs⟩ := Xx (l := secs) (k := k) (by omega)
  by_cases h3 : s.length ≠ 64
  ·have hv := XaI (pend := pend) (on := on) hs h3
   refine Qce ?_; refine QE ?_; refine Qx ?_; refine Zd ?_; refine Zv ?_; refine Qq ?_; exact QYd
  ·have h3 : s.length = 64 := by simpa using h3
   refine Qce ?_; refine QE ?_; refine Qx ?_; refine Zd ?_; refine QEb ?_; refine QK ?_
   refine ⟨k + 1, ⟨by omega, fun i t hi ht => ?_⟩, by omega, X9 rfl ⟨JL, JL, JL, JL, trivial⟩ ⟨rfl, trivial⟩⟩
   by_cases hik : i = k
   ·subst hik; rw [hs] at ht; cases ht; omega
   ·exact hp i t (by omega) ht
 have h := of_decide_eq_false h
 simp only [List.length_map] at h
 obtain rfl : k = secs.length := by omega
 have hp1 : ∀ s ∈ secs, s.length = 64 := X4d fun i x hx => hp i x (List.getElem?_eq_some_iff.1 hx).1 hx
 refine Xp ?_; refine QMd ?_
 refine Xu (fun k : Nat => k ≤ pend.length ∧ ∀ (i : Nat) w, i < k → pend[i]? = some w → 0 ≤ w.at_ ∧ w.at_ < secs.length ∧ w.b.length = 64) (fun k => ⟨64, [(1, .ptr 100 0), (40, .d (XA pend)), (41, ai (pend.map cWr).length), (42, ai k)], [(100, .box [.d (XE secs), .d (XA pend), ab on])]⟩) (fun k => pend.length - k) 0 ⟨by omega, by omega⟩
  (X9 rfl ⟨JL, JL, JL, JL, trivial⟩ ⟨rfl, trivial⟩) ?_
 rintro k ⟨hk, hq⟩
 refine QB ?_
 refine VB rfl (fun h => ?_) (fun h => ?_)
 ·have h := of_decide_eq_true h
  simp only [List.length_map] at h
  obtain ⟨w, hw⟩ := Xx (l := pend) (k := k) (by omega)
  by_cases hb : 0 ≤ w.at_ ∧ w.at_ < secs.length ∧ w.b.length = 64
  ·obtain ⟨b1, b2, b3⟩ := hb
   refine Qde ?_; refine Z2 ?_; refine QAc ?_; refine Zd ?_; refine Zv ?_; refine Qha ?_; refine QK ?_
   refine ⟨k + 1, ⟨by omega, fun i t hi ht => ?_⟩, by omega, X9 rfl ⟨JL, JL, JL, JL, trivial⟩ ⟨rfl, trivial⟩⟩
   by_cases hik : i = k
   ·subst hik; rw [hw] at ht; cases ht; exact ⟨b1, b2, b3⟩
   ·exact hq i t (by omega) ht
  ·have hv := Xaz (secs := secs) (on := on) hw hb
   by_cases c1 : w.at_ < 0
   ·refine Qce ?_; refine QVa ?_; refine Qrd ?_; refine QIa ?_; refine Z8 ?_; refine QMa ?_; refine Zn ?_; refine Qda ?_; refine Qq ?_; exact QYd
   by_cases c2 : (secs.length : Int) ≤ w.at_
   ·refine Qde ?_; refine Z2 ?_; refine Zq ?_; refine Qda ?_; refine Qq ?_; exact QYd
   have c3 : w.b.length ≠ 64 := fun h => hb ⟨by omega, by omega, h⟩
   refine Qde ?_; refine Z2 ?_; refine QAc ?_; refine Zd ?_; refine Zv ?_; refine Zq ?_; refine Qq ?_; exact QYd
 have h := of_decide_eq_false h
 simp only [List.length_map] at h
 obtain rfl : k = pend.length := by omega
 have hp2 : ∀ w ∈ pend, 0 ≤ w.at_ ∧ w.at_ < secs.length ∧ w.b.length = 64 := X4d fun i x hx => hq i x (List.getElem?_eq_some_iff.1 hx).1 hx
 have hv : Yp ⟨secs, pend, on⟩ = true := by
  simp only [Yp, decide_eq_true_eq]
  exact ⟨k1, k2, k3, hp1, hp2⟩
 refine Xp ?_; refine Qd ?_; exact QYd
def YF (d : Disk) : Int := if Yp d then (if d.on then 0 else 22) else 1
theorem X0j (d : Disk) : Con Tryz.prog 57 [] [XK d] [] (ai (YF d)) := by
 obtain ⟨secs, pend, on⟩ := d
 refine Xa (xs := [ai (YF ⟨secs, pend, on⟩)]) Tryz.func57 rfl Tryz.ntmps57 rfl rfl rfl (fun E => ?_)
 cases hv : Yp ⟨secs, pend, on⟩ with
 | true =>
  cases on with
  | true =>
   refine QGa ?_; refine Qe ?_; refine Qgb ?_; refine Z9 (hcon := X1a ⟨secs, pend, true⟩) ?_; refine Qee ?_; refine Qza ?_; refine JF ?_; refine QKc ?_; exact Qfe
  | false =>
   refine QGa ?_; refine Qe ?_; refine Qgb ?_; refine Z9 (hcon := X1a ⟨secs, pend, false⟩) ?_; refine Qee ?_; refine Qza ?_; refine QFb ?_; exact Qfe
 | false =>
  refine QGa ?_; refine Qe ?_; refine Qgb ?_; refine Z9 (hcon := X1a ⟨secs, pend, on⟩) ?_; refine Qza ?_; refine QFb ?_; exact Qfe
theorem X8e (xs : List (List D)) (hl : xs.length ≤ 140737488355328) : Con Tryz.prog 58 [] [.d (.sl 1 xs)] [(110, .row 1 xs)] (.own 110 xs.length) := by
 have h : Con Tryz.prog 58 [] [.d (.sl 1 xs)] [(100, .row 1 xs)] (.own 100 xs.length) := by
  refine Xa (xs := [.own 100 xs.length]) Tryz.func58 rfl Tryz.ntmps58 rfl rfl rfl (fun E => ?_)
  refine Qo ?_; refine Z07 ?_; refine JD ?_
  refine X5N rfl (fun h => ?_) (fun _ => ?_)
  ·subst h
   refine Qd ?_; refine X1 ?_; exact ⟨_, UM 2 100 1 rfl rfl rfl, ⟨rfl, trivial⟩, Xj ⟨rfl, trivial⟩⟩
  ·refine X4 ?_; refine Qb ?_; refine ZZ (len := 0) (γ := 100) ?_; refine Z1 ?_; refine Qj ?_; refine X1 ?_
   refine ⟨_, St.le_refl _, ⟨?_, trivial⟩, Xj ⟨rfl, trivial⟩⟩
   simp only [X5L]; simp [St.get, St.set, St.own, Xl]
 exact UX 100 110 h
theorem X9h (xs : List (List D)) (hl : xs.length ≤ 140737488355328) : Con Tryz.prog 58 [] [.d (.sl 1 xs)] [] (.d (.sl 1 xs)) := by
 refine Xa (xs := [.d (.sl 1 xs)]) Tryz.func58 rfl Tryz.ntmps58 rfl rfl rfl (fun E => ?_)
 refine Qo ?_; refine Z07 ?_; refine JD ?_
 refine X5N rfl (fun h => ?_) (fun _ => ?_)
 ·subst h
  refine Qd ?_; refine X1 ?_; exact ⟨_, Xb 2 (AVal.le_nil 1), ⟨rfl, trivial⟩, X3 _⟩
 ·refine X4 ?_; refine Qb ?_; refine ZZ (len := 0) (γ := 100) ?_; refine Z1 ?_; refine Qj ?_; refine X1 ?_; exact ⟨_, St.le_trans (XL 100 rfl) (Yc 2 100 rfl rfl (by simp)), ⟨rfl, trivial⟩, X3 _⟩
theorem X4i {α : Type} {l : List α} {k : Nat} {x : α} (h : l[k]? = some x) : l.take (k + 1) = l.take k ++ [x] := by
 rw [List.take_add_one, h]; rfl
abbrev UE (d : Disk) : Prop := d.sectors.length ≤ 4096 ∧ d.pending.length ≤ 4096 ∧ (∀ s ∈ d.sectors, s.length ≤ 4096) ∧ ∀ w ∈ d.pending, w.b.length ≤ 4096
theorem X2L (d : Disk) (hl : UE d) : Con Tryz.prog 52 [] [XK d] [(120, .row 2 (d.pending.map cWr)), (121, .mat 1 (d.sectors.map fun s => s.map X6))] (.agg [.own 120 d.pending.length, .own 121 d.sectors.length, ab d.on]) := by
 obtain ⟨secs, pend, on⟩ := d
 obtain ⟨hl1, hl2, hl3, hl4⟩ := hl
 simp only at hl1 hl2 hl3 hl4
 refine Xa (xs := [.agg [.own 120 pend.length, .own 121 secs.length, ab on]]) Tryz.func52 rfl Tryz.ntmps52 rfl rfl rfl (fun E => ?_)
 refine Qge ?_; refine QIa ?_; refine Zx ?_; refine QWd ?_; refine QMd ?_; refine Xi (X0a 102 1 121 1 (cs := [ani, ani, ab on]) rfl rfl rfl rfl rfl) ?_; refine Xi (Xeo 121 1 rfl) ?_; refine Xi (X0a 102 0 120 2 (cs := [ani, .own 121 0, ab on]) rfl rfl rfl rfl rfl) ?_
 refine Xu (fun k : Nat => k ≤ secs.length) (fun k => ⟨48, [(1, .ptr 100 0), (2, .ptr 101 0), (3, .ptr 102 0), (12, .d (XE secs)), (13, ai (secs.map Yj).length), (14, ai k)], [(100, .box [.d (XE secs), .d (XA pend), ab on]), (101, .box [ani, ani, ab false]), (102, .box [.own 120 0, .own 121 k, ab on]), (120, .row 2 []), (121, .mat 1 ((secs.take k).map fun s => s.map X6))]⟩) (fun k => secs.length - k) 0 (by omega)
  (X9 rfl ⟨JL, JL, JL, JL, JL, JL, trivial⟩ ⟨rfl, rfl, rfl, rfl, rfl, trivial⟩) ?_
 intro k hk
 refine QB ?_
 refine VB rfl (fun h => ?_) (fun h => ?_)
 ·have h := of_decide_eq_true h
  simp only [List.length_map] at h
  obtain ⟨s, hs⟩ := Xx (l := secs) (k := k) (by omega)
  have hsl : s.length ≤ 4096 := hl3 s (List.mem_of_getElem? hs)
  refine Qce ?_; refine QF ?_; refine QUc ?_; refine Z1 ?_; refine Z9 (hcon := X8e (s.map X6) (by simp; omega)) ?_; refine Z03 (γ := 103) ?_; refine Z08 ?_; refine Qhd ?_; refine QK ?_
  refine ⟨k + 1, by omega, by omega, X9 rfl ⟨JL, JL, JL, JL, JL, JL, trivial⟩ ⟨rfl, rfl, ?_, rfl, ?_, trivial⟩⟩
  ·refine Eq.trans (b := AObj.box [.own 120 0, .own 121 _, ab on]) rfl ?_
   congr 3; simp; omega
  ·refine Eq.trans (b := AObj.mat 1 (_ ++ [_])) rfl ?_
   rw [X4i hs]; simp
 have h := of_decide_eq_false h
 simp only [List.length_map] at h
 obtain rfl : k = secs.length := by omega
 refine Xp ?_; refine QMd ?_
 refine Xu (fun k : Nat => k ≤ pend.length) (fun k => ⟨48, [(1, .ptr 100 0), (2, .ptr 101 0), (3, .ptr 102 0), (27, .d (XA pend)), (28, ai (pend.map cWr).length), (29, ai k)], [(100, .box [.d (XE secs), .d (XA pend), ab on]), (101, .box [ani, ani, ab false]), (102, .box [.own 120 k, .own 121 secs.length, ab on]), (120, .row 2 ((pend.take k).map cWr)), (121, .mat 1 (secs.map fun s => s.map X6))]⟩) (fun k => pend.length - k) 0 (by omega)
  (X9 rfl ⟨JL, JL, JL, JL, JL, JL, trivial⟩ ⟨rfl, rfl, rfl, rfl, (by refine Eq.trans (b := AObj.mat 1 _) rfl ?_; simp), trivial⟩) ?_
 intro k hk
 refine QB ?_
 refine VB rfl (fun h => ?_) (fun h => ?_)
 ·have h := of_decide_eq_true h
  simp only [List.length_map] at h
  obtain ⟨w, hw⟩ := Xx (l := pend) (k := k) (by omega)
  have hwl : w.b.length ≤ 4096 := hl4 w (List.mem_of_getElem? hw)
  refine Qce ?_; refine Qhe ?_; refine ZB ?_; refine Qfd ?_; refine Z9 (hcon := X9h (w.b.map X6) (by simp; omega)) ?_; refine Zx ?_; refine Qpd ?_; refine ZB ?_; refine Qhd ?_; refine QK ?_
  refine ⟨k + 1, by omega, by omega, X9 rfl ⟨JL, JL, JL, JL, JL, JL, trivial⟩ ⟨rfl, rfl, ?_, ?_, rfl, trivial⟩⟩
  ·refine Eq.trans (b := AObj.box [.own 120 _, .own 121 secs.length, ab on]) rfl ?_
   congr 3; simp; omega
  ·refine Eq.trans (b := AObj.row 2 (_ ++ [_])) rfl ?_
   rw [X4i hw]; simp
 have h := of_decide_eq_false h
 simp only [List.length_map] at h
 obtain rfl : k = pend.length := by omega
 refine Xp ?_; refine Qjd ?_
 refine X1 ⟨_, St.le_refl _, ⟨⟨101, 0, _, rfl, rfl, .inr ⟨3, _, rfl, rfl, rfl, rfl⟩⟩, trivial⟩, Xj ⟨?_, rfl, trivial⟩⟩
 refine Eq.trans (b := AObj.row 2 _) rfl ?_
 simp
theorem X9z (d : Disk) : Con Tryz.prog 54 [(0, .row 2 (d.pending.map cWr)), (1, .mat 1 (d.sectors.map fun s => s.map X6))] [.agg [.own 0 d.pending.length, .own 1 d.sectors.length, ab d.on]] [(0, .froz 2 (d.pending.map cWr)), (1, .froz 1 (d.sectors.map Yj))] (XK d) := by
 obtain ⟨secs, pend, on⟩ := d
 refine Xa (xs := [XK ⟨secs, pend, on⟩]) Tryz.func54 rfl Tryz.ntmps54 rfl rfl rfl (fun E => ?_)
 refine Qge ?_; refine QIa ?_; refine ZB ?_; refine Qed ?_; refine Zx ?_; refine QWa ?_; refine Xi (XL 0 rfl) ?_; refine Xi (Xdy 1 rfl) ?_
 refine Xi (Vn 101 0 1 (cs := [.own 1 secs.length, .own 0 pend.length, ab on]) (sz := 1) (xs := secs.map Yj) rfl rfl (by refine Eq.trans (b := AObj.froz 1 _) rfl ?_; simp) (by simp)) ?_
 refine Xi (Vn 101 1 0 (cs := [.d (XE secs), .own 0 pend.length, ab on]) (sz := 2) (xs := pend.map cWr) rfl rfl rfl (by simp)) ?_
 refine X1 ⟨_, St.le_refl _, ⟨⟨101, 0, _, rfl, rfl, .inr ⟨3, _, rfl, rfl, rfl, rfl⟩⟩, trivial⟩, Xj ⟨rfl, ?_, trivial⟩⟩
 refine Eq.trans (b := AObj.froz 1 _) rfl ?_
 simp
theorem X5g (d : Disk) : Con Tryz.prog 54 [(120, .row 2 (d.pending.map cWr)), (121, .mat 1 (d.sectors.map fun s => s.map X6))] [.agg [.own 120 d.pending.length, .own 121 d.sectors.length, ab d.on]] [(120, .froz 2 (d.pending.map cWr)), (121, .froz 1 (d.sectors.map Yj))] (XK d) := by
 have h := UX 1 121 (UX 0 120 (X9z d))
 exact h
end Go.Fw

/- The reference's Uint and Int; Str. -/
import Derived.Test.YtpfldfkhgplcgaaGreatDoorK20
import Derived.Test.YtpfldfkhgplcgaaGreatDoorK34
set_option maxHeartbeats 8000000
namespace Go.Fw
open Go Go.Proofs
set_option maxRecDepth 100000
set_option linter.unusedVariables false
set_option linter.unusedSimpArgs false
theorem Xbf {b : List UInt8} {a : Int} : Xf b a = if (Xz b a).2.2 ≠ 0 then (0, 0, (Xz b a).2.2) else if 9223372036854775807 < (Xz b a).1 then (0, 0, 4) else if U3 b a = true then (0, 0, 2) else (((Xz b a).1 : Int), (Xz b a).2.1, 0) := rfl
theorem Xfq {b : List UInt8} {a : Int} : Xp b a = if (Xz b a).2.2 ≠ 0 then (0, 0, (Xz b a).2.2) else if U3 b a = true then (0, 0, 2) else (zag (Xz b a).1, (Xz b a).2.1, 0) := rfl
theorem X2D (b : List UInt8) (a : Int) (hb : b.length ≤ 281474976710656) : Con Tryz.prog 77 [] [.d (Xg b), ai a] [] (aN3 (Xf b a)) := by
 refine Xb (xs := [ai (Xf b a).1, ai (Xf b a).2.1, ai (Xf b a).2.2]) Tryz.func77 rfl Tryz.ntmps77 rfl rfl rfl (fun E => ?_)
 have hr := X9Y b a hb
 have hlt := X6D (b := b) (a := a)
 have hmin := X7n b a (hb := hb)
 rw [Xbf]
 generalize U3 b a = p at *
 generalize Xz b a = r at *
 obtain ⟨u, e, err⟩ := r
 simp only at hlt hmin ⊢
 by_cases h2 : err = 0
 ·have hm := hmin h2
  rw [if_neg (by simpa using h2)]
  by_cases h1 : 9223372036854775807 < u
  ·rw [if_pos h1]
   repeat first | refine X0 ?_ | (refine JR ?_; (repeat first | refine Z1 ?_ | refine Z0 ?_ | refine Zs ?_ | refine Zv ?_ | refine ZF ?_ | refine Z9 (hcon := hr) ?_); refine JD ?_) | refine JT ?_ | refine JF ?_ | refine X4 ?_
   exact QLb
  rw [if_neg h1]
  cases p with
  | true =>
   rw [if_pos rfl]
   repeat first | refine X0 ?_ | (refine JR ?_; (repeat first | refine Z1 ?_ | refine Z0 ?_ | refine Zs ?_ | refine Zv ?_ | refine Zu ?_ | refine ZF ?_ | refine Z9 (hcon := hr) ?_ | refine Z9 (hcon := hm) ?_); refine JD ?_) | refine JT ?_ | refine JF ?_ | refine X4 ?_
   exact QLb
  | false =>
   rw [if_neg (by simp)]
   repeat first | refine X0 ?_ | (refine JR ?_; (repeat first | refine Z3 (u := n64 u) (r := ni u) ?_ (hr := by exact YM rfl rfl (by rw [Xr]; omega)) | refine Z1 ?_ | refine Z0 ?_ | refine Zs ?_ | refine Zv ?_ | refine Zu ?_ | refine ZF ?_ | refine Z9 (hcon := hr) ?_ | refine Z9 (hcon := hm) ?_); refine JD ?_) | refine JF ?_ | refine X4 ?_
   exact QLb
 ·rw [if_pos h2]
  repeat first | refine X0 ?_ | (refine JR ?_; (repeat first | refine Z1 ?_ | refine Z0 ?_ | refine Zv ?_ | refine ZF ?_ | refine Z9 (hcon := hr) ?_); refine JD ?_) | refine JT ?_
  exact QLb
theorem X1W (b : List UInt8) (a : Int) (hb : b.length ≤ 281474976710656) : Con Tryz.prog 138 [] [.d (Xg b), ai a] [] (aN3 (Xp b a)) := by
 refine Xb (xs := [ai (Xp b a).1, ai (Xp b a).2.1, ai (Xp b a).2.2]) Tryz.func138 rfl Tryz.ntmps138 rfl rfl rfl (fun E => ?_)
 have hr := X9Y b a hb
 have hlt := X6D (b := b) (a := a)
 have hmin := X7n b a (hb := hb)
 rw [Xfq]
 generalize U3 b a = p at *
 generalize Xz b a = r at *
 obtain ⟨u, e, err⟩ := r
 simp only at hlt hmin ⊢
 by_cases h2 : err = 0
 ·have hm := hmin h2
  rw [if_neg (by simpa using h2)]
  cases p with
  | true =>
   rw [if_pos rfl]
   repeat first | refine X0 ?_ | (refine JR ?_; (repeat first | refine Z1 ?_ | refine Z0 ?_ | refine Zv ?_ | refine Zu ?_ | refine ZF ?_ | refine Z9 (hcon := hr) ?_ | refine Z9 (hcon := hm) ?_); refine JD ?_) | refine JT ?_ | refine JF ?_ | refine X4 ?_
   exact QLb
  | false =>
   rw [if_neg (by simp)]
   have hx : ∀ w, (Op.unary .neg (ni (u / 2))).run Tryz.prog w = .ok (.int .i64 (-((u / 2 : Nat) : Int))) w := fun w => X8M (P := Tryz.prog) (by omega) w
   by_cases hodd : u % 2 = 1
   ·rw [show zag u = -((u / 2 : Nat) : Int) - 1 by unfold zag; rw [if_pos hodd]]
    refine Qcc ?_; refine QDb ?_; refine Qg ?_; refine Qw ?_; refine Z9 (hcon := hm) ?_; refine Qgb ?_; refine Qg ?_; refine Z7 (op := .rem) (r' := n64 (u % 2)) (u := n64 u) (v := n64 2) ?_ (hr := by exact YX (by omega)); refine Zl ?_; refine Qh ?_; refine Qf ?_; refine Z7 (op := .quo) (r' := n64 (u / 2)) (u := n64 u) (v := n64 2) ?_ (hr := by exact VR (by omega) (by rw [XN]; omega)); refine Qdc ?_; refine Za (u := ni (u / 2)) (r := .int .i64 (-((u / 2 : Nat) : Int))) ?_ (hr := by exact hx); refine ZR ?_; refine Z1 ?_; exact QPb
   ·rw [show zag u = ((u / 2 : Nat) : Int) by unfold zag; rw [if_neg hodd]]
    refine Qcc ?_; refine QDb ?_; refine Qg ?_; refine Qw ?_; refine Z9 (hcon := hm) ?_; refine Qgb ?_; refine Qg ?_; refine Z7 (op := .rem) (r' := n64 (u % 2)) (u := n64 u) (v := n64 2) ?_ (hr := by exact YX (by omega)); refine Zl ?_; refine Qs ?_; refine Z7 (op := .quo) (r' := n64 (u / 2)) (u := n64 u) (v := n64 2) ?_ (hr := by exact VR (by omega) (by rw [XN]; omega)); refine Qdc ?_; refine Z1 ?_; exact QPb
 ·rw [if_pos h2]
  repeat first | refine X0 ?_ | (refine JR ?_; (repeat first | refine Z1 ?_ | refine Z0 ?_ | refine Zv ?_ | refine ZF ?_ | refine Z9 (hcon := hr) ?_); refine JD ?_) | refine JT ?_
  exact QLb
theorem Xax (b : List UInt8) (a most : Int) (hb : b.length ≤ 281474976710656) : Con Tryz.prog 158 [] [.d (Xg b), ai a, ai most] [] (X2j (X9 (Yk b a most).1) (Yk b a most).2.1 (Yk b a most).2.2) := by
 refine Xb (xs := [X9 (Yk b a most).1, ai (Yk b a most).2.1, ai (Yk b a most).2.2]) Tryz.func158 rfl Tryz.ntmps158 rfl rfl rfl (fun E => ?_)
 have hr := X2D b a hb
 have hf := X4q (b := b) (a := a)
 rw [X76]
 generalize Xf b a = r at *
 obtain ⟨n, f, err⟩ := r
 simp only at hf ⊢
 by_cases h2 : err = 0
 ·obtain ⟨n, f, rfl, rfl, hf1, hf2⟩ := hf h2
  rw [if_neg (by simpa using h2)]
  by_cases h3 : most < (n : Int)
  ·rw [if_pos h3]
   repeat first | refine X0 ?_ | (refine JR ?_; (repeat first | refine Z1 ?_ | refine Z0 ?_ | refine Zs ?_ | refine Zv ?_ | refine ZF ?_ | refine Z9 (hcon := hr) ?_); refine JD ?_) | refine JT ?_ | refine JF ?_ | refine X4 ?_
   exact QLb
  rw [if_neg h3]
  by_cases h4 : (b.length : Int) - f < n
  ·rw [if_pos h4]
   repeat first | refine X0 ?_ | (refine JR ?_; (repeat first | refine Z1 ?_ | refine Z0 ?_ | refine Zd ?_ | refine Zs ?_ | refine Zv ?_ | refine ZR ?_ | refine ZF ?_ | refine Z9 (hcon := hr) ?_); refine JD ?_) | refine JT ?_ | refine JF ?_ | refine X4 ?_
   exact QLb
  rw [if_neg h4]
  have hsl : ((b.map X7).take (f + n)).drop f = ((b.drop f).take n).map X7 := by rw [List.map_take, List.map_drop, List.drop_take, Nat.add_sub_cancel_left]
  repeat first | refine X0 ?_ | (refine JR ?_; (repeat first | refine Z7 (op := .add) (r' := ni (f + n)) (u := ni f) (v := ni n) ?_ (hr := by exact Y6 (by rw [Xr]; omega)) | refine ZV (lb := f) (hb := f + n) (ys := ((b.drop f).take n).map X7) ?_ (hys := by exact hsl) | refine Z1 ?_ | refine Z0 ?_ | refine Zd ?_ | refine Zs ?_ | refine Zv ?_ | refine ZR ?_ | refine ZF ?_ | refine ZW ?_ | refine Z9 (hcon := hr) ?_); refine JD ?_) | refine JF ?_ | refine X4 ?_
  exact QLb
 ·rw [if_pos h2]
  repeat first | refine X0 ?_ | (refine JR ?_; (repeat first | refine Z1 ?_ | refine Z0 ?_ | refine Zv ?_ | refine ZF ?_ | refine Z9 (hcon := hr) ?_); refine JD ?_) | refine JT ?_
  exact QLb
theorem Xd7 (b : List UInt8) (a : Int) (hb : b.length ≤ 140737488355328) : Con Tryz.prog 76 [] [.d (Xg b), ai a] [] (X2j (.d (Xg (Ue b a).1)) (Ue b a).2.1 (Ue b a).2.2) := by
 refine Xb (xs := [.d (Xg (Ue b a).1), ai (Ue b a).2.1, ai (Ue b a).2.2]) Tryz.func76 rfl Tryz.ntmps76 rfl rfl rfl (fun E => ?_)
 have hr := X2D b a (by omega)
 have hf := X4q (b := b) (a := a)
 rw [X7A]
 generalize Xf b a = r at *
 obtain ⟨n, f, err⟩ := r
 simp only at hf ⊢
 by_cases h2 : err = 0
 ·obtain ⟨n, f, rfl, rfl, hf1, hf2⟩ := hf h2
  rw [if_neg (by simpa using h2)]
  by_cases h3 : (b.length : Int) - f < 4
  ·rw [if_pos (.inl h3)]
   repeat first | refine X0 ?_ | (refine JR ?_; (repeat first | refine Z1 ?_ | refine Z0 ?_ | refine Zd ?_ | refine Z8 ?_ | refine Zv ?_ | refine ZR ?_ | refine ZF ?_ | refine Zn ?_ | refine Zo ?_ | refine Z9 (hcon := hr) ?_); refine JD ?_) | refine JT ?_ | refine JF ?_ | refine X4 ?_
   exact Qfc
  by_cases h4 : (b.length : Int) - f - 4 < n
  ·rw [if_pos (.inr h4)]
   repeat first | refine X0 ?_ | (refine JR ?_; (repeat first | refine Z1 ?_ | refine Z0 ?_ | refine Zd ?_ | refine Z8 ?_ | refine Zs ?_ | refine Zv ?_ | refine ZR ?_ | refine ZF ?_ | refine Zq ?_ | refine Z9 (hcon := hr) ?_); refine JD ?_) | refine JT ?_ | refine JF ?_ | refine X4 ?_
   exact Qfc
  rw [if_neg (by omega)]
  have hsl : ((b.map X7).take (f + n)).drop f = ((b.drop f).take n).map X7 := by rw [List.map_take, List.map_drop, List.drop_take, Nat.add_sub_cancel_left]
  have hbl : ((b.drop f).take n).length = n := by simp; omega
  repeat first | refine X0 ?_ | (refine JR ?_; (repeat first | refine Z7 (op := .add) (r' := ni (f + n)) (u := ni f) (v := ni n) ?_ (hr := by exact Y6 (by rw [Xr]; omega)) | refine ZV (lb := f) (hb := f + n) (ys := ((b.drop f).take n).map X7) ?_ (hys := by exact hsl) | refine Z1 ?_ | refine Z0 ?_ | refine Zd ?_ | refine Z8 ?_ | refine Zs ?_ | refine Zv ?_ | refine ZR ?_ | refine ZF ?_ | refine Zq ?_ | refine ZZ (len := 0) (γ := 100) ?_ | refine Z6 ?_ | refine Z9 (hcon := hr) ?_); refine JD ?_) | refine JF ?_ | refine X4 ?_
  refine Xm (Y4 100 rfl) ?_; refine Xm (U1 10 100 rfl rfl (by simp)) ?_
  have et : ((f : Int) + (n : Int)).toNat = f + n := by omega
  rw [et, Int.toNat_natCast, Int.toNat_natCast]
  obtain ⟨y0, g0⟩ := Xv (l := b) (k := f + n) (by omega)
  obtain ⟨y1, g1⟩ := Xv (l := b) (k := f + n + 1) (by omega)
  obtain ⟨y2, g2⟩ := Xv (l := b) (k := f + n + 2) (by omega)
  obtain ⟨y3, g3⟩ := Xv (l := b) (k := f + n + 3) (by omega)
  have z0 := y0.toNat_lt
  have z1 := y1.toNat_lt
  have z2 := y2.toNat_lt
  have z3 := y3.toNat_lt
  have ha : X0f b (f + n) = y0.toNat + 256 * y1.toNat + 65536 * y2.toNat + 16777216 * y3.toNat := by unfold X0f; rw [g0, g1, g2, g3]; rfl
  rw [ha]
  generalize (b.drop f).take n = body at *
  by_cases hs : y0.toNat + 256 * y1.toNat + 65536 * y2.toNat + 16777216 * y3.toNat = YQ body
  ·rw [if_neg (by simpa using hs)]
   refine Qgc ?_; refine Qhc ?_; refine Qw ?_; refine Z7 (op := .add) (r' := ni (f + n + 1)) (u := ni (f + n)) (v := ni 1) ?_ (hr := by exact Y6 (by rw [Xr]; omega)); refine Qhc ?_; refine Z7 (op := .mul) (r' := ni (256 * y1.toNat)) (u := ni 256) (v := ni y1.toNat) ?_ (hr := by exact YK (by rw [Xr]; omega)); refine Z7 (op := .add) (r' := ni (y0.toNat + 256 * y1.toNat)) (u := ni y0.toNat) (v := ni (256 * y1.toNat)) ?_ (hr := by exact Y6 (by rw [Xr]; omega)); refine Qw ?_; refine Z7 (op := .add) (r' := ni (f + n + 2)) (u := ni (f + n)) (v := ni 2) ?_ (hr := by exact Y6 (by rw [Xr]; omega)); refine Qhc ?_; refine Z7 (op := .mul) (r' := ni (65536 * y2.toNat)) (u := ni 65536) (v := ni y2.toNat) ?_ (hr := by exact YK (by rw [Xr]; omega)); refine Qxf ?_; refine Qw ?_; refine Z7 (op := .add) (r' := ni (f + n + 3)) (u := ni (f + n)) (v := ni 3) ?_ (hr := by exact Y6 (by rw [Xr]; omega)); refine Qhc ?_; refine Z7 (op := .mul) (r' := ni (16777216 * y3.toNat)) (u := ni 16777216) (v := ni y3.toNat) ?_ (hr := by exact YK (by rw [Xr]; omega)); refine Qyf ?_; refine Qc ?_; refine Qjb ?_; refine Z9 (hcon := X8F body) ?_; refine QDb ?_; refine Qi ?_; refine Zb ?_; refine QMb ?_; exact X1 ⟨_, St.le_trans (Xc 4 (y := .d (Xg body)) (AVal.le_refl _)) (Xc 5 (y := ai ((f : Int) + n + 4)) (AVal.le_of_eq (by refine Eq.trans (b := ai _) rfl ?_; simp))), ⟨rfl, rfl, rfl, trivial⟩, X3 _⟩
  ·rw [if_pos hs]
   refine Qgc ?_; refine Qhc ?_; refine Qw ?_; refine Z7 (op := .add) (r' := ni (f + n + 1)) (u := ni (f + n)) (v := ni 1) ?_ (hr := by exact Y6 (by rw [Xr]; omega)); refine Qhc ?_; refine Z7 (op := .mul) (r' := ni (256 * y1.toNat)) (u := ni 256) (v := ni y1.toNat) ?_ (hr := by exact YK (by rw [Xr]; omega)); refine Z7 (op := .add) (r' := ni (y0.toNat + 256 * y1.toNat)) (u := ni y0.toNat) (v := ni (256 * y1.toNat)) ?_ (hr := by exact Y6 (by rw [Xr]; omega)); refine Qw ?_; refine Z7 (op := .add) (r' := ni (f + n + 2)) (u := ni (f + n)) (v := ni 2) ?_ (hr := by exact Y6 (by rw [Xr]; omega)); refine Qhc ?_; refine Z7 (op := .mul) (r' := ni (65536 * y2.toNat)) (u := ni 65536) (v := ni y2.toNat) ?_ (hr := by exact YK (by rw [Xr]; omega)); refine Qxf ?_; refine Qw ?_; refine Z7 (op := .add) (r' := ni (f + n + 3)) (u := ni (f + n)) (v := ni 3) ?_ (hr := by exact Y6 (by rw [Xr]; omega)); refine Qhc ?_; refine Z7 (op := .mul) (r' := ni (16777216 * y3.toNat)) (u := ni 16777216) (v := ni y3.toNat) ?_ (hr := by exact YK (by rw [Xr]; omega)); refine Qyf ?_; refine Qc ?_; refine Qjb ?_; refine Z9 (hcon := X8F body) ?_; refine Zv ?_; refine QOb ?_; refine QMb ?_; exact Qfc
 ·rw [if_pos h2]
  repeat first | refine X0 ?_ | (refine JR ?_; (repeat first | refine Z1 ?_ | refine Z0 ?_ | refine Zv ?_ | refine ZF ?_ | refine Z9 (hcon := hr) ?_); refine JD ?_) | refine JT ?_
  exact Qfc
theorem Xgy (x y : Int) : Con Tryz.prog 142 [] [ai x, ai y] [] (ai (YC x y)) := by
 refine Xb (xs := [ai (YC x y)]) Tryz.func142 rfl Tryz.ntmps142 rfl rfl rfl (fun E => ?_)
 by_cases h1 : x < y
 ·rw [show YC x y = -1 by simp [YC, h1]]
  refine Qd ?_; refine Qld ?_; exact Qca
 by_cases h2 : y < x
 ·rw [show YC x y = 1 by simp [YC, h1, h2]]
  repeat first | refine X0 ?_ | (refine JR ?_; (repeat first | refine Z1 ?_ | refine Z0 ?_ | refine Z8 ?_ | refine Zs ?_); refine JD ?_) | refine JT ?_ | refine JF ?_ | refine X4 ?_
  exact QL
 rw [show YC x y = 0 by simp [YC, h1, h2]]
 repeat first | refine X0 ?_ | (refine JR ?_; (repeat first | refine Z1 ?_ | refine Z0 ?_ | refine Z8 ?_ | refine Zs ?_); refine JD ?_) | refine JF ?_ | refine X4 ?_
 exact QL
theorem Xc6 (b : Bool) : Con Tryz.prog 140 [] [ab b] [] (ai (if b then 2 else 0)) := by
 refine Xb (xs := [ai (if b then 2 else 0)]) Tryz.func140 rfl Tryz.ntmps140 rfl rfl rfl (fun E => ?_)
 cases b with
 | true =>
  refine Qy ?_; exact Qca
 | false =>
  refine Qy ?_; refine Qr ?_; exact Qga
theorem Xex {k : Int} (h : k ≠ 0) : 0 < Vj k := by
 unfold Vj
 rw [if_neg h]
 split
 ·omega
 split
 ·omega
 split
 ·omega
 split
 ·omega
 split
 ·omega
 split <;> omega
def X1i (v : Val) : Int := if X8 8 v = false then 1 else YC (Vj v.kind) 0
theorem Xhv (v : Val) : decide (X1i v = 0) = UQ v := by
 unfold X1i UQ
 cases h : X8 8 v with
 | false => simp
 | true =>
  obtain ⟨k, n, d, s, l⟩ := v
  have hk := X4N h
  simp only [Val.kind, Bool.true_and]
  refine decide_eq_decide.2 ?_
  rw [if_neg (by simp)]
  unfold YC Vj
  constructor
  ·intro h1
   refine Classical.byContradiction fun h0 => ?_
   rw [if_neg h0] at h1
   have hpos : (0 : Int) < (if k = 1 then 1 else if k = 2 ∨ k = 3 then 2 else if k = 4 then 3 else if k = 5 then 4 else if k = 6 then 5 else if k = 8 then 6 else 7) := by
    split
    ·omega
    split
    ·omega
    split
    ·omega
    split
    ·omega
    split
    ·omega
    split <;> omega
   rw [if_neg (by omega), if_pos hpos] at h1
   omega
  ·intro h1
   subst h1
   rfl
theorem XgB (v : Val) (hok : Yd v) : Con Tryz.prog 107 [] [Xi v, Xi zV] [] (ai (X1i v)) := by
 have hv := X28 v hok
 have hz := X28 zV (by simp [Yd, V1])
 rw [show X8 8 zV = true by rw [X8]; simp] at hz
 by_cases hz0 : v = zV
 ·subst hz0
  rw [show X1i zV = 0 by unfold X1i; rw [show X8 8 zV = true by rw [X8]; simp]; rfl]
  exact X5I zV (by simp [Yd, V1])
 refine Xb (xs := [ai (X1i v)]) Tryz.func107 rfl Tryz.ntmps107 rfl rfl rfl (fun E => ?_)
 unfold X1i
 cases h : X8 8 v with
 | false =>
  rw [h] at hv
  rw [if_pos rfl]
  have hy := Xc6 false
  rw [if_neg (by simp)] at hy
  obtain ⟨k, n, d, s, l⟩ := v
  simp only [Xi, Xy] at hv hz ⊢
  refine Qpc ?_; refine Qrc ?_; refine ZL ?_; refine Z9 (hcon := hz) ?_; refine Qya ?_; refine Qjb ?_; refine Z00 ?_; refine Qh ?_; refine Qf ?_; refine Z9 (hcon := hy) ?_; refine ZR ?_; exact QM
 | true =>
  rw [h] at hv
  rw [if_neg (by simp)]
  obtain ⟨k, n, d, s, l⟩ := v
  have c1 := X5x k
  have c2 := X5x 0
  rw [show Vj 0 = 0 from rfl] at c2
  have c3 := Xgy (Vj k) 0
  simp only [Val.kind]
  have hk0 : k ≠ 0 := fun h1 => by
   obtain ⟨rfl, rfl, rfl, rfl⟩ := X8U h h1
   exact hz0 (by rw [h1])
  have hcp := Xex hk0
  have hnz : YC (Vj k) 0 ≠ 0 := by
   unfold YC
   rw [if_neg (by omega), if_pos hcp]
   omega
  generalize YC (Vj k) 0 = z at *
  generalize Vj k = c at *
  simp only [Xi, Xy] at hv hz ⊢
  repeat first | refine X0 ?_ | (refine JR ?_; (repeat first | refine Z1 ?_ | refine Z0 ?_ | refine ZB ?_ | refine ZC ?_ | refine ZL ?_ | refine Zv ?_ | refine Z00 ?_ | refine Zu ?_ | refine ZA (γ := 100) ?_ | refine ZA (γ := 101) ?_ | refine Z9 (hcon := hv) ?_ | refine Z9 (hcon := hz) ?_ | refine Z9 (hcon := c1) ?_ | refine Z9 (hcon := c2) ?_ | refine Z9 (hcon := c3) ?_); refine JD ?_) | refine JT ?_ | refine JF ?_ | refine X4 ?_
  exact QL
theorem Xbn (v : Val) (hok : Yd v) : Con Tryz.prog 124 [] [Xi v] [] (ab (UQ v)) := by
 refine Xb (xs := [ab (UQ v)]) Tryz.func124 rfl Tryz.ntmps124 rfl rfl rfl (fun E => ?_)
 have ho := XgB v hok
 rw [← Xhv v]
 generalize X1i v = z at *
 obtain ⟨k, n, d, s, l⟩ := v
 simp only [Xi, Xy] at ho ⊢
 refine QEa ?_; refine Qeb ?_; refine Zx ?_; refine Z9 (hcon := ho) ?_; refine Zl ?_; refine Qc ?_; exact QL
theorem Xfc (v : Val) (hok : Yd v) : Con Tryz.prog 126 [] [Xi v] [] (ab (VW v)) := by
 refine Xb (xs := [ab (VW v)]) Tryz.func126 rfl Tryz.ntmps126 rfl rfl rfl (fun E => ?_)
 have hv := X28 v hok
 unfold VW
 generalize X8 8 v = b at *
 obtain ⟨k, n, d, s, l⟩ := v
 simp only [Xi, Val.kind] at hv ⊢
 unfold X4b
 by_cases h1 : k = 1
 ·rw [decide_eq_true (by omega), Bool.true_and]
  cases b with
  | true =>
   refine QEa ?_; refine Qrc ?_; refine Qzc ?_; refine QOa ?_; refine QOa ?_; exact QS
  | false =>
   exact Qzf
 by_cases h2 : k = 2
 ·rw [decide_eq_true (by omega), Bool.true_and]
  cases b with
  | true =>
   refine QEa ?_; refine Qrc ?_; refine Qzc ?_; refine Qzc ?_; refine Zq ?_; refine QOa ?_; exact QS
  | false =>
   exact Qzf
 by_cases h4 : k = 4
 ·rw [decide_eq_true (by omega), Bool.true_and]
  cases b with
  | true =>
   refine QEa ?_; refine Qrc ?_; refine Qzc ?_; refine Qzc ?_; refine QAc ?_; refine Zl ?_; refine Zq ?_; exact QS
  | false =>
   exact Qzf
 rw [decide_eq_false (by omega), Bool.false_and]
 cases b with
 | true =>
  refine QEa ?_; refine Qrc ?_; refine Qzc ?_; refine Qzc ?_; refine QAc ?_; refine Zl ?_; refine Zq ?_; exact Qyc
 | false =>
  exact Qzf
open Go
theorem X91 {g : Nat → Int → Val × Int × Int} {a : Int} (hg : ∀ i q, (g i q).2.2 = 0 → X8 8 (g i q).1 = true) : ∀ k, (Xt g a k).2.2 = 0 → ∀ x ∈ (Xt g a k).1, X8 8 x = true
 | 0, _, x, hx => by simp [Xt] at hx
 | k + 1, h, x, hx => by
  by_cases e : (Xt g a k).2.2 = 0
  ·rw [X0u e] at h hx
   rcases List.mem_append.1 hx with hx | hx
   ·exact X91 hg k e x hx
   ·obtain rfl := List.mem_singleton.1 hx
    exact hg _ _ h
  ·rw [X0z e (k + 1) (by omega)] at h; exact absurd h e
theorem Xee {k n : Int} (h : Uh k n = false) : n ≤ 64 := by
 unfold Uh at h
 split at h <;> simp at h <;> omega
theorem Xfk {gl gp : Nat → Int → Val × Int × Int} {b : List UInt8} {a k : Int} (hgl : ∀ i q, (gl i q).2.2 = 0 → X8 8 (gl i q).1 = true) (hgp : ∀ i q, (gp i q).2.2 = 0 → X8 8 (gp i q).1 = true)
  (h : (XV gl gp b a k).2.2 = 0) : Yd (XV gl gp b a k).1 := by
 unfold XV at h ⊢
 split
 ·simp [Yd, V1]
 rename_i h1; rw [if_neg h1] at h
 split
 ·simp only; split <;> simp [Yd, V1]
 rename_i h2; rw [if_neg h2] at h
 split
 ·have := XaC b a 100 (by omega)
  simp only [Yd, V1]
  exact ⟨by omega, by simp, trivial⟩
 rename_i h3; rw [if_neg h3] at h
 split
 ·rename_i h4; rw [if_pos h4] at h
  simp only at h ⊢
  split
  ·simp [Yd, V1]
  rename_i h5; rw [if_neg h5] at h
  split
  ·simp [Yd, V1]
  rename_i h6; rw [if_neg h6] at h
  have h6 := Xee (by simpa using h6)
  have hall : ∀ g, (g = gl ∨ g = gp) → (Xt g (Xf b a).2.1 (Xf b a).1.toNat).2.2 = 0 → Yd (.mk k 0 0 [] (Xt g (Xf b a).2.1 (Xf b a).1.toNat).1) := by
   intro g hg he
   have hl := Xb9 he
   simp only [Yd]
   refine ⟨by simp, by rw [hl]; omega, X3L fun x hx => X6M x 8 (X91 (fun i q hh => ?_) _ he x hx)⟩
   rcases hg with rfl | rfl
   ·exact hgl i q hh
   ·exact hgp i q hh
  simp only at h
  split
  ·rename_i h7; rw [if_pos h7] at h; exact hall gl (.inl rfl) h
  ·rename_i h7; rw [if_neg h7] at h; exact hall gp (.inr rfl) h
 ·simp [Yd, V1]
end Go.Fw

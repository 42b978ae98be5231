/- The reference's number. -/
import Derived.Test.YtbhleedlnaakkaaGreatG17
import Derived.Test.YtbhleedlnaakkaaGreatG27
import Derived.Test.YtbhleedlnaakkaaGreatG33
set_option maxHeartbeats 16000000
namespace Go.Fw
open Go Go.Proofs
set_option maxRecDepth 100000
set_option linter.unusedVariables false
set_option linter.unusedSimpArgs false
theorem X48 {b : List UInt8} {k i : Nat} {c : UInt8} (h : (b.drop k)[i]? = some c) : b[k + i]? = some c := by rwa [List.getElem?_drop] at h
theorem Xb7 : ∀ {l : List UInt8} {q : Nat} {x : UInt8}, l[q]? = some x → XE (l.drop q) = x.toNat % 128 + 128 * XE (l.drop (q + 1)) := by
 intro l q x h
 rw [List.drop_eq_getElem_cons (List.getElem?_eq_some_iff.1 h).1, (List.getElem?_eq_some_iff.1 h).2]; rfl
theorem X7f : ∀ (l : List UInt8) (q : Nat), XE (l.drop q) ≤ XE l
 | [], q => by simp
 | y :: l, 0 => Nat.le_refl _
 | y :: l, q + 1 => by
  have := X7f l q
  simp only [List.drop_succ_cons, XE]; omega
theorem X8b (b : List UInt8) (a : Int) (hb : b.length ≤ 281474976710656) : Con Tryz.prog 175 [] [.d (Xa b), ai a] [] (X2a (X00 (XH b a).1) (XH b a).2.1 (XH b a).2.2) := by
 refine X9 (xs := [X00 (XH b a).1, ai (XH b a).2.1, ai (XH b a).2.2]) Tryz.func175 rfl Tryz.ntmps175 rfl rfl rfl (fun E => ?_)
 by_cases h1 : a < 0
 ·rw [show XH b a = (0, 0, 1) by unfold XH; rw [if_pos (.inl h1)]]
  repeat first | refine X0 ?_ | (refine JR ?_; (repeat first | refine Z1 ?_ | refine Z0 ?_ | refine Z8 ?_ | refine Zn ?_ | refine Zo ?_); refine JD ?_) | refine JT ?_
  exact X1 ⟨_, St.le_refl _, ⟨rfl, rfl, rfl, trivial⟩, X3 _⟩
 by_cases h2 : (b.length : Int) < a
 ·rw [show XH b a = (0, 0, 1) by unfold XH; rw [if_pos (.inr h2)]]
  refine X0 ?_; refine JR ?_; refine Z0 ?_; refine Z0 ?_; refine Z0 ?_; refine JD ?_; refine X0 ?_; refine X0 ?_; refine JR ?_; refine Z1 ?_; refine Z8 ?_; refine Z1 ?_; refine Z1 ?_; refine Z1 ?_
  refine Zd ?_; refine Zs ?_; refine Zq ?_; refine JD ?_; refine JT ?_; refine X0 ?_; refine JR ?_; refine Z0 ?_; refine Z0 ?_; refine Z0 ?_; refine JD ?_
  exact X1 ⟨_, St.le_refl _, ⟨rfl, rfl, rfl, trivial⟩, X3 _⟩
 obtain ⟨k, rfl⟩ : ∃ k : Nat, a = k := ⟨a.toNat, by omega⟩
 have hnum : XH b k = (let l := b.drop k; let n := Y6 l; if n = 10 then (0, 0, 4) else if l.length ≤ n then (0, 0, 3) else if n = 9 ∧ 1 < ((l[n]?).getD 0).toNat then (0, 0, 4) else (XE (l.take (n + 1)), (k : Int) + n + 1, 0)) := by
  unfold XH; rw [if_neg (by omega), Int.toNat_natCast]
 have hll : (b.drop k).length = b.length - k := List.length_drop
 refine X0 ?_; refine JR ?_; refine Z0 ?_; refine Z0 ?_; refine Z0 ?_; refine JD ?_; refine X0 ?_; refine X0 ?_; refine JR ?_; refine Z1 ?_; refine Z8 ?_; refine Z1 ?_; refine Z1 ?_; refine Z1 ?_
 refine Zd ?_; refine Zs ?_; refine Zq ?_; refine JD ?_; refine JF ?_; refine X2 ?_; refine X0 ?_; refine JR ?_; refine Z0 ?_; refine JD ?_; refine X0 ?_; refine X4 ?_
 refine Xy (fun i : Nat => big (b.drop k) i ∧ i ≤ 10 ∧ i ≤ (b.drop k).length) (fun i => ⟨79, [(0, .d (Xa b)), (1, ai k), (7, ai i)], []⟩) (fun i => 10 - i) 0 ⟨fun j hj => by omega, by omega, by omega⟩
  (X8 rfl ⟨JL, JL, JL, trivial⟩ trivial) ?_
 rintro i ⟨hbig, hi10, hil⟩
 generalize hl : b.drop k = l at *
 by_cases e10 : i = 10
 ·subst e10
  have hm : Y6 l = 10 := X3T hbig (by omega)
  rw [show XH b k = (0, 0, 4) by rw [hnum]; simp only [hm, if_true]]
  repeat first | refine X0 ?_ | (refine JR ?_; (repeat first | refine Z1 ?_ | refine Z0 ?_ | refine Z8 ?_ | refine Zl ?_ | refine Zq ?_ | refine Zo ?_); refine JD ?_) | refine JT ?_ | refine JF ?_ | refine Xj ?_
  exact X1 ⟨_, St.le_refl _, ⟨rfl, rfl, rfl, trivial⟩, X3 _⟩
 by_cases el : i = l.length
 ·have hm : Y6 l = i := X3T hbig (by omega)
  rw [show XH b k = (0, 0, 3) by rw [hnum]; simp only [hm]; rw [if_neg e10, if_pos (by omega)]]
  repeat first | refine X0 ?_ | (refine JR ?_; (repeat first | refine Z7 (op := .add) (r' := ni (k + i)) (u := ni k) (v := ni i) ?_ (hr := by exact Yb (by rw [Xx]; omega)) | refine Z1 ?_ | refine Z0 ?_ | refine Zd ?_ | refine Z8 ?_ | refine Z2 ?_ | refine Zl ?_ | refine Zn ?_ | refine Zq ?_ | refine Zo ?_); refine JD ?_) | refine JT ?_ | refine JF ?_ | refine X2 ?_ | refine Xj ?_
  exact X1 ⟨_, St.le_refl _, ⟨rfl, rfl, rfl, trivial⟩, X3 _⟩
 obtain ⟨c, hc⟩ := Xu (l := l) (k := i) (by omega)
 have hbc : b[k + i]? = some c := X48 (by rw [hl]; exact hc)
 have hc8 := c.toNat_lt
 by_cases hge : 128 ≤ c.toNat
 ·refine X0 ?_; refine X0 ?_; refine JR ?_; refine Z1 ?_; refine Z8 ?_; refine Z1 ?_; refine Z1 ?_; refine Z1 ?_
  refine Z7 (op := .add) (r' := ni (k + i)) (u := ni k) (v := ni i) ?_ (hr := by exact Yb (by rw [Xx]; omega)); refine Z1 ?_; refine Zd ?_; refine Z8 ?_; refine Zn ?_; refine Z1 ?_; refine Z1 ?_; refine Z1 ?_
  refine Z1 ?_; refine Z7 (op := .add) (r' := ni (k + i)) (u := ni k) (v := ni i) ?_ (hr := by exact Yb (by rw [Xx]; omega)); refine Zj ?_; refine Zk ?_; refine Z2 ?_; refine Zn ?_; refine JD ?_; refine JT ?_
  refine X2 ?_; refine X4 ?_; refine JR ?_; refine Z1 ?_; refine Zb ?_; refine Z0 ?_; refine JD ?_
  exact ⟨i + 1, ⟨X5b hbig hc hge, by omega, by omega⟩, by omega, X8 rfl ⟨JL, JL, JL, trivial⟩ trivial⟩
 have hm : Y6 l = i := X4Z hbig hc (by omega) (by omega)
 by_cases h9 : i = 9 ∧ 1 < c.toNat
 ·rw [show XH b k = (0, 0, 4) by rw [hnum]; simp only [hm, hc, Option.getD_some]; rw [if_neg e10, if_neg (by omega), if_pos h9]]
  obtain ⟨rfl, h91⟩ := h9
  repeat first | refine X0 ?_ | (refine JR ?_; (repeat first | refine Z7 (op := .add) (r' := ni (k + 9)) (u := ni k) (v := ni 9) ?_ (hr := by exact Yb (by rw [Xx]; omega)) | refine Z1 ?_ | refine Z0 ?_ | refine Zk ?_ | refine Zd ?_ | refine Z8 ?_ | refine Zs ?_ | refine Z2 ?_ | refine Zl ?_ | refine Zn ?_ | refine Zj ?_); refine JD ?_) | refine JT ?_ | refine JF ?_ | refine X2 ?_ | refine Xj ?_
  exact X1 ⟨_, St.le_refl _, ⟨rfl, rfl, rfl, trivial⟩, X3 _⟩
 rw [show XH b k = (XE (l.take (i + 1)), (k : Int) + i + 1, 0) by rw [hnum]; simp only [hm, hc, Option.getD_some]; rw [if_neg e10, if_neg (by omega), if_neg h9]]
 have hu : XE (l.take (i + 1)) < 18446744073709551616 := by
  have h1 := X3c l i
  rw [X1J l i c hc]
  by_cases hm9 : i = 9
  ·subst hm9
   have e9 : (2 : Nat) ^ (7 * 9) = 9223372036854775808 := rfl
   rw [e9] at h1 ⊢
   omega
  ·have h2 : (2 : Nat) ^ (7 * i) ≤ 2 ^ 56 := Nat.pow_le_pow_right (by omega) (by omega)
   have e56 : (2 : Nat) ^ 56 = 72057594037927936 := rfl
   rw [e56] at h2
   have h4 : 2 ^ (7 * i) * (c.toNat % 128) ≤ 72057594037927936 * 127 := Nat.mul_le_mul h2 (by omega)
   omega
 by_cases hi9 : i = 9
 ·have hc1 : ¬ (1 < c.toNat) := fun h => h9 ⟨hi9, h⟩
  repeat first | refine X0 ?_ | (refine JR ?_; (repeat first | refine Z7 (op := .add) (r' := ni (k + i)) (u := ni k) (v := ni i) ?_ (hr := by exact Yb (by rw [Xx]; omega)) | refine Z1 ?_ | refine Z0 ?_ | refine Zk ?_ | refine Zd ?_ | refine Z8 ?_ | refine Zs ?_ | refine Z2 ?_ | refine Zl ?_ | refine Zn ?_ | refine Zj ?_); refine JD ?_) | refine JF ?_ | refine X4 ?_ | refine X2 ?_ | refine Xj ?_
  refine Xy (fun j : Int => -1 ≤ j ∧ j ≤ i) (fun j => ⟨79, [(0, .d (Xa b)), (1, ai k), (7, ai i), (8, X00 (XE ((l.take (i + 1)).drop (j + 1).toNat))), (9, ai j)], []⟩) (fun j => (j + 1).toNat) i ⟨by omega, by omega⟩
   (X8 rfl ⟨JL, JL, JL, (by rw [show ((i : Int) + 1).toNat = i + 1 by omega, List.drop_of_length_le (by simp; omega)]; exact AVal.le_refl _), JL, trivial⟩ trivial) ?_
  rintro j ⟨hj1, hj2⟩
  by_cases hj : 0 ≤ j
  ·obtain ⟨q, rfl⟩ : ∃ q : Nat, j = q := ⟨j.toNat, by omega⟩
   obtain ⟨x, hx⟩ := Xu (l := l) (k := q) (by omega)
   have hbx : b[k + q]? = some x := X48 (by rw [hl]; exact hx)
   have hx8 := x.toNat_lt
   have hst : XE ((l.take (i + 1)).drop q) = XE ((l.take (i + 1)).drop (q + 1)) * 128 + x.toNat % 128 := by
    rw [Xb7 (l := l.take (i + 1)) (q := q) (x := x) (by rw [List.getElem?_take_of_lt (by omega)]; exact hx)]; omega
   have hlt : XE ((l.take (i + 1)).drop q) < 18446744073709551616 := Nat.lt_of_le_of_lt (X7f _ _) hu
   rw [show ((q : Int) + 1).toNat = q + 1 by omega]
   refine X0 ?_; refine X0 ?_; refine JR ?_; refine Z1 ?_; refine Z2 ?_; refine JD ?_; refine JT ?_; refine X2 ?_; refine X0 ?_; refine X4 ?_; refine JR ?_; refine Z1 ?_
   refine Z7 (op := .mul) (r' := n64 (XE ((l.take (i + 1)).drop (q + 1)) * 128)) (u := n64 (XE ((l.take (i + 1)).drop (q + 1)))) (v := n64 128) ?_ (hr := by exact YV (by rw [XK]; omega)); refine Z1 ?_
   refine Z1 ?_; refine Z1 ?_; refine Z7 (op := .add) (r' := ni (k + q)) (u := ni k) (v := ni q) ?_ (hr := by exact Yb (by rw [Xx]; omega)); refine Zj ?_; refine Zk ?_
   refine Z7 (op := .rem) (r' := n8 (x.toNat % 128)) (u := n8 x.toNat) (v := n8 128) ?_ (hr := by exact YG (by omega))
   refine Z3 (u := n8 (x.toNat % 128)) (r := n64 (x.toNat % 128)) ?_ (hr := by exact Yu rfl rfl (by rw [XK]; omega))
   refine Z4 (op := .add) (r' := n64 (XE ((l.take (i + 1)).drop q))) (u := n64 (XE ((l.take (i + 1)).drop (q + 1)) * 128)) (v := n64 (x.toNat % 128)) ?_ (hr' := by exact by rw [hst]) (hr := by exact Yb (by rw [XK]; omega))
   refine Z0 ?_; refine JD ?_; refine JR ?_; refine Z1 ?_; refine ZR ?_; refine Z0 ?_; refine JD ?_
   refine ⟨(q : Int) - 1, ⟨by omega, by omega⟩, by omega, X8 rfl ⟨JL, JL, JL, (by rw [show ((q : Int) - 1 + 1).toNat = q by omega]; exact AVal.le_refl _), JL, trivial⟩ trivial⟩
  obtain rfl : j = -1 := by omega
  refine X0 ?_; refine X0 ?_; refine JR ?_; refine Z1 ?_; refine Z2 ?_; refine JD ?_; refine JF ?_; refine Xj ?_; refine X0 ?_; refine JR ?_; refine Z1 ?_; refine Z1 ?_; refine Z1 ?_
  refine Z7 (op := .add) (r' := ni (k + i)) (u := ni k) (v := ni i) ?_ (hr := by exact Yb (by rw [Xx]; omega)); refine Zb ?_; refine Z0 ?_; refine Z0 ?_; refine Z0 ?_; refine JD ?_
  exact X1 ⟨_, St.le_refl _, ⟨rfl, rfl, rfl, trivial⟩, X3 _⟩
 ·repeat first | refine X0 ?_ | (refine JR ?_; (repeat first | refine Z7 (op := .add) (r' := ni (k + i)) (u := ni k) (v := ni i) ?_ (hr := by exact Yb (by rw [Xx]; omega)) | refine Z1 ?_ | refine Z0 ?_ | refine Zk ?_ | refine Zd ?_ | refine Z8 ?_ | refine Z2 ?_ | refine Zl ?_ | refine Zn ?_ | refine Zq ?_ | refine Zj ?_ | refine Zo ?_); refine JD ?_) | refine JF ?_ | refine X4 ?_ | refine X2 ?_ | refine Xj ?_
  refine Xy (fun j : Int => -1 ≤ j ∧ j ≤ i) (fun j => ⟨79, [(0, .d (Xa b)), (1, ai k), (7, ai i), (8, X00 (XE ((l.take (i + 1)).drop (j + 1).toNat))), (9, ai j)], []⟩) (fun j => (j + 1).toNat) i ⟨by omega, by omega⟩
   (X8 rfl ⟨JL, JL, JL, (by rw [show ((i : Int) + 1).toNat = i + 1 by omega, List.drop_of_length_le (by simp; omega)]; exact AVal.le_refl _), JL, trivial⟩ trivial) ?_
  rintro j ⟨hj1, hj2⟩
  by_cases hj : 0 ≤ j
  ·obtain ⟨q, rfl⟩ : ∃ q : Nat, j = q := ⟨j.toNat, by omega⟩
   obtain ⟨x, hx⟩ := Xu (l := l) (k := q) (by omega)
   have hbx : b[k + q]? = some x := X48 (by rw [hl]; exact hx)
   have hx8 := x.toNat_lt
   have hst : XE ((l.take (i + 1)).drop q) = XE ((l.take (i + 1)).drop (q + 1)) * 128 + x.toNat % 128 := by
    rw [Xb7 (l := l.take (i + 1)) (q := q) (x := x) (by rw [List.getElem?_take_of_lt (by omega)]; exact hx)]; omega
   have hlt : XE ((l.take (i + 1)).drop q) < 18446744073709551616 := Nat.lt_of_le_of_lt (X7f _ _) hu
   rw [show ((q : Int) + 1).toNat = q + 1 by omega]
   refine X0 ?_; refine X0 ?_; refine JR ?_; refine Z1 ?_; refine Z2 ?_; refine JD ?_; refine JT ?_; refine X2 ?_; refine X0 ?_; refine X4 ?_; refine JR ?_; refine Z1 ?_
   refine Z7 (op := .mul) (r' := n64 (XE ((l.take (i + 1)).drop (q + 1)) * 128)) (u := n64 (XE ((l.take (i + 1)).drop (q + 1)))) (v := n64 128) ?_ (hr := by exact YV (by rw [XK]; omega)); refine Z1 ?_
   refine Z1 ?_; refine Z1 ?_; refine Z7 (op := .add) (r' := ni (k + q)) (u := ni k) (v := ni q) ?_ (hr := by exact Yb (by rw [Xx]; omega)); refine Zj ?_; refine Zk ?_
   refine Z7 (op := .rem) (r' := n8 (x.toNat % 128)) (u := n8 x.toNat) (v := n8 128) ?_ (hr := by exact YG (by omega))
   refine Z3 (u := n8 (x.toNat % 128)) (r := n64 (x.toNat % 128)) ?_ (hr := by exact Yu rfl rfl (by rw [XK]; omega))
   refine Z4 (op := .add) (r' := n64 (XE ((l.take (i + 1)).drop q))) (u := n64 (XE ((l.take (i + 1)).drop (q + 1)) * 128)) (v := n64 (x.toNat % 128)) ?_ (hr' := by exact by rw [hst]) (hr := by exact Yb (by rw [XK]; omega))
   refine Z0 ?_; refine JD ?_; refine JR ?_; refine Z1 ?_; refine ZR ?_; refine Z0 ?_; refine JD ?_
   refine ⟨(q : Int) - 1, ⟨by omega, by omega⟩, by omega, X8 rfl ⟨JL, JL, JL, (by rw [show ((q : Int) - 1 + 1).toNat = q by omega]; exact AVal.le_refl _), JL, trivial⟩ trivial⟩
  obtain rfl : j = -1 := by omega
  refine X0 ?_; refine X0 ?_; refine JR ?_; refine Z1 ?_; refine Z2 ?_; refine JD ?_; refine JF ?_; refine Xj ?_; refine X0 ?_; refine JR ?_; refine Z1 ?_; refine Z1 ?_; refine Z1 ?_
  refine Z7 (op := .add) (r' := ni (k + i)) (u := ni k) (v := ni i) ?_ (hr := by exact Yb (by rw [Xx]; omega)); refine Zb ?_; refine Z0 ?_; refine Z0 ?_; refine Z0 ?_; refine JD ?_
  exact X1 ⟨_, St.le_refl _, ⟨rfl, rfl, rfl, trivial⟩, X3 _⟩
end Go.Fw
namespace Go.Fw
open Go Go.Proofs
set_option maxRecDepth 100000
set_option linter.unusedVariables false
set_option linter.unusedSimpArgs false
theorem X96 (b : List UInt8) (a : Int) (h : (XH b a).2.2 = 0) (hb : b.length ≤ 281474976710656) : Con Tryz.prog 176 [] [.d (Xa b), ai a, ai (XH b a).2.1] [] (ab (!YX b a)) := by
 refine X9 (xs := [ab (!YX b a)]) Tryz.func176 rfl Tryz.ntmps176 rfl rfl rfl (fun E => ?_)
 obtain ⟨k, rfl, hk, h1, h2, he⟩ := X5u h
 have hll : (b.drop k).length = b.length - k := List.length_drop
 obtain ⟨c, hc⟩ := Xu (l := b.drop k) h1
 have hbc : b[k + Y6 (b.drop k)]? = some c := X48 hc
 have hp : YX b (k : Int) = (decide (0 < Y6 (b.drop k)) && decide (c = 0)) := by
  show (decide (0 < Y6 (b.drop ((k : Int)).toNat)) && decide (((b.drop ((k : Int)).toNat)[Y6 (b.drop ((k : Int)).toNat)]?).getD 0 = 0)) = _
  rw [Int.toNat_natCast, hc]; rfl
 rw [he, hp]
 generalize Y6 (b.drop k) = m at *
 have ee : Value.int .i64 (((k + m + 1 : Nat) : Int) - 1) = ni (k + m) := by show Value.int .i64 _ = Value.int .i64 _; congr 1; omega
 by_cases h0 : m = 0
 ·subst h0
  refine X0 ?_; refine JR ?_; refine Z0 ?_; refine JD ?_; refine X0 ?_; refine JR ?_; refine Z1 ?_; refine Z1 ?_; refine Zb ?_; refine Zl ?_; refine Z1 ?_; refine Zo ?_; refine Zo ?_; refine Zo ?_; refine Zo ?_
  refine Zo ?_; refine Zo ?_; refine Zn ?_; refine Z0 ?_; refine JD ?_
  exact X1 ⟨_, St.le_refl _, ⟨rfl, trivial⟩, X3 _⟩
 ·have h1' : ¬ (((k + m + 1 : Nat) : Int) = k + 1) := by omega
  have hm : 0 < m := by omega
  by_cases hz : c = 0
  ·have hz3 : c.toNat = 0 := by rw [hz]; rfl
   rw [show (!(decide (0 < m) && decide (c = 0))) = false by simp [hm, hz]]
   refine X0 ?_; refine JR ?_; refine Z0 ?_; refine JD ?_; refine X0 ?_; refine JR ?_; refine Z1 ?_; refine Z1 ?_; refine Zb ?_; refine Zl ?_; refine Z1 ?_; refine Z1 ?_; refine Z1 ?_
   refine Z4 (op := .sub) (r' := ni (k + m)) (u := .int .i64 ((k + m + 1 : Nat) : Int)) (v := .int .i64 1) ?_ (hr' := by exact ee) (hr := by exact Ya (by unfold Y7; omega)); refine Zj ?_; refine Zk ?_; refine Zv ?_
   refine Zq ?_; refine Z0 ?_; refine JD ?_
   exact X1 ⟨_, Xh 6 (y := ab false) (AVal.le_of_eq (by refine Eq.trans (b := ab (decide ((c.toNat : Int) ≠ 0))) rfl ?_; simp [hz3])), ⟨rfl, trivial⟩, X3 _⟩
  ·have hz3 : ¬ (c.toNat = 0) := fun h => hz (UInt8.toNat_inj.1 h)
   rw [show (!(decide (0 < m) && decide (c = 0))) = true by simp [hm, hz]]
   refine X0 ?_; refine JR ?_; refine Z0 ?_; refine JD ?_; refine X0 ?_; refine JR ?_; refine Z1 ?_; refine Z1 ?_; refine Zb ?_; refine Zl ?_; refine Z1 ?_; refine Z1 ?_; refine Z1 ?_
   refine Z4 (op := .sub) (r' := ni (k + m)) (u := .int .i64 ((k + m + 1 : Nat) : Int)) (v := .int .i64 1) ?_ (hr' := by exact ee) (hr := by exact Ya (by unfold Y7; omega)); refine Zj ?_; refine Zk ?_; refine Zv ?_
   refine Zq ?_; refine Z0 ?_; refine JD ?_
   exact X1 ⟨_, Xh 6 (y := ab true) (AVal.le_of_eq (by refine Eq.trans (b := ab (decide ((c.toNat : Int) ≠ 0))) rfl ?_; simp [hz3])), ⟨rfl, trivial⟩, X3 _⟩
end Go.Fw
namespace Go.Fw
open Go Go.Proofs
set_option maxRecDepth 100000
set_option linter.unusedVariables false
set_option linter.unusedSimpArgs false
theorem Xea {b : List UInt8} {a : Int} : Xe b a = if (XH b a).2.2 ≠ 0 then (0, 0, (XH b a).2.2) else if 9223372036854775807 < (XH b a).1 then (0, 0, 4) else if YX b a = true then (0, 0, 2) else (((XH b a).1 : Int), (XH b a).2.1, 0) := rfl
theorem XeO {b : List UInt8} {a : Int} : Xq b a = if (XH b a).2.2 ≠ 0 then (0, 0, (XH b a).2.2) else if YX b a = true then (0, 0, 2) else (zag (XH b a).1, (XH b a).2.1, 0) := rfl
theorem X3w (b : List UInt8) (a : Int) (hb : b.length ≤ 281474976710656) : Con Tryz.prog 116 [] [.d (Xa b), ai a] [] (aN3 (Xe b a)) := by
 refine X9 (xs := [ai (Xe b a).1, ai (Xe b a).2.1, ai (Xe b a).2.2]) Tryz.func116 rfl Tryz.ntmps116 rfl rfl rfl (fun E => ?_)
 have hr := X8b b a hb
 have hlt := X6F (b := b) (a := a)
 have hmin := X96 b a (hb := hb)
 rw [Xea]
 generalize YX b a = p at *
 generalize XH b a = r at *
 obtain ⟨u, e, err⟩ := r
 simp only at hlt hmin ⊢
 by_cases h2 : err = 0
 ·have hm := hmin h2
  rw [if_neg (by simpa using h2)]
  by_cases h1 : 9223372036854775807 < u
  ·rw [if_pos h1]
   repeat first | refine X0 ?_ | (refine JR ?_; (repeat first | refine Z1 ?_ | refine Z0 ?_ | refine Zs ?_ | refine Zv ?_ | refine ZF ?_ | refine Z9 (hcon := hr) ?_); refine JD ?_) | refine JT ?_ | refine JF ?_ | refine X2 ?_
   exact X1 ⟨_, St.le_refl _, ⟨rfl, rfl, rfl, trivial⟩, X3 _⟩
  rw [if_neg h1]
  cases p with
  | true =>
   rw [if_pos rfl]
   repeat first | refine X0 ?_ | (refine JR ?_; (repeat first | refine Z1 ?_ | refine Z0 ?_ | refine Zs ?_ | refine Zv ?_ | refine Zu ?_ | refine ZF ?_ | refine Z9 (hcon := hr) ?_ | refine Z9 (hcon := hm) ?_); refine JD ?_) | refine JT ?_ | refine JF ?_ | refine X2 ?_
   exact X1 ⟨_, St.le_refl _, ⟨rfl, rfl, rfl, trivial⟩, X3 _⟩
  | false =>
   rw [if_neg (by simp)]
   repeat first | refine X0 ?_ | (refine JR ?_; (repeat first | refine Z3 (u := n64 u) (r := ni u) ?_ (hr := by exact Yu rfl rfl (by rw [Xx]; omega)) | refine Z1 ?_ | refine Z0 ?_ | refine Zs ?_ | refine Zv ?_ | refine Zu ?_ | refine ZF ?_ | refine Z9 (hcon := hr) ?_ | refine Z9 (hcon := hm) ?_); refine JD ?_) | refine JF ?_ | refine X2 ?_
   exact X1 ⟨_, St.le_refl _, ⟨rfl, rfl, rfl, trivial⟩, X3 _⟩
 ·rw [if_pos h2]
  repeat first | refine X0 ?_ | (refine JR ?_; (repeat first | refine Z1 ?_ | refine Z0 ?_ | refine Zv ?_ | refine ZF ?_ | refine Z9 (hcon := hr) ?_); refine JD ?_) | refine JT ?_
  exact X1 ⟨_, St.le_refl _, ⟨rfl, rfl, rfl, trivial⟩, X3 _⟩
theorem X1O (b : List UInt8) (a : Int) (hb : b.length ≤ 281474976710656) : Con Tryz.prog 216 [] [.d (Xa b), ai a] [] (aN3 (Xq b a)) := by
 refine X9 (xs := [ai (Xq b a).1, ai (Xq b a).2.1, ai (Xq b a).2.2]) Tryz.func216 rfl Tryz.ntmps216 rfl rfl rfl (fun E => ?_)
 have hr := X8b b a hb
 have hlt := X6F (b := b) (a := a)
 have hmin := X96 b a (hb := hb)
 rw [XeO]
 generalize YX b a = p at *
 generalize XH b a = r at *
 obtain ⟨u, e, err⟩ := r
 simp only at hlt hmin ⊢
 by_cases h2 : err = 0
 ·have hm := hmin h2
  rw [if_neg (by simpa using h2)]
  cases p with
  | true =>
   rw [if_pos rfl]
   repeat first | refine X0 ?_ | (refine JR ?_; (repeat first | refine Z1 ?_ | refine Z0 ?_ | refine Zv ?_ | refine Zu ?_ | refine ZF ?_ | refine Z9 (hcon := hr) ?_ | refine Z9 (hcon := hm) ?_); refine JD ?_) | refine JT ?_ | refine JF ?_ | refine X2 ?_
   exact X1 ⟨_, St.le_refl _, ⟨rfl, rfl, rfl, trivial⟩, X3 _⟩
  | false =>
   rw [if_neg (by simp)]
   have hx : ∀ w, (Op.unary .neg (ni (u / 2))).run Tryz.prog w = .ok (.int .i64 (-((u / 2 : Nat) : Int))) w := fun w => X5J (P := Tryz.prog) (by omega) w
   by_cases hodd : u % 2 = 1
   ·rw [show zag u = -((u / 2 : Nat) : Int) - 1 by unfold zag; rw [if_pos hodd]]
    refine X0 ?_; refine JR ?_; refine Z0 ?_; refine Z0 ?_; refine Z0 ?_; refine JD ?_; refine X0 ?_; refine JR ?_; refine Z1 ?_; refine Z1 ?_; refine Z9 (hcon := hr) ?_; refine Z1 ?_; refine ZF ?_; refine ZF ?_
    refine ZF ?_; refine Z0 ?_; refine Z0 ?_; refine Z0 ?_; refine JD ?_; refine X0 ?_; refine X0 ?_; refine JR ?_; refine Z1 ?_; refine Zv ?_; refine JD ?_; refine JF ?_; refine X2 ?_; refine X0 ?_
    refine X0 ?_; refine JR ?_; refine Z1 ?_; refine Z1 ?_; refine Z1 ?_; refine Z9 (hcon := hm) ?_; refine Zu ?_; refine JD ?_; refine JF ?_; refine X2 ?_; refine X0 ?_; refine X0 ?_; refine JR ?_
    refine Z1 ?_; refine Z7 (op := .rem) (r' := n64 (u % 2)) (u := n64 u) (v := n64 2) ?_ (hr := by exact YG (by omega)); refine Zl ?_; refine JD ?_; refine JT ?_; refine X0 ?_; refine JR ?_; refine Z1 ?_
    refine Z7 (op := .quo) (r' := n64 (u / 2)) (u := n64 u) (v := n64 2) ?_ (hr := by exact UN (by omega) (by rw [XK]; omega))
    refine Z3 (u := n64 (u / 2)) (r := ni (u / 2)) ?_ (hr := by exact Yu rfl rfl (by rw [Xx]; omega)); refine Za (u := ni (u / 2)) (r := .int .i64 (-((u / 2 : Nat) : Int))) ?_ (hr := by exact hx); refine ZR ?_
    refine Z1 ?_; refine Z0 ?_; refine Z0 ?_; refine Z0 ?_; refine JD ?_
    exact X1 ⟨_, St.le_refl _, ⟨rfl, rfl, rfl, trivial⟩, X3 _⟩
   ·rw [show zag u = ((u / 2 : Nat) : Int) by unfold zag; rw [if_neg hodd]]
    refine X0 ?_; refine JR ?_; refine Z0 ?_; refine Z0 ?_; refine Z0 ?_; refine JD ?_; refine X0 ?_; refine JR ?_; refine Z1 ?_; refine Z1 ?_; refine Z9 (hcon := hr) ?_; refine Z1 ?_; refine ZF ?_; refine ZF ?_
    refine ZF ?_; refine Z0 ?_; refine Z0 ?_; refine Z0 ?_; refine JD ?_; refine X0 ?_; refine X0 ?_; refine JR ?_; refine Z1 ?_; refine Zv ?_; refine JD ?_; refine JF ?_; refine X2 ?_; refine X0 ?_
    refine X0 ?_; refine JR ?_; refine Z1 ?_; refine Z1 ?_; refine Z1 ?_; refine Z9 (hcon := hm) ?_; refine Zu ?_; refine JD ?_; refine JF ?_; refine X2 ?_; refine X0 ?_; refine X0 ?_; refine JR ?_
    refine Z1 ?_; refine Z7 (op := .rem) (r' := n64 (u % 2)) (u := n64 u) (v := n64 2) ?_ (hr := by exact YG (by omega)); refine Zl ?_; refine JD ?_; refine JF ?_; refine X2 ?_; refine X0 ?_; refine JR ?_
    refine Z1 ?_; refine Z7 (op := .quo) (r' := n64 (u / 2)) (u := n64 u) (v := n64 2) ?_ (hr := by exact UN (by omega) (by rw [XK]; omega))
    refine Z3 (u := n64 (u / 2)) (r := ni (u / 2)) ?_ (hr := by exact Yu rfl rfl (by rw [Xx]; omega)); refine Z1 ?_; refine Z0 ?_; refine Z0 ?_; refine Z0 ?_; refine JD ?_
    exact X1 ⟨_, St.le_refl _, ⟨rfl, rfl, rfl, trivial⟩, X3 _⟩
 ·rw [if_pos h2]
  repeat first | refine X0 ?_ | (refine JR ?_; (repeat first | refine Z1 ?_ | refine Z0 ?_ | refine Zv ?_ | refine ZF ?_ | refine Z9 (hcon := hr) ?_); refine JD ?_) | refine JT ?_
  exact X1 ⟨_, St.le_refl _, ⟨rfl, rfl, rfl, trivial⟩, X3 _⟩
theorem X6w (b : List UInt8) (a most : Int) (hb : b.length ≤ 281474976710656) : Con Tryz.prog 178 [] [.d (Xa b), ai a, ai most] [] (X2a (XD (Y9 b a most).1) (Y9 b a most).2.1 (Y9 b a most).2.2) := by
 refine X9 (xs := [XD (Y9 b a most).1, ai (Y9 b a most).2.1, ai (Y9 b a most).2.2]) Tryz.func178 rfl Tryz.ntmps178 rfl rfl rfl (fun E => ?_)
 have hr := X3w b a hb
 have hf := X3q (b := b) (a := a)
 rw [X8Q]
 generalize Xe b a = r at *
 obtain ⟨n, f, err⟩ := r
 simp only at hf ⊢
 by_cases h2 : err = 0
 ·obtain ⟨n, f, rfl, rfl, hf1, hf2⟩ := hf h2
  rw [if_neg (by simpa using h2)]
  by_cases h3 : most < (n : Int)
  ·rw [if_pos h3]
   repeat first | refine X0 ?_ | (refine JR ?_; (repeat first | refine Z1 ?_ | refine Z0 ?_ | refine Zs ?_ | refine Zv ?_ | refine ZF ?_ | refine Z9 (hcon := hr) ?_); refine JD ?_) | refine JT ?_ | refine JF ?_ | refine X2 ?_
   exact X1 ⟨_, St.le_refl _, ⟨rfl, rfl, rfl, trivial⟩, X3 _⟩
  rw [if_neg h3]
  by_cases h4 : (b.length : Int) - f < n
  ·rw [if_pos h4]
   repeat first | refine X0 ?_ | (refine JR ?_; (repeat first | refine Z1 ?_ | refine Z0 ?_ | refine Zd ?_ | refine Zs ?_ | refine Zv ?_ | refine ZR ?_ | refine ZF ?_ | refine Z9 (hcon := hr) ?_); refine JD ?_) | refine JT ?_ | refine JF ?_ | refine X2 ?_
   exact X1 ⟨_, St.le_refl _, ⟨rfl, rfl, rfl, trivial⟩, X3 _⟩
  rw [if_neg h4]
  have hsl : ((b.map X6).take (f + n)).drop f = ((b.drop f).take n).map X6 := by rw [List.map_take, List.map_drop, List.drop_take, Nat.add_sub_cancel_left]
  repeat first | refine X0 ?_ | (refine JR ?_; (repeat first | refine Z7 (op := .add) (r' := ni (f + n)) (u := ni f) (v := ni n) ?_ (hr := by exact Yb (by rw [Xx]; omega)) | refine ZV (lb := f) (hb := f + n) (ys := ((b.drop f).take n).map X6) ?_ (hys := by exact hsl) | refine Z1 ?_ | refine Z0 ?_ | refine Zd ?_ | refine Zs ?_ | refine Zv ?_ | refine ZR ?_ | refine ZF ?_ | refine ZW ?_ | refine Z9 (hcon := hr) ?_); refine JD ?_) | refine JF ?_ | refine X2 ?_
  exact X1 ⟨_, St.le_refl _, ⟨rfl, rfl, rfl, trivial⟩, X3 _⟩
 ·rw [if_pos h2]
  repeat first | refine X0 ?_ | (refine JR ?_; (repeat first | refine Z1 ?_ | refine Z0 ?_ | refine Zv ?_ | refine ZF ?_ | refine Z9 (hcon := hr) ?_); refine JD ?_) | refine JT ?_
  exact X1 ⟨_, St.le_refl _, ⟨rfl, rfl, rfl, trivial⟩, X3 _⟩
end Go.Fw
namespace Go.Fw
open Go Go.Proofs
set_option maxRecDepth 100000
set_option linter.unusedVariables false
set_option linter.unusedSimpArgs false
theorem Xcz (b : List UInt8) (a : Int) (hb : b.length ≤ 140737488355328) : Con Tryz.prog 115 [] [.d (Xa b), ai a] [] (X2a (.d (Xa (YQ b a).1)) (YQ b a).2.1 (YQ b a).2.2) := by
 refine X9 (xs := [.d (Xa (YQ b a).1), ai (YQ b a).2.1, ai (YQ b a).2.2]) Tryz.func115 rfl Tryz.ntmps115 rfl rfl rfl (fun E => ?_)
 have hr := X3w b a (by omega)
 have hf := X3q (b := b) (a := a)
 rw [Xb4]
 generalize Xe b a = r at *
 obtain ⟨n, f, err⟩ := r
 simp only at hf ⊢
 by_cases h2 : err = 0
 ·obtain ⟨n, f, rfl, rfl, hf1, hf2⟩ := hf h2
  rw [if_neg (by simpa using h2)]
  by_cases h3 : (b.length : Int) - f < 4
  ·rw [if_pos (.inl h3)]
   repeat first | refine X0 ?_ | (refine JR ?_; (repeat first | refine Z1 ?_ | refine Z0 ?_ | refine Zd ?_ | refine Z8 ?_ | refine Zv ?_ | refine ZR ?_ | refine ZF ?_ | refine Zn ?_ | refine Zo ?_ | refine Z9 (hcon := hr) ?_); refine JD ?_) | refine JT ?_ | refine JF ?_ | refine X2 ?_
   exact X1 ⟨_, Xh 4 (y := .d (Xa [])) (AVal.le_nil 1), ⟨rfl, rfl, rfl, trivial⟩, X3 _⟩
  by_cases h4 : (b.length : Int) - f - 4 < n
  ·rw [if_pos (.inr h4)]
   repeat first | refine X0 ?_ | (refine JR ?_; (repeat first | refine Z1 ?_ | refine Z0 ?_ | refine Zd ?_ | refine Z8 ?_ | refine Zs ?_ | refine Zv ?_ | refine ZR ?_ | refine ZF ?_ | refine Zq ?_ | refine Z9 (hcon := hr) ?_); refine JD ?_) | refine JT ?_ | refine JF ?_ | refine X2 ?_
   exact X1 ⟨_, Xh 4 (y := .d (Xa [])) (AVal.le_nil 1), ⟨rfl, rfl, rfl, trivial⟩, X3 _⟩
  rw [if_neg (by omega)]
  have hsl : ((b.map X6).take (f + n)).drop f = ((b.drop f).take n).map X6 := by rw [List.map_take, List.map_drop, List.drop_take, Nat.add_sub_cancel_left]
  have hbl : ((b.drop f).take n).length = n := by simp; omega
  repeat first | refine X0 ?_ | (refine JR ?_; (repeat first | refine Z7 (op := .add) (r' := ni (f + n)) (u := ni f) (v := ni n) ?_ (hr := by exact Yb (by rw [Xx]; omega)) | refine ZV (lb := f) (hb := f + n) (ys := ((b.drop f).take n).map X6) ?_ (hys := by exact hsl) | refine Z1 ?_ | refine Z0 ?_ | refine Zd ?_ | refine Z8 ?_ | refine Zs ?_ | refine Zv ?_ | refine ZR ?_ | refine ZF ?_ | refine Zq ?_ | refine ZZ (len := 0) (γ := 100) ?_ | refine Z6 ?_ | refine Z9 (hcon := hr) ?_); refine JD ?_) | refine JF ?_ | refine X2 ?_
  refine Xm (Y0 100 rfl) ?_
  refine Xm (YC 10 100 rfl rfl (by simp)) ?_
  have et : ((f : Int) + (n : Int)).toNat = f + n := by omega
  rw [et, Int.toNat_natCast, Int.toNat_natCast]
  obtain ⟨y0, g0⟩ := Xu (l := b) (k := f + n) (by omega)
  obtain ⟨y1, g1⟩ := Xu (l := b) (k := f + n + 1) (by omega)
  obtain ⟨y2, g2⟩ := Xu (l := b) (k := f + n + 2) (by omega)
  obtain ⟨y3, g3⟩ := Xu (l := b) (k := f + n + 3) (by omega)
  have z0 := y0.toNat_lt
  have z1 := y1.toNat_lt
  have z2 := y2.toNat_lt
  have z3 := y3.toNat_lt
  have ha : UX b (f + n) = y0.toNat + 256 * y1.toNat + 65536 * y2.toNat + 16777216 * y3.toNat := by unfold UX; rw [g0, g1, g2, g3]; rfl
  rw [ha]
  generalize (b.drop f).take n = body at *
  by_cases hs : y0.toNat + 256 * y1.toNat + 65536 * y2.toNat + 16777216 * y3.toNat = XT body
  ·rw [if_neg (by simpa using hs)]
   refine JR ?_; refine Z1 ?_; refine Z1 ?_; refine Zj ?_; refine Zk ?_; refine ZY ?_; refine Z1 ?_; refine Z1 ?_
   refine Z7 (op := .add) (r' := ni (f + n + 1)) (u := ni (f + n)) (v := ni 1) ?_ (hr := by exact Yb (by rw [Xx]; omega)); refine Zj ?_; refine Zk ?_; refine ZY ?_
   refine Z7 (op := .mul) (r' := ni (256 * y1.toNat)) (u := ni 256) (v := ni y1.toNat) ?_ (hr := by exact YV (by rw [Xx]; omega))
   refine Z7 (op := .add) (r' := ni (y0.toNat + 256 * y1.toNat)) (u := ni y0.toNat) (v := ni (256 * y1.toNat)) ?_ (hr := by exact Yb (by rw [Xx]; omega)); refine Z1 ?_; refine Z1 ?_
   refine Z7 (op := .add) (r' := ni (f + n + 2)) (u := ni (f + n)) (v := ni 2) ?_ (hr := by exact Yb (by rw [Xx]; omega)); refine Zj ?_; refine Zk ?_; refine ZY ?_
   refine Z7 (op := .mul) (r' := ni (65536 * y2.toNat)) (u := ni 65536) (v := ni y2.toNat) ?_ (hr := by exact YV (by rw [Xx]; omega))
   refine Z7 (op := .add) (r' := ni (y0.toNat + 256 * y1.toNat + 65536 * y2.toNat)) (u := ni (y0.toNat + 256 * y1.toNat)) (v := ni (65536 * y2.toNat)) ?_ (hr := by exact Yb (by rw [Xx]; omega)); refine Z1 ?_
   refine Z1 ?_; refine Z7 (op := .add) (r' := ni (f + n + 3)) (u := ni (f + n)) (v := ni 3) ?_ (hr := by exact Yb (by rw [Xx]; omega)); refine Zj ?_; refine Zk ?_; refine ZY ?_
   refine Z7 (op := .mul) (r' := ni (16777216 * y3.toNat)) (u := ni 16777216) (v := ni y3.toNat) ?_ (hr := by exact YV (by rw [Xx]; omega))
   refine Z7 (op := .add) (r' := ni (y0.toNat + 256 * y1.toNat + 65536 * y2.toNat + 16777216 * y3.toNat)) (u := ni (y0.toNat + 256 * y1.toNat + 65536 * y2.toNat)) (v := ni (16777216 * y3.toNat)) ?_ (hr := by exact Yb (by rw [Xx]; omega))
   refine Z0 ?_; refine JD ?_; refine X0 ?_; refine X0 ?_; refine JR ?_; refine Z1 ?_; refine Z1 ?_; refine Z9 (hcon := X6h body) ?_; refine Zv ?_; refine JD ?_; refine JF ?_; refine X2 ?_
   refine X0 ?_; refine JR ?_; refine Z1 ?_; refine Z1 ?_; refine Zb ?_; refine Z0 ?_; refine Z0 ?_; refine Z0 ?_; refine JD ?_
   exact X1 ⟨_, St.le_trans (Xh 4 (y := .d (Xa body)) (AVal.le_refl _)) (Xh 5 (y := ai ((f : Int) + n + 4)) (AVal.le_of_eq (by refine Eq.trans (b := ai _) rfl ?_; simp))), ⟨rfl, rfl, rfl, trivial⟩, X3 _⟩
  ·rw [if_pos hs]
   refine JR ?_; refine Z1 ?_; refine Z1 ?_; refine Zj ?_; refine Zk ?_; refine ZY ?_; refine Z1 ?_; refine Z1 ?_
   refine Z7 (op := .add) (r' := ni (f + n + 1)) (u := ni (f + n)) (v := ni 1) ?_ (hr := by exact Yb (by rw [Xx]; omega)); refine Zj ?_; refine Zk ?_; refine ZY ?_
   refine Z7 (op := .mul) (r' := ni (256 * y1.toNat)) (u := ni 256) (v := ni y1.toNat) ?_ (hr := by exact YV (by rw [Xx]; omega))
   refine Z7 (op := .add) (r' := ni (y0.toNat + 256 * y1.toNat)) (u := ni y0.toNat) (v := ni (256 * y1.toNat)) ?_ (hr := by exact Yb (by rw [Xx]; omega)); refine Z1 ?_; refine Z1 ?_
   refine Z7 (op := .add) (r' := ni (f + n + 2)) (u := ni (f + n)) (v := ni 2) ?_ (hr := by exact Yb (by rw [Xx]; omega)); refine Zj ?_; refine Zk ?_; refine ZY ?_
   refine Z7 (op := .mul) (r' := ni (65536 * y2.toNat)) (u := ni 65536) (v := ni y2.toNat) ?_ (hr := by exact YV (by rw [Xx]; omega))
   refine Z7 (op := .add) (r' := ni (y0.toNat + 256 * y1.toNat + 65536 * y2.toNat)) (u := ni (y0.toNat + 256 * y1.toNat)) (v := ni (65536 * y2.toNat)) ?_ (hr := by exact Yb (by rw [Xx]; omega)); refine Z1 ?_
   refine Z1 ?_; refine Z7 (op := .add) (r' := ni (f + n + 3)) (u := ni (f + n)) (v := ni 3) ?_ (hr := by exact Yb (by rw [Xx]; omega)); refine Zj ?_; refine Zk ?_; refine ZY ?_
   refine Z7 (op := .mul) (r' := ni (16777216 * y3.toNat)) (u := ni 16777216) (v := ni y3.toNat) ?_ (hr := by exact YV (by rw [Xx]; omega))
   refine Z7 (op := .add) (r' := ni (y0.toNat + 256 * y1.toNat + 65536 * y2.toNat + 16777216 * y3.toNat)) (u := ni (y0.toNat + 256 * y1.toNat + 65536 * y2.toNat)) (v := ni (16777216 * y3.toNat)) ?_ (hr := by exact Yb (by rw [Xx]; omega))
   refine Z0 ?_; refine JD ?_; refine X0 ?_; refine X0 ?_; refine JR ?_; refine Z1 ?_; refine Z1 ?_; refine Z9 (hcon := X6h body) ?_; refine Zv ?_; refine JD ?_; refine JT ?_; refine X0 ?_; refine JR ?_
   refine Z0 ?_; refine Z0 ?_; refine Z0 ?_; refine JD ?_
   exact X1 ⟨_, Xh 4 (y := .d (Xa [])) (AVal.le_nil 1), ⟨rfl, rfl, rfl, trivial⟩, X3 _⟩
 ·rw [if_pos h2]
  repeat first | refine X0 ?_ | (refine JR ?_; (repeat first | refine Z1 ?_ | refine Z0 ?_ | refine Zv ?_ | refine ZF ?_ | refine Z9 (hcon := hr) ?_); refine JD ?_) | refine JT ?_
  exact X1 ⟨_, Xh 4 (y := .d (Xa [])) (AVal.le_nil 1), ⟨rfl, rfl, rfl, trivial⟩, X3 _⟩
end Go.Fw
namespace Go.Fw
open Go
set_option linter.unusedVariables false
set_option linter.unusedSimpArgs false
theorem XaV {g : Nat → Int → Val × Int × Int} {a : Int} (hg : ∀ i q, (g i q).2.2 = 0 → X7 8 (g i q).1 = true) : ∀ k, (XC g a k).2.2 = 0 → ∀ x ∈ (XC g a k).1, X7 8 x = true
 | 0, _, x, hx => by simp [XC] at hx
 | k + 1, h, x, hx => by
  by_cases e : (XC g a k).2.2 = 0
  ·rw [X0x e] at h hx
   rcases List.mem_append.1 hx with hx | hx
   ·exact XaV hg k e x hx
   ·obtain rfl := List.mem_singleton.1 hx
    exact hg _ _ h
  ·rw [X0D e (k + 1) (by omega)] at h; exact absurd h e
theorem XcI {k n : Int} (h : Ul k n = false) : n ≤ 64 := by
 unfold Ul at h
 split at h <;> simp at h <;> omega
theorem XgB {gl gp : Nat → Int → Val × Int × Int} {b : List UInt8} {a k : Int} (hgl : ∀ i q, (gl i q).2.2 = 0 → X7 8 (gl i q).1 = true) (hgp : ∀ i q, (gp i q).2.2 = 0 → X7 8 (gp i q).1 = true)
  (h : (Y8 gl gp b a k).2.2 = 0) : XY (Y8 gl gp b a k).1 := by
 unfold Y8 at h ⊢
 split
 ·simp [XY, Vi]
 rename_i h1; rw [if_neg h1] at h
 split
 ·simp only; split <;> simp [XY, Vi]
 rename_i h2; rw [if_neg h2] at h
 split
 ·have := X7X b a 100 (by omega)
  simp only [XY, Vi]
  exact ⟨by omega, by simp, trivial⟩
 rename_i h3; rw [if_neg h3] at h
 split
 ·rename_i h4; rw [if_pos h4] at h
  simp only at h ⊢
  split
  ·simp [XY, Vi]
  rename_i h5; rw [if_neg h5] at h
  split
  ·simp [XY, Vi]
  rename_i h6; rw [if_neg h6] at h
  have h6 := XcI (by simpa using h6)
  have hall : ∀ g, (g = gl ∨ g = gp) → (XC g (Xe b a).2.1 (Xe b a).1.toNat).2.2 = 0 → XY (.mk k 0 0 [] (XC g (Xe b a).2.1 (Xe b a).1.toNat).1) := by
   intro g hg he
   have hl := X9f he
   simp only [XY]
   refine ⟨by simp, by rw [hl]; omega, X43 fun x hx => X5a x 8 (XaV (fun i q hh => ?_) _ he x hx)⟩
   rcases hg with rfl | rfl
   ·exact hgl i q hh
   ·exact hgp i q hh
  simp only at h
  split
  ·rename_i h7; rw [if_pos h7] at h; exact hall gl (.inl rfl) h
  ·rename_i h7; rw [if_neg h7] at h; exact hall gp (.inr rfl) h
 ·simp [XY, Vi]
end Go.Fw
namespace Go.Fw
open Go
set_option linter.unusedVariables false
def VA (r : Val × Int × Int) : Val × Int × Int := if r.2.2 ≠ 0 then (zV, 0, r.2.2) else r
def X1d (g : Nat → Int → Val × Int × Int) (b : List UInt8) (a k : Int) : Val × Int × Int :=
 let c := Xe b a
 if c.2.2 ≠ 0 then (.mk k 0 0 [] [], 0, c.2.2) else if Ul k c.1 then (.mk k 0 0 [] [], 0, 2) else
  let p := XC g c.2.1 c.1.toNat; if p.2.2 ≠ 0 then (.mk k 0 0 [] p.1.dropLast, 0, p.2.2) else (.mk k 0 0 [] p.1, p.2.1, 0)
def YR (gl gp : Nat → Int → Val × Int × Int) (b : List UInt8) (a k : Int) : Val × Int × Int :=
 if k = 7 ∨ k = 8 then X1d (if k = 8 then gl else gp) b a k else Y8 gl gp b a k
theorem XaG (gl gp : Nat → Int → Val × Int × Int) (b : List UInt8) (a k : Int) :
  (YR gl gp b a k).2.2 = (Y8 gl gp b a k).2.2 ∧ ((Y8 gl gp b a k).2.2 = 0 → YR gl gp b a k = Y8 gl gp b a k) := by
 unfold YR
 by_cases h : k = 7 ∨ k = 8
 ·rw [if_pos h]
  have h1 : ¬(k = 1 ∨ k = 2 ∨ k = 5 ∨ k = 6) := by omega
  have h3 : ¬ k = 3 := by omega
  have h4 : ¬ k = 4 := by omega
  unfold X1d Y8
  rw [if_neg h1, if_neg h3, if_neg h4, if_pos h]
  simp only
  by_cases e1 : (Xe b a).2.2 = 0
  ·have e1' : ¬ (Xe b a).2.2 ≠ 0 := fun h => h e1
   simp only [if_neg e1']
   by_cases e2 : Ul k (Xe b a).1 = true
   ·simp only [if_pos e2]
    exact ⟨trivial, fun h => absurd h (by decide)⟩
   ·simp only [if_neg e2]
    generalize XC (if k = 8 then gl else gp) (Xe b a).2.1 (Xe b a).1.toNat = p
    by_cases e3 : p.2.2 = 0
    ·have e3' : ¬ p.2.2 ≠ 0 := fun h => h e3
     simp only [if_neg e3']
     exact ⟨e3.symm, fun _ => by rw [← e3]⟩
    ·have e3' : p.2.2 ≠ 0 := e3
     simp only [if_pos e3']
     exact ⟨trivial, fun h => absurd h e3⟩
  ·have e1' : (Xe b a).2.2 ≠ 0 := e1
   simp only [if_pos e1']
   exact ⟨trivial, fun h => absurd h e1⟩
 ·rw [if_neg h]
  exact ⟨rfl, fun _ => rfl⟩
theorem XgY (gl gp : Nat → Int → Val × Int × Int) (m : Nat) (b : List UInt8) (a want : Int) : VA (Ud gl gp m b a want) =
  if a = b.length then (zV, 0, 3) else
  if 8 < ((((b[a.toNat]?).getD 0).toNat : Nat) : Int) ∨ (((((b[a.toNat]?).getD 0).toNat : Nat) : Int) = 8 ∧ m = 0) ∨ (want ≠ 0 ∧ ((((b[a.toNat]?).getD 0).toNat : Nat) : Int) ≠ want) then (zV, 0, 2) else
   if (YR gl gp b (a + 1) (((b[a.toNat]?).getD 0).toNat : Nat)).2.2 ≠ 0 then (zV, 0, (YR gl gp b (a + 1) (((b[a.toNat]?).getD 0).toNat : Nat)).2.2) else
   if X7 8 (YR gl gp b (a + 1) (((b[a.toNat]?).getD 0).toNat : Nat)).1 = false then (zV, 0, 2) else YR gl gp b (a + 1) (((b[a.toNat]?).getD 0).toNat : Nat) := by
 unfold Ud
 by_cases h1 : a = b.length
 ·rw [if_pos h1, if_pos h1]; rfl
 rw [if_neg h1, if_neg h1]
 simp only
 generalize ((((b[a.toNat]?).getD 0).toNat : Nat) : Int) = k
 by_cases h2 : 8 < k ∨ (k = 8 ∧ m = 0) ∨ (want ≠ 0 ∧ k ≠ want)
 ·rw [if_pos h2, if_pos h2]; rfl
 rw [if_neg h2, if_neg h2]
 obtain ⟨e1, e2⟩ := XaG gl gp b (a + 1) k
 generalize Y8 gl gp b (a + 1) k = c at *
 by_cases e3 : c.2.2 = 0
 ·have e3' : ¬ c.2.2 ≠ 0 := fun h => h e3
  rw [e2 e3, if_neg e3']
  by_cases e4 : X7 8 c.1 = false
  ·rw [if_pos ⟨e3, e4⟩, if_pos e4]; rfl
  ·rw [if_neg (fun h => e4 h.2), if_neg e4]
   unfold VA
   rw [if_neg e3']
 ·rw [if_neg (fun h => e3 h.1), e1, if_pos e3]
  unfold VA
  rw [if_pos e3]
theorem Xhq (b : List UInt8) (a : Int) : Yf b a = if a < 0 ∨ (b.length : Int) < a then (zV, 0, 1) else VA (V5 b 8 a) := rfl
theorem XdB {b : List UInt8} {a : Int} (h : (Xq b a).2.2 ≠ 0) : (Xq b a).2.1 = 0 := by
 unfold Xq at h ⊢
 simp only at h ⊢
 split
 ·rfl
 ·rename_i h1
  rw [if_neg h1] at h
  split
  ·rfl
  ·rename_i h2
   rw [if_neg h2] at h
   exact absurd rfl h
end Go.Fw
namespace Go.Fw
open Go Go.Proofs
set_option maxRecDepth 100000
set_option linter.unusedVariables false
set_option linter.unusedSimpArgs false
def X1r (b : List UInt8) (a : Nat) (lists path : Int) (r : Val × Int × Int) : Prop :=
 Con Tryz.prog 217 [] [.d (Xa b), ai a, ai lists, ai path] [] (.tup [Xv r.1, ai r.2.1, ai r.2.2])
def X26 (b : List UInt8) (a : Int) (k lists : Int) (r : Val × Int × Int) : Prop :=
 Con Tryz.prog 247 [] [.d (Xa b), ai a, ai k, ai lists] [] (.tup [Xv r.1, ai r.2.1, ai r.2.2])
theorem Xc4 (b : List UInt8) (m : Nat) (a : Int) (gl : Nat → Int → Val × Int × Int) (R : Val × Int × Int) (hm : m ≤ 8) (hb : b.length ≤ 281474976710656)
  (hge : ∀ i q : Nat, q ≤ b.length → Uz b (gl i q).2) (hg : ∀ i q : Nat, q ≤ b.length → X1r b q (8 - m + 1) (-1) (VA (gl i q))) (hG : R = X1d gl b a 8) : X26 b a 8 (8 - m) R := by
 refine X9 (xs := [Xv R.1, ai R.2.1, ai R.2.2]) Tryz.func247 rfl Tryz.ntmps247 rfl rfl rfl (fun E => ?_)
 have hc := X3w b a hb
 have hue := X1A b a
 unfold X1d at hG
 simp only at hG
 obtain ⟨N, hN⟩ := X2z b a
 generalize Xe b a = u at *
 obtain ⟨n, a2, e2⟩ := u
 simp only at hN
 subst hN
 simp only [Int.toNat_natCast] at hc hG hue
 by_cases he2 : e2 = 0
 case neg =>
  rw [if_pos he2] at hG
  subst hG
  repeat first | refine X0 ?_ | (refine JR ?_; (repeat first | refine Z1 ?_ | refine Z0 ?_ | refine ZL ?_ | refine Zv ?_ | refine Zw (γ := 100) ?_ | refine Zw (γ := 101) ?_ | refine Zy ?_ | refine Zx ?_ | refine ZF ?_ | refine Z9 (hcon := hc) ?_); refine JD ?_) | refine JT ?_
  exact X1 ⟨_, XI 100 (cs := [ai 8, ai 0, ai 0, .d (.v (.string (X5 []))), ani]) (cs' := [ai 8, ai 0, ai 0, .d (.v (.string (X5 []))), .d (.sl 5 [])]) rfl ⟨AVal.le_refl _, AVal.le_refl _, AVal.le_refl _, AVal.le_refl _, AVal.le_nil 5, trivial⟩ rfl, ⟨⟨100, 0, _, rfl, rfl, .inr ⟨5, _, rfl, rfl, rfl, rfl⟩⟩, rfl, rfl, trivial⟩, X3 _⟩
 subst he2
 rw [if_neg (by simp)] at hG
 have h00 := hue rfl
 simp only at h00
 clear hue
 by_cases hN : 64 < N
 ·rw [if_pos (by simp [Ul]; omega)] at hG
  subst hG
  have hN' : (N : Int) > 64 := by omega
  repeat first | refine X0 ?_ | (refine JR ?_; (repeat first | refine Z1 ?_ | refine Z0 ?_ | refine ZL ?_ | refine Zs ?_ | refine Zl ?_ | refine Zv ?_ | refine Zw (γ := 100) ?_ | refine Zw (γ := 101) ?_ | refine Zy ?_ | refine Zx ?_ | refine ZF ?_ | refine Zn ?_ | refine Zo ?_ | refine Zp ?_ | refine Z9 (hcon := hc) ?_); refine JD ?_) | refine JT ?_ | refine JF ?_ | refine X2 ?_
  exact X1 ⟨_, XI 100 (cs := [ai 8, ai 0, ai 0, .d (.v (.string (X5 []))), ani]) (cs' := [ai 8, ai 0, ai 0, .d (.v (.string (X5 []))), .d (.sl 5 [])]) rfl ⟨AVal.le_refl _, AVal.le_refl _, AVal.le_refl _, AVal.le_refl _, AVal.le_nil 5, trivial⟩ rfl, ⟨⟨100, 0, _, rfl, rfl, .inr ⟨5, _, rfl, rfl, rfl, rfl⟩⟩, rfl, rfl, trivial⟩, X3 _⟩
 rw [if_neg (by simp [Ul]; omega)] at hG
 have hN' : ¬ (N : Int) > 64 := by omega
 repeat first | refine X0 ?_ | (refine JR ?_; (repeat first | refine Z1 ?_ | refine Z0 ?_ | refine Zs ?_ | refine Zl ?_ | refine Zv ?_ | refine Zw (γ := 100) ?_ | refine Zw (γ := 101) ?_ | refine Zy ?_ | refine Zx ?_ | refine ZF ?_ | refine Zn ?_ | refine Zq ?_ | refine Zo ?_ | refine Zp ?_ | refine Z9 (hcon := hc) ?_); refine JD ?_) | refine JF ?_ | refine X4 ?_ | refine X2 ?_
 refine Xm (X0u 101 4 121 5 (cs := [ai 8, ai 0, ai 0, .d (.v (.string (X5 []))), ani]) rfl rfl rfl rfl rfl) ?_
 refine Xy (fun i : Nat => i ≤ N ∧ (XC gl a2 i).2.2 = 0 ∧ (XC gl a2 i).1.length = i) (fun i => ⟨87, [(0, .d (Xa b)), (2, ai 8), (3, ai (8 - m)), (8, .ptr 100 0), (11, .ptr 101 0), (12, ai N), (13, ai (XC gl a2 i).2.1), (15, ai i)], [(100, .box [ai 0, ai 0, ai 0, .d (.v (.string (X5 []))), ani]), (101, .box [ai 8, ai 0, ai 0, .d (.v (.string (X5 []))), .own 121 (XC gl a2 i).1.length]), (121, .row 5 (XJ (XC gl a2 i).1))]⟩) (fun i => N - i) 0 ⟨by omega, rfl, rfl⟩
  (X8 rfl ⟨JL, JL, JL, JL, JL, JL, JL, JL, trivial⟩ ⟨rfl, rfl, rfl, trivial⟩) ?_
 intro i hi
 obtain ⟨hi, hpe, hil⟩ := hi
 have hlen := UR (XC gl a2 i).1
 by_cases hiN : i < N
 case neg =>
  obtain rfl : i = N := by omega
  rw [if_neg (by simpa using hpe)] at hG
  generalize XC gl a2 i = p at *
  obtain ⟨l, pa, pe⟩ := p
  simp only at hpe hil hG hlen
  subst hpe hG
  refine Xm (Y0 121 rfl) ?_
  refine Xm (UG 101 4 121 (cs := [ai 8, ai 0, ai 0, .d (.v (.string (X5 []))), .own 121 l.length]) (sz := 5) (xs := XJ l) rfl rfl rfl hlen.symm) ?_
  refine X0 ?_; refine X0 ?_; refine JR ?_; refine Z1 ?_; refine Z1 ?_; refine Z8 ?_; refine JD ?_; refine JF ?_; refine Xj ?_; refine X0 ?_; refine JR ?_; refine ZL ?_; refine Z1 ?_; refine Zy ?_
  refine Z0 ?_; refine Z0 ?_; refine JD ?_
  exact X1 ⟨_, St.le_refl _, ⟨⟨100, 0, _, rfl, rfl, .inr ⟨5, _, rfl, rfl, rfl, rfl⟩⟩, rfl, rfl, trivial⟩, X3 _⟩
 obtain ⟨q, hq1, hq2⟩ := X1U hge h00 i hpe
 have hcall := hg i q hq2
 unfold X1r at hcall
 have hsucc := X0x hpe
 have hsl := X4H hpe
 rw [hq1] at hsucc
 generalize gl i q = r at hcall hsucc
 by_cases hre : r.2.2 = 0
 case neg =>
  have hst := X0D (g := gl) (a := a2) (k := i + 1) (by rw [hsucc]; exact hre) N (by omega)
  rw [hst, if_pos (by rw [hsucc]; exact hre), hsucc] at hG
  unfold VA at hcall
  rw [if_pos hre] at hcall
  generalize XC gl a2 i = p at *
  obtain ⟨l, pa, pe⟩ := p
  obtain ⟨x, xa, xe⟩ := r
  simp only [List.dropLast_concat] at hq1 hpe hil hG hlen hcall hre
  clear hsucc hst hsl
  subst hG hq1 hpe
  simp only [Xv, XJ] at hcall
  refine Xm (Y0 121 rfl) ?_
  refine Xm (UG 101 4 121 (cs := [ai 8, ai 0, ai 0, .d (.v (.string (X5 []))), .own 121 l.length]) (sz := 5) (xs := XJ l) rfl rfl rfl hlen.symm) ?_
  repeat first | refine X0 ?_ | (refine JR ?_; (repeat first | refine Z1 ?_ | refine Z0 ?_ | refine ZL ?_ | refine Z8 ?_ | refine Zl ?_ | refine Zv ?_ | refine Zb ?_ | refine Zw (γ := 102) ?_ | refine Zy ?_ | refine ZF ?_ | refine Z9 (hcon := hcall) ?_); refine JD ?_) | refine JT ?_ | refine JF ?_ | refine X4 ?_ | refine X2 ?_
  exact X1 ⟨_, St.le_refl _, ⟨⟨100, 0, _, rfl, rfl, .inr ⟨5, _, rfl, rfl, rfl, rfl⟩⟩, rfl, rfl, trivial⟩, X3 _⟩
 have hpe2 : (XC gl a2 (i + 1)).2.2 = 0 := by rw [hsucc]; exact hre
 unfold VA at hcall
 rw [if_neg (by simpa using hre)] at hcall
 generalize XC gl a2 i = p at *
 obtain ⟨l, pa, pe⟩ := p
 obtain ⟨x, xa, xe⟩ := r
 simp only at hq1 hpe hil hsucc hlen hcall hre
 subst hq1 hpe hre
 obtain ⟨xk, xn, xd, xs, xl⟩ := x
 simp only [Xv] at hcall
 skip
 repeat first | refine X0 ?_ | (refine JR ?_; (repeat first | refine Z1 ?_ | refine Z0 ?_ | refine ZB ?_ | refine ZC ?_ | refine ZL ?_ | refine Z8 ?_ | refine Zl ?_ | refine Zv ?_ | refine Zb ?_ | refine Zw (γ := 102) ?_ | refine Zy ?_ | refine ZF ?_ | refine Z5 ?_ | refine Z6 ?_ | refine Z9 (hcon := hcall) ?_); refine JD ?_) | refine JT ?_ | refine JF ?_ | refine X4 ?_ | refine X2 ?_
 refine ⟨i + 1, ⟨by omega, hpe2, hsl⟩, by omega, ?_⟩
 dsimp only
 rw [hsucc]
 refine X8 rfl ⟨JL, JL, JL, JL, JL, JL, JL, JL, trivial⟩ ⟨rfl, ?_, ?_, trivial⟩
 ·refine Eq.trans (b := AObj.box ([ai 8, ai 0, ai 0, .d (.v (.string (X5 []))), .own 121 _])) rfl ?_
  congr 6; simp [hlen]
 ·exact congrArg (AObj.row 5) (X3F l xk xn xd xs xl)
end Go.Fw

/- Fractions of the reference: a fraction compared with itself. -/
import Derived.Test.YtbhleedlnaakkaaGreatG13
set_option maxHeartbeats 8000000
namespace Go.Fw
open Go Go.Proofs
set_option maxRecDepth 100000
set_option linter.unusedVariables false
set_option linter.unusedSimpArgs false
def Vr (n : Int) : Int := if n < 0 then -1 else if 0 < n then 1 else 0
theorem Xav (n : Int) : Con Tryz.prog 143 [] [ai n] [] (ai (Vr n)) := by
 refine X9 (xs := [ai (Vr n)]) Tryz.func143 rfl Tryz.ntmps143 rfl rfl rfl (fun E => ?_)
 by_cases h1 : n < 0
 ·rw [show Vr n = -1 by simp [Vr, h1]]
  refine X0 ?_; refine JR ?_; refine Z0 ?_; refine JD ?_; refine X0 ?_; refine X0 ?_; refine JR ?_; refine Z1 ?_; refine Z8 ?_; refine JD ?_; refine JT ?_; refine X0 ?_; refine JR ?_; refine Z0 ?_
  refine JD ?_
  exact X1 ⟨_, St.le_refl _, ⟨rfl, trivial⟩, X3 _⟩
 by_cases h2 : 0 < n
 ·rw [show Vr n = 1 by simp [Vr, h1, h2]]
  refine X0 ?_; refine JR ?_; refine Z0 ?_; refine JD ?_; refine X0 ?_; refine X0 ?_; refine JR ?_; refine Z1 ?_; refine Z8 ?_; refine JD ?_; refine JF ?_; refine X2 ?_; refine X0 ?_
  refine X0 ?_; refine JR ?_; refine Z1 ?_; refine Zs ?_; refine JD ?_; refine JT ?_; refine X0 ?_; refine JR ?_; refine Z0 ?_; refine JD ?_
  exact X1 ⟨_, St.le_refl _, ⟨rfl, trivial⟩, X3 _⟩
 ·rw [show Vr n = 0 by simp [Vr, h1, h2]]
  repeat first | refine X0 ?_ | (refine JR ?_; (repeat first | refine Z1 ?_ | refine Z0 ?_ | refine Z8 ?_ | refine Zs ?_); refine JD ?_) | refine JF ?_ | refine X2 ?_
  exact X1 ⟨_, St.le_refl _, ⟨rfl, trivial⟩, X3 _⟩
theorem Xd1 (x : List Nat) (hx : x.length ≤ 1000) : Con Tryz.prog 206 [] [.d (UE x), .d (UE x)] [] (ai 0) := by
 refine X9 (xs := [ai 0]) Tryz.func206 rfl Tryz.ntmps206 rfl rfl rfl (fun E => ?_)
 have hlx : (x.map YI).length = x.length := by simp
 refine X0 ?_; refine JR ?_; refine Z0 ?_; refine JD ?_; refine X0 ?_; refine X0 ?_; refine JR ?_; refine Z1 ?_; refine Zd ?_; refine ZR ?_; refine Z0 ?_; refine JD ?_; refine X4 ?_
 refine Xy (fun i : Nat => i ≤ x.length) (fun i => ⟨31, [(0, .d (UE x)), (1, .d (UE x)), (5, ai ((i : Int) - 1))], []⟩) (fun i => i) x.length (Nat.le_refl _)
  (X8 rfl ⟨JL, JL, JL, trivial⟩ trivial) ?_
 intro i hi
 cases i with
 | zero =>
  refine X0 ?_; refine X0 ?_; refine JR ?_; refine Z1 ?_; refine Z2 ?_; refine JD ?_; refine JF ?_; refine Xj ?_; refine X0 ?_; refine JR ?_; refine Z0 ?_; refine JD ?_
  exact X1 ⟨_, St.le_refl _, ⟨rfl, trivial⟩, X3 _⟩
 | succ j =>
  have e : (((j + 1 : Nat) : Int) - 1) = (j : Int) := by omega
  rw [e]
  obtain ⟨a, ha⟩ := Xu (l := x) (k := j) (by omega)
  have hxm : (x.map YI)[j]? = some (YI a) := XS ha
  repeat first | refine X0 ?_ | (refine JR ?_; (repeat first | refine Z1 ?_ | refine Z0 ?_ | refine Zk ?_ | refine Z8 ?_ | refine Zs ?_ | refine Z2 ?_ | refine ZR ?_ | refine Zj ?_); refine JD ?_) | refine JT ?_ | refine JF ?_ | refine X4 ?_ | refine X2 ?_
  exact ⟨j, by omega, by omega, X8 rfl ⟨JL, JL, JL, trivial⟩ trivial⟩
abbrev X1l : List Nat := List.replicate 14 0
def X1y (s : Int) (x : List Nat) : List Nat := if s = 0 then X0a x x else X0a X1l X1l
theorem X9k (s : Int) (hs : s = 0 ∨ s = 1 ∨ s = -1) (x : List Nat) (hx : Vz x) (hl : x.length = 14) : Con Tryz.prog 142 [] [ai s, .d (UE x), ai (-s), .d (UE x)] [] (.tup [ai 0, .d (UE (X1y s x))]) := by
 refine X9 (xs := [ai 0, .d (UE (X1y s x))]) Tryz.func142 rfl Tryz.ntmps142 rfl rfl rfl (fun E => ?_)
 have hp := Xa7 x x hx hx rfl (by omega)
 have hz := Xa7 X1l X1l (X68 14) (X68 14) rfl (by decide)
 have ho := Xd1 x (by omega)
 by_cases h0 : s = 0
 ·subst h0
  rw [show X1y 0 x = X0a x x from if_pos rfl]
  generalize X0a x x = y at *
  repeat first | refine X0 ?_ | (refine JR ?_; (repeat first | refine Z1 ?_ | refine Z0 ?_ | refine Zl ?_ | refine Zn ?_ | refine Zo ?_ | refine Z9 (hcon := hp) ?_); refine JD ?_) | refine JT ?_
  exact X1 ⟨_, St.le_refl _, ⟨rfl, rfl, trivial⟩, X3 _⟩
 have hs2 : X1y s x = X0a X1l X1l := if_neg h0
 rw [hs2]
 clear hs2
 generalize X0a X1l X1l = y at *
 by_cases h1 : s = 1
 ·subst h1
  repeat first | refine X0 ?_ | (refine JR ?_; (repeat first | refine Z1 ?_ | refine Z0 ?_ | refine Zl ?_ | refine Zq ?_ | refine ZS ?_ | refine Z9 (hcon := ho) ?_ | refine Z9 (hcon := hz) ?_); refine JD ?_) | refine JT ?_ | refine JF ?_ | refine X2 ?_
  exact X1 ⟨_, St.le_refl _, ⟨rfl, rfl, trivial⟩, X3 _⟩
 ·obtain rfl : s = -1 := by omega
  repeat first | refine X0 ?_ | (refine JR ?_; (repeat first | refine Z1 ?_ | refine Z0 ?_ | refine Zl ?_ | refine Zq ?_ | refine ZS ?_ | refine Z9 (hcon := ho) ?_ | refine Z9 (hcon := hz) ?_); refine JD ?_) | refine JT ?_ | refine JF ?_ | refine X2 ?_
  exact X1 ⟨_, St.le_refl _, ⟨rfl, rfl, trivial⟩, X3 _⟩
end Go.Fw
namespace Go.Fw
open Go Go.Proofs
set_option maxRecDepth 100000
set_option linter.unusedVariables false
set_option linter.unusedSimpArgs false
abbrev X2a (x : AVal) (n e : Int) : AVal := .tup [x, ai n, ai e]
end Go.Fw
namespace Go.Fw
open Go Go.Proofs
set_option maxRecDepth 100000
set_option linter.unusedVariables false
set_option linter.unusedSimpArgs false
theorem Vu (c : Nat) : c &&& 127 = c % 128 := Nat.and_two_pow_sub_one_eq_mod c 7
theorem X8o (b : List UInt8) (a : Int) (hb : b.length ≤ 281474976710656) : Con Tryz.prog 166 [] [.d (Xa b), ai a] [] (X2a (X00 (Y3 b a).1) (Y3 b a).2.1 (Y3 b a).2.2) := by
 refine X9 (xs := [X00 (Y3 b a).1, ai (Y3 b a).2.1, ai (Y3 b a).2.2]) Tryz.func166 rfl Tryz.ntmps166 rfl rfl rfl (fun E => ?_)
 by_cases h1 : a < 0
 ·rw [show Y3 b a = (0, 0, 1) by simp [Y3, XH, h1]]
  repeat first | refine X0 ?_ | (refine JR ?_; (repeat first | refine Z1 ?_ | refine Z0 ?_ | refine Z8 ?_ | refine Zn ?_ | refine Zo ?_); refine JD ?_) | refine JT ?_
  exact X1 ⟨_, St.le_refl _, ⟨rfl, rfl, rfl, trivial⟩, X3 _⟩
 by_cases h2 : (b.length : Int) < a
 ·rw [show Y3 b a = (0, 0, 1) by simp [Y3, XH, h2]]
  refine X0 ?_; refine JR ?_; refine Z0 ?_; refine Z0 ?_; refine Z0 ?_; refine JD ?_; refine X0 ?_; refine X0 ?_; refine JR ?_; refine Z1 ?_; refine Z8 ?_; refine Z1 ?_; refine Z1 ?_; refine Z1 ?_
  refine Zd ?_; refine Zs ?_; refine Zq ?_; refine JD ?_; refine JT ?_; refine X0 ?_; refine JR ?_; refine Z0 ?_; refine Z0 ?_; refine Z0 ?_; refine JD ?_
  exact X1 ⟨_, St.le_refl _, ⟨rfl, rfl, rfl, trivial⟩, X3 _⟩
 obtain ⟨k, rfl⟩ : ∃ k : Nat, a = k := ⟨a.toNat, by omega⟩
 have hnum : XH b k = (let l := b.drop k; let n := Y6 l; if n = 10 then (0, 0, 4) else if l.length ≤ n then (0, 0, 3) else if n = 9 ∧ 1 < ((l[n]?).getD 0).toNat then (0, 0, 4) else (XE (l.take (n + 1)), (k : Int) + n + 1, 0)) := by
  unfold XH; rw [if_neg (by omega), Int.toNat_natCast]
 have hpad : YX b k = (decide (0 < Y6 (b.drop k)) && decide (((b.drop k)[Y6 (b.drop k)]?).getD 0 = 0)) := by unfold YX; rw [Int.toNat_natCast]
 have hll : (b.drop k).length = b.length - k := List.length_drop
 have hmap : (((b.map X6).take (b.map X6).length).drop k).length = b.length - k := by simp
 have hlb : 10 < b.length - k → 10 ≤ (((b.map X6).take (b.map X6).length).drop k).length := fun h => by rw [hmap]; omega
 have hE1 : (((((b.map X6).take (b.map X6).length).drop k).take 10).drop 0) = ((b.drop k).take 10).map X6 := by
  rw [List.take_length, List.drop_zero, ← List.map_drop, ← List.map_take]
 have hE2 : ¬ (10 < b.length - k) → (((b.map X6).take (b.map X6).length).drop k) = ((b.drop k).take 10).map X6 := fun h => by
  rw [List.take_length, ← List.map_drop, List.take_of_length_le (by simp; omega)]
 generalize hl : b.drop k = l at *
 by_cases hbig : 10 < b.length - k
 ·repeat first | refine X0 ?_ | (refine JR ?_; (repeat first | refine ZU (hb := 10) (mb := 10) ?_ (hh := by exact Nat.le_refl 10) (hm := by exact hlb hbig) | refine Z1 ?_ | refine Z0 ?_ | refine Zd ?_ | refine Z8 ?_ | refine Zs ?_ | refine Zq ?_ | refine ZT ?_); refine JD ?_) | refine JT ?_ | refine JF ?_ | refine X4 ?_ | refine X2 ?_
  refine Xy (fun i : Nat => big l i ∧ i ≤ 10 ∧ i ≤ l.length) (fun i => ⟨72, [(1, ai k), (7, .d (Xa (l.take 10))), (8, X00 (Y5 l i)), (31, .d (Xa (l.take 10))), (32, ai (l.take 10).length), (33, ai i)], []⟩) (fun i => 10 - i) 0 ⟨fun j hj => by omega, by omega, by omega⟩
   (X8 rfl ⟨JL, (by refine AVal.le_of_eq ?_; refine Eq.trans (b := AVal.d (.sl 1 (((((b.map X6).take (b.map X6).length).drop k).take 10).drop 0))) rfl ?_; rw [hE1]), JL, (by refine AVal.le_of_eq ?_; refine Eq.trans (b := AVal.d (.sl 1 (((((b.map X6).take (b.map X6).length).drop k).take 10).drop 0))) rfl ?_; rw [hE1]), (by refine AVal.le_of_eq ?_; refine Eq.trans (b := ai (((((((b.map X6).take (b.map X6).length).drop k).take 10).drop 0)).length : Nat)) rfl ?_; rw [hE1, List.length_map]), JL, trivial⟩ trivial) ?_
  rintro i ⟨hbg, hi10, hil⟩
  by_cases him : i = (l.take 10).length
  ·have hmm : i = min 10 l.length := by rw [him]; simp
   have hm : Y6 l = i := X3T hbg hmm
   by_cases e10 : (l.take 10).length = 10
   ·have hv : XH b k = (0, 0, 4) := by rw [hnum]; simp only [hm]; rw [if_pos (by omega)]
    rw [show Y3 b k = (0, 0, 4) by unfold Y3; rw [hv]; rfl]
    refine X0 ?_; refine JR ?_; refine Z8 ?_; refine JD ?_; refine X0 ?_; refine JF ?_; refine Xj ?_; refine X0 ?_; refine X0 ?_; refine JR ?_; refine Z1 ?_; refine Zd ?_; refine Zl ?_; refine JD ?_
    refine JT ?_; refine X0 ?_; refine JR ?_; refine Z0 ?_; refine Z0 ?_; refine Z0 ?_; refine JD ?_
    exact X1 ⟨_, St.le_refl _, ⟨rfl, rfl, rfl, trivial⟩, X3 _⟩
   ·exact absurd (by rw [List.length_take]; omega) e10
  have hlt : i < 10 ∧ i < l.length := by rw [List.length_take] at him; omega
  have hlm : i < (l.take 10).length := by rw [List.length_take]; omega
  obtain ⟨c, hc⟩ := Xu (l := l) (k := i) (by omega)
  have hcm : (l.take 10)[i]? = some c := by rw [List.getElem?_take_of_lt hlt.1]; exact hc
  have hc8 := c.toNat_lt
  have hacc := X2O l i
  have hacc1 := X2O l (i + 1)
  have hsh : c.toNat % 128 * 2 ^ (7 * i) % 2 ^ IntKind.u64.bits = c.toNat % 128 * 2 ^ (7 * i) % 18446744073709551616 := rfl
  have hst : Y5 l i ||| c.toNat % 128 * 2 ^ (7 * i) % 18446744073709551616 = Y5 l (i + 1) := by simp only [Y5, hc, Option.getD_some]
  have hq : c.toNat % 128 * 2 ^ (7 * i) % 18446744073709551616 < 18446744073709551616 := Nat.mod_lt _ (by omega)
  by_cases hge : 128 ≤ c.toNat
  ·refine X0 ?_; refine JR ?_; refine Z8 ?_; refine JD ?_; refine X0 ?_; refine JT ?_; refine X2 ?_; refine X0 ?_; refine X4 ?_; refine X0 ?_; refine JR ?_; refine Z1 ?_; refine Zj ?_
   refine Zk ?_; refine Z0 ?_; refine Z0 ?_; refine JD ?_; refine X0 ?_; refine JR ?_; refine Z1 ?_; refine Z1 ?_
   refine Z4 (op := .and) (r' := n8 (c.toNat % 128)) (u := n8 c.toNat) (v := n8 127) ?_ (hr' := by exact congrArg n8 (Vu _)) (hr := by exact UV (by rw [YM]; omega) (by rw [YM]; omega))
   refine Z3 (u := n8 (c.toNat % 128)) (r := n64 (c.toNat % 128)) ?_ (hr := by exact Yu rfl rfl (by rw [XK]; omega)); refine Z1 ?_
   refine Z7 (op := .mul) (r' := ni (7 * i)) (u := ni 7) (v := ni i) ?_ (hr := by exact YV (by rw [Xx]; omega))
   refine Z4 (op := .shl) (r' := n64 (c.toNat % 128 * 2 ^ (7 * i) % 18446744073709551616)) (u := n64 (c.toNat % 128)) (v := ni (7 * i)) ?_ (hr' := by exact congrArg n64 hsh) (hr := by exact Vc rfl (by show 7 * i ≤ 64; omega))
   refine Z4 (op := .or) (r' := n64 (Y5 l (i + 1))) (u := n64 (Y5 l i)) (v := n64 (c.toNat % 128 * 2 ^ (7 * i) % 18446744073709551616)) ?_ (hr' := by exact congrArg n64 hst) (hr := by exact Vd (by rw [XK]; omega) (by rw [XK]; omega))
   refine Z0 ?_; refine JD ?_; refine X0 ?_; refine X0 ?_; refine JR ?_; refine Z1 ?_; refine Z2 ?_; refine JD ?_; refine JT ?_; refine Xj ?_; refine JR ?_; refine Zb ?_; refine Z1 ?_; refine JD ?_
   exact ⟨i + 1, ⟨X5b hbg hc hge, by omega, by omega⟩, by omega, X8 rfl ⟨JL, JL, JL, JL, JL, JL, trivial⟩ trivial⟩
  have hm : Y6 l = i := X4Z hbg hc (by omega) hlt.1
  by_cases h9 : i = 9
  ·by_cases hc1 : 1 < c.toNat
   ·have hv : XH b k = (0, 0, 4) := by rw [hnum]; simp only [hm, hc, Option.getD_some]; rw [if_neg (by omega), if_neg (by omega), if_pos ⟨h9, hc1⟩]
    rw [show Y3 b k = (0, 0, 4) by unfold Y3; rw [hv]; rfl]
    refine X0 ?_; refine JR ?_; refine Z8 ?_; refine JD ?_; refine X0 ?_; refine JT ?_; refine X2 ?_; refine X0 ?_; refine X4 ?_; refine X0 ?_; refine JR ?_; refine Z1 ?_; refine Zj ?_
    refine Zk ?_; refine Z0 ?_; refine Z0 ?_; refine JD ?_; refine X0 ?_; refine JR ?_; refine Z1 ?_; refine Z1 ?_
    refine Z4 (op := .and) (r' := n8 (c.toNat % 128)) (u := n8 c.toNat) (v := n8 127) ?_ (hr' := by exact congrArg n8 (Vu _)) (hr := by exact UV (by rw [YM]; omega) (by rw [YM]; omega))
    refine Z3 (u := n8 (c.toNat % 128)) (r := n64 (c.toNat % 128)) ?_ (hr := by exact Yu rfl rfl (by rw [XK]; omega)); refine Z1 ?_
    refine Z7 (op := .mul) (r' := ni (7 * i)) (u := ni 7) (v := ni i) ?_ (hr := by exact YV (by rw [Xx]; omega))
    refine Z4 (op := .shl) (r' := n64 (c.toNat % 128 * 2 ^ (7 * i) % 18446744073709551616)) (u := n64 (c.toNat % 128)) (v := ni (7 * i)) ?_ (hr' := by exact congrArg n64 hsh) (hr := by exact Vc rfl (by show 7 * i ≤ 64; omega))
    refine Z4 (op := .or) (r' := n64 (Y5 l (i + 1))) (u := n64 (Y5 l i)) (v := n64 (c.toNat % 128 * 2 ^ (7 * i) % 18446744073709551616)) ?_ (hr' := by exact congrArg n64 hst) (hr := by exact Vd (by rw [XK]; omega) (by rw [XK]; omega))
    refine Z0 ?_; refine JD ?_; refine X0 ?_; refine X0 ?_; refine JR ?_; refine Z1 ?_; refine Z2 ?_; refine JD ?_; refine JF ?_; refine X2 ?_; refine X0 ?_; refine X4 ?_; refine X0 ?_
    refine JR ?_; refine Z1 ?_; refine Zl ?_; refine Z1 ?_; refine Z1 ?_; refine Zs ?_; refine Zn ?_; refine Z0 ?_; refine JD ?_; refine JT ?_; refine X0 ?_; refine JR ?_; refine Z0 ?_; refine Z0 ?_; refine Z0 ?_
    refine JD ?_
    exact X1 ⟨_, St.le_refl _, ⟨rfl, rfl, rfl, trivial⟩, X3 _⟩
   ·have hval : Y5 l (i + 1) = XE (l.take (i + 1)) := by subst h9; exact X8T l hc (by omega)
    by_cases hz : 0 < i ∧ c = 0
    ·have hv : XH b k = (XE (l.take (i + 1)), (k : Int) + i + 1, 0) := by rw [hnum]; simp only [hm, hc, Option.getD_some]; rw [if_neg (by omega), if_neg (by omega), if_neg (by omega)]
     rw [show Y3 b k = (XE (l.take (i + 1)), 0, 2) by
      unfold Y3; rw [hv, hpad]; simp only [hm, hc, Option.getD_some]
      simp [hz.1, hz.2]]
     obtain ⟨hz1, hz2⟩ := hz
     have hz3 : c.toNat = 0 := by rw [hz2]; rfl
     rw [← hval]
     refine X0 ?_; refine JR ?_; refine Z8 ?_; refine JD ?_; refine X0 ?_; refine JT ?_; refine X2 ?_; refine X0 ?_; refine X4 ?_; refine X0 ?_; refine JR ?_; refine Z1 ?_; refine Zj ?_
     refine Zk ?_; refine Z0 ?_; refine Z0 ?_; refine JD ?_; refine X0 ?_; refine JR ?_; refine Z1 ?_; refine Z1 ?_
     refine Z4 (op := .and) (r' := n8 (c.toNat % 128)) (u := n8 c.toNat) (v := n8 127) ?_ (hr' := by exact congrArg n8 (Vu _)) (hr := by exact UV (by rw [YM]; omega) (by rw [YM]; omega))
     refine Z3 (u := n8 (c.toNat % 128)) (r := n64 (c.toNat % 128)) ?_ (hr := by exact Yu rfl rfl (by rw [XK]; omega)); refine Z1 ?_
     refine Z7 (op := .mul) (r' := ni (7 * i)) (u := ni 7) (v := ni i) ?_ (hr := by exact YV (by rw [Xx]; omega))
     refine Z4 (op := .shl) (r' := n64 (c.toNat % 128 * 2 ^ (7 * i) % 18446744073709551616)) (u := n64 (c.toNat % 128)) (v := ni (7 * i)) ?_ (hr' := by exact congrArg n64 hsh) (hr := by exact Vc rfl (by show 7 * i ≤ 64; omega))
     refine Z4 (op := .or) (r' := n64 (Y5 l (i + 1))) (u := n64 (Y5 l i)) (v := n64 (c.toNat % 128 * 2 ^ (7 * i) % 18446744073709551616)) ?_ (hr' := by exact congrArg n64 hst) (hr := by exact Vd (by rw [XK]; omega) (by rw [XK]; omega))
     refine Z0 ?_; refine JD ?_; refine X0 ?_; refine X0 ?_; refine JR ?_; refine Z1 ?_; refine Z2 ?_; refine JD ?_; refine JF ?_; refine X2 ?_; refine X0 ?_; refine X4 ?_; refine X0 ?_
     refine JR ?_; refine Z1 ?_; refine Zl ?_; refine Z1 ?_; refine Z1 ?_; refine Zs ?_; refine Zn ?_; refine Z0 ?_; refine JD ?_; refine JF ?_; refine X0 ?_; refine JR ?_; refine Z1 ?_; refine Zs ?_; refine Z1 ?_
     refine Z1 ?_; refine Zl ?_; refine Zn ?_; refine Z0 ?_; refine JD ?_; refine JT ?_; refine X0 ?_; refine JR ?_; refine Z1 ?_; refine Z0 ?_; refine Z0 ?_; refine Z0 ?_; refine JD ?_
     exact X1 ⟨_, St.le_refl _, ⟨rfl, rfl, rfl, trivial⟩, X3 _⟩
    ·have hz' : ¬ (0 < i ∧ c.toNat = 0) := fun h => hz ⟨h.1, UInt8.toNat_inj.1 h.2⟩
     have hv : XH b k = (XE (l.take (i + 1)), (k : Int) + i + 1, 0) := by rw [hnum]; simp only [hm, hc, Option.getD_some]; rw [if_neg (by omega), if_neg (by omega), if_neg (by omega)]
     have hpf : YX b k = false := by
      rw [hpad]; simp only [hm, hc, Option.getD_some]
      rw [Bool.and_eq_false_iff, decide_eq_false_iff_not, decide_eq_false_iff_not]
      by_cases h0 : 0 < i
      ·exact .inr fun h2 => hz ⟨h0, h2⟩
      ·exact .inl h0
     rw [show Y3 b k = (XE (l.take (i + 1)), (k : Int) + i + 1, 0) by unfold Y3; rw [hv, hpf]; rfl]
     rw [← hval]
     by_cases hi0 : 0 < i
     ·have hcz : ¬ (c.toNat = 0) := fun h => hz' ⟨hi0, h⟩
      refine X0 ?_; refine JR ?_; refine Z8 ?_; refine JD ?_; refine X0 ?_; refine JT ?_; refine X2 ?_; refine X0 ?_; refine X4 ?_; refine X0 ?_; refine JR ?_; refine Z1 ?_; refine Zj ?_
      refine Zk ?_; refine Z0 ?_; refine Z0 ?_; refine JD ?_; refine X0 ?_; refine JR ?_; refine Z1 ?_; refine Z1 ?_
      refine Z4 (op := .and) (r' := n8 (c.toNat % 128)) (u := n8 c.toNat) (v := n8 127) ?_ (hr' := by exact congrArg n8 (Vu _)) (hr := by exact UV (by rw [YM]; omega) (by rw [YM]; omega))
      refine Z3 (u := n8 (c.toNat % 128)) (r := n64 (c.toNat % 128)) ?_ (hr := by exact Yu rfl rfl (by rw [XK]; omega)); refine Z1 ?_
      refine Z7 (op := .mul) (r' := ni (7 * i)) (u := ni 7) (v := ni i) ?_ (hr := by exact YV (by rw [Xx]; omega))
      refine Z4 (op := .shl) (r' := n64 (c.toNat % 128 * 2 ^ (7 * i) % 18446744073709551616)) (u := n64 (c.toNat % 128)) (v := ni (7 * i)) ?_ (hr' := by exact congrArg n64 hsh) (hr := by exact Vc rfl (by show 7 * i ≤ 64; omega))
      refine Z4 (op := .or) (r' := n64 (Y5 l (i + 1))) (u := n64 (Y5 l i)) (v := n64 (c.toNat % 128 * 2 ^ (7 * i) % 18446744073709551616)) ?_ (hr' := by exact congrArg n64 hst) (hr := by exact Vd (by rw [XK]; omega) (by rw [XK]; omega))
      refine Z0 ?_; refine JD ?_; refine X0 ?_; refine X0 ?_; refine JR ?_; refine Z1 ?_; refine Z2 ?_; refine JD ?_; refine JF ?_; refine X2 ?_; refine X0 ?_; refine X4 ?_; refine X0 ?_
      refine JR ?_; refine Z1 ?_; refine Zl ?_; refine Z1 ?_; refine Z1 ?_; refine Zs ?_; refine Zn ?_; refine Z0 ?_; refine JD ?_; refine JF ?_; refine X0 ?_; refine JR ?_; refine Z1 ?_; refine Zs ?_; refine Z1 ?_
      refine Z1 ?_; refine Zl ?_; refine Zn ?_; refine Z0 ?_; refine JD ?_; refine JF ?_; refine X2 ?_; refine X0 ?_; refine JR ?_; refine Z1 ?_; refine Z1 ?_; refine Z1 ?_; refine Zb ?_; refine Zb ?_; refine Z0 ?_
      refine Z0 ?_; refine Z0 ?_; refine JD ?_
      exact X1 ⟨_, Xh 5 (y := ai ((k : Int) + i + 1)) (AVal.le_of_eq (by refine Eq.trans (b := ai _) rfl ?_; simp)), ⟨rfl, rfl, rfl, trivial⟩, X3 _⟩
     ·exact absurd (by omega) hi0
  ·have hval : Y5 l (i + 1) = XE (l.take (i + 1)) := X3m l (i + 1) (by omega) (by omega)
   by_cases hz : 0 < i ∧ c = 0
   ·have hv : XH b k = (XE (l.take (i + 1)), (k : Int) + i + 1, 0) := by rw [hnum]; simp only [hm, hc, Option.getD_some]; rw [if_neg (by omega), if_neg (by omega), if_neg (by omega)]
    rw [show Y3 b k = (XE (l.take (i + 1)), 0, 2) by
     unfold Y3; rw [hv, hpad]; simp only [hm, hc, Option.getD_some]
     simp [hz.1, hz.2]]
    obtain ⟨hz1, hz2⟩ := hz
    have hz3 : c.toNat = 0 := by rw [hz2]; rfl
    rw [← hval]
    refine X0 ?_; refine JR ?_; refine Z8 ?_; refine JD ?_; refine X0 ?_; refine JT ?_; refine X2 ?_; refine X0 ?_; refine X4 ?_; refine X0 ?_; refine JR ?_; refine Z1 ?_; refine Zj ?_
    refine Zk ?_; refine Z0 ?_; refine Z0 ?_; refine JD ?_; refine X0 ?_; refine JR ?_; refine Z1 ?_; refine Z1 ?_
    refine Z4 (op := .and) (r' := n8 (c.toNat % 128)) (u := n8 c.toNat) (v := n8 127) ?_ (hr' := by exact congrArg n8 (Vu _)) (hr := by exact UV (by rw [YM]; omega) (by rw [YM]; omega))
    refine Z3 (u := n8 (c.toNat % 128)) (r := n64 (c.toNat % 128)) ?_ (hr := by exact Yu rfl rfl (by rw [XK]; omega)); refine Z1 ?_
    refine Z7 (op := .mul) (r' := ni (7 * i)) (u := ni 7) (v := ni i) ?_ (hr := by exact YV (by rw [Xx]; omega))
    refine Z4 (op := .shl) (r' := n64 (c.toNat % 128 * 2 ^ (7 * i) % 18446744073709551616)) (u := n64 (c.toNat % 128)) (v := ni (7 * i)) ?_ (hr' := by exact congrArg n64 hsh) (hr := by exact Vc rfl (by show 7 * i ≤ 64; omega))
    refine Z4 (op := .or) (r' := n64 (Y5 l (i + 1))) (u := n64 (Y5 l i)) (v := n64 (c.toNat % 128 * 2 ^ (7 * i) % 18446744073709551616)) ?_ (hr' := by exact congrArg n64 hst) (hr := by exact Vd (by rw [XK]; omega) (by rw [XK]; omega))
    refine Z0 ?_; refine JD ?_; refine X0 ?_; refine X0 ?_; refine JR ?_; refine Z1 ?_; refine Z2 ?_; refine JD ?_; refine JF ?_; refine X2 ?_; refine X0 ?_; refine X4 ?_; refine X0 ?_
    refine JR ?_; refine Z1 ?_; refine Zl ?_; refine Z1 ?_; refine Zo ?_; refine Zo ?_; refine Zq ?_; refine Z0 ?_; refine JD ?_; refine JF ?_; refine X0 ?_; refine JR ?_; refine Z1 ?_; refine Zs ?_; refine Z1 ?_
    refine Z1 ?_; refine Zl ?_; refine Zn ?_; refine Z0 ?_; refine JD ?_; refine JT ?_; refine X0 ?_; refine JR ?_; refine Z1 ?_; refine Z0 ?_; refine Z0 ?_; refine Z0 ?_; refine JD ?_
    exact X1 ⟨_, St.le_refl _, ⟨rfl, rfl, rfl, trivial⟩, X3 _⟩
   ·have hz' : ¬ (0 < i ∧ c.toNat = 0) := fun h => hz ⟨h.1, UInt8.toNat_inj.1 h.2⟩
    have hv : XH b k = (XE (l.take (i + 1)), (k : Int) + i + 1, 0) := by rw [hnum]; simp only [hm, hc, Option.getD_some]; rw [if_neg (by omega), if_neg (by omega), if_neg (by omega)]
    have hpf : YX b k = false := by
     rw [hpad]; simp only [hm, hc, Option.getD_some]
     rw [Bool.and_eq_false_iff, decide_eq_false_iff_not, decide_eq_false_iff_not]
     by_cases h0 : 0 < i
     ·exact .inr fun h2 => hz ⟨h0, h2⟩
     ·exact .inl h0
    rw [show Y3 b k = (XE (l.take (i + 1)), (k : Int) + i + 1, 0) by unfold Y3; rw [hv, hpf]; rfl]
    rw [← hval]
    by_cases hi0 : 0 < i
    ·have hcz : ¬ (c.toNat = 0) := fun h => hz' ⟨hi0, h⟩
     refine X0 ?_; refine JR ?_; refine Z8 ?_; refine JD ?_; refine X0 ?_; refine JT ?_; refine X2 ?_; refine X0 ?_; refine X4 ?_; refine X0 ?_; refine JR ?_; refine Z1 ?_; refine Zj ?_
     refine Zk ?_; refine Z0 ?_; refine Z0 ?_; refine JD ?_; refine X0 ?_; refine JR ?_; refine Z1 ?_; refine Z1 ?_
     refine Z4 (op := .and) (r' := n8 (c.toNat % 128)) (u := n8 c.toNat) (v := n8 127) ?_ (hr' := by exact congrArg n8 (Vu _)) (hr := by exact UV (by rw [YM]; omega) (by rw [YM]; omega))
     refine Z3 (u := n8 (c.toNat % 128)) (r := n64 (c.toNat % 128)) ?_ (hr := by exact Yu rfl rfl (by rw [XK]; omega)); refine Z1 ?_
     refine Z7 (op := .mul) (r' := ni (7 * i)) (u := ni 7) (v := ni i) ?_ (hr := by exact YV (by rw [Xx]; omega))
     refine Z4 (op := .shl) (r' := n64 (c.toNat % 128 * 2 ^ (7 * i) % 18446744073709551616)) (u := n64 (c.toNat % 128)) (v := ni (7 * i)) ?_ (hr' := by exact congrArg n64 hsh) (hr := by exact Vc rfl (by show 7 * i ≤ 64; omega))
     refine Z4 (op := .or) (r' := n64 (Y5 l (i + 1))) (u := n64 (Y5 l i)) (v := n64 (c.toNat % 128 * 2 ^ (7 * i) % 18446744073709551616)) ?_ (hr' := by exact congrArg n64 hst) (hr := by exact Vd (by rw [XK]; omega) (by rw [XK]; omega))
     refine Z0 ?_; refine JD ?_; refine X0 ?_; refine X0 ?_; refine JR ?_; refine Z1 ?_; refine Z2 ?_; refine JD ?_; refine JF ?_; refine X2 ?_; refine X0 ?_; refine X4 ?_; refine X0 ?_
     refine JR ?_; refine Z1 ?_; refine Zl ?_; refine Z1 ?_; refine Zo ?_; refine Zo ?_; refine Zq ?_; refine Z0 ?_; refine JD ?_; refine JF ?_; refine X0 ?_; refine JR ?_; refine Z1 ?_; refine Zs ?_; refine Z1 ?_
     refine Z1 ?_; refine Zl ?_; refine Zn ?_; refine Z0 ?_; refine JD ?_; refine JF ?_; refine X2 ?_; refine X0 ?_; refine JR ?_; refine Z1 ?_; refine Z1 ?_; refine Z1 ?_; refine Zb ?_; refine Zb ?_; refine Z0 ?_
     refine Z0 ?_; refine Z0 ?_; refine JD ?_
     exact X1 ⟨_, Xh 5 (y := ai ((k : Int) + i + 1)) (AVal.le_of_eq (by refine Eq.trans (b := ai _) rfl ?_; simp)), ⟨rfl, rfl, rfl, trivial⟩, X3 _⟩
    ·refine X0 ?_; refine JR ?_; refine Z8 ?_; refine JD ?_; refine X0 ?_; refine JT ?_; refine X2 ?_; refine X0 ?_; refine X4 ?_; refine X0 ?_; refine JR ?_; refine Z1 ?_; refine Zj ?_
     refine Zk ?_; refine Z0 ?_; refine Z0 ?_; refine JD ?_; refine X0 ?_; refine JR ?_; refine Z1 ?_; refine Z1 ?_
     refine Z4 (op := .and) (r' := n8 (c.toNat % 128)) (u := n8 c.toNat) (v := n8 127) ?_ (hr' := by exact congrArg n8 (Vu _)) (hr := by exact UV (by rw [YM]; omega) (by rw [YM]; omega))
     refine Z3 (u := n8 (c.toNat % 128)) (r := n64 (c.toNat % 128)) ?_ (hr := by exact Yu rfl rfl (by rw [XK]; omega)); refine Z1 ?_
     refine Z7 (op := .mul) (r' := ni (7 * i)) (u := ni 7) (v := ni i) ?_ (hr := by exact YV (by rw [Xx]; omega))
     refine Z4 (op := .shl) (r' := n64 (c.toNat % 128 * 2 ^ (7 * i) % 18446744073709551616)) (u := n64 (c.toNat % 128)) (v := ni (7 * i)) ?_ (hr' := by exact congrArg n64 hsh) (hr := by exact Vc rfl (by show 7 * i ≤ 64; omega))
     refine Z4 (op := .or) (r' := n64 (Y5 l (i + 1))) (u := n64 (Y5 l i)) (v := n64 (c.toNat % 128 * 2 ^ (7 * i) % 18446744073709551616)) ?_ (hr' := by exact congrArg n64 hst) (hr := by exact Vd (by rw [XK]; omega) (by rw [XK]; omega))
     refine Z0 ?_; refine JD ?_; refine X0 ?_; refine X0 ?_; refine JR ?_; refine Z1 ?_; refine Z2 ?_; refine JD ?_; refine JF ?_; refine X2 ?_; refine X0 ?_; refine X4 ?_; refine X0 ?_
     refine JR ?_; refine Z1 ?_; refine Zl ?_; refine Z1 ?_; refine Zo ?_; refine Zo ?_; refine Zq ?_; refine Z0 ?_; refine JD ?_; refine JF ?_; refine X0 ?_; refine JR ?_; refine Z1 ?_; refine Zs ?_; refine Z1 ?_
     refine Zo ?_; refine Zo ?_; refine Zq ?_; refine Z0 ?_; refine JD ?_; refine JF ?_; refine X2 ?_; refine X0 ?_; refine JR ?_; refine Z1 ?_; refine Z1 ?_; refine Z1 ?_; refine Zb ?_; refine Zb ?_; refine Z0 ?_
     refine Z0 ?_; refine Z0 ?_; refine JD ?_
     exact X1 ⟨_, Xh 5 (y := ai ((k : Int) + i + 1)) (AVal.le_of_eq (by refine Eq.trans (b := ai _) rfl ?_; simp)), ⟨rfl, rfl, rfl, trivial⟩, X3 _⟩
 ·repeat first | refine X0 ?_ | (refine JR ?_; (repeat first | refine Z1 ?_ | refine Z0 ?_ | refine Zd ?_ | refine Z8 ?_ | refine Zs ?_ | refine Zq ?_ | refine ZT ?_); refine JD ?_) | refine JF ?_ | refine X4 ?_ | refine X2 ?_
  refine Xy (fun i : Nat => big l i ∧ i ≤ 10 ∧ i ≤ l.length) (fun i => ⟨72, [(1, ai k), (7, .d (Xa (l.take 10))), (8, X00 (Y5 l i)), (31, .d (Xa (l.take 10))), (32, ai (l.take 10).length), (33, ai i)], []⟩) (fun i => 10 - i) 0 ⟨fun j hj => by omega, by omega, by omega⟩
   (X8 rfl ⟨JL, (by refine AVal.le_of_eq ?_; refine Eq.trans (b := AVal.d (.sl 1 (((b.map X6).take (b.map X6).length).drop k))) rfl ?_; rw [hE2 hbig]), JL, (by refine AVal.le_of_eq ?_; refine Eq.trans (b := AVal.d (.sl 1 (((b.map X6).take (b.map X6).length).drop k))) rfl ?_; rw [hE2 hbig]), (by refine AVal.le_of_eq ?_; refine Eq.trans (b := ai (((((b.map X6).take (b.map X6).length).drop k)).length : Nat)) rfl ?_; rw [hE2 hbig, List.length_map]), JL, trivial⟩ trivial) ?_
  rintro i ⟨hbg, hi10, hil⟩
  by_cases him : i = (l.take 10).length
  ·have hmm : i = min 10 l.length := by rw [him]; simp
   have hm : Y6 l = i := X3T hbg hmm
   by_cases e10 : (l.take 10).length = 10
   ·have hv : XH b k = (0, 0, 4) := by rw [hnum]; simp only [hm]; rw [if_pos (by omega)]
    rw [show Y3 b k = (0, 0, 4) by unfold Y3; rw [hv]; rfl]
    refine X0 ?_; refine JR ?_; refine Z8 ?_; refine JD ?_; refine X0 ?_; refine JF ?_; refine Xj ?_; refine X0 ?_; refine X0 ?_; refine JR ?_; refine Z1 ?_; refine Zd ?_; refine Zl ?_; refine JD ?_
    refine JT ?_; refine X0 ?_; refine JR ?_; refine Z0 ?_; refine Z0 ?_; refine Z0 ?_; refine JD ?_
    exact X1 ⟨_, St.le_refl _, ⟨rfl, rfl, rfl, trivial⟩, X3 _⟩
   ·have hne : ¬ (i = 10) := by rw [him]; exact e10
    have hv : XH b k = (0, 0, 3) := by rw [hnum]; simp only [hm]; rw [if_neg hne, if_pos (by omega)]
    rw [show Y3 b k = (0, 0, 3) by unfold Y3; rw [hv]; rfl]
    refine X0 ?_; refine JR ?_; refine Z8 ?_; refine JD ?_; refine X0 ?_; refine JF ?_; refine Xj ?_; refine X0 ?_; refine X0 ?_; refine JR ?_; refine Z1 ?_; refine Zd ?_; refine Zl ?_; refine JD ?_
    refine JF ?_; refine X2 ?_; refine X0 ?_; refine JR ?_; refine Z0 ?_; refine Z0 ?_; refine Z0 ?_; refine JD ?_
    exact X1 ⟨_, St.le_refl _, ⟨rfl, rfl, rfl, trivial⟩, X3 _⟩
  have hlt : i < 10 ∧ i < l.length := by rw [List.length_take] at him; omega
  have hlm : i < (l.take 10).length := by rw [List.length_take]; omega
  obtain ⟨c, hc⟩ := Xu (l := l) (k := i) (by omega)
  have hcm : (l.take 10)[i]? = some c := by rw [List.getElem?_take_of_lt hlt.1]; exact hc
  have hc8 := c.toNat_lt
  have hacc := X2O l i
  have hacc1 := X2O l (i + 1)
  have hsh : c.toNat % 128 * 2 ^ (7 * i) % 2 ^ IntKind.u64.bits = c.toNat % 128 * 2 ^ (7 * i) % 18446744073709551616 := rfl
  have hst : Y5 l i ||| c.toNat % 128 * 2 ^ (7 * i) % 18446744073709551616 = Y5 l (i + 1) := by simp only [Y5, hc, Option.getD_some]
  have hq : c.toNat % 128 * 2 ^ (7 * i) % 18446744073709551616 < 18446744073709551616 := Nat.mod_lt _ (by omega)
  by_cases hge : 128 ≤ c.toNat
  ·refine X0 ?_; refine JR ?_; refine Z8 ?_; refine JD ?_; refine X0 ?_; refine JT ?_; refine X2 ?_; refine X0 ?_; refine X4 ?_; refine X0 ?_; refine JR ?_; refine Z1 ?_; refine Zj ?_
   refine Zk ?_; refine Z0 ?_; refine Z0 ?_; refine JD ?_; refine X0 ?_; refine JR ?_; refine Z1 ?_; refine Z1 ?_
   refine Z4 (op := .and) (r' := n8 (c.toNat % 128)) (u := n8 c.toNat) (v := n8 127) ?_ (hr' := by exact congrArg n8 (Vu _)) (hr := by exact UV (by rw [YM]; omega) (by rw [YM]; omega))
   refine Z3 (u := n8 (c.toNat % 128)) (r := n64 (c.toNat % 128)) ?_ (hr := by exact Yu rfl rfl (by rw [XK]; omega)); refine Z1 ?_
   refine Z7 (op := .mul) (r' := ni (7 * i)) (u := ni 7) (v := ni i) ?_ (hr := by exact YV (by rw [Xx]; omega))
   refine Z4 (op := .shl) (r' := n64 (c.toNat % 128 * 2 ^ (7 * i) % 18446744073709551616)) (u := n64 (c.toNat % 128)) (v := ni (7 * i)) ?_ (hr' := by exact congrArg n64 hsh) (hr := by exact Vc rfl (by show 7 * i ≤ 64; omega))
   refine Z4 (op := .or) (r' := n64 (Y5 l (i + 1))) (u := n64 (Y5 l i)) (v := n64 (c.toNat % 128 * 2 ^ (7 * i) % 18446744073709551616)) ?_ (hr' := by exact congrArg n64 hst) (hr := by exact Vd (by rw [XK]; omega) (by rw [XK]; omega))
   refine Z0 ?_; refine JD ?_; refine X0 ?_; refine X0 ?_; refine JR ?_; refine Z1 ?_; refine Z2 ?_; refine JD ?_; refine JT ?_; refine Xj ?_; refine JR ?_; refine Zb ?_; refine Z1 ?_; refine JD ?_
   exact ⟨i + 1, ⟨X5b hbg hc hge, by omega, by omega⟩, by omega, X8 rfl ⟨JL, JL, JL, JL, JL, JL, trivial⟩ trivial⟩
  have hm : Y6 l = i := X4Z hbg hc (by omega) hlt.1
  by_cases h9 : i = 9
  ·by_cases hc1 : 1 < c.toNat
   ·have hv : XH b k = (0, 0, 4) := by rw [hnum]; simp only [hm, hc, Option.getD_some]; rw [if_neg (by omega), if_neg (by omega), if_pos ⟨h9, hc1⟩]
    rw [show Y3 b k = (0, 0, 4) by unfold Y3; rw [hv]; rfl]
    refine X0 ?_; refine JR ?_; refine Z8 ?_; refine JD ?_; refine X0 ?_; refine JT ?_; refine X2 ?_; refine X0 ?_; refine X4 ?_; refine X0 ?_; refine JR ?_; refine Z1 ?_; refine Zj ?_
    refine Zk ?_; refine Z0 ?_; refine Z0 ?_; refine JD ?_; refine X0 ?_; refine JR ?_; refine Z1 ?_; refine Z1 ?_
    refine Z4 (op := .and) (r' := n8 (c.toNat % 128)) (u := n8 c.toNat) (v := n8 127) ?_ (hr' := by exact congrArg n8 (Vu _)) (hr := by exact UV (by rw [YM]; omega) (by rw [YM]; omega))
    refine Z3 (u := n8 (c.toNat % 128)) (r := n64 (c.toNat % 128)) ?_ (hr := by exact Yu rfl rfl (by rw [XK]; omega)); refine Z1 ?_
    refine Z7 (op := .mul) (r' := ni (7 * i)) (u := ni 7) (v := ni i) ?_ (hr := by exact YV (by rw [Xx]; omega))
    refine Z4 (op := .shl) (r' := n64 (c.toNat % 128 * 2 ^ (7 * i) % 18446744073709551616)) (u := n64 (c.toNat % 128)) (v := ni (7 * i)) ?_ (hr' := by exact congrArg n64 hsh) (hr := by exact Vc rfl (by show 7 * i ≤ 64; omega))
    refine Z4 (op := .or) (r' := n64 (Y5 l (i + 1))) (u := n64 (Y5 l i)) (v := n64 (c.toNat % 128 * 2 ^ (7 * i) % 18446744073709551616)) ?_ (hr' := by exact congrArg n64 hst) (hr := by exact Vd (by rw [XK]; omega) (by rw [XK]; omega))
    refine Z0 ?_; refine JD ?_; refine X0 ?_; refine X0 ?_; refine JR ?_; refine Z1 ?_; refine Z2 ?_; refine JD ?_; refine JF ?_; refine X2 ?_; refine X0 ?_; refine X4 ?_; refine X0 ?_
    refine JR ?_; refine Z1 ?_; refine Zl ?_; refine Z1 ?_; refine Z1 ?_; refine Zs ?_; refine Zn ?_; refine Z0 ?_; refine JD ?_; refine JT ?_; refine X0 ?_; refine JR ?_; refine Z0 ?_; refine Z0 ?_; refine Z0 ?_
    refine JD ?_
    exact X1 ⟨_, St.le_refl _, ⟨rfl, rfl, rfl, trivial⟩, X3 _⟩
   ·have hval : Y5 l (i + 1) = XE (l.take (i + 1)) := by subst h9; exact X8T l hc (by omega)
    by_cases hz : 0 < i ∧ c = 0
    ·have hv : XH b k = (XE (l.take (i + 1)), (k : Int) + i + 1, 0) := by rw [hnum]; simp only [hm, hc, Option.getD_some]; rw [if_neg (by omega), if_neg (by omega), if_neg (by omega)]
     rw [show Y3 b k = (XE (l.take (i + 1)), 0, 2) by
      unfold Y3; rw [hv, hpad]; simp only [hm, hc, Option.getD_some]
      simp [hz.1, hz.2]]
     obtain ⟨hz1, hz2⟩ := hz
     have hz3 : c.toNat = 0 := by rw [hz2]; rfl
     rw [← hval]
     refine X0 ?_; refine JR ?_; refine Z8 ?_; refine JD ?_; refine X0 ?_; refine JT ?_; refine X2 ?_; refine X0 ?_; refine X4 ?_; refine X0 ?_; refine JR ?_; refine Z1 ?_; refine Zj ?_
     refine Zk ?_; refine Z0 ?_; refine Z0 ?_; refine JD ?_; refine X0 ?_; refine JR ?_; refine Z1 ?_; refine Z1 ?_
     refine Z4 (op := .and) (r' := n8 (c.toNat % 128)) (u := n8 c.toNat) (v := n8 127) ?_ (hr' := by exact congrArg n8 (Vu _)) (hr := by exact UV (by rw [YM]; omega) (by rw [YM]; omega))
     refine Z3 (u := n8 (c.toNat % 128)) (r := n64 (c.toNat % 128)) ?_ (hr := by exact Yu rfl rfl (by rw [XK]; omega)); refine Z1 ?_
     refine Z7 (op := .mul) (r' := ni (7 * i)) (u := ni 7) (v := ni i) ?_ (hr := by exact YV (by rw [Xx]; omega))
     refine Z4 (op := .shl) (r' := n64 (c.toNat % 128 * 2 ^ (7 * i) % 18446744073709551616)) (u := n64 (c.toNat % 128)) (v := ni (7 * i)) ?_ (hr' := by exact congrArg n64 hsh) (hr := by exact Vc rfl (by show 7 * i ≤ 64; omega))
     refine Z4 (op := .or) (r' := n64 (Y5 l (i + 1))) (u := n64 (Y5 l i)) (v := n64 (c.toNat % 128 * 2 ^ (7 * i) % 18446744073709551616)) ?_ (hr' := by exact congrArg n64 hst) (hr := by exact Vd (by rw [XK]; omega) (by rw [XK]; omega))
     refine Z0 ?_; refine JD ?_; refine X0 ?_; refine X0 ?_; refine JR ?_; refine Z1 ?_; refine Z2 ?_; refine JD ?_; refine JF ?_; refine X2 ?_; refine X0 ?_; refine X4 ?_; refine X0 ?_
     refine JR ?_; refine Z1 ?_; refine Zl ?_; refine Z1 ?_; refine Z1 ?_; refine Zs ?_; refine Zn ?_; refine Z0 ?_; refine JD ?_; refine JF ?_; refine X0 ?_; refine JR ?_; refine Z1 ?_; refine Zs ?_; refine Z1 ?_
     refine Z1 ?_; refine Zl ?_; refine Zn ?_; refine Z0 ?_; refine JD ?_; refine JT ?_; refine X0 ?_; refine JR ?_; refine Z1 ?_; refine Z0 ?_; refine Z0 ?_; refine Z0 ?_; refine JD ?_
     exact X1 ⟨_, St.le_refl _, ⟨rfl, rfl, rfl, trivial⟩, X3 _⟩
    ·have hz' : ¬ (0 < i ∧ c.toNat = 0) := fun h => hz ⟨h.1, UInt8.toNat_inj.1 h.2⟩
     have hv : XH b k = (XE (l.take (i + 1)), (k : Int) + i + 1, 0) := by rw [hnum]; simp only [hm, hc, Option.getD_some]; rw [if_neg (by omega), if_neg (by omega), if_neg (by omega)]
     have hpf : YX b k = false := by
      rw [hpad]; simp only [hm, hc, Option.getD_some]
      rw [Bool.and_eq_false_iff, decide_eq_false_iff_not, decide_eq_false_iff_not]
      by_cases h0 : 0 < i
      ·exact .inr fun h2 => hz ⟨h0, h2⟩
      ·exact .inl h0
     rw [show Y3 b k = (XE (l.take (i + 1)), (k : Int) + i + 1, 0) by unfold Y3; rw [hv, hpf]; rfl]
     rw [← hval]
     by_cases hi0 : 0 < i
     ·have hcz : ¬ (c.toNat = 0) := fun h => hz' ⟨hi0, h⟩
      refine X0 ?_; refine JR ?_; refine Z8 ?_; refine JD ?_; refine X0 ?_; refine JT ?_; refine X2 ?_; refine X0 ?_; refine X4 ?_; refine X0 ?_; refine JR ?_; refine Z1 ?_; refine Zj ?_
      refine Zk ?_; refine Z0 ?_; refine Z0 ?_; refine JD ?_; refine X0 ?_; refine JR ?_; refine Z1 ?_; refine Z1 ?_
      refine Z4 (op := .and) (r' := n8 (c.toNat % 128)) (u := n8 c.toNat) (v := n8 127) ?_ (hr' := by exact congrArg n8 (Vu _)) (hr := by exact UV (by rw [YM]; omega) (by rw [YM]; omega))
      refine Z3 (u := n8 (c.toNat % 128)) (r := n64 (c.toNat % 128)) ?_ (hr := by exact Yu rfl rfl (by rw [XK]; omega)); refine Z1 ?_
      refine Z7 (op := .mul) (r' := ni (7 * i)) (u := ni 7) (v := ni i) ?_ (hr := by exact YV (by rw [Xx]; omega))
      refine Z4 (op := .shl) (r' := n64 (c.toNat % 128 * 2 ^ (7 * i) % 18446744073709551616)) (u := n64 (c.toNat % 128)) (v := ni (7 * i)) ?_ (hr' := by exact congrArg n64 hsh) (hr := by exact Vc rfl (by show 7 * i ≤ 64; omega))
      refine Z4 (op := .or) (r' := n64 (Y5 l (i + 1))) (u := n64 (Y5 l i)) (v := n64 (c.toNat % 128 * 2 ^ (7 * i) % 18446744073709551616)) ?_ (hr' := by exact congrArg n64 hst) (hr := by exact Vd (by rw [XK]; omega) (by rw [XK]; omega))
      refine Z0 ?_; refine JD ?_; refine X0 ?_; refine X0 ?_; refine JR ?_; refine Z1 ?_; refine Z2 ?_; refine JD ?_; refine JF ?_; refine X2 ?_; refine X0 ?_; refine X4 ?_; refine X0 ?_
      refine JR ?_; refine Z1 ?_; refine Zl ?_; refine Z1 ?_; refine Z1 ?_; refine Zs ?_; refine Zn ?_; refine Z0 ?_; refine JD ?_; refine JF ?_; refine X0 ?_; refine JR ?_; refine Z1 ?_; refine Zs ?_; refine Z1 ?_
      refine Z1 ?_; refine Zl ?_; refine Zn ?_; refine Z0 ?_; refine JD ?_; refine JF ?_; refine X2 ?_; refine X0 ?_; refine JR ?_; refine Z1 ?_; refine Z1 ?_; refine Z1 ?_; refine Zb ?_; refine Zb ?_; refine Z0 ?_
      refine Z0 ?_; refine Z0 ?_; refine JD ?_
      exact X1 ⟨_, Xh 5 (y := ai ((k : Int) + i + 1)) (AVal.le_of_eq (by refine Eq.trans (b := ai _) rfl ?_; simp)), ⟨rfl, rfl, rfl, trivial⟩, X3 _⟩
     ·exact absurd (by omega) hi0
  ·have hval : Y5 l (i + 1) = XE (l.take (i + 1)) := X3m l (i + 1) (by omega) (by omega)
   by_cases hz : 0 < i ∧ c = 0
   ·have hv : XH b k = (XE (l.take (i + 1)), (k : Int) + i + 1, 0) := by rw [hnum]; simp only [hm, hc, Option.getD_some]; rw [if_neg (by omega), if_neg (by omega), if_neg (by omega)]
    rw [show Y3 b k = (XE (l.take (i + 1)), 0, 2) by
     unfold Y3; rw [hv, hpad]; simp only [hm, hc, Option.getD_some]
     simp [hz.1, hz.2]]
    obtain ⟨hz1, hz2⟩ := hz
    have hz3 : c.toNat = 0 := by rw [hz2]; rfl
    rw [← hval]
    refine X0 ?_; refine JR ?_; refine Z8 ?_; refine JD ?_; refine X0 ?_; refine JT ?_; refine X2 ?_; refine X0 ?_; refine X4 ?_; refine X0 ?_; refine JR ?_; refine Z1 ?_; refine Zj ?_
    refine Zk ?_; refine Z0 ?_; refine Z0 ?_; refine JD ?_; refine X0 ?_; refine JR ?_; refine Z1 ?_; refine Z1 ?_
    refine Z4 (op := .and) (r' := n8 (c.toNat % 128)) (u := n8 c.toNat) (v := n8 127) ?_ (hr' := by exact congrArg n8 (Vu _)) (hr := by exact UV (by rw [YM]; omega) (by rw [YM]; omega))
    refine Z3 (u := n8 (c.toNat % 128)) (r := n64 (c.toNat % 128)) ?_ (hr := by exact Yu rfl rfl (by rw [XK]; omega)); refine Z1 ?_
    refine Z7 (op := .mul) (r' := ni (7 * i)) (u := ni 7) (v := ni i) ?_ (hr := by exact YV (by rw [Xx]; omega))
    refine Z4 (op := .shl) (r' := n64 (c.toNat % 128 * 2 ^ (7 * i) % 18446744073709551616)) (u := n64 (c.toNat % 128)) (v := ni (7 * i)) ?_ (hr' := by exact congrArg n64 hsh) (hr := by exact Vc rfl (by show 7 * i ≤ 64; omega))
    refine Z4 (op := .or) (r' := n64 (Y5 l (i + 1))) (u := n64 (Y5 l i)) (v := n64 (c.toNat % 128 * 2 ^ (7 * i) % 18446744073709551616)) ?_ (hr' := by exact congrArg n64 hst) (hr := by exact Vd (by rw [XK]; omega) (by rw [XK]; omega))
    refine Z0 ?_; refine JD ?_; refine X0 ?_; refine X0 ?_; refine JR ?_; refine Z1 ?_; refine Z2 ?_; refine JD ?_; refine JF ?_; refine X2 ?_; refine X0 ?_; refine X4 ?_; refine X0 ?_
    refine JR ?_; refine Z1 ?_; refine Zl ?_; refine Z1 ?_; refine Zo ?_; refine Zo ?_; refine Zq ?_; refine Z0 ?_; refine JD ?_; refine JF ?_; refine X0 ?_; refine JR ?_; refine Z1 ?_; refine Zs ?_; refine Z1 ?_
    refine Z1 ?_; refine Zl ?_; refine Zn ?_; refine Z0 ?_; refine JD ?_; refine JT ?_; refine X0 ?_; refine JR ?_; refine Z1 ?_; refine Z0 ?_; refine Z0 ?_; refine Z0 ?_; refine JD ?_
    exact X1 ⟨_, St.le_refl _, ⟨rfl, rfl, rfl, trivial⟩, X3 _⟩
   ·have hz' : ¬ (0 < i ∧ c.toNat = 0) := fun h => hz ⟨h.1, UInt8.toNat_inj.1 h.2⟩
    have hv : XH b k = (XE (l.take (i + 1)), (k : Int) + i + 1, 0) := by rw [hnum]; simp only [hm, hc, Option.getD_some]; rw [if_neg (by omega), if_neg (by omega), if_neg (by omega)]
    have hpf : YX b k = false := by
     rw [hpad]; simp only [hm, hc, Option.getD_some]
     rw [Bool.and_eq_false_iff, decide_eq_false_iff_not, decide_eq_false_iff_not]
     by_cases h0 : 0 < i
     ·exact .inr fun h2 => hz ⟨h0, h2⟩
     ·exact .inl h0
    rw [show Y3 b k = (XE (l.take (i + 1)), (k : Int) + i + 1, 0) by unfold Y3; rw [hv, hpf]; rfl]
    rw [← hval]
    by_cases hi0 : 0 < i
    ·have hcz : ¬ (c.toNat = 0) := fun h => hz' ⟨hi0, h⟩
     refine X0 ?_; refine JR ?_; refine Z8 ?_; refine JD ?_; refine X0 ?_; refine JT ?_; refine X2 ?_; refine X0 ?_; refine X4 ?_; refine X0 ?_; refine JR ?_; refine Z1 ?_; refine Zj ?_
     refine Zk ?_; refine Z0 ?_; refine Z0 ?_; refine JD ?_; refine X0 ?_; refine JR ?_; refine Z1 ?_; refine Z1 ?_
     refine Z4 (op := .and) (r' := n8 (c.toNat % 128)) (u := n8 c.toNat) (v := n8 127) ?_ (hr' := by exact congrArg n8 (Vu _)) (hr := by exact UV (by rw [YM]; omega) (by rw [YM]; omega))
     refine Z3 (u := n8 (c.toNat % 128)) (r := n64 (c.toNat % 128)) ?_ (hr := by exact Yu rfl rfl (by rw [XK]; omega)); refine Z1 ?_
     refine Z7 (op := .mul) (r' := ni (7 * i)) (u := ni 7) (v := ni i) ?_ (hr := by exact YV (by rw [Xx]; omega))
     refine Z4 (op := .shl) (r' := n64 (c.toNat % 128 * 2 ^ (7 * i) % 18446744073709551616)) (u := n64 (c.toNat % 128)) (v := ni (7 * i)) ?_ (hr' := by exact congrArg n64 hsh) (hr := by exact Vc rfl (by show 7 * i ≤ 64; omega))
     refine Z4 (op := .or) (r' := n64 (Y5 l (i + 1))) (u := n64 (Y5 l i)) (v := n64 (c.toNat % 128 * 2 ^ (7 * i) % 18446744073709551616)) ?_ (hr' := by exact congrArg n64 hst) (hr := by exact Vd (by rw [XK]; omega) (by rw [XK]; omega))
     refine Z0 ?_; refine JD ?_; refine X0 ?_; refine X0 ?_; refine JR ?_; refine Z1 ?_; refine Z2 ?_; refine JD ?_; refine JF ?_; refine X2 ?_; refine X0 ?_; refine X4 ?_; refine X0 ?_
     refine JR ?_; refine Z1 ?_; refine Zl ?_; refine Z1 ?_; refine Zo ?_; refine Zo ?_; refine Zq ?_; refine Z0 ?_; refine JD ?_; refine JF ?_; refine X0 ?_; refine JR ?_; refine Z1 ?_; refine Zs ?_; refine Z1 ?_
     refine Z1 ?_; refine Zl ?_; refine Zn ?_; refine Z0 ?_; refine JD ?_; refine JF ?_; refine X2 ?_; refine X0 ?_; refine JR ?_; refine Z1 ?_; refine Z1 ?_; refine Z1 ?_; refine Zb ?_; refine Zb ?_; refine Z0 ?_
     refine Z0 ?_; refine Z0 ?_; refine JD ?_
     exact X1 ⟨_, Xh 5 (y := ai ((k : Int) + i + 1)) (AVal.le_of_eq (by refine Eq.trans (b := ai _) rfl ?_; simp)), ⟨rfl, rfl, rfl, trivial⟩, X3 _⟩
    ·refine X0 ?_; refine JR ?_; refine Z8 ?_; refine JD ?_; refine X0 ?_; refine JT ?_; refine X2 ?_; refine X0 ?_; refine X4 ?_; refine X0 ?_; refine JR ?_; refine Z1 ?_; refine Zj ?_
     refine Zk ?_; refine Z0 ?_; refine Z0 ?_; refine JD ?_; refine X0 ?_; refine JR ?_; refine Z1 ?_; refine Z1 ?_
     refine Z4 (op := .and) (r' := n8 (c.toNat % 128)) (u := n8 c.toNat) (v := n8 127) ?_ (hr' := by exact congrArg n8 (Vu _)) (hr := by exact UV (by rw [YM]; omega) (by rw [YM]; omega))
     refine Z3 (u := n8 (c.toNat % 128)) (r := n64 (c.toNat % 128)) ?_ (hr := by exact Yu rfl rfl (by rw [XK]; omega)); refine Z1 ?_
     refine Z7 (op := .mul) (r' := ni (7 * i)) (u := ni 7) (v := ni i) ?_ (hr := by exact YV (by rw [Xx]; omega))
     refine Z4 (op := .shl) (r' := n64 (c.toNat % 128 * 2 ^ (7 * i) % 18446744073709551616)) (u := n64 (c.toNat % 128)) (v := ni (7 * i)) ?_ (hr' := by exact congrArg n64 hsh) (hr := by exact Vc rfl (by show 7 * i ≤ 64; omega))
     refine Z4 (op := .or) (r' := n64 (Y5 l (i + 1))) (u := n64 (Y5 l i)) (v := n64 (c.toNat % 128 * 2 ^ (7 * i) % 18446744073709551616)) ?_ (hr' := by exact congrArg n64 hst) (hr := by exact Vd (by rw [XK]; omega) (by rw [XK]; omega))
     refine Z0 ?_; refine JD ?_; refine X0 ?_; refine X0 ?_; refine JR ?_; refine Z1 ?_; refine Z2 ?_; refine JD ?_; refine JF ?_; refine X2 ?_; refine X0 ?_; refine X4 ?_; refine X0 ?_
     refine JR ?_; refine Z1 ?_; refine Zl ?_; refine Z1 ?_; refine Zo ?_; refine Zo ?_; refine Zq ?_; refine Z0 ?_; refine JD ?_; refine JF ?_; refine X0 ?_; refine JR ?_; refine Z1 ?_; refine Zs ?_; refine Z1 ?_
     refine Zo ?_; refine Zo ?_; refine Zq ?_; refine Z0 ?_; refine JD ?_; refine JF ?_; refine X2 ?_; refine X0 ?_; refine JR ?_; refine Z1 ?_; refine Z1 ?_; refine Z1 ?_; refine Zb ?_; refine Zb ?_; refine Z0 ?_
     refine Z0 ?_; refine Z0 ?_; refine JD ?_
     exact X1 ⟨_, Xh 5 (y := ai ((k : Int) + i + 1)) (AVal.le_of_eq (by refine Eq.trans (b := ai _) rfl ?_; simp)), ⟨rfl, rfl, rfl, trivial⟩, X3 _⟩
end Go.Fw
namespace Go.Fw
open Go Go.Proofs
set_option maxRecDepth 100000
set_option linter.unusedVariables false
set_option linter.unusedSimpArgs false
theorem X5u {b : List UInt8} {a : Int} (h : (XH b a).2.2 = 0) : ∃ k : Nat, a = k ∧ k ≤ b.length ∧ Y6 (b.drop k) < (b.drop k).length ∧ Y6 (b.drop k) < 10 ∧ (XH b a).2.1 = ((k + Y6 (b.drop k) + 1 : Nat) : Int) := by
 unfold XH at h ⊢
 split at h
 ·simp at h
 rename_i ha
 have hm : Y6 (b.drop a.toNat) ≤ 10 := by
  unfold Y6
  have := (List.takeWhile_sublist (l := (b.drop a.toNat).take 10) (fun b => decide (128 ≤ b.toNat))).length_le
  simp at this ⊢; omega
 simp only at h ⊢
 split at h
 ·simp at h
 rename_i h10
 split at h
 ·simp at h
 rename_i hle
 split at h
 ·simp at h
 rename_i h9
 have ha' : ¬(a < 0) ∧ ¬((b.length : Int) < a) := by simpa using ha
 refine ⟨a.toNat, by omega, by omega, by omega, by omega, ?_⟩
 rw [if_neg ha, if_neg h10, if_neg hle, if_neg h9]
 simp only; omega
theorem X6F {b : List UInt8} {a : Int} : (XH b a).1 < 18446744073709551616 := by
 by_cases h : (XH b a).2.2 = 0
 ·by_cases hp : YX b a = false
  ·exact (X6d (b := b) (a := a) (e := (XH b a).2.1) (u := (XH b a).1) (by rw [← h]) hp).2.2.2.2
  ·obtain ⟨k, rfl, hk, h1, h2, _⟩ := X5u h
   have hp : YX b (k : Int) = true := by simpa using hp
   unfold YX at hp
   simp only [Int.toNat_natCast, Bool.and_eq_true, decide_eq_true_eq] at hp
   obtain ⟨c, hc⟩ := Xu (l := b.drop k) h1
   rw [hc] at hp
   simp only [Option.getD_some] at hp
   have hc0 : c.toNat = 0 := by rw [hp.2]; rfl
   unfold XH
   rw [if_neg (by omega)]
   simp only [Int.toNat_natCast]
   rw [if_neg (by omega), if_neg (by omega)]
   split
   ·simp
   ·simp only
    rw [X1J _ _ c hc, hc0]
    have h3 := X3c (b.drop k) (Y6 (b.drop k))
    have h4 : (2 : Nat) ^ (7 * Y6 (b.drop k)) ≤ 2 ^ 63 := Nat.pow_le_pow_right (by omega) (by omega)
    omega
 ·unfold XH at h ⊢
  split at h
  ·rename_i h1; rw [if_pos h1]; simp
  rename_i h1; rw [if_neg h1]
  simp only at h ⊢
  split at h
  ·rename_i h2; rw [if_pos h2]; simp
  rename_i h2; rw [if_neg h2]
  split at h
  ·rename_i h3; rw [if_pos h3]; simp
  rename_i h3; rw [if_neg h3]
  split at h
  ·rename_i h4; rw [if_pos h4]; simp
  ·simp at h
theorem X9m {b : List UInt8} {a : Int} : (Y3 b a).1 < 18446744073709551616 := by
 unfold Y3
 simp only
 split
 ·simp
 ·split <;> exact X6F
theorem X4j {b : List UInt8} {a : Int} : Xe b a = if 9223372036854775807 < (Y3 b a).1 then (0, 0, 4) else if (Y3 b a).2.2 ≠ 0 then (0, 0, (Y3 b a).2.2) else (((Y3 b a).1 : Int), (Y3 b a).2.1, 0) := by
 unfold Xe Y3
 simp only
 by_cases h : (XH b a).2.2 = 0
 ·simp only [h, ne_eq, not_true_eq_false, if_false]
  cases hp : YX b a with
  | true => simp only [if_true]; simp
  | false => simp only [Bool.false_eq_true, if_false, h]; simp
 ·simp [h]
theorem XgT {b : List UInt8} {a : Int} : Xq b a = if (Y3 b a).2.2 ≠ 0 then (0, 0, (Y3 b a).2.2) else (zag (Y3 b a).1, (Y3 b a).2.1, 0) := by
 unfold Xq Y3
 simp only
 by_cases h : (XH b a).2.2 = 0
 ·simp only [h, ne_eq, not_true_eq_false, if_false]
  cases hp : YX b a with
  | true => simp
  | false => simp [h]
 ·simp [h]
abbrev aN3 (r : Int × Int × Int) : AVal := .tup [ai r.1, ai r.2.1, ai r.2.2]
theorem X3e (b : List UInt8) (a : Int) (hb : b.length ≤ 281474976710656) : Con Tryz.prog 111 [] [.d (Xa b), ai a] [] (aN3 (Xe b a)) := by
 refine X9 (xs := [ai (Xe b a).1, ai (Xe b a).2.1, ai (Xe b a).2.2]) Tryz.func111 rfl Tryz.ntmps111 rfl rfl rfl (fun E => ?_)
 have hr := X8o b a hb
 have hlt := X9m (b := b) (a := a)
 rw [X4j]
 generalize Y3 b a = r at *
 obtain ⟨u, e, err⟩ := r
 simp only at hlt ⊢
 by_cases h1 : 9223372036854775807 < u
 ·rw [if_pos h1]
  repeat first | refine X0 ?_ | (refine JR ?_; (repeat first | refine Z1 ?_ | refine Z0 ?_ | refine Zs ?_ | refine ZF ?_ | refine Z9 (hcon := hr) ?_); refine JD ?_) | refine JT ?_ | refine X4 ?_
  exact X1 ⟨_, St.le_refl _, ⟨rfl, rfl, rfl, trivial⟩, X3 _⟩
 rw [if_neg h1]
 by_cases h2 : err = 0
 ·rw [if_neg (by simpa using h2)]
  repeat first | refine X0 ?_ | (refine JR ?_; (repeat first | refine Z3 (u := n64 u) (r := ni u) ?_ (hr := by exact Yu rfl rfl (by rw [Xx]; omega)) | refine Z1 ?_ | refine Z0 ?_ | refine Zs ?_ | refine Zv ?_ | refine ZF ?_ | refine Z9 (hcon := hr) ?_); refine JD ?_) | refine JF ?_ | refine X4 ?_ | refine X2 ?_
  exact X1 ⟨_, St.le_refl _, ⟨rfl, rfl, rfl, trivial⟩, X3 _⟩
 ·rw [if_pos h2]
  repeat first | refine X0 ?_ | (refine JR ?_; (repeat first | refine Z1 ?_ | refine Z0 ?_ | refine Zs ?_ | refine Zv ?_ | refine ZF ?_ | refine Z9 (hcon := hr) ?_); refine JD ?_) | refine JT ?_ | refine JF ?_ | refine X4 ?_
  exact X1 ⟨_, St.le_refl _, ⟨rfl, rfl, rfl, trivial⟩, X3 _⟩
theorem X7O (b : List UInt8) (a : Int) (hb : b.length ≤ 281474976710656) : Con Tryz.prog 169 [] [.d (Xa b), ai a] [] (aN3 (Xq b a)) := by
 refine X9 (xs := [ai (Xq b a).1, ai (Xq b a).2.1, ai (Xq b a).2.2]) Tryz.func169 rfl Tryz.ntmps169 rfl rfl rfl (fun E => ?_)
 have hr := X8o b a hb
 have hlt := X9m (b := b) (a := a)
 rw [XgT]
 generalize Y3 b a = r at *
 obtain ⟨u, e, err⟩ := r
 simp only at hlt ⊢
 by_cases h2 : err = 0
 ·rw [if_neg (by simpa using h2)]
  have hx : ∀ w, (Op.unary .xor (ni (u / 2))).run Tryz.prog w = .ok (.int .i64 (-((u / 2 : Nat) : Int) - 1)) w := fun w => Xh1 (P := Tryz.prog) (by omega) w
  by_cases hodd : u % 2 = 1
  ·rw [show zag u = -((u / 2 : Nat) : Int) - 1 by unfold zag; rw [if_pos hodd]]
   refine X0 ?_; refine JR ?_; refine Z0 ?_; refine Z0 ?_; refine Z0 ?_; refine JD ?_; refine X0 ?_; refine JR ?_; refine Z1 ?_; refine Z1 ?_; refine Z9 (hcon := hr) ?_; refine Z1 ?_; refine ZF ?_; refine ZF ?_
   refine ZF ?_; refine Z0 ?_; refine Z0 ?_; refine Z0 ?_; refine JD ?_; refine X0 ?_; refine X0 ?_; refine JR ?_; refine Z1 ?_; refine Zv ?_; refine JD ?_; refine JF ?_; refine X2 ?_; refine X0 ?_
   refine JR ?_; refine Z1 ?_; refine Z7 (op := .shr) (r' := n64 (u / 2)) (u := n64 u) (v := n64 1) ?_ (hr := by exact X1a (by decide))
   refine Z3 (u := n64 (u / 2)) (r := ni (u / 2)) ?_ (hr := by exact Yu rfl rfl (by rw [Xx]; omega)); refine Z0 ?_; refine JD ?_; refine X0 ?_; refine X0 ?_; refine JR ?_; refine Z1 ?_
   refine Z4 (op := .and) (r' := n64 (u % 2)) (u := n64 u) (v := n64 1) ?_ (hr' := by exact congrArg n64 (Nat.and_one_is_mod u)) (hr := by exact UV (by rw [XK]; omega) (by rw [XK]; omega)); refine Zl ?_
   refine JD ?_; refine JT ?_; refine JR ?_; refine Z1 ?_; refine Za (u := ni (u / 2)) (r := .int .i64 (-((u / 2 : Nat) : Int) - 1)) ?_ (hr := by exact hx); refine Z0 ?_; refine JD ?_; refine X0 ?_; refine JR ?_
   refine Z1 ?_; refine Z1 ?_; refine Z0 ?_; refine Z0 ?_; refine Z0 ?_; refine JD ?_
   exact X1 ⟨_, St.le_refl _, ⟨rfl, rfl, rfl, trivial⟩, X3 _⟩
  ·rw [show zag u = ((u / 2 : Nat) : Int) by unfold zag; rw [if_neg hodd]]
   refine X0 ?_; refine JR ?_; refine Z0 ?_; refine Z0 ?_; refine Z0 ?_; refine JD ?_; refine X0 ?_; refine JR ?_; refine Z1 ?_; refine Z1 ?_; refine Z9 (hcon := hr) ?_; refine Z1 ?_; refine ZF ?_; refine ZF ?_
   refine ZF ?_; refine Z0 ?_; refine Z0 ?_; refine Z0 ?_; refine JD ?_; refine X0 ?_; refine X0 ?_; refine JR ?_; refine Z1 ?_; refine Zv ?_; refine JD ?_; refine JF ?_; refine X2 ?_; refine X0 ?_
   refine JR ?_; refine Z1 ?_; refine Z7 (op := .shr) (r' := n64 (u / 2)) (u := n64 u) (v := n64 1) ?_ (hr := by exact X1a (by decide))
   refine Z3 (u := n64 (u / 2)) (r := ni (u / 2)) ?_ (hr := by exact Yu rfl rfl (by rw [Xx]; omega)); refine Z0 ?_; refine JD ?_; refine X0 ?_; refine X0 ?_; refine JR ?_; refine Z1 ?_
   refine Z4 (op := .and) (r' := n64 (u % 2)) (u := n64 u) (v := n64 1) ?_ (hr' := by exact congrArg n64 (Nat.and_one_is_mod u)) (hr := by exact UV (by rw [XK]; omega) (by rw [XK]; omega)); refine Zl ?_
   refine JD ?_; refine JF ?_; refine X2 ?_; refine X0 ?_; refine JR ?_; refine Z1 ?_; refine Z1 ?_; refine Z0 ?_; refine Z0 ?_; refine Z0 ?_; refine JD ?_
   exact X1 ⟨_, St.le_refl _, ⟨rfl, rfl, rfl, trivial⟩, X3 _⟩
 ·rw [if_pos h2]
  repeat first | refine X0 ?_ | (refine JR ?_; (repeat first | refine Z1 ?_ | refine Z0 ?_ | refine Zv ?_ | refine ZF ?_ | refine Z9 (hcon := hr) ?_); refine JD ?_) | refine JT ?_
  exact X1 ⟨_, St.le_refl _, ⟨rfl, rfl, rfl, trivial⟩, X3 _⟩
end Go.Fw

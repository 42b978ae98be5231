/- The program's read. -/
import Derived.Test.YtaoggblfedekeaaDoorG08
import Derived.Test.YtaoggblfedekeaaDoorG13
set_option maxHeartbeats 8000000
namespace Go.Fw
open Go Go.Proofs
set_option maxRecDepth 100000
set_option linter.unusedVariables false
set_option linter.unusedSimpArgs false
theorem Ug (c : Nat) : c &&& 127 = c % 128 := Nat.and_two_pow_sub_one_eq_mod c 7
theorem X3W (b : List UInt8) (a : Int) (hb : b.length ≤ 281474976710656) : Con Tryd.prog 50 [] [.d (Xv b), ai a] [] (X3Z (X0i (Xu b a).1) (Xu b a).2.1 (Xu b a).2.2) := by
 refine Xb (xs := [X0i (Xu b a).1, ai (Xu b a).2.1, ai (Xu b a).2.2]) Tryd.func50 rfl Tryd.ntmps50 rfl rfl rfl (fun E => ?_)
 by_cases h1 : a < 0
 ·rw [show Xu b a = (0, 0, 1) by simp [Xu, XC, h1]]
  repeat first | refine X0 ?_ | (refine JR ?_; (repeat first | refine Z1 ?_ | refine Z0 ?_ | refine Z7 ?_ | refine Zi ?_ | refine Zj ?_); refine JD ?_) | refine JT ?_
  exact X1 ⟨_, St.le_refl _, ⟨rfl, rfl, rfl, trivial⟩, X2 _⟩
 by_cases h2 : (b.length : Int) < a
 ·rw [show Xu b a = (0, 0, 1) by simp [Xu, XC, h2]]
  refine X0 ?_; refine JR ?_; refine Z0 ?_; refine Z0 ?_; refine Z0 ?_; refine JD ?_; refine X0 ?_; refine X0 ?_; refine JR ?_; refine Z1 ?_; refine Z7 ?_; refine Z1 ?_; refine Z1 ?_; refine Z1 ?_
  refine Zb ?_; refine Zn ?_; refine Zl ?_; refine JD ?_; refine JT ?_; refine X0 ?_; refine JR ?_; refine Z0 ?_; refine Z0 ?_; refine Z0 ?_; refine JD ?_
  exact X1 ⟨_, St.le_refl _, ⟨rfl, rfl, rfl, trivial⟩, X2 _⟩
 obtain ⟨k, rfl⟩ : ∃ k : Nat, a = k := ⟨a.toNat, by omega⟩
 have hnum : XC b k = (let l := b.drop k; let n := XK l; if n = 10 then (0, 0, 4) else if l.length ≤ n then (0, 0, 3) else if n = 9 ∧ 1 < ((l[n]?).getD 0).toNat then (0, 0, 4) else (Xp (l.take (n + 1)), (k : Int) + n + 1, 0)) := by
  unfold XC; rw [if_neg (by omega), Int.toNat_natCast]
 have hpad : YL b k = (decide (0 < XK (b.drop k)) && decide (((b.drop k)[XK (b.drop k)]?).getD 0 = 0)) := by unfold YL; rw [Int.toNat_natCast]
 have hll : (b.drop k).length = b.length - k := List.length_drop
 have hmap : (((b.map Xa).take (b.map Xa).length).drop k).length = b.length - k := by simp
 have hlb : 10 < b.length - k → 10 ≤ (((b.map Xa).take (b.map Xa).length).drop k).length := fun h => by rw [hmap]; omega
 have hE1 : (((((b.map Xa).take (b.map Xa).length).drop k).take 10).drop 0) = ((b.drop k).take 10).map Xa := by
  rw [List.take_length, List.drop_zero, ← List.map_drop, ← List.map_take]
 have hE2 : ¬ (10 < b.length - k) → (((b.map Xa).take (b.map Xa).length).drop k) = ((b.drop k).take 10).map Xa := fun h => by
  rw [List.take_length, ← List.map_drop, List.take_of_length_le (by simp; omega)]
 generalize hl : b.drop k = l at *
 by_cases hbig : 10 < b.length - k
 ·repeat first | refine X0 ?_ | (refine JR ?_; (repeat first | refine ZT (hb := 10) (mb := 10) ?_ (hh := by exact Nat.le_refl 10) (hm := by exact hlb hbig) | refine Z1 ?_ | refine Z0 ?_ | refine Zb ?_ | refine Z7 ?_ | refine Zn ?_ | refine Zl ?_ | refine ZS ?_); refine JD ?_) | refine JT ?_ | refine JF ?_ | refine X5 ?_ | refine X3 ?_
  refine XR (fun i : Nat => big l i ∧ i ≤ 10 ∧ i ≤ l.length) (fun i => ⟨72, [(1, ai k), (7, .d (Xv (l.take 10))), (8, X0i (Xx l i)), (31, .d (Xv (l.take 10))), (32, ai (l.take 10).length), (33, ai i)], []⟩) (fun i => 10 - i) 0 ⟨fun j hj => by omega, by omega, by omega⟩
   (Xg rfl ⟨JL, (by refine AVal.le_of_eq ?_; refine Eq.trans (b := AVal.d (.sl 1 (((((b.map Xa).take (b.map Xa).length).drop k).take 10).drop 0))) rfl ?_; rw [hE1]), JL, (by refine AVal.le_of_eq ?_; refine Eq.trans (b := AVal.d (.sl 1 (((((b.map Xa).take (b.map Xa).length).drop k).take 10).drop 0))) rfl ?_; rw [hE1]), (by refine AVal.le_of_eq ?_; refine Eq.trans (b := ai (((((((b.map Xa).take (b.map Xa).length).drop k).take 10).drop 0)).length : Nat)) rfl ?_; rw [hE1, List.length_map]), JL, trivial⟩ trivial) ?_
  rintro i ⟨hbg, hi10, hil⟩
  by_cases him : i = (l.take 10).length
  ·have hmm : i = min 10 l.length := by rw [him]; simp
   have hm : XK l = i := X5m hbg hmm
   by_cases e10 : (l.take 10).length = 10
   ·have hv : XC b k = (0, 0, 4) := by rw [hnum]; simp only [hm]; rw [if_pos (by omega)]
    rw [show Xu b k = (0, 0, 4) by unfold Xu; rw [hv]; rfl]
    refine X0 ?_; refine JR ?_; refine Z7 ?_; refine JD ?_; refine X0 ?_; refine JF ?_; refine Xt ?_; refine X0 ?_; refine X0 ?_; refine JR ?_; refine Z1 ?_; refine Zb ?_; refine Zs ?_; refine JD ?_
    refine JT ?_; refine X0 ?_; refine JR ?_; refine Z0 ?_; refine Z0 ?_; refine Z0 ?_; refine JD ?_
    exact X1 ⟨_, St.le_refl _, ⟨rfl, rfl, rfl, trivial⟩, X2 _⟩
   ·exact absurd (by rw [List.length_take]; omega) e10
  have hlt : i < 10 ∧ i < l.length := by rw [List.length_take] at him; omega
  have hlm : i < (l.take 10).length := by rw [List.length_take]; omega
  obtain ⟨c, hc⟩ := XX (l := l) (k := i) (by omega)
  have hcm : (l.take 10)[i]? = some c := by rw [List.getElem?_take_of_lt hlt.1]; exact hc
  have hc8 := c.toNat_lt
  have hacc := X0L l i
  have hacc1 := X0L l (i + 1)
  have hsh : c.toNat % 128 * 2 ^ (7 * i) % 2 ^ IntKind.u64.bits = c.toNat % 128 * 2 ^ (7 * i) % 18446744073709551616 := rfl
  have hst : Xx l i ||| c.toNat % 128 * 2 ^ (7 * i) % 18446744073709551616 = Xx l (i + 1) := by simp only [Xx, hc, Option.getD_some]
  have hq : c.toNat % 128 * 2 ^ (7 * i) % 18446744073709551616 < 18446744073709551616 := Nat.mod_lt _ (by omega)
  by_cases hge : 128 ≤ c.toNat
  ·refine X0 ?_; refine JR ?_; refine Z7 ?_; refine JD ?_; refine X0 ?_; refine JT ?_; refine X3 ?_; refine X0 ?_; refine X5 ?_; refine X0 ?_; refine JR ?_; refine Z1 ?_; refine ZH ?_
   refine ZJ ?_; refine Z0 ?_; refine Z0 ?_; refine JD ?_; refine X0 ?_; refine JR ?_; refine Z1 ?_; refine Z1 ?_
   refine Z4 (op := .and) (r' := n8 (c.toNat % 128)) (u := n8 c.toNat) (v := n8 127) ?_ (hr' := by exact congrArg n8 (Ug _)) (hr := by exact YT (by rw [Y0]; omega) (by rw [Y0]; omega))
   refine Z3 (u := n8 (c.toNat % 128)) (r := n64 (c.toNat % 128)) ?_ (hr := by exact YE rfl rfl (by rw [Xz]; omega)); refine Z1 ?_
   refine Zw (op := .mul) (r' := ni (7 * i)) (u := ni 7) (v := ni i) ?_ (hr := by exact YY (by rw [XJ]; omega))
   refine Z4 (op := .shl) (r' := n64 (c.toNat % 128 * 2 ^ (7 * i) % 18446744073709551616)) (u := n64 (c.toNat % 128)) (v := ni (7 * i)) ?_ (hr' := by exact congrArg n64 hsh) (hr := by exact YX rfl (by show 7 * i ≤ 64; omega))
   refine Z4 (op := .or) (r' := n64 (Xx l (i + 1))) (u := n64 (Xx l i)) (v := n64 (c.toNat % 128 * 2 ^ (7 * i) % 18446744073709551616)) ?_ (hr' := by exact congrArg n64 hst) (hr := by exact U6 (by rw [Xz]; omega) (by rw [Xz]; omega))
   refine Z0 ?_; refine JD ?_; refine X0 ?_; refine X0 ?_; refine JR ?_; refine Z1 ?_; refine Z2 ?_; refine JD ?_; refine JT ?_; refine Xt ?_; refine JR ?_; refine Zc ?_; refine Z1 ?_; refine JD ?_
   exact ⟨i + 1, ⟨X5r hbg hc hge, by omega, by omega⟩, by omega, Xg rfl ⟨JL, JL, JL, JL, JL, JL, trivial⟩ trivial⟩
  have hm : XK l = i := X2n hbg hc (by omega) hlt.1
  by_cases h9 : i = 9
  ·by_cases hc1 : 1 < c.toNat
   ·have hv : XC b k = (0, 0, 4) := by rw [hnum]; simp only [hm, hc, Option.getD_some]; rw [if_neg (by omega), if_neg (by omega), if_pos ⟨h9, hc1⟩]
    rw [show Xu b k = (0, 0, 4) by unfold Xu; rw [hv]; rfl]
    refine X0 ?_; refine JR ?_; refine Z7 ?_; refine JD ?_; refine X0 ?_; refine JT ?_; refine X3 ?_; refine X0 ?_; refine X5 ?_; refine X0 ?_; refine JR ?_; refine Z1 ?_; refine ZH ?_
    refine ZJ ?_; refine Z0 ?_; refine Z0 ?_; refine JD ?_; refine X0 ?_; refine JR ?_; refine Z1 ?_; refine Z1 ?_
    refine Z4 (op := .and) (r' := n8 (c.toNat % 128)) (u := n8 c.toNat) (v := n8 127) ?_ (hr' := by exact congrArg n8 (Ug _)) (hr := by exact YT (by rw [Y0]; omega) (by rw [Y0]; omega))
    refine Z3 (u := n8 (c.toNat % 128)) (r := n64 (c.toNat % 128)) ?_ (hr := by exact YE rfl rfl (by rw [Xz]; omega)); refine Z1 ?_
    refine Zw (op := .mul) (r' := ni (7 * i)) (u := ni 7) (v := ni i) ?_ (hr := by exact YY (by rw [XJ]; omega))
    refine Z4 (op := .shl) (r' := n64 (c.toNat % 128 * 2 ^ (7 * i) % 18446744073709551616)) (u := n64 (c.toNat % 128)) (v := ni (7 * i)) ?_ (hr' := by exact congrArg n64 hsh) (hr := by exact YX rfl (by show 7 * i ≤ 64; omega))
    refine Z4 (op := .or) (r' := n64 (Xx l (i + 1))) (u := n64 (Xx l i)) (v := n64 (c.toNat % 128 * 2 ^ (7 * i) % 18446744073709551616)) ?_ (hr' := by exact congrArg n64 hst) (hr := by exact U6 (by rw [Xz]; omega) (by rw [Xz]; omega))
    refine Z0 ?_; refine JD ?_; refine X0 ?_; refine X0 ?_; refine JR ?_; refine Z1 ?_; refine Z2 ?_; refine JD ?_; refine JF ?_; refine X3 ?_; refine X0 ?_; refine X5 ?_; refine X0 ?_
    refine JR ?_; refine Z1 ?_; refine Zs ?_; refine Z1 ?_; refine Z1 ?_; refine Zn ?_; refine Zi ?_; refine Z0 ?_; refine JD ?_; refine JT ?_; refine X0 ?_; refine JR ?_; refine Z0 ?_; refine Z0 ?_; refine Z0 ?_
    refine JD ?_
    exact X1 ⟨_, St.le_refl _, ⟨rfl, rfl, rfl, trivial⟩, X2 _⟩
   ·have hval : Xx l (i + 1) = Xp (l.take (i + 1)) := by subst h9; exact X4y l hc (by omega)
    by_cases hz : 0 < i ∧ c = 0
    ·have hv : XC b k = (Xp (l.take (i + 1)), (k : Int) + i + 1, 0) := by rw [hnum]; simp only [hm, hc, Option.getD_some]; rw [if_neg (by omega), if_neg (by omega), if_neg (by omega)]
     rw [show Xu b k = (Xp (l.take (i + 1)), 0, 2) by
      unfold Xu; rw [hv, hpad]; simp only [hm, hc, Option.getD_some]
      simp [hz.1, hz.2]]
     obtain ⟨hz1, hz2⟩ := hz
     have hz3 : c.toNat = 0 := by rw [hz2]; rfl
     rw [← hval]
     refine X0 ?_; refine JR ?_; refine Z7 ?_; refine JD ?_; refine X0 ?_; refine JT ?_; refine X3 ?_; refine X0 ?_; refine X5 ?_; refine X0 ?_; refine JR ?_; refine Z1 ?_; refine ZH ?_
     refine ZJ ?_; refine Z0 ?_; refine Z0 ?_; refine JD ?_; refine X0 ?_; refine JR ?_; refine Z1 ?_; refine Z1 ?_
     refine Z4 (op := .and) (r' := n8 (c.toNat % 128)) (u := n8 c.toNat) (v := n8 127) ?_ (hr' := by exact congrArg n8 (Ug _)) (hr := by exact YT (by rw [Y0]; omega) (by rw [Y0]; omega))
     refine Z3 (u := n8 (c.toNat % 128)) (r := n64 (c.toNat % 128)) ?_ (hr := by exact YE rfl rfl (by rw [Xz]; omega)); refine Z1 ?_
     refine Zw (op := .mul) (r' := ni (7 * i)) (u := ni 7) (v := ni i) ?_ (hr := by exact YY (by rw [XJ]; omega))
     refine Z4 (op := .shl) (r' := n64 (c.toNat % 128 * 2 ^ (7 * i) % 18446744073709551616)) (u := n64 (c.toNat % 128)) (v := ni (7 * i)) ?_ (hr' := by exact congrArg n64 hsh) (hr := by exact YX rfl (by show 7 * i ≤ 64; omega))
     refine Z4 (op := .or) (r' := n64 (Xx l (i + 1))) (u := n64 (Xx l i)) (v := n64 (c.toNat % 128 * 2 ^ (7 * i) % 18446744073709551616)) ?_ (hr' := by exact congrArg n64 hst) (hr := by exact U6 (by rw [Xz]; omega) (by rw [Xz]; omega))
     refine Z0 ?_; refine JD ?_; refine X0 ?_; refine X0 ?_; refine JR ?_; refine Z1 ?_; refine Z2 ?_; refine JD ?_; refine JF ?_; refine X3 ?_; refine X0 ?_; refine X5 ?_; refine X0 ?_
     refine JR ?_; refine Z1 ?_; refine Zs ?_; refine Z1 ?_; refine Z1 ?_; refine Zn ?_; refine Zi ?_; refine Z0 ?_; refine JD ?_; refine JF ?_; refine X0 ?_; refine JR ?_; refine Z1 ?_; refine Zn ?_; refine Z1 ?_
     refine Z1 ?_; refine Zs ?_; refine Zi ?_; refine Z0 ?_; refine JD ?_; refine JT ?_; refine X0 ?_; refine JR ?_; refine Z1 ?_; refine Z0 ?_; refine Z0 ?_; refine Z0 ?_; refine JD ?_
     exact X1 ⟨_, St.le_refl _, ⟨rfl, rfl, rfl, trivial⟩, X2 _⟩
    ·have hz' : ¬ (0 < i ∧ c.toNat = 0) := fun h => hz ⟨h.1, UInt8.toNat_inj.1 h.2⟩
     have hv : XC b k = (Xp (l.take (i + 1)), (k : Int) + i + 1, 0) := by rw [hnum]; simp only [hm, hc, Option.getD_some]; rw [if_neg (by omega), if_neg (by omega), if_neg (by omega)]
     have hpf : YL b k = false := by
      rw [hpad]; simp only [hm, hc, Option.getD_some]
      rw [Bool.and_eq_false_iff, decide_eq_false_iff_not, decide_eq_false_iff_not]
      by_cases h0 : 0 < i
      ·exact .inr fun h2 => hz ⟨h0, h2⟩
      ·exact .inl h0
     rw [show Xu b k = (Xp (l.take (i + 1)), (k : Int) + i + 1, 0) by unfold Xu; rw [hv, hpf]; rfl]
     rw [← hval]
     by_cases hi0 : 0 < i
     ·have hcz : ¬ (c.toNat = 0) := fun h => hz' ⟨hi0, h⟩
      refine X0 ?_; refine JR ?_; refine Z7 ?_; refine JD ?_; refine X0 ?_; refine JT ?_; refine X3 ?_; refine X0 ?_; refine X5 ?_; refine X0 ?_; refine JR ?_; refine Z1 ?_; refine ZH ?_
      refine ZJ ?_; refine Z0 ?_; refine Z0 ?_; refine JD ?_; refine X0 ?_; refine JR ?_; refine Z1 ?_; refine Z1 ?_
      refine Z4 (op := .and) (r' := n8 (c.toNat % 128)) (u := n8 c.toNat) (v := n8 127) ?_ (hr' := by exact congrArg n8 (Ug _)) (hr := by exact YT (by rw [Y0]; omega) (by rw [Y0]; omega))
      refine Z3 (u := n8 (c.toNat % 128)) (r := n64 (c.toNat % 128)) ?_ (hr := by exact YE rfl rfl (by rw [Xz]; omega)); refine Z1 ?_
      refine Zw (op := .mul) (r' := ni (7 * i)) (u := ni 7) (v := ni i) ?_ (hr := by exact YY (by rw [XJ]; omega))
      refine Z4 (op := .shl) (r' := n64 (c.toNat % 128 * 2 ^ (7 * i) % 18446744073709551616)) (u := n64 (c.toNat % 128)) (v := ni (7 * i)) ?_ (hr' := by exact congrArg n64 hsh) (hr := by exact YX rfl (by show 7 * i ≤ 64; omega))
      refine Z4 (op := .or) (r' := n64 (Xx l (i + 1))) (u := n64 (Xx l i)) (v := n64 (c.toNat % 128 * 2 ^ (7 * i) % 18446744073709551616)) ?_ (hr' := by exact congrArg n64 hst) (hr := by exact U6 (by rw [Xz]; omega) (by rw [Xz]; omega))
      refine Z0 ?_; refine JD ?_; refine X0 ?_; refine X0 ?_; refine JR ?_; refine Z1 ?_; refine Z2 ?_; refine JD ?_; refine JF ?_; refine X3 ?_; refine X0 ?_; refine X5 ?_; refine X0 ?_
      refine JR ?_; refine Z1 ?_; refine Zs ?_; refine Z1 ?_; refine Z1 ?_; refine Zn ?_; refine Zi ?_; refine Z0 ?_; refine JD ?_; refine JF ?_; refine X0 ?_; refine JR ?_; refine Z1 ?_; refine Zn ?_; refine Z1 ?_
      refine Z1 ?_; refine Zs ?_; refine Zi ?_; refine Z0 ?_; refine JD ?_; refine JF ?_; refine X3 ?_; refine X0 ?_; refine JR ?_; refine Z1 ?_; refine Z1 ?_; refine Z1 ?_; refine Zc ?_; refine Zc ?_; refine Z0 ?_
      refine Z0 ?_; refine Z0 ?_; refine JD ?_
      exact X1 ⟨_, Xi 5 (y := ai ((k : Int) + i + 1)) (AVal.le_of_eq (by refine Eq.trans (b := ai _) rfl ?_; simp)), ⟨rfl, rfl, rfl, trivial⟩, X2 _⟩
     ·exact absurd (by omega) hi0
  ·have hval : Xx l (i + 1) = Xp (l.take (i + 1)) := X0R l (i + 1) (by omega) (by omega)
   by_cases hz : 0 < i ∧ c = 0
   ·have hv : XC b k = (Xp (l.take (i + 1)), (k : Int) + i + 1, 0) := by rw [hnum]; simp only [hm, hc, Option.getD_some]; rw [if_neg (by omega), if_neg (by omega), if_neg (by omega)]
    rw [show Xu b k = (Xp (l.take (i + 1)), 0, 2) by
     unfold Xu; rw [hv, hpad]; simp only [hm, hc, Option.getD_some]
     simp [hz.1, hz.2]]
    obtain ⟨hz1, hz2⟩ := hz
    have hz3 : c.toNat = 0 := by rw [hz2]; rfl
    rw [← hval]
    refine X0 ?_; refine JR ?_; refine Z7 ?_; refine JD ?_; refine X0 ?_; refine JT ?_; refine X3 ?_; refine X0 ?_; refine X5 ?_; refine X0 ?_; refine JR ?_; refine Z1 ?_; refine ZH ?_
    refine ZJ ?_; refine Z0 ?_; refine Z0 ?_; refine JD ?_; refine X0 ?_; refine JR ?_; refine Z1 ?_; refine Z1 ?_
    refine Z4 (op := .and) (r' := n8 (c.toNat % 128)) (u := n8 c.toNat) (v := n8 127) ?_ (hr' := by exact congrArg n8 (Ug _)) (hr := by exact YT (by rw [Y0]; omega) (by rw [Y0]; omega))
    refine Z3 (u := n8 (c.toNat % 128)) (r := n64 (c.toNat % 128)) ?_ (hr := by exact YE rfl rfl (by rw [Xz]; omega)); refine Z1 ?_
    refine Zw (op := .mul) (r' := ni (7 * i)) (u := ni 7) (v := ni i) ?_ (hr := by exact YY (by rw [XJ]; omega))
    refine Z4 (op := .shl) (r' := n64 (c.toNat % 128 * 2 ^ (7 * i) % 18446744073709551616)) (u := n64 (c.toNat % 128)) (v := ni (7 * i)) ?_ (hr' := by exact congrArg n64 hsh) (hr := by exact YX rfl (by show 7 * i ≤ 64; omega))
    refine Z4 (op := .or) (r' := n64 (Xx l (i + 1))) (u := n64 (Xx l i)) (v := n64 (c.toNat % 128 * 2 ^ (7 * i) % 18446744073709551616)) ?_ (hr' := by exact congrArg n64 hst) (hr := by exact U6 (by rw [Xz]; omega) (by rw [Xz]; omega))
    refine Z0 ?_; refine JD ?_; refine X0 ?_; refine X0 ?_; refine JR ?_; refine Z1 ?_; refine Z2 ?_; refine JD ?_; refine JF ?_; refine X3 ?_; refine X0 ?_; refine X5 ?_; refine X0 ?_
    refine JR ?_; refine Z1 ?_; refine Zs ?_; refine Z1 ?_; refine Zj ?_; refine Zj ?_; refine Zl ?_; refine Z0 ?_; refine JD ?_; refine JF ?_; refine X0 ?_; refine JR ?_; refine Z1 ?_; refine Zn ?_; refine Z1 ?_
    refine Z1 ?_; refine Zs ?_; refine Zi ?_; refine Z0 ?_; refine JD ?_; refine JT ?_; refine X0 ?_; refine JR ?_; refine Z1 ?_; refine Z0 ?_; refine Z0 ?_; refine Z0 ?_; refine JD ?_
    exact X1 ⟨_, St.le_refl _, ⟨rfl, rfl, rfl, trivial⟩, X2 _⟩
   ·have hz' : ¬ (0 < i ∧ c.toNat = 0) := fun h => hz ⟨h.1, UInt8.toNat_inj.1 h.2⟩
    have hv : XC b k = (Xp (l.take (i + 1)), (k : Int) + i + 1, 0) := by rw [hnum]; simp only [hm, hc, Option.getD_some]; rw [if_neg (by omega), if_neg (by omega), if_neg (by omega)]
    have hpf : YL b k = false := by
     rw [hpad]; simp only [hm, hc, Option.getD_some]
     rw [Bool.and_eq_false_iff, decide_eq_false_iff_not, decide_eq_false_iff_not]
     by_cases h0 : 0 < i
     ·exact .inr fun h2 => hz ⟨h0, h2⟩
     ·exact .inl h0
    rw [show Xu b k = (Xp (l.take (i + 1)), (k : Int) + i + 1, 0) by unfold Xu; rw [hv, hpf]; rfl]
    rw [← hval]
    by_cases hi0 : 0 < i
    ·have hcz : ¬ (c.toNat = 0) := fun h => hz' ⟨hi0, h⟩
     refine X0 ?_; refine JR ?_; refine Z7 ?_; refine JD ?_; refine X0 ?_; refine JT ?_; refine X3 ?_; refine X0 ?_; refine X5 ?_; refine X0 ?_; refine JR ?_; refine Z1 ?_; refine ZH ?_
     refine ZJ ?_; refine Z0 ?_; refine Z0 ?_; refine JD ?_; refine X0 ?_; refine JR ?_; refine Z1 ?_; refine Z1 ?_
     refine Z4 (op := .and) (r' := n8 (c.toNat % 128)) (u := n8 c.toNat) (v := n8 127) ?_ (hr' := by exact congrArg n8 (Ug _)) (hr := by exact YT (by rw [Y0]; omega) (by rw [Y0]; omega))
     refine Z3 (u := n8 (c.toNat % 128)) (r := n64 (c.toNat % 128)) ?_ (hr := by exact YE rfl rfl (by rw [Xz]; omega)); refine Z1 ?_
     refine Zw (op := .mul) (r' := ni (7 * i)) (u := ni 7) (v := ni i) ?_ (hr := by exact YY (by rw [XJ]; omega))
     refine Z4 (op := .shl) (r' := n64 (c.toNat % 128 * 2 ^ (7 * i) % 18446744073709551616)) (u := n64 (c.toNat % 128)) (v := ni (7 * i)) ?_ (hr' := by exact congrArg n64 hsh) (hr := by exact YX rfl (by show 7 * i ≤ 64; omega))
     refine Z4 (op := .or) (r' := n64 (Xx l (i + 1))) (u := n64 (Xx l i)) (v := n64 (c.toNat % 128 * 2 ^ (7 * i) % 18446744073709551616)) ?_ (hr' := by exact congrArg n64 hst) (hr := by exact U6 (by rw [Xz]; omega) (by rw [Xz]; omega))
     refine Z0 ?_; refine JD ?_; refine X0 ?_; refine X0 ?_; refine JR ?_; refine Z1 ?_; refine Z2 ?_; refine JD ?_; refine JF ?_; refine X3 ?_; refine X0 ?_; refine X5 ?_; refine X0 ?_
     refine JR ?_; refine Z1 ?_; refine Zs ?_; refine Z1 ?_; refine Zj ?_; refine Zj ?_; refine Zl ?_; refine Z0 ?_; refine JD ?_; refine JF ?_; refine X0 ?_; refine JR ?_; refine Z1 ?_; refine Zn ?_; refine Z1 ?_
     refine Z1 ?_; refine Zs ?_; refine Zi ?_; refine Z0 ?_; refine JD ?_; refine JF ?_; refine X3 ?_; refine X0 ?_; refine JR ?_; refine Z1 ?_; refine Z1 ?_; refine Z1 ?_; refine Zc ?_; refine Zc ?_; refine Z0 ?_
     refine Z0 ?_; refine Z0 ?_; refine JD ?_
     exact X1 ⟨_, Xi 5 (y := ai ((k : Int) + i + 1)) (AVal.le_of_eq (by refine Eq.trans (b := ai _) rfl ?_; simp)), ⟨rfl, rfl, rfl, trivial⟩, X2 _⟩
    ·refine X0 ?_; refine JR ?_; refine Z7 ?_; refine JD ?_; refine X0 ?_; refine JT ?_; refine X3 ?_; refine X0 ?_; refine X5 ?_; refine X0 ?_; refine JR ?_; refine Z1 ?_; refine ZH ?_
     refine ZJ ?_; refine Z0 ?_; refine Z0 ?_; refine JD ?_; refine X0 ?_; refine JR ?_; refine Z1 ?_; refine Z1 ?_
     refine Z4 (op := .and) (r' := n8 (c.toNat % 128)) (u := n8 c.toNat) (v := n8 127) ?_ (hr' := by exact congrArg n8 (Ug _)) (hr := by exact YT (by rw [Y0]; omega) (by rw [Y0]; omega))
     refine Z3 (u := n8 (c.toNat % 128)) (r := n64 (c.toNat % 128)) ?_ (hr := by exact YE rfl rfl (by rw [Xz]; omega)); refine Z1 ?_
     refine Zw (op := .mul) (r' := ni (7 * i)) (u := ni 7) (v := ni i) ?_ (hr := by exact YY (by rw [XJ]; omega))
     refine Z4 (op := .shl) (r' := n64 (c.toNat % 128 * 2 ^ (7 * i) % 18446744073709551616)) (u := n64 (c.toNat % 128)) (v := ni (7 * i)) ?_ (hr' := by exact congrArg n64 hsh) (hr := by exact YX rfl (by show 7 * i ≤ 64; omega))
     refine Z4 (op := .or) (r' := n64 (Xx l (i + 1))) (u := n64 (Xx l i)) (v := n64 (c.toNat % 128 * 2 ^ (7 * i) % 18446744073709551616)) ?_ (hr' := by exact congrArg n64 hst) (hr := by exact U6 (by rw [Xz]; omega) (by rw [Xz]; omega))
     refine Z0 ?_; refine JD ?_; refine X0 ?_; refine X0 ?_; refine JR ?_; refine Z1 ?_; refine Z2 ?_; refine JD ?_; refine JF ?_; refine X3 ?_; refine X0 ?_; refine X5 ?_; refine X0 ?_
     refine JR ?_; refine Z1 ?_; refine Zs ?_; refine Z1 ?_; refine Zj ?_; refine Zj ?_; refine Zl ?_; refine Z0 ?_; refine JD ?_; refine JF ?_; refine X0 ?_; refine JR ?_; refine Z1 ?_; refine Zn ?_; refine Z1 ?_
     refine Zj ?_; refine Zj ?_; refine Zl ?_; refine Z0 ?_; refine JD ?_; refine JF ?_; refine X3 ?_; refine X0 ?_; refine JR ?_; refine Z1 ?_; refine Z1 ?_; refine Z1 ?_; refine Zc ?_; refine Zc ?_; refine Z0 ?_
     refine Z0 ?_; refine Z0 ?_; refine JD ?_
     exact X1 ⟨_, Xi 5 (y := ai ((k : Int) + i + 1)) (AVal.le_of_eq (by refine Eq.trans (b := ai _) rfl ?_; simp)), ⟨rfl, rfl, rfl, trivial⟩, X2 _⟩
 ·repeat first | refine X0 ?_ | (refine JR ?_; (repeat first | refine Z1 ?_ | refine Z0 ?_ | refine Zb ?_ | refine Z7 ?_ | refine Zn ?_ | refine Zl ?_ | refine ZS ?_); refine JD ?_) | refine JF ?_ | refine X5 ?_ | refine X3 ?_
  refine XR (fun i : Nat => big l i ∧ i ≤ 10 ∧ i ≤ l.length) (fun i => ⟨72, [(1, ai k), (7, .d (Xv (l.take 10))), (8, X0i (Xx l i)), (31, .d (Xv (l.take 10))), (32, ai (l.take 10).length), (33, ai i)], []⟩) (fun i => 10 - i) 0 ⟨fun j hj => by omega, by omega, by omega⟩
   (Xg rfl ⟨JL, (by refine AVal.le_of_eq ?_; refine Eq.trans (b := AVal.d (.sl 1 (((b.map Xa).take (b.map Xa).length).drop k))) rfl ?_; rw [hE2 hbig]), JL, (by refine AVal.le_of_eq ?_; refine Eq.trans (b := AVal.d (.sl 1 (((b.map Xa).take (b.map Xa).length).drop k))) rfl ?_; rw [hE2 hbig]), (by refine AVal.le_of_eq ?_; refine Eq.trans (b := ai (((((b.map Xa).take (b.map Xa).length).drop k)).length : Nat)) rfl ?_; rw [hE2 hbig, List.length_map]), JL, trivial⟩ trivial) ?_
  rintro i ⟨hbg, hi10, hil⟩
  by_cases him : i = (l.take 10).length
  ·have hmm : i = min 10 l.length := by rw [him]; simp
   have hm : XK l = i := X5m hbg hmm
   by_cases e10 : (l.take 10).length = 10
   ·have hv : XC b k = (0, 0, 4) := by rw [hnum]; simp only [hm]; rw [if_pos (by omega)]
    rw [show Xu b k = (0, 0, 4) by unfold Xu; rw [hv]; rfl]
    refine X0 ?_; refine JR ?_; refine Z7 ?_; refine JD ?_; refine X0 ?_; refine JF ?_; refine Xt ?_; refine X0 ?_; refine X0 ?_; refine JR ?_; refine Z1 ?_; refine Zb ?_; refine Zs ?_; refine JD ?_
    refine JT ?_; refine X0 ?_; refine JR ?_; refine Z0 ?_; refine Z0 ?_; refine Z0 ?_; refine JD ?_
    exact X1 ⟨_, St.le_refl _, ⟨rfl, rfl, rfl, trivial⟩, X2 _⟩
   ·have hne : ¬ (i = 10) := by rw [him]; exact e10
    have hv : XC b k = (0, 0, 3) := by rw [hnum]; simp only [hm]; rw [if_neg hne, if_pos (by omega)]
    rw [show Xu b k = (0, 0, 3) by unfold Xu; rw [hv]; rfl]
    refine X0 ?_; refine JR ?_; refine Z7 ?_; refine JD ?_; refine X0 ?_; refine JF ?_; refine Xt ?_; refine X0 ?_; refine X0 ?_; refine JR ?_; refine Z1 ?_; refine Zb ?_; refine Zs ?_; refine JD ?_
    refine JF ?_; refine X3 ?_; refine X0 ?_; refine JR ?_; refine Z0 ?_; refine Z0 ?_; refine Z0 ?_; refine JD ?_
    exact X1 ⟨_, St.le_refl _, ⟨rfl, rfl, rfl, trivial⟩, X2 _⟩
  have hlt : i < 10 ∧ i < l.length := by rw [List.length_take] at him; omega
  have hlm : i < (l.take 10).length := by rw [List.length_take]; omega
  obtain ⟨c, hc⟩ := XX (l := l) (k := i) (by omega)
  have hcm : (l.take 10)[i]? = some c := by rw [List.getElem?_take_of_lt hlt.1]; exact hc
  have hc8 := c.toNat_lt
  have hacc := X0L l i
  have hacc1 := X0L l (i + 1)
  have hsh : c.toNat % 128 * 2 ^ (7 * i) % 2 ^ IntKind.u64.bits = c.toNat % 128 * 2 ^ (7 * i) % 18446744073709551616 := rfl
  have hst : Xx l i ||| c.toNat % 128 * 2 ^ (7 * i) % 18446744073709551616 = Xx l (i + 1) := by simp only [Xx, hc, Option.getD_some]
  have hq : c.toNat % 128 * 2 ^ (7 * i) % 18446744073709551616 < 18446744073709551616 := Nat.mod_lt _ (by omega)
  by_cases hge : 128 ≤ c.toNat
  ·refine X0 ?_; refine JR ?_; refine Z7 ?_; refine JD ?_; refine X0 ?_; refine JT ?_; refine X3 ?_; refine X0 ?_; refine X5 ?_; refine X0 ?_; refine JR ?_; refine Z1 ?_; refine ZH ?_
   refine ZJ ?_; refine Z0 ?_; refine Z0 ?_; refine JD ?_; refine X0 ?_; refine JR ?_; refine Z1 ?_; refine Z1 ?_
   refine Z4 (op := .and) (r' := n8 (c.toNat % 128)) (u := n8 c.toNat) (v := n8 127) ?_ (hr' := by exact congrArg n8 (Ug _)) (hr := by exact YT (by rw [Y0]; omega) (by rw [Y0]; omega))
   refine Z3 (u := n8 (c.toNat % 128)) (r := n64 (c.toNat % 128)) ?_ (hr := by exact YE rfl rfl (by rw [Xz]; omega)); refine Z1 ?_
   refine Zw (op := .mul) (r' := ni (7 * i)) (u := ni 7) (v := ni i) ?_ (hr := by exact YY (by rw [XJ]; omega))
   refine Z4 (op := .shl) (r' := n64 (c.toNat % 128 * 2 ^ (7 * i) % 18446744073709551616)) (u := n64 (c.toNat % 128)) (v := ni (7 * i)) ?_ (hr' := by exact congrArg n64 hsh) (hr := by exact YX rfl (by show 7 * i ≤ 64; omega))
   refine Z4 (op := .or) (r' := n64 (Xx l (i + 1))) (u := n64 (Xx l i)) (v := n64 (c.toNat % 128 * 2 ^ (7 * i) % 18446744073709551616)) ?_ (hr' := by exact congrArg n64 hst) (hr := by exact U6 (by rw [Xz]; omega) (by rw [Xz]; omega))
   refine Z0 ?_; refine JD ?_; refine X0 ?_; refine X0 ?_; refine JR ?_; refine Z1 ?_; refine Z2 ?_; refine JD ?_; refine JT ?_; refine Xt ?_; refine JR ?_; refine Zc ?_; refine Z1 ?_; refine JD ?_
   exact ⟨i + 1, ⟨X5r hbg hc hge, by omega, by omega⟩, by omega, Xg rfl ⟨JL, JL, JL, JL, JL, JL, trivial⟩ trivial⟩
  have hm : XK l = i := X2n hbg hc (by omega) hlt.1
  by_cases h9 : i = 9
  ·by_cases hc1 : 1 < c.toNat
   ·have hv : XC b k = (0, 0, 4) := by rw [hnum]; simp only [hm, hc, Option.getD_some]; rw [if_neg (by omega), if_neg (by omega), if_pos ⟨h9, hc1⟩]
    rw [show Xu b k = (0, 0, 4) by unfold Xu; rw [hv]; rfl]
    refine X0 ?_; refine JR ?_; refine Z7 ?_; refine JD ?_; refine X0 ?_; refine JT ?_; refine X3 ?_; refine X0 ?_; refine X5 ?_; refine X0 ?_; refine JR ?_; refine Z1 ?_; refine ZH ?_
    refine ZJ ?_; refine Z0 ?_; refine Z0 ?_; refine JD ?_; refine X0 ?_; refine JR ?_; refine Z1 ?_; refine Z1 ?_
    refine Z4 (op := .and) (r' := n8 (c.toNat % 128)) (u := n8 c.toNat) (v := n8 127) ?_ (hr' := by exact congrArg n8 (Ug _)) (hr := by exact YT (by rw [Y0]; omega) (by rw [Y0]; omega))
    refine Z3 (u := n8 (c.toNat % 128)) (r := n64 (c.toNat % 128)) ?_ (hr := by exact YE rfl rfl (by rw [Xz]; omega)); refine Z1 ?_
    refine Zw (op := .mul) (r' := ni (7 * i)) (u := ni 7) (v := ni i) ?_ (hr := by exact YY (by rw [XJ]; omega))
    refine Z4 (op := .shl) (r' := n64 (c.toNat % 128 * 2 ^ (7 * i) % 18446744073709551616)) (u := n64 (c.toNat % 128)) (v := ni (7 * i)) ?_ (hr' := by exact congrArg n64 hsh) (hr := by exact YX rfl (by show 7 * i ≤ 64; omega))
    refine Z4 (op := .or) (r' := n64 (Xx l (i + 1))) (u := n64 (Xx l i)) (v := n64 (c.toNat % 128 * 2 ^ (7 * i) % 18446744073709551616)) ?_ (hr' := by exact congrArg n64 hst) (hr := by exact U6 (by rw [Xz]; omega) (by rw [Xz]; omega))
    refine Z0 ?_; refine JD ?_; refine X0 ?_; refine X0 ?_; refine JR ?_; refine Z1 ?_; refine Z2 ?_; refine JD ?_; refine JF ?_; refine X3 ?_; refine X0 ?_; refine X5 ?_; refine X0 ?_
    refine JR ?_; refine Z1 ?_; refine Zs ?_; refine Z1 ?_; refine Z1 ?_; refine Zn ?_; refine Zi ?_; refine Z0 ?_; refine JD ?_; refine JT ?_; refine X0 ?_; refine JR ?_; refine Z0 ?_; refine Z0 ?_; refine Z0 ?_
    refine JD ?_
    exact X1 ⟨_, St.le_refl _, ⟨rfl, rfl, rfl, trivial⟩, X2 _⟩
   ·have hval : Xx l (i + 1) = Xp (l.take (i + 1)) := by subst h9; exact X4y l hc (by omega)
    by_cases hz : 0 < i ∧ c = 0
    ·have hv : XC b k = (Xp (l.take (i + 1)), (k : Int) + i + 1, 0) := by rw [hnum]; simp only [hm, hc, Option.getD_some]; rw [if_neg (by omega), if_neg (by omega), if_neg (by omega)]
     rw [show Xu b k = (Xp (l.take (i + 1)), 0, 2) by
      unfold Xu; rw [hv, hpad]; simp only [hm, hc, Option.getD_some]
      simp [hz.1, hz.2]]
     obtain ⟨hz1, hz2⟩ := hz
     have hz3 : c.toNat = 0 := by rw [hz2]; rfl
     rw [← hval]
     refine X0 ?_; refine JR ?_; refine Z7 ?_; refine JD ?_; refine X0 ?_; refine JT ?_; refine X3 ?_; refine X0 ?_; refine X5 ?_; refine X0 ?_; refine JR ?_; refine Z1 ?_; refine ZH ?_
     refine ZJ ?_; refine Z0 ?_; refine Z0 ?_; refine JD ?_; refine X0 ?_; refine JR ?_; refine Z1 ?_; refine Z1 ?_
     refine Z4 (op := .and) (r' := n8 (c.toNat % 128)) (u := n8 c.toNat) (v := n8 127) ?_ (hr' := by exact congrArg n8 (Ug _)) (hr := by exact YT (by rw [Y0]; omega) (by rw [Y0]; omega))
     refine Z3 (u := n8 (c.toNat % 128)) (r := n64 (c.toNat % 128)) ?_ (hr := by exact YE rfl rfl (by rw [Xz]; omega)); refine Z1 ?_
     refine Zw (op := .mul) (r' := ni (7 * i)) (u := ni 7) (v := ni i) ?_ (hr := by exact YY (by rw [XJ]; omega))
     refine Z4 (op := .shl) (r' := n64 (c.toNat % 128 * 2 ^ (7 * i) % 18446744073709551616)) (u := n64 (c.toNat % 128)) (v := ni (7 * i)) ?_ (hr' := by exact congrArg n64 hsh) (hr := by exact YX rfl (by show 7 * i ≤ 64; omega))
     refine Z4 (op := .or) (r' := n64 (Xx l (i + 1))) (u := n64 (Xx l i)) (v := n64 (c.toNat % 128 * 2 ^ (7 * i) % 18446744073709551616)) ?_ (hr' := by exact congrArg n64 hst) (hr := by exact U6 (by rw [Xz]; omega) (by rw [Xz]; omega))
     refine Z0 ?_; refine JD ?_; refine X0 ?_; refine X0 ?_; refine JR ?_; refine Z1 ?_; refine Z2 ?_; refine JD ?_; refine JF ?_; refine X3 ?_; refine X0 ?_; refine X5 ?_; refine X0 ?_
     refine JR ?_; refine Z1 ?_; refine Zs ?_; refine Z1 ?_; refine Z1 ?_; refine Zn ?_; refine Zi ?_; refine Z0 ?_; refine JD ?_; refine JF ?_; refine X0 ?_; refine JR ?_; refine Z1 ?_; refine Zn ?_; refine Z1 ?_
     refine Z1 ?_; refine Zs ?_; refine Zi ?_; refine Z0 ?_; refine JD ?_; refine JT ?_; refine X0 ?_; refine JR ?_; refine Z1 ?_; refine Z0 ?_; refine Z0 ?_; refine Z0 ?_; refine JD ?_
     exact X1 ⟨_, St.le_refl _, ⟨rfl, rfl, rfl, trivial⟩, X2 _⟩
    ·have hz' : ¬ (0 < i ∧ c.toNat = 0) := fun h => hz ⟨h.1, UInt8.toNat_inj.1 h.2⟩
     have hv : XC b k = (Xp (l.take (i + 1)), (k : Int) + i + 1, 0) := by rw [hnum]; simp only [hm, hc, Option.getD_some]; rw [if_neg (by omega), if_neg (by omega), if_neg (by omega)]
     have hpf : YL b k = false := by
      rw [hpad]; simp only [hm, hc, Option.getD_some]
      rw [Bool.and_eq_false_iff, decide_eq_false_iff_not, decide_eq_false_iff_not]
      by_cases h0 : 0 < i
      ·exact .inr fun h2 => hz ⟨h0, h2⟩
      ·exact .inl h0
     rw [show Xu b k = (Xp (l.take (i + 1)), (k : Int) + i + 1, 0) by unfold Xu; rw [hv, hpf]; rfl]
     rw [← hval]
     by_cases hi0 : 0 < i
     ·have hcz : ¬ (c.toNat = 0) := fun h => hz' ⟨hi0, h⟩
      refine X0 ?_; refine JR ?_; refine Z7 ?_; refine JD ?_; refine X0 ?_; refine JT ?_; refine X3 ?_; refine X0 ?_; refine X5 ?_; refine X0 ?_; refine JR ?_; refine Z1 ?_; refine ZH ?_
      refine ZJ ?_; refine Z0 ?_; refine Z0 ?_; refine JD ?_; refine X0 ?_; refine JR ?_; refine Z1 ?_; refine Z1 ?_
      refine Z4 (op := .and) (r' := n8 (c.toNat % 128)) (u := n8 c.toNat) (v := n8 127) ?_ (hr' := by exact congrArg n8 (Ug _)) (hr := by exact YT (by rw [Y0]; omega) (by rw [Y0]; omega))
      refine Z3 (u := n8 (c.toNat % 128)) (r := n64 (c.toNat % 128)) ?_ (hr := by exact YE rfl rfl (by rw [Xz]; omega)); refine Z1 ?_
      refine Zw (op := .mul) (r' := ni (7 * i)) (u := ni 7) (v := ni i) ?_ (hr := by exact YY (by rw [XJ]; omega))
      refine Z4 (op := .shl) (r' := n64 (c.toNat % 128 * 2 ^ (7 * i) % 18446744073709551616)) (u := n64 (c.toNat % 128)) (v := ni (7 * i)) ?_ (hr' := by exact congrArg n64 hsh) (hr := by exact YX rfl (by show 7 * i ≤ 64; omega))
      refine Z4 (op := .or) (r' := n64 (Xx l (i + 1))) (u := n64 (Xx l i)) (v := n64 (c.toNat % 128 * 2 ^ (7 * i) % 18446744073709551616)) ?_ (hr' := by exact congrArg n64 hst) (hr := by exact U6 (by rw [Xz]; omega) (by rw [Xz]; omega))
      refine Z0 ?_; refine JD ?_; refine X0 ?_; refine X0 ?_; refine JR ?_; refine Z1 ?_; refine Z2 ?_; refine JD ?_; refine JF ?_; refine X3 ?_; refine X0 ?_; refine X5 ?_; refine X0 ?_
      refine JR ?_; refine Z1 ?_; refine Zs ?_; refine Z1 ?_; refine Z1 ?_; refine Zn ?_; refine Zi ?_; refine Z0 ?_; refine JD ?_; refine JF ?_; refine X0 ?_; refine JR ?_; refine Z1 ?_; refine Zn ?_; refine Z1 ?_
      refine Z1 ?_; refine Zs ?_; refine Zi ?_; refine Z0 ?_; refine JD ?_; refine JF ?_; refine X3 ?_; refine X0 ?_; refine JR ?_; refine Z1 ?_; refine Z1 ?_; refine Z1 ?_; refine Zc ?_; refine Zc ?_; refine Z0 ?_
      refine Z0 ?_; refine Z0 ?_; refine JD ?_
      exact X1 ⟨_, Xi 5 (y := ai ((k : Int) + i + 1)) (AVal.le_of_eq (by refine Eq.trans (b := ai _) rfl ?_; simp)), ⟨rfl, rfl, rfl, trivial⟩, X2 _⟩
     ·exact absurd (by omega) hi0
  ·have hval : Xx l (i + 1) = Xp (l.take (i + 1)) := X0R l (i + 1) (by omega) (by omega)
   by_cases hz : 0 < i ∧ c = 0
   ·have hv : XC b k = (Xp (l.take (i + 1)), (k : Int) + i + 1, 0) := by rw [hnum]; simp only [hm, hc, Option.getD_some]; rw [if_neg (by omega), if_neg (by omega), if_neg (by omega)]
    rw [show Xu b k = (Xp (l.take (i + 1)), 0, 2) by
     unfold Xu; rw [hv, hpad]; simp only [hm, hc, Option.getD_some]
     simp [hz.1, hz.2]]
    obtain ⟨hz1, hz2⟩ := hz
    have hz3 : c.toNat = 0 := by rw [hz2]; rfl
    rw [← hval]
    refine X0 ?_; refine JR ?_; refine Z7 ?_; refine JD ?_; refine X0 ?_; refine JT ?_; refine X3 ?_; refine X0 ?_; refine X5 ?_; refine X0 ?_; refine JR ?_; refine Z1 ?_; refine ZH ?_
    refine ZJ ?_; refine Z0 ?_; refine Z0 ?_; refine JD ?_; refine X0 ?_; refine JR ?_; refine Z1 ?_; refine Z1 ?_
    refine Z4 (op := .and) (r' := n8 (c.toNat % 128)) (u := n8 c.toNat) (v := n8 127) ?_ (hr' := by exact congrArg n8 (Ug _)) (hr := by exact YT (by rw [Y0]; omega) (by rw [Y0]; omega))
    refine Z3 (u := n8 (c.toNat % 128)) (r := n64 (c.toNat % 128)) ?_ (hr := by exact YE rfl rfl (by rw [Xz]; omega)); refine Z1 ?_
    refine Zw (op := .mul) (r' := ni (7 * i)) (u := ni 7) (v := ni i) ?_ (hr := by exact YY (by rw [XJ]; omega))
    refine Z4 (op := .shl) (r' := n64 (c.toNat % 128 * 2 ^ (7 * i) % 18446744073709551616)) (u := n64 (c.toNat % 128)) (v := ni (7 * i)) ?_ (hr' := by exact congrArg n64 hsh) (hr := by exact YX rfl (by show 7 * i ≤ 64; omega))
    refine Z4 (op := .or) (r' := n64 (Xx l (i + 1))) (u := n64 (Xx l i)) (v := n64 (c.toNat % 128 * 2 ^ (7 * i) % 18446744073709551616)) ?_ (hr' := by exact congrArg n64 hst) (hr := by exact U6 (by rw [Xz]; omega) (by rw [Xz]; omega))
    refine Z0 ?_; refine JD ?_; refine X0 ?_; refine X0 ?_; refine JR ?_; refine Z1 ?_; refine Z2 ?_; refine JD ?_; refine JF ?_; refine X3 ?_; refine X0 ?_; refine X5 ?_; refine X0 ?_
    refine JR ?_; refine Z1 ?_; refine Zs ?_; refine Z1 ?_; refine Zj ?_; refine Zj ?_; refine Zl ?_; refine Z0 ?_; refine JD ?_; refine JF ?_; refine X0 ?_; refine JR ?_; refine Z1 ?_; refine Zn ?_; refine Z1 ?_
    refine Z1 ?_; refine Zs ?_; refine Zi ?_; refine Z0 ?_; refine JD ?_; refine JT ?_; refine X0 ?_; refine JR ?_; refine Z1 ?_; refine Z0 ?_; refine Z0 ?_; refine Z0 ?_; refine JD ?_
    exact X1 ⟨_, St.le_refl _, ⟨rfl, rfl, rfl, trivial⟩, X2 _⟩
   ·have hz' : ¬ (0 < i ∧ c.toNat = 0) := fun h => hz ⟨h.1, UInt8.toNat_inj.1 h.2⟩
    have hv : XC b k = (Xp (l.take (i + 1)), (k : Int) + i + 1, 0) := by rw [hnum]; simp only [hm, hc, Option.getD_some]; rw [if_neg (by omega), if_neg (by omega), if_neg (by omega)]
    have hpf : YL b k = false := by
     rw [hpad]; simp only [hm, hc, Option.getD_some]
     rw [Bool.and_eq_false_iff, decide_eq_false_iff_not, decide_eq_false_iff_not]
     by_cases h0 : 0 < i
     ·exact .inr fun h2 => hz ⟨h0, h2⟩
     ·exact .inl h0
    rw [show Xu b k = (Xp (l.take (i + 1)), (k : Int) + i + 1, 0) by unfold Xu; rw [hv, hpf]; rfl]
    rw [← hval]
    by_cases hi0 : 0 < i
    ·have hcz : ¬ (c.toNat = 0) := fun h => hz' ⟨hi0, h⟩
     refine X0 ?_; refine JR ?_; refine Z7 ?_; refine JD ?_; refine X0 ?_; refine JT ?_; refine X3 ?_; refine X0 ?_; refine X5 ?_; refine X0 ?_; refine JR ?_; refine Z1 ?_; refine ZH ?_
     refine ZJ ?_; refine Z0 ?_; refine Z0 ?_; refine JD ?_; refine X0 ?_; refine JR ?_; refine Z1 ?_; refine Z1 ?_
     refine Z4 (op := .and) (r' := n8 (c.toNat % 128)) (u := n8 c.toNat) (v := n8 127) ?_ (hr' := by exact congrArg n8 (Ug _)) (hr := by exact YT (by rw [Y0]; omega) (by rw [Y0]; omega))
     refine Z3 (u := n8 (c.toNat % 128)) (r := n64 (c.toNat % 128)) ?_ (hr := by exact YE rfl rfl (by rw [Xz]; omega)); refine Z1 ?_
     refine Zw (op := .mul) (r' := ni (7 * i)) (u := ni 7) (v := ni i) ?_ (hr := by exact YY (by rw [XJ]; omega))
     refine Z4 (op := .shl) (r' := n64 (c.toNat % 128 * 2 ^ (7 * i) % 18446744073709551616)) (u := n64 (c.toNat % 128)) (v := ni (7 * i)) ?_ (hr' := by exact congrArg n64 hsh) (hr := by exact YX rfl (by show 7 * i ≤ 64; omega))
     refine Z4 (op := .or) (r' := n64 (Xx l (i + 1))) (u := n64 (Xx l i)) (v := n64 (c.toNat % 128 * 2 ^ (7 * i) % 18446744073709551616)) ?_ (hr' := by exact congrArg n64 hst) (hr := by exact U6 (by rw [Xz]; omega) (by rw [Xz]; omega))
     refine Z0 ?_; refine JD ?_; refine X0 ?_; refine X0 ?_; refine JR ?_; refine Z1 ?_; refine Z2 ?_; refine JD ?_; refine JF ?_; refine X3 ?_; refine X0 ?_; refine X5 ?_; refine X0 ?_
     refine JR ?_; refine Z1 ?_; refine Zs ?_; refine Z1 ?_; refine Zj ?_; refine Zj ?_; refine Zl ?_; refine Z0 ?_; refine JD ?_; refine JF ?_; refine X0 ?_; refine JR ?_; refine Z1 ?_; refine Zn ?_; refine Z1 ?_
     refine Z1 ?_; refine Zs ?_; refine Zi ?_; refine Z0 ?_; refine JD ?_; refine JF ?_; refine X3 ?_; refine X0 ?_; refine JR ?_; refine Z1 ?_; refine Z1 ?_; refine Z1 ?_; refine Zc ?_; refine Zc ?_; refine Z0 ?_
     refine Z0 ?_; refine Z0 ?_; refine JD ?_
     exact X1 ⟨_, Xi 5 (y := ai ((k : Int) + i + 1)) (AVal.le_of_eq (by refine Eq.trans (b := ai _) rfl ?_; simp)), ⟨rfl, rfl, rfl, trivial⟩, X2 _⟩
    ·refine X0 ?_; refine JR ?_; refine Z7 ?_; refine JD ?_; refine X0 ?_; refine JT ?_; refine X3 ?_; refine X0 ?_; refine X5 ?_; refine X0 ?_; refine JR ?_; refine Z1 ?_; refine ZH ?_
     refine ZJ ?_; refine Z0 ?_; refine Z0 ?_; refine JD ?_; refine X0 ?_; refine JR ?_; refine Z1 ?_; refine Z1 ?_
     refine Z4 (op := .and) (r' := n8 (c.toNat % 128)) (u := n8 c.toNat) (v := n8 127) ?_ (hr' := by exact congrArg n8 (Ug _)) (hr := by exact YT (by rw [Y0]; omega) (by rw [Y0]; omega))
     refine Z3 (u := n8 (c.toNat % 128)) (r := n64 (c.toNat % 128)) ?_ (hr := by exact YE rfl rfl (by rw [Xz]; omega)); refine Z1 ?_
     refine Zw (op := .mul) (r' := ni (7 * i)) (u := ni 7) (v := ni i) ?_ (hr := by exact YY (by rw [XJ]; omega))
     refine Z4 (op := .shl) (r' := n64 (c.toNat % 128 * 2 ^ (7 * i) % 18446744073709551616)) (u := n64 (c.toNat % 128)) (v := ni (7 * i)) ?_ (hr' := by exact congrArg n64 hsh) (hr := by exact YX rfl (by show 7 * i ≤ 64; omega))
     refine Z4 (op := .or) (r' := n64 (Xx l (i + 1))) (u := n64 (Xx l i)) (v := n64 (c.toNat % 128 * 2 ^ (7 * i) % 18446744073709551616)) ?_ (hr' := by exact congrArg n64 hst) (hr := by exact U6 (by rw [Xz]; omega) (by rw [Xz]; omega))
     refine Z0 ?_; refine JD ?_; refine X0 ?_; refine X0 ?_; refine JR ?_; refine Z1 ?_; refine Z2 ?_; refine JD ?_; refine JF ?_; refine X3 ?_; refine X0 ?_; refine X5 ?_; refine X0 ?_
     refine JR ?_; refine Z1 ?_; refine Zs ?_; refine Z1 ?_; refine Zj ?_; refine Zj ?_; refine Zl ?_; refine Z0 ?_; refine JD ?_; refine JF ?_; refine X0 ?_; refine JR ?_; refine Z1 ?_; refine Zn ?_; refine Z1 ?_
     refine Zj ?_; refine Zj ?_; refine Zl ?_; refine Z0 ?_; refine JD ?_; refine JF ?_; refine X3 ?_; refine X0 ?_; refine JR ?_; refine Z1 ?_; refine Z1 ?_; refine Z1 ?_; refine Zc ?_; refine Zc ?_; refine Z0 ?_
     refine Z0 ?_; refine Z0 ?_; refine JD ?_
     exact X1 ⟨_, Xi 5 (y := ai ((k : Int) + i + 1)) (AVal.le_of_eq (by refine Eq.trans (b := ai _) rfl ?_; simp)), ⟨rfl, rfl, rfl, trivial⟩, X2 _⟩
end Go.Fw
namespace Go.Fw
open Go Go.Proofs
set_option maxRecDepth 100000
set_option linter.unusedVariables false
set_option linter.unusedSimpArgs false
theorem X6r {b : List UInt8} {a : Int} (h : (XC b a).2.2 = 0) : ∃ k : Nat, a = k ∧ k ≤ b.length ∧ XK (b.drop k) < (b.drop k).length ∧ XK (b.drop k) < 10 ∧ (XC b a).2.1 = ((k + XK (b.drop k) + 1 : Nat) : Int) := by
 unfold XC at h ⊢
 split at h
 ·simp at h
 rename_i ha
 have hm : XK (b.drop a.toNat) ≤ 10 := by
  unfold XK
  have := (List.takeWhile_sublist (l := (b.drop a.toNat).take 10) (fun b => decide (128 ≤ b.toNat))).length_le
  simp at this ⊢; omega
 simp only at h ⊢
 split at h
 ·simp at h
 rename_i h10
 split at h
 ·simp at h
 rename_i hle
 split at h
 ·simp at h
 rename_i h9
 have ha' : ¬(a < 0) ∧ ¬((b.length : Int) < a) := by simpa using ha
 refine ⟨a.toNat, by omega, by omega, by omega, by omega, ?_⟩
 rw [if_neg ha, if_neg h10, if_neg hle, if_neg h9]
 simp only; omega
theorem X8k {b : List UInt8} {a : Int} : (XC b a).1 < 18446744073709551616 := by
 by_cases h : (XC b a).2.2 = 0
 ·by_cases hp : YL b a = false
  ·exact (X2Q (b := b) (a := a) (e := (XC b a).2.1) (u := (XC b a).1) (by rw [← h]) hp).2.2.2.2
  ·obtain ⟨k, rfl, hk, h1, h2, _⟩ := X6r h
   have hp : YL b (k : Int) = true := by simpa using hp
   unfold YL at hp
   simp only [Int.toNat_natCast, Bool.and_eq_true, decide_eq_true_eq] at hp
   obtain ⟨c, hc⟩ := XX (l := b.drop k) h1
   rw [hc] at hp
   simp only [Option.getD_some] at hp
   have hc0 : c.toNat = 0 := by rw [hp.2]; rfl
   unfold XC
   rw [if_neg (by omega)]
   simp only [Int.toNat_natCast]
   rw [if_neg (by omega), if_neg (by omega)]
   split
   ·simp
   ·simp only
    rw [X0e _ _ c hc, hc0]
    have h3 := X1q (b.drop k) (XK (b.drop k))
    have h4 : (2 : Nat) ^ (7 * XK (b.drop k)) ≤ 2 ^ 63 := Nat.pow_le_pow_right (by omega) (by omega)
    omega
 ·unfold XC at h ⊢
  split at h
  ·rename_i h1; rw [if_pos h1]; simp
  rename_i h1; rw [if_neg h1]
  simp only at h ⊢
  split at h
  ·rename_i h2; rw [if_pos h2]; simp
  rename_i h2; rw [if_neg h2]
  split at h
  ·rename_i h3; rw [if_pos h3]; simp
  rename_i h3; rw [if_neg h3]
  split at h
  ·rename_i h4; rw [if_pos h4]; simp
  ·simp at h
theorem X62 {b : List UInt8} {a : Int} : (Xu b a).1 < 18446744073709551616 := by
 unfold Xu
 simp only
 split
 ·simp
 ·split <;> exact X8k
theorem X1j {b : List UInt8} {a : Int} : Xf b a = if 9223372036854775807 < (Xu b a).1 then (0, 0, 4) else if (Xu b a).2.2 ≠ 0 then (0, 0, (Xu b a).2.2) else (((Xu b a).1 : Int), (Xu b a).2.1, 0) := by
 unfold Xf Xu
 simp only
 by_cases h : (XC b a).2.2 = 0
 ·simp only [h, ne_eq, not_true_eq_false, if_false]
  cases hp : YL b a with
  | true => simp only [if_true]; simp
  | false => simp only [Bool.false_eq_true, if_false, h]; simp
 ·simp [h]
theorem X8N {b : List UInt8} {a : Int} : Xn b a = if (Xu b a).2.2 ≠ 0 then (0, 0, (Xu b a).2.2) else (zag (Xu b a).1, (Xu b a).2.1, 0) := by
 unfold Xn Xu
 simp only
 by_cases h : (XC b a).2.2 = 0
 ·simp only [h, ne_eq, not_true_eq_false, if_false]
  cases hp : YL b a with
  | true => simp
  | false => simp [h]
 ·simp [h]
abbrev aN3 (r : Int × Int × Int) : AVal := .tup [ai r.1, ai r.2.1, ai r.2.2]
theorem X1s (b : List UInt8) (a : Int) (hb : b.length ≤ 281474976710656) : Con Tryd.prog 27 [] [.d (Xv b), ai a] [] (aN3 (Xf b a)) := by
 refine Xb (xs := [ai (Xf b a).1, ai (Xf b a).2.1, ai (Xf b a).2.2]) Tryd.func27 rfl Tryd.ntmps27 rfl rfl rfl (fun E => ?_)
 have hr := X3W b a hb
 have hlt := X62 (b := b) (a := a)
 rw [X1j]
 generalize Xu b a = r at *
 obtain ⟨u, e, err⟩ := r
 simp only at hlt ⊢
 by_cases h1 : 9223372036854775807 < u
 ·rw [if_pos h1]
  repeat first | refine X0 ?_ | (refine JR ?_; (repeat first | refine Z1 ?_ | refine Z0 ?_ | refine Zn ?_ | refine ZC ?_ | refine Z8 (hcon := hr) ?_); refine JD ?_) | refine JT ?_ | refine X5 ?_
  exact X1 ⟨_, St.le_refl _, ⟨rfl, rfl, rfl, trivial⟩, X2 _⟩
 rw [if_neg h1]
 by_cases h2 : err = 0
 ·rw [if_neg (by simpa using h2)]
  repeat first | refine X0 ?_ | (refine JR ?_; (repeat first | refine Z3 (u := n64 u) (r := ni u) ?_ (hr := by exact YE rfl rfl (by rw [XJ]; omega)) | refine Z1 ?_ | refine Z0 ?_ | refine Zn ?_ | refine Zq ?_ | refine ZC ?_ | refine Z8 (hcon := hr) ?_); refine JD ?_) | refine JF ?_ | refine X5 ?_ | refine X3 ?_
  exact X1 ⟨_, St.le_refl _, ⟨rfl, rfl, rfl, trivial⟩, X2 _⟩
 ·rw [if_pos h2]
  repeat first | refine X0 ?_ | (refine JR ?_; (repeat first | refine Z1 ?_ | refine Z0 ?_ | refine Zn ?_ | refine Zq ?_ | refine ZC ?_ | refine Z8 (hcon := hr) ?_); refine JD ?_) | refine JT ?_ | refine JF ?_ | refine X5 ?_
  exact X1 ⟨_, St.le_refl _, ⟨rfl, rfl, rfl, trivial⟩, X2 _⟩
theorem X3B (b : List UInt8) (a : Int) (hb : b.length ≤ 281474976710656) : Con Tryd.prog 31 [] [.d (Xv b), ai a] [] (aN3 (Xn b a)) := by
 refine Xb (xs := [ai (Xn b a).1, ai (Xn b a).2.1, ai (Xn b a).2.2]) Tryd.func31 rfl Tryd.ntmps31 rfl rfl rfl (fun E => ?_)
 have hr := X3W b a hb
 have hlt := X62 (b := b) (a := a)
 rw [X8N]
 generalize Xu b a = r at *
 obtain ⟨u, e, err⟩ := r
 simp only at hlt ⊢
 by_cases h2 : err = 0
 ·rw [if_neg (by simpa using h2)]
  have hx : ∀ w, (Op.unary .xor (ni (u / 2))).run Tryd.prog w = .ok (.int .i64 (-((u / 2 : Nat) : Int) - 1)) w := fun w => X8R (P := Tryd.prog) (by omega) w
  by_cases hodd : u % 2 = 1
  ·rw [show zag u = -((u / 2 : Nat) : Int) - 1 by unfold zag; rw [if_pos hodd]]
   refine X0 ?_; refine JR ?_; refine Z0 ?_; refine Z0 ?_; refine Z0 ?_; refine JD ?_; refine X0 ?_; refine JR ?_; refine Z1 ?_; refine Z1 ?_; refine Z8 (hcon := hr) ?_; refine Z1 ?_; refine ZC ?_; refine ZC ?_
   refine ZC ?_; refine Z0 ?_; refine Z0 ?_; refine Z0 ?_; refine JD ?_; refine X0 ?_; refine X0 ?_; refine JR ?_; refine Z1 ?_; refine Zq ?_; refine JD ?_; refine JF ?_; refine X3 ?_; refine X0 ?_
   refine JR ?_; refine Z1 ?_; refine Zw (op := .shr) (r' := n64 (u / 2)) (u := n64 u) (v := n64 1) ?_ (hr := by exact X2L (by decide))
   refine Z3 (u := n64 (u / 2)) (r := ni (u / 2)) ?_ (hr := by exact YE rfl rfl (by rw [XJ]; omega)); refine Z0 ?_; refine JD ?_; refine X0 ?_; refine X0 ?_; refine JR ?_; refine Z1 ?_
   refine Z4 (op := .and) (r' := n64 (u % 2)) (u := n64 u) (v := n64 1) ?_ (hr' := by exact congrArg n64 (Nat.and_one_is_mod u)) (hr := by exact YT (by rw [Xz]; omega) (by rw [Xz]; omega)); refine Zs ?_
   refine JD ?_; refine JT ?_; refine JR ?_; refine Z1 ?_; refine Z9 (u := ni (u / 2)) (r := .int .i64 (-((u / 2 : Nat) : Int) - 1)) ?_ (hr := by exact hx); refine Z0 ?_; refine JD ?_; refine X0 ?_; refine JR ?_
   refine Z1 ?_; refine Z1 ?_; refine Z0 ?_; refine Z0 ?_; refine Z0 ?_; refine JD ?_
   exact X1 ⟨_, St.le_refl _, ⟨rfl, rfl, rfl, trivial⟩, X2 _⟩
  ·rw [show zag u = ((u / 2 : Nat) : Int) by unfold zag; rw [if_neg hodd]]
   refine X0 ?_; refine JR ?_; refine Z0 ?_; refine Z0 ?_; refine Z0 ?_; refine JD ?_; refine X0 ?_; refine JR ?_; refine Z1 ?_; refine Z1 ?_; refine Z8 (hcon := hr) ?_; refine Z1 ?_; refine ZC ?_; refine ZC ?_
   refine ZC ?_; refine Z0 ?_; refine Z0 ?_; refine Z0 ?_; refine JD ?_; refine X0 ?_; refine X0 ?_; refine JR ?_; refine Z1 ?_; refine Zq ?_; refine JD ?_; refine JF ?_; refine X3 ?_; refine X0 ?_
   refine JR ?_; refine Z1 ?_; refine Zw (op := .shr) (r' := n64 (u / 2)) (u := n64 u) (v := n64 1) ?_ (hr := by exact X2L (by decide))
   refine Z3 (u := n64 (u / 2)) (r := ni (u / 2)) ?_ (hr := by exact YE rfl rfl (by rw [XJ]; omega)); refine Z0 ?_; refine JD ?_; refine X0 ?_; refine X0 ?_; refine JR ?_; refine Z1 ?_
   refine Z4 (op := .and) (r' := n64 (u % 2)) (u := n64 u) (v := n64 1) ?_ (hr' := by exact congrArg n64 (Nat.and_one_is_mod u)) (hr := by exact YT (by rw [Xz]; omega) (by rw [Xz]; omega)); refine Zs ?_
   refine JD ?_; refine JF ?_; refine X3 ?_; refine X0 ?_; refine JR ?_; refine Z1 ?_; refine Z1 ?_; refine Z0 ?_; refine Z0 ?_; refine Z0 ?_; refine JD ?_
   exact X1 ⟨_, St.le_refl _, ⟨rfl, rfl, rfl, trivial⟩, X2 _⟩
 ·rw [if_pos h2]
  repeat first | refine X0 ?_ | (refine JR ?_; (repeat first | refine Z1 ?_ | refine Z0 ?_ | refine Zq ?_ | refine ZC ?_ | refine Z8 (hcon := hr) ?_); refine JD ?_) | refine JT ?_
  exact X1 ⟨_, St.le_refl _, ⟨rfl, rfl, rfl, trivial⟩, X2 _⟩
end Go.Fw
namespace Go.Fw
open Go Go.Proofs
set_option maxRecDepth 100000
set_option linter.unusedVariables false
set_option linter.unusedSimpArgs false
theorem XaC {b : List UInt8} {a most : Int} : Ye b a most = if (Xf b a).2.2 ≠ 0 then ([], 0, (Xf b a).2.2) else if most < (Xf b a).1 then ([], 0, 4) else if (b.length : Int) - (Xf b a).2.1 < (Xf b a).1 then ([], 0, 3) else
  ((b.drop (Xf b a).2.1.toNat).take (Xf b a).1.toNat, (Xf b a).2.1 + (Xf b a).1, 0) := rfl
theorem X97 {b : List UInt8} {a : Int} : (Xf b a).2.2 = 0 → ∃ n f : Nat, (Xf b a).1 = n ∧ (Xf b a).2.1 = f ∧ f ≤ b.length ∧ (n : Int) ≤ 9223372036854775807 := by
 intro h
 obtain ⟨⟨k1, k2, k3, k4⟩, k5, k6, k7⟩ := UJ (b := b) (a := a) (n := (Xf b a).1) (e := (Xf b a).2.1) (by rw [← h])
 exact ⟨(Xf b a).1.toNat, (Xf b a).2.1.toNat, by omega, by omega, by omega, by omega⟩
theorem X4O (b : List UInt8) (a most : Int) (hb : b.length ≤ 281474976710656) : Con Tryd.prog 51 [] [.d (Xv b), ai a, ai most] [] (X3Z (X8 (Ye b a most).1) (Ye b a most).2.1 (Ye b a most).2.2) := by
 refine Xb (xs := [X8 (Ye b a most).1, ai (Ye b a most).2.1, ai (Ye b a most).2.2]) Tryd.func51 rfl Tryd.ntmps51 rfl rfl rfl (fun E => ?_)
 have hr := X1s b a hb
 have hf := X97 (b := b) (a := a)
 rw [XaC]
 generalize Xf b a = r at *
 obtain ⟨n, f, err⟩ := r
 simp only at hf ⊢
 by_cases h2 : err = 0
 ·obtain ⟨n, f, rfl, rfl, hf1, hf2⟩ := hf h2
  rw [if_neg (by simpa using h2)]
  by_cases h3 : most < (n : Int)
  ·rw [if_pos h3]
   repeat first | refine X0 ?_ | (refine JR ?_; (repeat first | refine Z1 ?_ | refine Z0 ?_ | refine Zn ?_ | refine Zq ?_ | refine ZC ?_ | refine Z8 (hcon := hr) ?_); refine JD ?_) | refine JT ?_ | refine JF ?_ | refine X5 ?_
   exact X1 ⟨_, St.le_refl _, ⟨rfl, rfl, rfl, trivial⟩, X2 _⟩
  rw [if_neg h3]
  by_cases h4 : (b.length : Int) - f < n
  ·rw [if_pos h4]
   repeat first | refine X0 ?_ | (refine JR ?_; (repeat first | refine Z1 ?_ | refine Z0 ?_ | refine Zb ?_ | refine Zn ?_ | refine Zq ?_ | refine ZQ ?_ | refine ZC ?_ | refine Z8 (hcon := hr) ?_); refine JD ?_) | refine JT ?_ | refine JF ?_ | refine X5 ?_
   exact X1 ⟨_, St.le_refl _, ⟨rfl, rfl, rfl, trivial⟩, X2 _⟩
  rw [if_neg h4]
  have hsl : ((b.map Xa).take (f + n)).drop f = ((b.drop f).take n).map Xa := by rw [List.map_take, List.map_drop, List.drop_take, Nat.add_sub_cancel_left]
  repeat first | refine X0 ?_ | (refine JR ?_; (repeat first | refine Zw (op := .add) (r' := ni (f + n)) (u := ni f) (v := ni n) ?_ (hr := by exact V7 (by rw [XJ]; omega)) | refine ZU (lb := f) (hb := f + n) (ys := ((b.drop f).take n).map Xa) ?_ (hys := by exact hsl) | refine Z1 ?_ | refine Z0 ?_ | refine Zb ?_ | refine Zn ?_ | refine Zq ?_ | refine ZQ ?_ | refine ZC ?_ | refine ZV ?_ | refine Z8 (hcon := hr) ?_); refine JD ?_) | refine JF ?_ | refine X5 ?_ | refine X3 ?_
  exact X1 ⟨_, St.le_refl _, ⟨rfl, rfl, rfl, trivial⟩, X2 _⟩
 ·rw [if_pos h2]
  repeat first | refine X0 ?_ | (refine JR ?_; (repeat first | refine Z1 ?_ | refine Z0 ?_ | refine Zq ?_ | refine ZC ?_ | refine Z8 (hcon := hr) ?_); refine JD ?_) | refine JT ?_ | refine X5 ?_
  exact X1 ⟨_, St.le_refl _, ⟨rfl, rfl, rfl, trivial⟩, X2 _⟩
end Go.Fw

/- The program's read. -/
import Derived.Test.YtaoggblfedekeaaGreatDoorG08
import Derived.Test.YtaoggblfedekeaaGreatDoorG14
set_option maxHeartbeats 8000000
namespace Go.Fw
open Go Go.Proofs
set_option maxRecDepth 100000
set_option linter.unusedVariables false
set_option linter.unusedSimpArgs false
theorem UA (c : Nat) : c &&& 127 = c % 128 := Nat.and_two_pow_sub_one_eq_mod c 7
theorem X6v (b : List UInt8) (a : Int) (hb : b.length ≤ 281474976710656) : Con Tryz.prog 94 [] [.d (Xh b), ai a] [] (X2k (UO (XM b a).1) (XM b a).2.1 (XM b a).2.2) := by
 refine X8 (xs := [UO (XM b a).1, ai (XM b a).2.1, ai (XM b a).2.2]) Tryz.func94 rfl Tryz.ntmps94 rfl rfl rfl (fun E => ?_)
 by_cases h1 : a < 0
 ·rw [show XM b a = (0, 0, 1) by simp [XM, Xw, h1]]
  repeat first | refine X0 ?_ | (refine JR ?_; (repeat first | refine Z1 ?_ | refine Z0 ?_ | refine Z8 ?_ | refine Zk ?_ | refine Zl ?_); refine JD ?_) | refine JT ?_
  exact X1 ⟨_, St.le_refl _, ⟨rfl, rfl, rfl, trivial⟩, X2 _⟩
 by_cases h2 : (b.length : Int) < a
 ·rw [show XM b a = (0, 0, 1) by simp [XM, Xw, h2]]
  refine X0 ?_; refine JR ?_; refine Z0 ?_; refine Z0 ?_; refine Z0 ?_; refine JD ?_; refine X0 ?_; refine X0 ?_; refine JR ?_; refine Z1 ?_; refine Z8 ?_; refine Z1 ?_; refine Z1 ?_; refine Z1 ?_
  refine Zd ?_; refine Zp ?_; refine Zn ?_; refine JD ?_; refine JT ?_; refine X0 ?_; refine JR ?_; refine Z0 ?_; refine Z0 ?_; refine Z0 ?_; refine JD ?_
  exact X1 ⟨_, St.le_refl _, ⟨rfl, rfl, rfl, trivial⟩, X2 _⟩
 obtain ⟨k, rfl⟩ : ∃ k : Nat, a = k := ⟨a.toNat, by omega⟩
 have hnum : Xw b k = (let l := b.drop k; let n := XX l; if n = 10 then (0, 0, 4) else if l.length ≤ n then (0, 0, 3) else if n = 9 ∧ 1 < ((l[n]?).getD 0).toNat then (0, 0, 4) else (Xt (l.take (n + 1)), (k : Int) + n + 1, 0)) := by
  unfold Xw; rw [if_neg (by omega), Int.toNat_natCast]
 have hpad : Yr b k = (decide (0 < XX (b.drop k)) && decide (((b.drop k)[XX (b.drop k)]?).getD 0 = 0)) := by unfold Yr; rw [Int.toNat_natCast]
 have hll : (b.drop k).length = b.length - k := List.length_drop
 have hmap : (((b.map Xa).take (b.map Xa).length).drop k).length = b.length - k := by simp
 have hlb : 10 < b.length - k → 10 ≤ (((b.map Xa).take (b.map Xa).length).drop k).length := fun h => by rw [hmap]; omega
 have hE1 : (((((b.map Xa).take (b.map Xa).length).drop k).take 10).drop 0) = ((b.drop k).take 10).map Xa := by
  rw [List.take_length, List.drop_zero, ← List.map_drop, ← List.map_take]
 have hE2 : ¬ (10 < b.length - k) → (((b.map Xa).take (b.map Xa).length).drop k) = ((b.drop k).take 10).map Xa := fun h => by
  rw [List.take_length, ← List.map_drop, List.take_of_length_le (by simp; omega)]
 generalize hl : b.drop k = l at *
 by_cases hbig : 10 < b.length - k
 ·repeat first | refine X0 ?_ | (refine JR ?_; (repeat first | refine ZU (hb := 10) (mb := 10) ?_ (hh := by exact Nat.le_refl 10) (hm := by exact hlb hbig) | refine Z1 ?_ | refine Z0 ?_ | refine Zd ?_ | refine Z8 ?_ | refine Zp ?_ | refine Zn ?_ | refine ZT ?_); refine JD ?_) | refine JT ?_ | refine JF ?_ | refine X5 ?_ | refine X3 ?_
  refine XR (fun i : Nat => big l i ∧ i ≤ 10 ∧ i ≤ l.length) (fun i => ⟨72, [(1, ai k), (7, .d (Xh (l.take 10))), (8, UO (XP l i)), (31, .d (Xh (l.take 10))), (32, ai (l.take 10).length), (33, ai i)], []⟩) (fun i => 10 - i) 0 ⟨fun j hj => by omega, by omega, by omega⟩
   (Xc rfl ⟨JL, (by refine AVal.le_of_eq ?_; refine Eq.trans (b := AVal.d (.sl 1 (((((b.map Xa).take (b.map Xa).length).drop k).take 10).drop 0))) rfl ?_; rw [hE1]), JL, (by refine AVal.le_of_eq ?_; refine Eq.trans (b := AVal.d (.sl 1 (((((b.map Xa).take (b.map Xa).length).drop k).take 10).drop 0))) rfl ?_; rw [hE1]), (by refine AVal.le_of_eq ?_; refine Eq.trans (b := ai (((((((b.map Xa).take (b.map Xa).length).drop k).take 10).drop 0)).length : Nat)) rfl ?_; rw [hE1, List.length_map]), JL, trivial⟩ trivial) ?_
  rintro i ⟨hbg, hi10, hil⟩
  by_cases him : i = (l.take 10).length
  ·have hmm : i = min 10 l.length := by rw [him]; simp
   have hm : XX l = i := X22 hbg hmm
   by_cases e10 : (l.take 10).length = 10
   ·have hv : Xw b k = (0, 0, 4) := by rw [hnum]; simp only [hm]; rw [if_pos (by omega)]
    rw [show XM b k = (0, 0, 4) by unfold XM; rw [hv]; rfl]
    refine X0 ?_; refine JR ?_; refine Z8 ?_; refine JD ?_; refine X0 ?_; refine JF ?_; refine Xv ?_; refine X0 ?_; refine X0 ?_; refine JR ?_; refine Z1 ?_; refine Zd ?_; refine Zu ?_; refine JD ?_
    refine JT ?_; refine X0 ?_; refine JR ?_; refine Z0 ?_; refine Z0 ?_; refine Z0 ?_; refine JD ?_
    exact X1 ⟨_, St.le_refl _, ⟨rfl, rfl, rfl, trivial⟩, X2 _⟩
   ·exact absurd (by rw [List.length_take]; omega) e10
  have hlt : i < 10 ∧ i < l.length := by rw [List.length_take] at him; omega
  have hlm : i < (l.take 10).length := by rw [List.length_take]; omega
  obtain ⟨c, hc⟩ := XT (l := l) (k := i) (by omega)
  have hcm : (l.take 10)[i]? = some c := by rw [List.getElem?_take_of_lt hlt.1]; exact hc
  have hc8 := c.toNat_lt
  have hacc := X1o l i
  have hacc1 := X1o l (i + 1)
  have hsh : c.toNat % 128 * 2 ^ (7 * i) % 2 ^ IntKind.u64.bits = c.toNat % 128 * 2 ^ (7 * i) % 18446744073709551616 := rfl
  have hst : XP l i ||| c.toNat % 128 * 2 ^ (7 * i) % 18446744073709551616 = XP l (i + 1) := by simp only [XP, hc, Option.getD_some]
  have hq : c.toNat % 128 * 2 ^ (7 * i) % 18446744073709551616 < 18446744073709551616 := Nat.mod_lt _ (by omega)
  by_cases hge : 128 ≤ c.toNat
  ·refine X0 ?_; refine JR ?_; refine Z8 ?_; refine JD ?_; refine X0 ?_; refine JT ?_; refine X3 ?_; refine X0 ?_; refine X5 ?_; refine X0 ?_; refine JR ?_; refine Z1 ?_; refine ZI ?_
   refine ZK ?_; refine Z0 ?_; refine Z0 ?_; refine JD ?_; refine X0 ?_; refine JR ?_; refine Z1 ?_; refine Z1 ?_
   refine Z4 (op := .and) (r' := n8 (c.toNat % 128)) (u := n8 c.toNat) (v := n8 127) ?_ (hr' := by exact congrArg n8 (UA _)) (hr := by exact Uc (by rw [Yf]; omega) (by rw [Yf]; omega))
   refine Z3 (u := n8 (c.toNat % 128)) (r := n64 (c.toNat % 128)) ?_ (hr := by exact Yi rfl rfl (by rw [XA]; omega)); refine Z1 ?_
   refine Z7 (op := .mul) (r' := ni (7 * i)) (u := ni 7) (v := ni i) ?_ (hr := by exact YO (by rw [XL]; omega))
   refine Z4 (op := .shl) (r' := n64 (c.toNat % 128 * 2 ^ (7 * i) % 18446744073709551616)) (u := n64 (c.toNat % 128)) (v := ni (7 * i)) ?_ (hr' := by exact congrArg n64 hsh) (hr := by exact Ue rfl (by show 7 * i ≤ 64; omega))
   refine Z4 (op := .or) (r' := n64 (XP l (i + 1))) (u := n64 (XP l i)) (v := n64 (c.toNat % 128 * 2 ^ (7 * i) % 18446744073709551616)) ?_ (hr' := by exact congrArg n64 hst) (hr := by exact Us (by rw [XA]; omega) (by rw [XA]; omega))
   refine Z0 ?_; refine JD ?_; refine X0 ?_; refine X0 ?_; refine JR ?_; refine Z1 ?_; refine Z2 ?_; refine JD ?_; refine JT ?_; refine Xv ?_; refine JR ?_; refine Zb ?_; refine Z1 ?_; refine JD ?_
   exact ⟨i + 1, ⟨X3h hbg hc hge, by omega, by omega⟩, by omega, Xc rfl ⟨JL, JL, JL, JL, JL, JL, trivial⟩ trivial⟩
  have hm : XX l = i := X1A hbg hc (by omega) hlt.1
  by_cases h9 : i = 9
  ·by_cases hc1 : 1 < c.toNat
   ·have hv : Xw b k = (0, 0, 4) := by rw [hnum]; simp only [hm, hc, Option.getD_some]; rw [if_neg (by omega), if_neg (by omega), if_pos ⟨h9, hc1⟩]
    rw [show XM b k = (0, 0, 4) by unfold XM; rw [hv]; rfl]
    refine X0 ?_; refine JR ?_; refine Z8 ?_; refine JD ?_; refine X0 ?_; refine JT ?_; refine X3 ?_; refine X0 ?_; refine X5 ?_; refine X0 ?_; refine JR ?_; refine Z1 ?_; refine ZI ?_
    refine ZK ?_; refine Z0 ?_; refine Z0 ?_; refine JD ?_; refine X0 ?_; refine JR ?_; refine Z1 ?_; refine Z1 ?_
    refine Z4 (op := .and) (r' := n8 (c.toNat % 128)) (u := n8 c.toNat) (v := n8 127) ?_ (hr' := by exact congrArg n8 (UA _)) (hr := by exact Uc (by rw [Yf]; omega) (by rw [Yf]; omega))
    refine Z3 (u := n8 (c.toNat % 128)) (r := n64 (c.toNat % 128)) ?_ (hr := by exact Yi rfl rfl (by rw [XA]; omega)); refine Z1 ?_
    refine Z7 (op := .mul) (r' := ni (7 * i)) (u := ni 7) (v := ni i) ?_ (hr := by exact YO (by rw [XL]; omega))
    refine Z4 (op := .shl) (r' := n64 (c.toNat % 128 * 2 ^ (7 * i) % 18446744073709551616)) (u := n64 (c.toNat % 128)) (v := ni (7 * i)) ?_ (hr' := by exact congrArg n64 hsh) (hr := by exact Ue rfl (by show 7 * i ≤ 64; omega))
    refine Z4 (op := .or) (r' := n64 (XP l (i + 1))) (u := n64 (XP l i)) (v := n64 (c.toNat % 128 * 2 ^ (7 * i) % 18446744073709551616)) ?_ (hr' := by exact congrArg n64 hst) (hr := by exact Us (by rw [XA]; omega) (by rw [XA]; omega))
    refine Z0 ?_; refine JD ?_; refine X0 ?_; refine X0 ?_; refine JR ?_; refine Z1 ?_; refine Z2 ?_; refine JD ?_; refine JF ?_; refine X3 ?_; refine X0 ?_; refine X5 ?_; refine X0 ?_
    refine JR ?_; refine Z1 ?_; refine Zu ?_; refine Z1 ?_; refine Z1 ?_; refine Zp ?_; refine Zk ?_; refine Z0 ?_; refine JD ?_; refine JT ?_; refine X0 ?_; refine JR ?_; refine Z0 ?_; refine Z0 ?_; refine Z0 ?_
    refine JD ?_
    exact X1 ⟨_, St.le_refl _, ⟨rfl, rfl, rfl, trivial⟩, X2 _⟩
   ·have hval : XP l (i + 1) = Xt (l.take (i + 1)) := by subst h9; exact X7x l hc (by omega)
    by_cases hz : 0 < i ∧ c = 0
    ·have hv : Xw b k = (Xt (l.take (i + 1)), (k : Int) + i + 1, 0) := by rw [hnum]; simp only [hm, hc, Option.getD_some]; rw [if_neg (by omega), if_neg (by omega), if_neg (by omega)]
     rw [show XM b k = (Xt (l.take (i + 1)), 0, 2) by
      unfold XM; rw [hv, hpad]; simp only [hm, hc, Option.getD_some]
      simp [hz.1, hz.2]]
     obtain ⟨hz1, hz2⟩ := hz
     have hz3 : c.toNat = 0 := by rw [hz2]; rfl
     rw [← hval]
     refine X0 ?_; refine JR ?_; refine Z8 ?_; refine JD ?_; refine X0 ?_; refine JT ?_; refine X3 ?_; refine X0 ?_; refine X5 ?_; refine X0 ?_; refine JR ?_; refine Z1 ?_; refine ZI ?_
     refine ZK ?_; refine Z0 ?_; refine Z0 ?_; refine JD ?_; refine X0 ?_; refine JR ?_; refine Z1 ?_; refine Z1 ?_
     refine Z4 (op := .and) (r' := n8 (c.toNat % 128)) (u := n8 c.toNat) (v := n8 127) ?_ (hr' := by exact congrArg n8 (UA _)) (hr := by exact Uc (by rw [Yf]; omega) (by rw [Yf]; omega))
     refine Z3 (u := n8 (c.toNat % 128)) (r := n64 (c.toNat % 128)) ?_ (hr := by exact Yi rfl rfl (by rw [XA]; omega)); refine Z1 ?_
     refine Z7 (op := .mul) (r' := ni (7 * i)) (u := ni 7) (v := ni i) ?_ (hr := by exact YO (by rw [XL]; omega))
     refine Z4 (op := .shl) (r' := n64 (c.toNat % 128 * 2 ^ (7 * i) % 18446744073709551616)) (u := n64 (c.toNat % 128)) (v := ni (7 * i)) ?_ (hr' := by exact congrArg n64 hsh) (hr := by exact Ue rfl (by show 7 * i ≤ 64; omega))
     refine Z4 (op := .or) (r' := n64 (XP l (i + 1))) (u := n64 (XP l i)) (v := n64 (c.toNat % 128 * 2 ^ (7 * i) % 18446744073709551616)) ?_ (hr' := by exact congrArg n64 hst) (hr := by exact Us (by rw [XA]; omega) (by rw [XA]; omega))
     refine Z0 ?_; refine JD ?_; refine X0 ?_; refine X0 ?_; refine JR ?_; refine Z1 ?_; refine Z2 ?_; refine JD ?_; refine JF ?_; refine X3 ?_; refine X0 ?_; refine X5 ?_; refine X0 ?_
     refine JR ?_; refine Z1 ?_; refine Zu ?_; refine Z1 ?_; refine Z1 ?_; refine Zp ?_; refine Zk ?_; refine Z0 ?_; refine JD ?_; refine JF ?_; refine X0 ?_; refine JR ?_; refine Z1 ?_; refine Zp ?_; refine Z1 ?_
     refine Z1 ?_; refine Zu ?_; refine Zk ?_; refine Z0 ?_; refine JD ?_; refine JT ?_; refine X0 ?_; refine JR ?_; refine Z1 ?_; refine Z0 ?_; refine Z0 ?_; refine Z0 ?_; refine JD ?_
     exact X1 ⟨_, St.le_refl _, ⟨rfl, rfl, rfl, trivial⟩, X2 _⟩
    ·have hz' : ¬ (0 < i ∧ c.toNat = 0) := fun h => hz ⟨h.1, UInt8.toNat_inj.1 h.2⟩
     have hv : Xw b k = (Xt (l.take (i + 1)), (k : Int) + i + 1, 0) := by rw [hnum]; simp only [hm, hc, Option.getD_some]; rw [if_neg (by omega), if_neg (by omega), if_neg (by omega)]
     have hpf : Yr b k = false := by
      rw [hpad]; simp only [hm, hc, Option.getD_some]
      rw [Bool.and_eq_false_iff, decide_eq_false_iff_not, decide_eq_false_iff_not]
      by_cases h0 : 0 < i
      ·exact .inr fun h2 => hz ⟨h0, h2⟩
      ·exact .inl h0
     rw [show XM b k = (Xt (l.take (i + 1)), (k : Int) + i + 1, 0) by unfold XM; rw [hv, hpf]; rfl]
     rw [← hval]
     by_cases hi0 : 0 < i
     ·have hcz : ¬ (c.toNat = 0) := fun h => hz' ⟨hi0, h⟩
      refine X0 ?_; refine JR ?_; refine Z8 ?_; refine JD ?_; refine X0 ?_; refine JT ?_; refine X3 ?_; refine X0 ?_; refine X5 ?_; refine X0 ?_; refine JR ?_; refine Z1 ?_; refine ZI ?_
      refine ZK ?_; refine Z0 ?_; refine Z0 ?_; refine JD ?_; refine X0 ?_; refine JR ?_; refine Z1 ?_; refine Z1 ?_
      refine Z4 (op := .and) (r' := n8 (c.toNat % 128)) (u := n8 c.toNat) (v := n8 127) ?_ (hr' := by exact congrArg n8 (UA _)) (hr := by exact Uc (by rw [Yf]; omega) (by rw [Yf]; omega))
      refine Z3 (u := n8 (c.toNat % 128)) (r := n64 (c.toNat % 128)) ?_ (hr := by exact Yi rfl rfl (by rw [XA]; omega)); refine Z1 ?_
      refine Z7 (op := .mul) (r' := ni (7 * i)) (u := ni 7) (v := ni i) ?_ (hr := by exact YO (by rw [XL]; omega))
      refine Z4 (op := .shl) (r' := n64 (c.toNat % 128 * 2 ^ (7 * i) % 18446744073709551616)) (u := n64 (c.toNat % 128)) (v := ni (7 * i)) ?_ (hr' := by exact congrArg n64 hsh) (hr := by exact Ue rfl (by show 7 * i ≤ 64; omega))
      refine Z4 (op := .or) (r' := n64 (XP l (i + 1))) (u := n64 (XP l i)) (v := n64 (c.toNat % 128 * 2 ^ (7 * i) % 18446744073709551616)) ?_ (hr' := by exact congrArg n64 hst) (hr := by exact Us (by rw [XA]; omega) (by rw [XA]; omega))
      refine Z0 ?_; refine JD ?_; refine X0 ?_; refine X0 ?_; refine JR ?_; refine Z1 ?_; refine Z2 ?_; refine JD ?_; refine JF ?_; refine X3 ?_; refine X0 ?_; refine X5 ?_; refine X0 ?_
      refine JR ?_; refine Z1 ?_; refine Zu ?_; refine Z1 ?_; refine Z1 ?_; refine Zp ?_; refine Zk ?_; refine Z0 ?_; refine JD ?_; refine JF ?_; refine X0 ?_; refine JR ?_; refine Z1 ?_; refine Zp ?_; refine Z1 ?_
      refine Z1 ?_; refine Zu ?_; refine Zk ?_; refine Z0 ?_; refine JD ?_; refine JF ?_; refine X3 ?_; refine X0 ?_; refine JR ?_; refine Z1 ?_; refine Z1 ?_; refine Z1 ?_; refine Zb ?_; refine Zb ?_; refine Z0 ?_
      refine Z0 ?_; refine Z0 ?_; refine JD ?_
      exact X1 ⟨_, X9 5 (y := ai ((k : Int) + i + 1)) (AVal.le_of_eq (by refine Eq.trans (b := ai _) rfl ?_; simp)), ⟨rfl, rfl, rfl, trivial⟩, X2 _⟩
     ·exact absurd (by omega) hi0
  ·have hval : XP l (i + 1) = Xt (l.take (i + 1)) := X1q l (i + 1) (by omega) (by omega)
   by_cases hz : 0 < i ∧ c = 0
   ·have hv : Xw b k = (Xt (l.take (i + 1)), (k : Int) + i + 1, 0) := by rw [hnum]; simp only [hm, hc, Option.getD_some]; rw [if_neg (by omega), if_neg (by omega), if_neg (by omega)]
    rw [show XM b k = (Xt (l.take (i + 1)), 0, 2) by
     unfold XM; rw [hv, hpad]; simp only [hm, hc, Option.getD_some]
     simp [hz.1, hz.2]]
    obtain ⟨hz1, hz2⟩ := hz
    have hz3 : c.toNat = 0 := by rw [hz2]; rfl
    rw [← hval]
    refine X0 ?_; refine JR ?_; refine Z8 ?_; refine JD ?_; refine X0 ?_; refine JT ?_; refine X3 ?_; refine X0 ?_; refine X5 ?_; refine X0 ?_; refine JR ?_; refine Z1 ?_; refine ZI ?_
    refine ZK ?_; refine Z0 ?_; refine Z0 ?_; refine JD ?_; refine X0 ?_; refine JR ?_; refine Z1 ?_; refine Z1 ?_
    refine Z4 (op := .and) (r' := n8 (c.toNat % 128)) (u := n8 c.toNat) (v := n8 127) ?_ (hr' := by exact congrArg n8 (UA _)) (hr := by exact Uc (by rw [Yf]; omega) (by rw [Yf]; omega))
    refine Z3 (u := n8 (c.toNat % 128)) (r := n64 (c.toNat % 128)) ?_ (hr := by exact Yi rfl rfl (by rw [XA]; omega)); refine Z1 ?_
    refine Z7 (op := .mul) (r' := ni (7 * i)) (u := ni 7) (v := ni i) ?_ (hr := by exact YO (by rw [XL]; omega))
    refine Z4 (op := .shl) (r' := n64 (c.toNat % 128 * 2 ^ (7 * i) % 18446744073709551616)) (u := n64 (c.toNat % 128)) (v := ni (7 * i)) ?_ (hr' := by exact congrArg n64 hsh) (hr := by exact Ue rfl (by show 7 * i ≤ 64; omega))
    refine Z4 (op := .or) (r' := n64 (XP l (i + 1))) (u := n64 (XP l i)) (v := n64 (c.toNat % 128 * 2 ^ (7 * i) % 18446744073709551616)) ?_ (hr' := by exact congrArg n64 hst) (hr := by exact Us (by rw [XA]; omega) (by rw [XA]; omega))
    refine Z0 ?_; refine JD ?_; refine X0 ?_; refine X0 ?_; refine JR ?_; refine Z1 ?_; refine Z2 ?_; refine JD ?_; refine JF ?_; refine X3 ?_; refine X0 ?_; refine X5 ?_; refine X0 ?_
    refine JR ?_; refine Z1 ?_; refine Zu ?_; refine Z1 ?_; refine Zl ?_; refine Zl ?_; refine Zn ?_; refine Z0 ?_; refine JD ?_; refine JF ?_; refine X0 ?_; refine JR ?_; refine Z1 ?_; refine Zp ?_; refine Z1 ?_
    refine Z1 ?_; refine Zu ?_; refine Zk ?_; refine Z0 ?_; refine JD ?_; refine JT ?_; refine X0 ?_; refine JR ?_; refine Z1 ?_; refine Z0 ?_; refine Z0 ?_; refine Z0 ?_; refine JD ?_
    exact X1 ⟨_, St.le_refl _, ⟨rfl, rfl, rfl, trivial⟩, X2 _⟩
   ·have hz' : ¬ (0 < i ∧ c.toNat = 0) := fun h => hz ⟨h.1, UInt8.toNat_inj.1 h.2⟩
    have hv : Xw b k = (Xt (l.take (i + 1)), (k : Int) + i + 1, 0) := by rw [hnum]; simp only [hm, hc, Option.getD_some]; rw [if_neg (by omega), if_neg (by omega), if_neg (by omega)]
    have hpf : Yr b k = false := by
     rw [hpad]; simp only [hm, hc, Option.getD_some]
     rw [Bool.and_eq_false_iff, decide_eq_false_iff_not, decide_eq_false_iff_not]
     by_cases h0 : 0 < i
     ·exact .inr fun h2 => hz ⟨h0, h2⟩
     ·exact .inl h0
    rw [show XM b k = (Xt (l.take (i + 1)), (k : Int) + i + 1, 0) by unfold XM; rw [hv, hpf]; rfl]
    rw [← hval]
    by_cases hi0 : 0 < i
    ·have hcz : ¬ (c.toNat = 0) := fun h => hz' ⟨hi0, h⟩
     refine X0 ?_; refine JR ?_; refine Z8 ?_; refine JD ?_; refine X0 ?_; refine JT ?_; refine X3 ?_; refine X0 ?_; refine X5 ?_; refine X0 ?_; refine JR ?_; refine Z1 ?_; refine ZI ?_
     refine ZK ?_; refine Z0 ?_; refine Z0 ?_; refine JD ?_; refine X0 ?_; refine JR ?_; refine Z1 ?_; refine Z1 ?_
     refine Z4 (op := .and) (r' := n8 (c.toNat % 128)) (u := n8 c.toNat) (v := n8 127) ?_ (hr' := by exact congrArg n8 (UA _)) (hr := by exact Uc (by rw [Yf]; omega) (by rw [Yf]; omega))
     refine Z3 (u := n8 (c.toNat % 128)) (r := n64 (c.toNat % 128)) ?_ (hr := by exact Yi rfl rfl (by rw [XA]; omega)); refine Z1 ?_
     refine Z7 (op := .mul) (r' := ni (7 * i)) (u := ni 7) (v := ni i) ?_ (hr := by exact YO (by rw [XL]; omega))
     refine Z4 (op := .shl) (r' := n64 (c.toNat % 128 * 2 ^ (7 * i) % 18446744073709551616)) (u := n64 (c.toNat % 128)) (v := ni (7 * i)) ?_ (hr' := by exact congrArg n64 hsh) (hr := by exact Ue rfl (by show 7 * i ≤ 64; omega))
     refine Z4 (op := .or) (r' := n64 (XP l (i + 1))) (u := n64 (XP l i)) (v := n64 (c.toNat % 128 * 2 ^ (7 * i) % 18446744073709551616)) ?_ (hr' := by exact congrArg n64 hst) (hr := by exact Us (by rw [XA]; omega) (by rw [XA]; omega))
     refine Z0 ?_; refine JD ?_; refine X0 ?_; refine X0 ?_; refine JR ?_; refine Z1 ?_; refine Z2 ?_; refine JD ?_; refine JF ?_; refine X3 ?_; refine X0 ?_; refine X5 ?_; refine X0 ?_
     refine JR ?_; refine Z1 ?_; refine Zu ?_; refine Z1 ?_; refine Zl ?_; refine Zl ?_; refine Zn ?_; refine Z0 ?_; refine JD ?_; refine JF ?_; refine X0 ?_; refine JR ?_; refine Z1 ?_; refine Zp ?_; refine Z1 ?_
     refine Z1 ?_; refine Zu ?_; refine Zk ?_; refine Z0 ?_; refine JD ?_; refine JF ?_; refine X3 ?_; refine X0 ?_; refine JR ?_; refine Z1 ?_; refine Z1 ?_; refine Z1 ?_; refine Zb ?_; refine Zb ?_; refine Z0 ?_
     refine Z0 ?_; refine Z0 ?_; refine JD ?_
     exact X1 ⟨_, X9 5 (y := ai ((k : Int) + i + 1)) (AVal.le_of_eq (by refine Eq.trans (b := ai _) rfl ?_; simp)), ⟨rfl, rfl, rfl, trivial⟩, X2 _⟩
    ·refine X0 ?_; refine JR ?_; refine Z8 ?_; refine JD ?_; refine X0 ?_; refine JT ?_; refine X3 ?_; refine X0 ?_; refine X5 ?_; refine X0 ?_; refine JR ?_; refine Z1 ?_; refine ZI ?_
     refine ZK ?_; refine Z0 ?_; refine Z0 ?_; refine JD ?_; refine X0 ?_; refine JR ?_; refine Z1 ?_; refine Z1 ?_
     refine Z4 (op := .and) (r' := n8 (c.toNat % 128)) (u := n8 c.toNat) (v := n8 127) ?_ (hr' := by exact congrArg n8 (UA _)) (hr := by exact Uc (by rw [Yf]; omega) (by rw [Yf]; omega))
     refine Z3 (u := n8 (c.toNat % 128)) (r := n64 (c.toNat % 128)) ?_ (hr := by exact Yi rfl rfl (by rw [XA]; omega)); refine Z1 ?_
     refine Z7 (op := .mul) (r' := ni (7 * i)) (u := ni 7) (v := ni i) ?_ (hr := by exact YO (by rw [XL]; omega))
     refine Z4 (op := .shl) (r' := n64 (c.toNat % 128 * 2 ^ (7 * i) % 18446744073709551616)) (u := n64 (c.toNat % 128)) (v := ni (7 * i)) ?_ (hr' := by exact congrArg n64 hsh) (hr := by exact Ue rfl (by show 7 * i ≤ 64; omega))
     refine Z4 (op := .or) (r' := n64 (XP l (i + 1))) (u := n64 (XP l i)) (v := n64 (c.toNat % 128 * 2 ^ (7 * i) % 18446744073709551616)) ?_ (hr' := by exact congrArg n64 hst) (hr := by exact Us (by rw [XA]; omega) (by rw [XA]; omega))
     refine Z0 ?_; refine JD ?_; refine X0 ?_; refine X0 ?_; refine JR ?_; refine Z1 ?_; refine Z2 ?_; refine JD ?_; refine JF ?_; refine X3 ?_; refine X0 ?_; refine X5 ?_; refine X0 ?_
     refine JR ?_; refine Z1 ?_; refine Zu ?_; refine Z1 ?_; refine Zl ?_; refine Zl ?_; refine Zn ?_; refine Z0 ?_; refine JD ?_; refine JF ?_; refine X0 ?_; refine JR ?_; refine Z1 ?_; refine Zp ?_; refine Z1 ?_
     refine Zl ?_; refine Zl ?_; refine Zn ?_; refine Z0 ?_; refine JD ?_; refine JF ?_; refine X3 ?_; refine X0 ?_; refine JR ?_; refine Z1 ?_; refine Z1 ?_; refine Z1 ?_; refine Zb ?_; refine Zb ?_; refine Z0 ?_
     refine Z0 ?_; refine Z0 ?_; refine JD ?_
     exact X1 ⟨_, X9 5 (y := ai ((k : Int) + i + 1)) (AVal.le_of_eq (by refine Eq.trans (b := ai _) rfl ?_; simp)), ⟨rfl, rfl, rfl, trivial⟩, X2 _⟩
 ·repeat first | refine X0 ?_ | (refine JR ?_; (repeat first | refine Z1 ?_ | refine Z0 ?_ | refine Zd ?_ | refine Z8 ?_ | refine Zp ?_ | refine Zn ?_ | refine ZT ?_); refine JD ?_) | refine JF ?_ | refine X5 ?_ | refine X3 ?_
  refine XR (fun i : Nat => big l i ∧ i ≤ 10 ∧ i ≤ l.length) (fun i => ⟨72, [(1, ai k), (7, .d (Xh (l.take 10))), (8, UO (XP l i)), (31, .d (Xh (l.take 10))), (32, ai (l.take 10).length), (33, ai i)], []⟩) (fun i => 10 - i) 0 ⟨fun j hj => by omega, by omega, by omega⟩
   (Xc rfl ⟨JL, (by refine AVal.le_of_eq ?_; refine Eq.trans (b := AVal.d (.sl 1 (((b.map Xa).take (b.map Xa).length).drop k))) rfl ?_; rw [hE2 hbig]), JL, (by refine AVal.le_of_eq ?_; refine Eq.trans (b := AVal.d (.sl 1 (((b.map Xa).take (b.map Xa).length).drop k))) rfl ?_; rw [hE2 hbig]), (by refine AVal.le_of_eq ?_; refine Eq.trans (b := ai (((((b.map Xa).take (b.map Xa).length).drop k)).length : Nat)) rfl ?_; rw [hE2 hbig, List.length_map]), JL, trivial⟩ trivial) ?_
  rintro i ⟨hbg, hi10, hil⟩
  by_cases him : i = (l.take 10).length
  ·have hmm : i = min 10 l.length := by rw [him]; simp
   have hm : XX l = i := X22 hbg hmm
   by_cases e10 : (l.take 10).length = 10
   ·have hv : Xw b k = (0, 0, 4) := by rw [hnum]; simp only [hm]; rw [if_pos (by omega)]
    rw [show XM b k = (0, 0, 4) by unfold XM; rw [hv]; rfl]
    refine X0 ?_; refine JR ?_; refine Z8 ?_; refine JD ?_; refine X0 ?_; refine JF ?_; refine Xv ?_; refine X0 ?_; refine X0 ?_; refine JR ?_; refine Z1 ?_; refine Zd ?_; refine Zu ?_; refine JD ?_
    refine JT ?_; refine X0 ?_; refine JR ?_; refine Z0 ?_; refine Z0 ?_; refine Z0 ?_; refine JD ?_
    exact X1 ⟨_, St.le_refl _, ⟨rfl, rfl, rfl, trivial⟩, X2 _⟩
   ·have hne : ¬ (i = 10) := by rw [him]; exact e10
    have hv : Xw b k = (0, 0, 3) := by rw [hnum]; simp only [hm]; rw [if_neg hne, if_pos (by omega)]
    rw [show XM b k = (0, 0, 3) by unfold XM; rw [hv]; rfl]
    refine X0 ?_; refine JR ?_; refine Z8 ?_; refine JD ?_; refine X0 ?_; refine JF ?_; refine Xv ?_; refine X0 ?_; refine X0 ?_; refine JR ?_; refine Z1 ?_; refine Zd ?_; refine Zu ?_; refine JD ?_
    refine JF ?_; refine X3 ?_; refine X0 ?_; refine JR ?_; refine Z0 ?_; refine Z0 ?_; refine Z0 ?_; refine JD ?_
    exact X1 ⟨_, St.le_refl _, ⟨rfl, rfl, rfl, trivial⟩, X2 _⟩
  have hlt : i < 10 ∧ i < l.length := by rw [List.length_take] at him; omega
  have hlm : i < (l.take 10).length := by rw [List.length_take]; omega
  obtain ⟨c, hc⟩ := XT (l := l) (k := i) (by omega)
  have hcm : (l.take 10)[i]? = some c := by rw [List.getElem?_take_of_lt hlt.1]; exact hc
  have hc8 := c.toNat_lt
  have hacc := X1o l i
  have hacc1 := X1o l (i + 1)
  have hsh : c.toNat % 128 * 2 ^ (7 * i) % 2 ^ IntKind.u64.bits = c.toNat % 128 * 2 ^ (7 * i) % 18446744073709551616 := rfl
  have hst : XP l i ||| c.toNat % 128 * 2 ^ (7 * i) % 18446744073709551616 = XP l (i + 1) := by simp only [XP, hc, Option.getD_some]
  have hq : c.toNat % 128 * 2 ^ (7 * i) % 18446744073709551616 < 18446744073709551616 := Nat.mod_lt _ (by omega)
  by_cases hge : 128 ≤ c.toNat
  ·refine X0 ?_; refine JR ?_; refine Z8 ?_; refine JD ?_; refine X0 ?_; refine JT ?_; refine X3 ?_; refine X0 ?_; refine X5 ?_; refine X0 ?_; refine JR ?_; refine Z1 ?_; refine ZI ?_
   refine ZK ?_; refine Z0 ?_; refine Z0 ?_; refine JD ?_; refine X0 ?_; refine JR ?_; refine Z1 ?_; refine Z1 ?_
   refine Z4 (op := .and) (r' := n8 (c.toNat % 128)) (u := n8 c.toNat) (v := n8 127) ?_ (hr' := by exact congrArg n8 (UA _)) (hr := by exact Uc (by rw [Yf]; omega) (by rw [Yf]; omega))
   refine Z3 (u := n8 (c.toNat % 128)) (r := n64 (c.toNat % 128)) ?_ (hr := by exact Yi rfl rfl (by rw [XA]; omega)); refine Z1 ?_
   refine Z7 (op := .mul) (r' := ni (7 * i)) (u := ni 7) (v := ni i) ?_ (hr := by exact YO (by rw [XL]; omega))
   refine Z4 (op := .shl) (r' := n64 (c.toNat % 128 * 2 ^ (7 * i) % 18446744073709551616)) (u := n64 (c.toNat % 128)) (v := ni (7 * i)) ?_ (hr' := by exact congrArg n64 hsh) (hr := by exact Ue rfl (by show 7 * i ≤ 64; omega))
   refine Z4 (op := .or) (r' := n64 (XP l (i + 1))) (u := n64 (XP l i)) (v := n64 (c.toNat % 128 * 2 ^ (7 * i) % 18446744073709551616)) ?_ (hr' := by exact congrArg n64 hst) (hr := by exact Us (by rw [XA]; omega) (by rw [XA]; omega))
   refine Z0 ?_; refine JD ?_; refine X0 ?_; refine X0 ?_; refine JR ?_; refine Z1 ?_; refine Z2 ?_; refine JD ?_; refine JT ?_; refine Xv ?_; refine JR ?_; refine Zb ?_; refine Z1 ?_; refine JD ?_
   exact ⟨i + 1, ⟨X3h hbg hc hge, by omega, by omega⟩, by omega, Xc rfl ⟨JL, JL, JL, JL, JL, JL, trivial⟩ trivial⟩
  have hm : XX l = i := X1A hbg hc (by omega) hlt.1
  by_cases h9 : i = 9
  ·by_cases hc1 : 1 < c.toNat
   ·have hv : Xw b k = (0, 0, 4) := by rw [hnum]; simp only [hm, hc, Option.getD_some]; rw [if_neg (by omega), if_neg (by omega), if_pos ⟨h9, hc1⟩]
    rw [show XM b k = (0, 0, 4) by unfold XM; rw [hv]; rfl]
    refine X0 ?_; refine JR ?_; refine Z8 ?_; refine JD ?_; refine X0 ?_; refine JT ?_; refine X3 ?_; refine X0 ?_; refine X5 ?_; refine X0 ?_; refine JR ?_; refine Z1 ?_; refine ZI ?_
    refine ZK ?_; refine Z0 ?_; refine Z0 ?_; refine JD ?_; refine X0 ?_; refine JR ?_; refine Z1 ?_; refine Z1 ?_
    refine Z4 (op := .and) (r' := n8 (c.toNat % 128)) (u := n8 c.toNat) (v := n8 127) ?_ (hr' := by exact congrArg n8 (UA _)) (hr := by exact Uc (by rw [Yf]; omega) (by rw [Yf]; omega))
    refine Z3 (u := n8 (c.toNat % 128)) (r := n64 (c.toNat % 128)) ?_ (hr := by exact Yi rfl rfl (by rw [XA]; omega)); refine Z1 ?_
    refine Z7 (op := .mul) (r' := ni (7 * i)) (u := ni 7) (v := ni i) ?_ (hr := by exact YO (by rw [XL]; omega))
    refine Z4 (op := .shl) (r' := n64 (c.toNat % 128 * 2 ^ (7 * i) % 18446744073709551616)) (u := n64 (c.toNat % 128)) (v := ni (7 * i)) ?_ (hr' := by exact congrArg n64 hsh) (hr := by exact Ue rfl (by show 7 * i ≤ 64; omega))
    refine Z4 (op := .or) (r' := n64 (XP l (i + 1))) (u := n64 (XP l i)) (v := n64 (c.toNat % 128 * 2 ^ (7 * i) % 18446744073709551616)) ?_ (hr' := by exact congrArg n64 hst) (hr := by exact Us (by rw [XA]; omega) (by rw [XA]; omega))
    refine Z0 ?_; refine JD ?_; refine X0 ?_; refine X0 ?_; refine JR ?_; refine Z1 ?_; refine Z2 ?_; refine JD ?_; refine JF ?_; refine X3 ?_; refine X0 ?_; refine X5 ?_; refine X0 ?_
    refine JR ?_; refine Z1 ?_; refine Zu ?_; refine Z1 ?_; refine Z1 ?_; refine Zp ?_; refine Zk ?_; refine Z0 ?_; refine JD ?_; refine JT ?_; refine X0 ?_; refine JR ?_; refine Z0 ?_; refine Z0 ?_; refine Z0 ?_
    refine JD ?_
    exact X1 ⟨_, St.le_refl _, ⟨rfl, rfl, rfl, trivial⟩, X2 _⟩
   ·have hval : XP l (i + 1) = Xt (l.take (i + 1)) := by subst h9; exact X7x l hc (by omega)
    by_cases hz : 0 < i ∧ c = 0
    ·have hv : Xw b k = (Xt (l.take (i + 1)), (k : Int) + i + 1, 0) := by rw [hnum]; simp only [hm, hc, Option.getD_some]; rw [if_neg (by omega), if_neg (by omega), if_neg (by omega)]
     rw [show XM b k = (Xt (l.take (i + 1)), 0, 2) by
      unfold XM; rw [hv, hpad]; simp only [hm, hc, Option.getD_some]
      simp [hz.1, hz.2]]
     obtain ⟨hz1, hz2⟩ := hz
     have hz3 : c.toNat = 0 := by rw [hz2]; rfl
     rw [← hval]
     refine X0 ?_; refine JR ?_; refine Z8 ?_; refine JD ?_; refine X0 ?_; refine JT ?_; refine X3 ?_; refine X0 ?_; refine X5 ?_; refine X0 ?_; refine JR ?_; refine Z1 ?_; refine ZI ?_
     refine ZK ?_; refine Z0 ?_; refine Z0 ?_; refine JD ?_; refine X0 ?_; refine JR ?_; refine Z1 ?_; refine Z1 ?_
     refine Z4 (op := .and) (r' := n8 (c.toNat % 128)) (u := n8 c.toNat) (v := n8 127) ?_ (hr' := by exact congrArg n8 (UA _)) (hr := by exact Uc (by rw [Yf]; omega) (by rw [Yf]; omega))
     refine Z3 (u := n8 (c.toNat % 128)) (r := n64 (c.toNat % 128)) ?_ (hr := by exact Yi rfl rfl (by rw [XA]; omega)); refine Z1 ?_
     refine Z7 (op := .mul) (r' := ni (7 * i)) (u := ni 7) (v := ni i) ?_ (hr := by exact YO (by rw [XL]; omega))
     refine Z4 (op := .shl) (r' := n64 (c.toNat % 128 * 2 ^ (7 * i) % 18446744073709551616)) (u := n64 (c.toNat % 128)) (v := ni (7 * i)) ?_ (hr' := by exact congrArg n64 hsh) (hr := by exact Ue rfl (by show 7 * i ≤ 64; omega))
     refine Z4 (op := .or) (r' := n64 (XP l (i + 1))) (u := n64 (XP l i)) (v := n64 (c.toNat % 128 * 2 ^ (7 * i) % 18446744073709551616)) ?_ (hr' := by exact congrArg n64 hst) (hr := by exact Us (by rw [XA]; omega) (by rw [XA]; omega))
     refine Z0 ?_; refine JD ?_; refine X0 ?_; refine X0 ?_; refine JR ?_; refine Z1 ?_; refine Z2 ?_; refine JD ?_; refine JF ?_; refine X3 ?_; refine X0 ?_; refine X5 ?_; refine X0 ?_
     refine JR ?_; refine Z1 ?_; refine Zu ?_; refine Z1 ?_; refine Z1 ?_; refine Zp ?_; refine Zk ?_; refine Z0 ?_; refine JD ?_; refine JF ?_; refine X0 ?_; refine JR ?_; refine Z1 ?_; refine Zp ?_; refine Z1 ?_
     refine Z1 ?_; refine Zu ?_; refine Zk ?_; refine Z0 ?_; refine JD ?_; refine JT ?_; refine X0 ?_; refine JR ?_; refine Z1 ?_; refine Z0 ?_; refine Z0 ?_; refine Z0 ?_; refine JD ?_
     exact X1 ⟨_, St.le_refl _, ⟨rfl, rfl, rfl, trivial⟩, X2 _⟩
    ·have hz' : ¬ (0 < i ∧ c.toNat = 0) := fun h => hz ⟨h.1, UInt8.toNat_inj.1 h.2⟩
     have hv : Xw b k = (Xt (l.take (i + 1)), (k : Int) + i + 1, 0) := by rw [hnum]; simp only [hm, hc, Option.getD_some]; rw [if_neg (by omega), if_neg (by omega), if_neg (by omega)]
     have hpf : Yr b k = false := by
      rw [hpad]; simp only [hm, hc, Option.getD_some]
      rw [Bool.and_eq_false_iff, decide_eq_false_iff_not, decide_eq_false_iff_not]
      by_cases h0 : 0 < i
      ·exact .inr fun h2 => hz ⟨h0, h2⟩
      ·exact .inl h0
     rw [show XM b k = (Xt (l.take (i + 1)), (k : Int) + i + 1, 0) by unfold XM; rw [hv, hpf]; rfl]
     rw [← hval]
     by_cases hi0 : 0 < i
     ·have hcz : ¬ (c.toNat = 0) := fun h => hz' ⟨hi0, h⟩
      refine X0 ?_; refine JR ?_; refine Z8 ?_; refine JD ?_; refine X0 ?_; refine JT ?_; refine X3 ?_; refine X0 ?_; refine X5 ?_; refine X0 ?_; refine JR ?_; refine Z1 ?_; refine ZI ?_
      refine ZK ?_; refine Z0 ?_; refine Z0 ?_; refine JD ?_; refine X0 ?_; refine JR ?_; refine Z1 ?_; refine Z1 ?_
      refine Z4 (op := .and) (r' := n8 (c.toNat % 128)) (u := n8 c.toNat) (v := n8 127) ?_ (hr' := by exact congrArg n8 (UA _)) (hr := by exact Uc (by rw [Yf]; omega) (by rw [Yf]; omega))
      refine Z3 (u := n8 (c.toNat % 128)) (r := n64 (c.toNat % 128)) ?_ (hr := by exact Yi rfl rfl (by rw [XA]; omega)); refine Z1 ?_
      refine Z7 (op := .mul) (r' := ni (7 * i)) (u := ni 7) (v := ni i) ?_ (hr := by exact YO (by rw [XL]; omega))
      refine Z4 (op := .shl) (r' := n64 (c.toNat % 128 * 2 ^ (7 * i) % 18446744073709551616)) (u := n64 (c.toNat % 128)) (v := ni (7 * i)) ?_ (hr' := by exact congrArg n64 hsh) (hr := by exact Ue rfl (by show 7 * i ≤ 64; omega))
      refine Z4 (op := .or) (r' := n64 (XP l (i + 1))) (u := n64 (XP l i)) (v := n64 (c.toNat % 128 * 2 ^ (7 * i) % 18446744073709551616)) ?_ (hr' := by exact congrArg n64 hst) (hr := by exact Us (by rw [XA]; omega) (by rw [XA]; omega))
      refine Z0 ?_; refine JD ?_; refine X0 ?_; refine X0 ?_; refine JR ?_; refine Z1 ?_; refine Z2 ?_; refine JD ?_; refine JF ?_; refine X3 ?_; refine X0 ?_; refine X5 ?_; refine X0 ?_
      refine JR ?_; refine Z1 ?_; refine Zu ?_; refine Z1 ?_; refine Z1 ?_; refine Zp ?_; refine Zk ?_; refine Z0 ?_; refine JD ?_; refine JF ?_; refine X0 ?_; refine JR ?_; refine Z1 ?_; refine Zp ?_; refine Z1 ?_
      refine Z1 ?_; refine Zu ?_; refine Zk ?_; refine Z0 ?_; refine JD ?_; refine JF ?_; refine X3 ?_; refine X0 ?_; refine JR ?_; refine Z1 ?_; refine Z1 ?_; refine Z1 ?_; refine Zb ?_; refine Zb ?_; refine Z0 ?_
      refine Z0 ?_; refine Z0 ?_; refine JD ?_
      exact X1 ⟨_, X9 5 (y := ai ((k : Int) + i + 1)) (AVal.le_of_eq (by refine Eq.trans (b := ai _) rfl ?_; simp)), ⟨rfl, rfl, rfl, trivial⟩, X2 _⟩
     ·exact absurd (by omega) hi0
  ·have hval : XP l (i + 1) = Xt (l.take (i + 1)) := X1q l (i + 1) (by omega) (by omega)
   by_cases hz : 0 < i ∧ c = 0
   ·have hv : Xw b k = (Xt (l.take (i + 1)), (k : Int) + i + 1, 0) := by rw [hnum]; simp only [hm, hc, Option.getD_some]; rw [if_neg (by omega), if_neg (by omega), if_neg (by omega)]
    rw [show XM b k = (Xt (l.take (i + 1)), 0, 2) by
     unfold XM; rw [hv, hpad]; simp only [hm, hc, Option.getD_some]
     simp [hz.1, hz.2]]
    obtain ⟨hz1, hz2⟩ := hz
    have hz3 : c.toNat = 0 := by rw [hz2]; rfl
    rw [← hval]
    refine X0 ?_; refine JR ?_; refine Z8 ?_; refine JD ?_; refine X0 ?_; refine JT ?_; refine X3 ?_; refine X0 ?_; refine X5 ?_; refine X0 ?_; refine JR ?_; refine Z1 ?_; refine ZI ?_
    refine ZK ?_; refine Z0 ?_; refine Z0 ?_; refine JD ?_; refine X0 ?_; refine JR ?_; refine Z1 ?_; refine Z1 ?_
    refine Z4 (op := .and) (r' := n8 (c.toNat % 128)) (u := n8 c.toNat) (v := n8 127) ?_ (hr' := by exact congrArg n8 (UA _)) (hr := by exact Uc (by rw [Yf]; omega) (by rw [Yf]; omega))
    refine Z3 (u := n8 (c.toNat % 128)) (r := n64 (c.toNat % 128)) ?_ (hr := by exact Yi rfl rfl (by rw [XA]; omega)); refine Z1 ?_
    refine Z7 (op := .mul) (r' := ni (7 * i)) (u := ni 7) (v := ni i) ?_ (hr := by exact YO (by rw [XL]; omega))
    refine Z4 (op := .shl) (r' := n64 (c.toNat % 128 * 2 ^ (7 * i) % 18446744073709551616)) (u := n64 (c.toNat % 128)) (v := ni (7 * i)) ?_ (hr' := by exact congrArg n64 hsh) (hr := by exact Ue rfl (by show 7 * i ≤ 64; omega))
    refine Z4 (op := .or) (r' := n64 (XP l (i + 1))) (u := n64 (XP l i)) (v := n64 (c.toNat % 128 * 2 ^ (7 * i) % 18446744073709551616)) ?_ (hr' := by exact congrArg n64 hst) (hr := by exact Us (by rw [XA]; omega) (by rw [XA]; omega))
    refine Z0 ?_; refine JD ?_; refine X0 ?_; refine X0 ?_; refine JR ?_; refine Z1 ?_; refine Z2 ?_; refine JD ?_; refine JF ?_; refine X3 ?_; refine X0 ?_; refine X5 ?_; refine X0 ?_
    refine JR ?_; refine Z1 ?_; refine Zu ?_; refine Z1 ?_; refine Zl ?_; refine Zl ?_; refine Zn ?_; refine Z0 ?_; refine JD ?_; refine JF ?_; refine X0 ?_; refine JR ?_; refine Z1 ?_; refine Zp ?_; refine Z1 ?_
    refine Z1 ?_; refine Zu ?_; refine Zk ?_; refine Z0 ?_; refine JD ?_; refine JT ?_; refine X0 ?_; refine JR ?_; refine Z1 ?_; refine Z0 ?_; refine Z0 ?_; refine Z0 ?_; refine JD ?_
    exact X1 ⟨_, St.le_refl _, ⟨rfl, rfl, rfl, trivial⟩, X2 _⟩
   ·have hz' : ¬ (0 < i ∧ c.toNat = 0) := fun h => hz ⟨h.1, UInt8.toNat_inj.1 h.2⟩
    have hv : Xw b k = (Xt (l.take (i + 1)), (k : Int) + i + 1, 0) := by rw [hnum]; simp only [hm, hc, Option.getD_some]; rw [if_neg (by omega), if_neg (by omega), if_neg (by omega)]
    have hpf : Yr b k = false := by
     rw [hpad]; simp only [hm, hc, Option.getD_some]
     rw [Bool.and_eq_false_iff, decide_eq_false_iff_not, decide_eq_false_iff_not]
     by_cases h0 : 0 < i
     ·exact .inr fun h2 => hz ⟨h0, h2⟩
     ·exact .inl h0
    rw [show XM b k = (Xt (l.take (i + 1)), (k : Int) + i + 1, 0) by unfold XM; rw [hv, hpf]; rfl]
    rw [← hval]
    by_cases hi0 : 0 < i
    ·have hcz : ¬ (c.toNat = 0) := fun h => hz' ⟨hi0, h⟩
     refine X0 ?_; refine JR ?_; refine Z8 ?_; refine JD ?_; refine X0 ?_; refine JT ?_; refine X3 ?_; refine X0 ?_; refine X5 ?_; refine X0 ?_; refine JR ?_; refine Z1 ?_; refine ZI ?_
     refine ZK ?_; refine Z0 ?_; refine Z0 ?_; refine JD ?_; refine X0 ?_; refine JR ?_; refine Z1 ?_; refine Z1 ?_
     refine Z4 (op := .and) (r' := n8 (c.toNat % 128)) (u := n8 c.toNat) (v := n8 127) ?_ (hr' := by exact congrArg n8 (UA _)) (hr := by exact Uc (by rw [Yf]; omega) (by rw [Yf]; omega))
     refine Z3 (u := n8 (c.toNat % 128)) (r := n64 (c.toNat % 128)) ?_ (hr := by exact Yi rfl rfl (by rw [XA]; omega)); refine Z1 ?_
     refine Z7 (op := .mul) (r' := ni (7 * i)) (u := ni 7) (v := ni i) ?_ (hr := by exact YO (by rw [XL]; omega))
     refine Z4 (op := .shl) (r' := n64 (c.toNat % 128 * 2 ^ (7 * i) % 18446744073709551616)) (u := n64 (c.toNat % 128)) (v := ni (7 * i)) ?_ (hr' := by exact congrArg n64 hsh) (hr := by exact Ue rfl (by show 7 * i ≤ 64; omega))
     refine Z4 (op := .or) (r' := n64 (XP l (i + 1))) (u := n64 (XP l i)) (v := n64 (c.toNat % 128 * 2 ^ (7 * i) % 18446744073709551616)) ?_ (hr' := by exact congrArg n64 hst) (hr := by exact Us (by rw [XA]; omega) (by rw [XA]; omega))
     refine Z0 ?_; refine JD ?_; refine X0 ?_; refine X0 ?_; refine JR ?_; refine Z1 ?_; refine Z2 ?_; refine JD ?_; refine JF ?_; refine X3 ?_; refine X0 ?_; refine X5 ?_; refine X0 ?_
     refine JR ?_; refine Z1 ?_; refine Zu ?_; refine Z1 ?_; refine Zl ?_; refine Zl ?_; refine Zn ?_; refine Z0 ?_; refine JD ?_; refine JF ?_; refine X0 ?_; refine JR ?_; refine Z1 ?_; refine Zp ?_; refine Z1 ?_
     refine Z1 ?_; refine Zu ?_; refine Zk ?_; refine Z0 ?_; refine JD ?_; refine JF ?_; refine X3 ?_; refine X0 ?_; refine JR ?_; refine Z1 ?_; refine Z1 ?_; refine Z1 ?_; refine Zb ?_; refine Zb ?_; refine Z0 ?_
     refine Z0 ?_; refine Z0 ?_; refine JD ?_
     exact X1 ⟨_, X9 5 (y := ai ((k : Int) + i + 1)) (AVal.le_of_eq (by refine Eq.trans (b := ai _) rfl ?_; simp)), ⟨rfl, rfl, rfl, trivial⟩, X2 _⟩
    ·refine X0 ?_; refine JR ?_; refine Z8 ?_; refine JD ?_; refine X0 ?_; refine JT ?_; refine X3 ?_; refine X0 ?_; refine X5 ?_; refine X0 ?_; refine JR ?_; refine Z1 ?_; refine ZI ?_
     refine ZK ?_; refine Z0 ?_; refine Z0 ?_; refine JD ?_; refine X0 ?_; refine JR ?_; refine Z1 ?_; refine Z1 ?_
     refine Z4 (op := .and) (r' := n8 (c.toNat % 128)) (u := n8 c.toNat) (v := n8 127) ?_ (hr' := by exact congrArg n8 (UA _)) (hr := by exact Uc (by rw [Yf]; omega) (by rw [Yf]; omega))
     refine Z3 (u := n8 (c.toNat % 128)) (r := n64 (c.toNat % 128)) ?_ (hr := by exact Yi rfl rfl (by rw [XA]; omega)); refine Z1 ?_
     refine Z7 (op := .mul) (r' := ni (7 * i)) (u := ni 7) (v := ni i) ?_ (hr := by exact YO (by rw [XL]; omega))
     refine Z4 (op := .shl) (r' := n64 (c.toNat % 128 * 2 ^ (7 * i) % 18446744073709551616)) (u := n64 (c.toNat % 128)) (v := ni (7 * i)) ?_ (hr' := by exact congrArg n64 hsh) (hr := by exact Ue rfl (by show 7 * i ≤ 64; omega))
     refine Z4 (op := .or) (r' := n64 (XP l (i + 1))) (u := n64 (XP l i)) (v := n64 (c.toNat % 128 * 2 ^ (7 * i) % 18446744073709551616)) ?_ (hr' := by exact congrArg n64 hst) (hr := by exact Us (by rw [XA]; omega) (by rw [XA]; omega))
     refine Z0 ?_; refine JD ?_; refine X0 ?_; refine X0 ?_; refine JR ?_; refine Z1 ?_; refine Z2 ?_; refine JD ?_; refine JF ?_; refine X3 ?_; refine X0 ?_; refine X5 ?_; refine X0 ?_
     refine JR ?_; refine Z1 ?_; refine Zu ?_; refine Z1 ?_; refine Zl ?_; refine Zl ?_; refine Zn ?_; refine Z0 ?_; refine JD ?_; refine JF ?_; refine X0 ?_; refine JR ?_; refine Z1 ?_; refine Zp ?_; refine Z1 ?_
     refine Zl ?_; refine Zl ?_; refine Zn ?_; refine Z0 ?_; refine JD ?_; refine JF ?_; refine X3 ?_; refine X0 ?_; refine JR ?_; refine Z1 ?_; refine Z1 ?_; refine Z1 ?_; refine Zb ?_; refine Zb ?_; refine Z0 ?_
     refine Z0 ?_; refine Z0 ?_; refine JD ?_
     exact X1 ⟨_, X9 5 (y := ai ((k : Int) + i + 1)) (AVal.le_of_eq (by refine Eq.trans (b := ai _) rfl ?_; simp)), ⟨rfl, rfl, rfl, trivial⟩, X2 _⟩
end Go.Fw
namespace Go.Fw
open Go Go.Proofs
set_option maxRecDepth 100000
set_option linter.unusedVariables false
set_option linter.unusedSimpArgs false
theorem X3z {b : List UInt8} {a : Int} (h : (Xw b a).2.2 = 0) : ∃ k : Nat, a = k ∧ k ≤ b.length ∧ XX (b.drop k) < (b.drop k).length ∧ XX (b.drop k) < 10 ∧ (Xw b a).2.1 = ((k + XX (b.drop k) + 1 : Nat) : Int) := by
 unfold Xw at h ⊢
 split at h
 ·simp at h
 rename_i ha
 have hm : XX (b.drop a.toNat) ≤ 10 := by
  unfold XX
  have := (List.takeWhile_sublist (l := (b.drop a.toNat).take 10) (fun b => decide (128 ≤ b.toNat))).length_le
  simp at this ⊢; omega
 simp only at h ⊢
 split at h
 ·simp at h
 rename_i h10
 split at h
 ·simp at h
 rename_i hle
 split at h
 ·simp at h
 rename_i h9
 have ha' : ¬(a < 0) ∧ ¬((b.length : Int) < a) := by simpa using ha
 refine ⟨a.toNat, by omega, by omega, by omega, by omega, ?_⟩
 rw [if_neg ha, if_neg h10, if_neg hle, if_neg h9]
 simp only; omega
theorem X3l {b : List UInt8} {a : Int} : (Xw b a).1 < 18446744073709551616 := by
 by_cases h : (Xw b a).2.2 = 0
 ·by_cases hp : Yr b a = false
  ·exact (X3j (b := b) (a := a) (e := (Xw b a).2.1) (u := (Xw b a).1) (by rw [← h]) hp).2.2.2.2
  ·obtain ⟨k, rfl, hk, h1, h2, _⟩ := X3z h
   have hp : Yr b (k : Int) = true := by simpa using hp
   unfold Yr at hp
   simp only [Int.toNat_natCast, Bool.and_eq_true, decide_eq_true_eq] at hp
   obtain ⟨c, hc⟩ := XT (l := b.drop k) h1
   rw [hc] at hp
   simp only [Option.getD_some] at hp
   have hc0 : c.toNat = 0 := by rw [hp.2]; rfl
   unfold Xw
   rw [if_neg (by omega)]
   simp only [Int.toNat_natCast]
   rw [if_neg (by omega), if_neg (by omega)]
   split
   ·simp
   ·simp only
    rw [X0r _ _ c hc, hc0]
    have h3 := X1i (b.drop k) (XX (b.drop k))
    have h4 : (2 : Nat) ^ (7 * XX (b.drop k)) ≤ 2 ^ 63 := Nat.pow_le_pow_right (by omega) (by omega)
    omega
 ·unfold Xw at h ⊢
  split at h
  ·rename_i h1; rw [if_pos h1]; simp
  rename_i h1; rw [if_neg h1]
  simp only at h ⊢
  split at h
  ·rename_i h2; rw [if_pos h2]; simp
  rename_i h2; rw [if_neg h2]
  split at h
  ·rename_i h3; rw [if_pos h3]; simp
  rename_i h3; rw [if_neg h3]
  split at h
  ·rename_i h4; rw [if_pos h4]; simp
  ·simp at h
theorem X5g {b : List UInt8} {a : Int} : (XM b a).1 < 18446744073709551616 := by
 unfold XM
 simp only
 split
 ·simp
 ·split <;> exact X3l
theorem X29 {b : List UInt8} {a : Int} : Xg b a = if 9223372036854775807 < (XM b a).1 then (0, 0, 4) else if (XM b a).2.2 ≠ 0 then (0, 0, (XM b a).2.2) else (((XM b a).1 : Int), (XM b a).2.1, 0) := by
 unfold Xg XM
 simp only
 by_cases h : (Xw b a).2.2 = 0
 ·simp only [h, ne_eq, not_true_eq_false, if_false]
  cases hp : Yr b a with
  | true => simp only [if_true]; simp
  | false => simp only [Bool.false_eq_true, if_false, h]; simp
 ·simp [h]
theorem Xbb {b : List UInt8} {a : Int} : Xl b a = if (XM b a).2.2 ≠ 0 then (0, 0, (XM b a).2.2) else (zag (XM b a).1, (XM b a).2.1, 0) := by
 unfold Xl XM
 simp only
 by_cases h : (Xw b a).2.2 = 0
 ·simp only [h, ne_eq, not_true_eq_false, if_false]
  cases hp : Yr b a with
  | true => simp
  | false => simp [h]
 ·simp [h]
theorem X6y (b : List UInt8) (a : Int) (h : (Xw b a).2.2 = 0) (hb : b.length ≤ 281474976710656) : Con Tryz.prog 98 [] [.d (Xh b), ai a, ai (Xw b a).2.1] [] (ab (!Yr b a)) := by
 refine X8 (xs := [ab (!Yr b a)]) Tryz.func98 rfl Tryz.ntmps98 rfl rfl rfl (fun E => ?_)
 obtain ⟨k, rfl, hk, h1, h2, he⟩ := X3z h
 have hll : (b.drop k).length = b.length - k := List.length_drop
 obtain ⟨c, hc⟩ := XT (l := b.drop k) h1
 have hbc : b[k + XX (b.drop k)]? = some c := X2B hc
 have hp : Yr b (k : Int) = (decide (0 < XX (b.drop k)) && decide (c = 0)) := by
  show (decide (0 < XX (b.drop ((k : Int)).toNat)) && decide (((b.drop ((k : Int)).toNat)[XX (b.drop ((k : Int)).toNat)]?).getD 0 = 0)) = _
  rw [Int.toNat_natCast, hc]; rfl
 rw [he, hp]
 generalize XX (b.drop k) = m at *
 have ee : Value.int .i64 (((k + m + 1 : Nat) : Int) - 1) = ni (k + m) := by show Value.int .i64 _ = Value.int .i64 _; congr 1; omega
 by_cases h0 : m = 0
 ·subst h0
  refine X0 ?_; refine JR ?_; refine Z0 ?_; refine JD ?_; refine X0 ?_; refine JR ?_; refine Z1 ?_; refine Z1 ?_; refine Zb ?_; refine Zu ?_; refine Z1 ?_; refine Zl ?_; refine Zl ?_; refine Zl ?_; refine Zl ?_
  refine Zl ?_; refine Zl ?_; refine Zk ?_; refine Z0 ?_; refine JD ?_
  exact X1 ⟨_, St.le_refl _, ⟨rfl, trivial⟩, X2 _⟩
 ·have h1' : ¬ (((k + m + 1 : Nat) : Int) = k + 1) := by omega
  have hm : 0 < m := by omega
  by_cases hz : c = 0
  ·have hz3 : c.toNat = 0 := by rw [hz]; rfl
   rw [show (!(decide (0 < m) && decide (c = 0))) = false by simp [hm, hz]]
   refine X0 ?_; refine JR ?_; refine Z0 ?_; refine JD ?_; refine X0 ?_; refine JR ?_; refine Z1 ?_; refine Z1 ?_; refine Zb ?_; refine Zu ?_; refine Z1 ?_; refine Z1 ?_; refine Z1 ?_
   refine Z4 (op := .sub) (r' := ni (k + m)) (u := .int .i64 ((k + m + 1 : Nat) : Int)) (v := .int .i64 1) ?_ (hr' := by exact ee) (hr := by exact Vw (by unfold Uw; omega)); refine ZI ?_; refine ZK ?_; refine Zs ?_
   refine Zn ?_; refine Z0 ?_; refine JD ?_
   exact X1 ⟨_, X9 6 (y := ab false) (AVal.le_of_eq (by refine Eq.trans (b := ab (decide ((c.toNat : Int) ≠ 0))) rfl ?_; simp [hz3])), ⟨rfl, trivial⟩, X2 _⟩
  ·have hz3 : ¬ (c.toNat = 0) := fun h => hz (UInt8.toNat_inj.1 h)
   rw [show (!(decide (0 < m) && decide (c = 0))) = true by simp [hm, hz]]
   refine X0 ?_; refine JR ?_; refine Z0 ?_; refine JD ?_; refine X0 ?_; refine JR ?_; refine Z1 ?_; refine Z1 ?_; refine Zb ?_; refine Zu ?_; refine Z1 ?_; refine Z1 ?_; refine Z1 ?_
   refine Z4 (op := .sub) (r' := ni (k + m)) (u := .int .i64 ((k + m + 1 : Nat) : Int)) (v := .int .i64 1) ?_ (hr' := by exact ee) (hr := by exact Vw (by unfold Uw; omega)); refine ZI ?_; refine ZK ?_; refine Zs ?_
   refine Zn ?_; refine Z0 ?_; refine JD ?_
   exact X1 ⟨_, X9 6 (y := ab true) (AVal.le_of_eq (by refine Eq.trans (b := ab (decide ((c.toNat : Int) ≠ 0))) rfl ?_; simp [hz3])), ⟨rfl, trivial⟩, X2 _⟩
abbrev aN3 (r : Int × Int × Int) : AVal := .tup [ai r.1, ai r.2.1, ai r.2.2]
theorem X2m (b : List UInt8) (a : Int) (hb : b.length ≤ 281474976710656) : Con Tryz.prog 74 [] [.d (Xh b), ai a] [] (aN3 (Xg b a)) := by
 refine X8 (xs := [ai (Xg b a).1, ai (Xg b a).2.1, ai (Xg b a).2.2]) Tryz.func74 rfl Tryz.ntmps74 rfl rfl rfl (fun E => ?_)
 have hr := X6v b a hb
 have hlt := X5g (b := b) (a := a)
 rw [X29]
 generalize XM b a = r at *
 obtain ⟨u, e, err⟩ := r
 simp only at hlt ⊢
 by_cases h1 : 9223372036854775807 < u
 ·rw [if_pos h1]
  repeat first | refine X0 ?_ | (refine JR ?_; (repeat first | refine Z1 ?_ | refine Z0 ?_ | refine Zp ?_ | refine ZD ?_ | refine Z9 (hcon := hr) ?_); refine JD ?_) | refine JT ?_ | refine X5 ?_
  exact X1 ⟨_, St.le_refl _, ⟨rfl, rfl, rfl, trivial⟩, X2 _⟩
 rw [if_neg h1]
 by_cases h2 : err = 0
 ·rw [if_neg (by simpa using h2)]
  repeat first | refine X0 ?_ | (refine JR ?_; (repeat first | refine Z3 (u := n64 u) (r := ni u) ?_ (hr := by exact Yi rfl rfl (by rw [XL]; omega)) | refine Z1 ?_ | refine Z0 ?_ | refine Zp ?_ | refine Zs ?_ | refine ZD ?_ | refine Z9 (hcon := hr) ?_); refine JD ?_) | refine JF ?_ | refine X5 ?_ | refine X3 ?_
  exact X1 ⟨_, St.le_refl _, ⟨rfl, rfl, rfl, trivial⟩, X2 _⟩
 ·rw [if_pos h2]
  repeat first | refine X0 ?_ | (refine JR ?_; (repeat first | refine Z1 ?_ | refine Z0 ?_ | refine Zp ?_ | refine Zs ?_ | refine ZD ?_ | refine Z9 (hcon := hr) ?_); refine JD ?_) | refine JT ?_ | refine JF ?_ | refine X5 ?_
  exact X1 ⟨_, St.le_refl _, ⟨rfl, rfl, rfl, trivial⟩, X2 _⟩
theorem X4G (b : List UInt8) (a : Int) (hb : b.length ≤ 281474976710656) : Con Tryz.prog 77 [] [.d (Xh b), ai a] [] (aN3 (Xl b a)) := by
 refine X8 (xs := [ai (Xl b a).1, ai (Xl b a).2.1, ai (Xl b a).2.2]) Tryz.func77 rfl Tryz.ntmps77 rfl rfl rfl (fun E => ?_)
 have hr := X6v b a hb
 have hlt := X5g (b := b) (a := a)
 rw [Xbb]
 generalize XM b a = r at *
 obtain ⟨u, e, err⟩ := r
 simp only at hlt ⊢
 by_cases h2 : err = 0
 ·rw [if_neg (by simpa using h2)]
  have hx : ∀ w, (Op.unary .xor (ni (u / 2))).run Tryz.prog w = .ok (.int .i64 (-((u / 2 : Nat) : Int) - 1)) w := fun w => X8m (P := Tryz.prog) (by omega) w
  by_cases hodd : u % 2 = 1
  ·rw [show zag u = -((u / 2 : Nat) : Int) - 1 by unfold zag; rw [if_pos hodd]]
   refine X0 ?_; refine JR ?_; refine Z0 ?_; refine Z0 ?_; refine Z0 ?_; refine JD ?_; refine X0 ?_; refine JR ?_; refine Z1 ?_; refine Z1 ?_; refine Z9 (hcon := hr) ?_; refine Z1 ?_; refine ZD ?_; refine ZD ?_
   refine ZD ?_; refine Z0 ?_; refine Z0 ?_; refine Z0 ?_; refine JD ?_; refine X0 ?_; refine X0 ?_; refine JR ?_; refine Z1 ?_; refine Zs ?_; refine JD ?_; refine JF ?_; refine X3 ?_; refine X0 ?_
   refine JR ?_; refine Z1 ?_; refine Z7 (op := .shr) (r' := n64 (u / 2)) (u := n64 u) (v := n64 1) ?_ (hr := by exact X3v (by decide))
   refine Z3 (u := n64 (u / 2)) (r := ni (u / 2)) ?_ (hr := by exact Yi rfl rfl (by rw [XL]; omega)); refine Z0 ?_; refine JD ?_; refine X0 ?_; refine X0 ?_; refine JR ?_; refine Z1 ?_
   refine Z4 (op := .and) (r' := n64 (u % 2)) (u := n64 u) (v := n64 1) ?_ (hr' := by exact congrArg n64 (Nat.and_one_is_mod u)) (hr := by exact Uc (by rw [XA]; omega) (by rw [XA]; omega)); refine Zu ?_
   refine JD ?_; refine JT ?_; refine JR ?_; refine Z1 ?_; refine Za (u := ni (u / 2)) (r := .int .i64 (-((u / 2 : Nat) : Int) - 1)) ?_ (hr := by exact hx); refine Z0 ?_; refine JD ?_; refine X0 ?_; refine JR ?_
   refine Z1 ?_; refine Z1 ?_; refine Z0 ?_; refine Z0 ?_; refine Z0 ?_; refine JD ?_
   exact X1 ⟨_, St.le_refl _, ⟨rfl, rfl, rfl, trivial⟩, X2 _⟩
  ·rw [show zag u = ((u / 2 : Nat) : Int) by unfold zag; rw [if_neg hodd]]
   refine X0 ?_; refine JR ?_; refine Z0 ?_; refine Z0 ?_; refine Z0 ?_; refine JD ?_; refine X0 ?_; refine JR ?_; refine Z1 ?_; refine Z1 ?_; refine Z9 (hcon := hr) ?_; refine Z1 ?_; refine ZD ?_; refine ZD ?_
   refine ZD ?_; refine Z0 ?_; refine Z0 ?_; refine Z0 ?_; refine JD ?_; refine X0 ?_; refine X0 ?_; refine JR ?_; refine Z1 ?_; refine Zs ?_; refine JD ?_; refine JF ?_; refine X3 ?_; refine X0 ?_
   refine JR ?_; refine Z1 ?_; refine Z7 (op := .shr) (r' := n64 (u / 2)) (u := n64 u) (v := n64 1) ?_ (hr := by exact X3v (by decide))
   refine Z3 (u := n64 (u / 2)) (r := ni (u / 2)) ?_ (hr := by exact Yi rfl rfl (by rw [XL]; omega)); refine Z0 ?_; refine JD ?_; refine X0 ?_; refine X0 ?_; refine JR ?_; refine Z1 ?_
   refine Z4 (op := .and) (r' := n64 (u % 2)) (u := n64 u) (v := n64 1) ?_ (hr' := by exact congrArg n64 (Nat.and_one_is_mod u)) (hr := by exact Uc (by rw [XA]; omega) (by rw [XA]; omega)); refine Zu ?_
   refine JD ?_; refine JF ?_; refine X3 ?_; refine X0 ?_; refine JR ?_; refine Z1 ?_; refine Z1 ?_; refine Z0 ?_; refine Z0 ?_; refine Z0 ?_; refine JD ?_
   exact X1 ⟨_, St.le_refl _, ⟨rfl, rfl, rfl, trivial⟩, X2 _⟩
 ·rw [if_pos h2]
  repeat first | refine X0 ?_ | (refine JR ?_; (repeat first | refine Z1 ?_ | refine Z0 ?_ | refine Zs ?_ | refine ZD ?_ | refine Z9 (hcon := hr) ?_); refine JD ?_) | refine JT ?_
  exact X1 ⟨_, St.le_refl _, ⟨rfl, rfl, rfl, trivial⟩, X2 _⟩
end Go.Fw

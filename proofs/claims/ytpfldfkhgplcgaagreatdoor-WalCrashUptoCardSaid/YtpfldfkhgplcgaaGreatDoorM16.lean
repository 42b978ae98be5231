/- The program's read. -/
import Derived.Test.YtpfldfkhgplcgaaGreatDoorM15
set_option maxHeartbeats 8000000
namespace Go.Fw
open Go Go.Proofs
set_option maxRecDepth 100000
set_option linter.unusedVariables false
set_option linter.unusedSimpArgs false
theorem VJ (c : Nat) : c &&& 127 = c % 128 := Nat.and_two_pow_sub_one_eq_mod c 7
theorem XaY (b : List UInt8) (a : Int) (hb : b.length ≤ 281474976710656) : Con Tryz.prog 93 [] [.d (Xf b), ai a] [] (X73 (X1b (Y9 b a).1) (Y9 b a).2.1 (Y9 b a).2.2) := by
 refine Xa (xs := [X1b (Y9 b a).1, ai (Y9 b a).2.1, ai (Y9 b a).2.2]) Tryz.func93 rfl Tryz.ntmps93 rfl rfl rfl (fun E => ?_)
 by_cases h1 : a < 0
 ·rw [show Y9 b a = (0, 0, 1) by simp [Y9, Yr, h1]]
  repeat first | refine X0 ?_ | (refine JR ?_; (repeat first | refine Z1 ?_ | refine Z0 ?_ | refine Z8 ?_ | refine Zn ?_ | refine Zo ?_); refine JD ?_) | refine JT ?_
  exact QMb
 by_cases h2 : (b.length : Int) < a
 ·rw [show Y9 b a = (0, 0, 1) by simp [Y9, Yr, h2]]
  refine Qb ?_; refine QNb ?_; refine QOb ?_; refine QCa ?_; refine Zd ?_; refine Qba ?_; refine QPb ?_; exact QQb
 obtain ⟨k, rfl⟩ : ∃ k : Nat, a = k := ⟨a.toNat, by omega⟩
 have hnum : Yr b k = (let l := b.drop k; let n := Yx l; if n = 10 then (0, 0, 4) else if l.length ≤ n then (0, 0, 3) else if n = 9 ∧ 1 < ((l[n]?).getD 0).toNat then (0, 0, 4) else (Y0 (l.take (n + 1)), (k : Int) + n + 1, 0)) := by
  unfold Yr; rw [if_neg (by omega), Int.toNat_natCast]
 have hpad : V4 b k = (decide (0 < Yx (b.drop k)) && decide (((b.drop k)[Yx (b.drop k)]?).getD 0 = 0)) := by unfold V4; rw [Int.toNat_natCast]
 have hll : (b.drop k).length = b.length - k := List.length_drop
 have hmap : (((b.map X6).take (b.map X6).length).drop k).length = b.length - k := by simp
 have hlb : 10 < b.length - k → 10 ≤ (((b.map X6).take (b.map X6).length).drop k).length := fun h => by rw [hmap]; omega
 have hE1 : (((((b.map X6).take (b.map X6).length).drop k).take 10).drop 0) = ((b.drop k).take 10).map X6 := by
  rw [List.take_length, List.drop_zero, ← List.map_drop, ← List.map_take]
 have hE2 : ¬ (10 < b.length - k) → (((b.map X6).take (b.map X6).length).drop k) = ((b.drop k).take 10).map X6 := fun h => by
  rw [List.take_length, ← List.map_drop, List.take_of_length_le (by simp; omega)]
 generalize hl : b.drop k = l at *
 by_cases hbig : 10 < b.length - k
 ·repeat first | refine X0 ?_ | (refine JR ?_; (repeat first | refine ZU (hb := 10) (mb := 10) ?_ (hh := by exact Nat.le_refl 10) (hm := by exact hlb hbig) | refine Z1 ?_ | refine Z0 ?_ | refine Zd ?_ | refine Z8 ?_ | refine Zs ?_ | refine Zq ?_ | refine ZT ?_); refine JD ?_) | refine JT ?_ | refine JF ?_ | refine X5 ?_ | refine X4 ?_
  refine Xu (fun i : Nat => big l i ∧ i ≤ 10 ∧ i ≤ l.length) (fun i => ⟨72, [(1, ai k), (7, .d (Xf (l.take 10))), (8, X1b (Yf l i)), (31, .d (Xf (l.take 10))), (32, ai (l.take 10).length), (33, ai i)], []⟩) (fun i => 10 - i) 0 ⟨fun j hj => by omega, by omega, by omega⟩
   (X9 rfl ⟨JL, (by refine AVal.le_of_eq ?_; refine Eq.trans (b := AVal.d (.sl 1 (((((b.map X6).take (b.map X6).length).drop k).take 10).drop 0))) rfl ?_; rw [hE1]), JL, (by refine AVal.le_of_eq ?_; refine Eq.trans (b := AVal.d (.sl 1 (((((b.map X6).take (b.map X6).length).drop k).take 10).drop 0))) rfl ?_; rw [hE1]), (by refine AVal.le_of_eq ?_; refine Eq.trans (b := ai (((((((b.map X6).take (b.map X6).length).drop k).take 10).drop 0)).length : Nat)) rfl ?_; rw [hE1, List.length_map]), JL, trivial⟩ trivial) ?_
  rintro i ⟨hbg, hi10, hil⟩
  by_cases him : i = (l.take 10).length
  ·have hmm : i = min 10 l.length := by rw [him]; simp
   have hm : Yx l = i := X7Y hbg hmm
   by_cases e10 : (l.take 10).length = 10
   ·have hv : Yr b k = (0, 0, 4) := by rw [hnum]; simp only [hm]; rw [if_pos (by omega)]
    rw [show Y9 b k = (0, 0, 4) by unfold Y9; rw [hv]; rfl]
    refine QM ?_; refine Qg ?_; refine QRb ?_; refine QPb ?_; exact QQb
   ·exact absurd (by rw [List.length_take]; omega) e10
  have hlt : i < 10 ∧ i < l.length := by rw [List.length_take] at him; omega
  have hlm : i < (l.take 10).length := by rw [List.length_take]; omega
  obtain ⟨c, hc⟩ := Xx (l := l) (k := i) (by omega)
  have hcm : (l.take 10)[i]? = some c := by rw [List.getElem?_take_of_lt hlt.1]; exact hc
  have hc8 := c.toNat_lt
  have hacc := X3I l i
  have hacc1 := X3I l (i + 1)
  have hsh : c.toNat % 128 * 2 ^ (7 * i) % 2 ^ IntKind.u64.bits = c.toNat % 128 * 2 ^ (7 * i) % 18446744073709551616 := rfl
  have hst : Yf l i ||| c.toNat % 128 * 2 ^ (7 * i) % 18446744073709551616 = Yf l (i + 1) := by simp only [Yf, hc, Option.getD_some]
  have hq : c.toNat % 128 * 2 ^ (7 * i) % 18446744073709551616 < 18446744073709551616 := Nat.mod_lt _ (by omega)
  by_cases hge : 128 ≤ c.toNat
  ·refine QSb ?_; refine Qh ?_; refine Xp ?_; refine QK ?_; exact QTb
  have hm : Yx l = i := X7b hbg hc (by omega) hlt.1
  by_cases h9 : i = 9
  ·by_cases hc1 : 1 < c.toNat
   ·have hv : Yr b k = (0, 0, 4) := by rw [hnum]; simp only [hm, hc, Option.getD_some]; rw [if_neg (by omega), if_neg (by omega), if_pos ⟨h9, hc1⟩]
    rw [show Y9 b k = (0, 0, 4) by unfold Y9; rw [hv]; rfl]
    refine QUb ?_; refine JT ?_; refine Qb ?_; exact QQb
   ·have hval : Yf l (i + 1) = Y0 (l.take (i + 1)) := by subst h9; exact X7R l hc (by omega)
    by_cases hz : 0 < i ∧ c = 0
    ·have hv : Yr b k = (Y0 (l.take (i + 1)), (k : Int) + i + 1, 0) := by rw [hnum]; simp only [hm, hc, Option.getD_some]; rw [if_neg (by omega), if_neg (by omega), if_neg (by omega)]
     rw [show Y9 b k = (Y0 (l.take (i + 1)), 0, 2) by
      unfold Y9; rw [hv, hpad]; simp only [hm, hc, Option.getD_some]
      simp [hz.1, hz.2]]
     obtain ⟨hz1, hz2⟩ := hz
     have hz3 : c.toNat = 0 := by rw [hz2]; rfl
     rw [← hval]
     refine QVb ?_; exact QWb
    ·have hz' : ¬ (0 < i ∧ c.toNat = 0) := fun h => hz ⟨h.1, UInt8.toNat_inj.1 h.2⟩
     have hv : Yr b k = (Y0 (l.take (i + 1)), (k : Int) + i + 1, 0) := by rw [hnum]; simp only [hm, hc, Option.getD_some]; rw [if_neg (by omega), if_neg (by omega), if_neg (by omega)]
     have hpf : V4 b k = false := by
      rw [hpad]; simp only [hm, hc, Option.getD_some]
      rw [Bool.and_eq_false_iff, decide_eq_false_iff_not, decide_eq_false_iff_not]
      by_cases h0 : 0 < i
      ·exact .inr fun h2 => hz ⟨h0, h2⟩
      ·exact .inl h0
     rw [show Y9 b k = (Y0 (l.take (i + 1)), (k : Int) + i + 1, 0) by unfold Y9; rw [hv, hpf]; rfl]
     rw [← hval]
     by_cases hi0 : 0 < i
     ·have hcz : ¬ (c.toNat = 0) := fun h => hz' ⟨hi0, h⟩
      refine QVb ?_; refine JF ?_; exact QXb
     ·exact absurd (by omega) hi0
  ·have hval : Yf l (i + 1) = Y0 (l.take (i + 1)) := X3d l (i + 1) (by omega) (by omega)
   by_cases hz : 0 < i ∧ c = 0
   ·have hv : Yr b k = (Y0 (l.take (i + 1)), (k : Int) + i + 1, 0) := by rw [hnum]; simp only [hm, hc, Option.getD_some]; rw [if_neg (by omega), if_neg (by omega), if_neg (by omega)]
    rw [show Y9 b k = (Y0 (l.take (i + 1)), 0, 2) by
     unfold Y9; rw [hv, hpad]; simp only [hm, hc, Option.getD_some]
     simp [hz.1, hz.2]]
    obtain ⟨hz1, hz2⟩ := hz
    have hz3 : c.toNat = 0 := by rw [hz2]; rfl
    rw [← hval]
    refine Qac ?_; exact QWb
   ·have hz' : ¬ (0 < i ∧ c.toNat = 0) := fun h => hz ⟨h.1, UInt8.toNat_inj.1 h.2⟩
    have hv : Yr b k = (Y0 (l.take (i + 1)), (k : Int) + i + 1, 0) := by rw [hnum]; simp only [hm, hc, Option.getD_some]; rw [if_neg (by omega), if_neg (by omega), if_neg (by omega)]
    have hpf : V4 b k = false := by
     rw [hpad]; simp only [hm, hc, Option.getD_some]
     rw [Bool.and_eq_false_iff, decide_eq_false_iff_not, decide_eq_false_iff_not]
     by_cases h0 : 0 < i
     ·exact .inr fun h2 => hz ⟨h0, h2⟩
     ·exact .inl h0
    rw [show Y9 b k = (Y0 (l.take (i + 1)), (k : Int) + i + 1, 0) by unfold Y9; rw [hv, hpf]; rfl]
    rw [← hval]
    by_cases hi0 : 0 < i
    ·have hcz : ¬ (c.toNat = 0) := fun h => hz' ⟨hi0, h⟩
     refine Qac ?_; refine JF ?_; exact QXb
    ·refine QZb ?_; refine Zs ?_; refine QR ?_; refine QYb ?_; exact QXb
 ·repeat first | refine X0 ?_ | (refine JR ?_; (repeat first | refine Z1 ?_ | refine Z0 ?_ | refine Zd ?_ | refine Z8 ?_ | refine Zs ?_ | refine Zq ?_ | refine ZT ?_); refine JD ?_) | refine JF ?_ | refine X5 ?_ | refine X4 ?_
  refine Xu (fun i : Nat => big l i ∧ i ≤ 10 ∧ i ≤ l.length) (fun i => ⟨72, [(1, ai k), (7, .d (Xf (l.take 10))), (8, X1b (Yf l i)), (31, .d (Xf (l.take 10))), (32, ai (l.take 10).length), (33, ai i)], []⟩) (fun i => 10 - i) 0 ⟨fun j hj => by omega, by omega, by omega⟩
   (X9 rfl ⟨JL, (by refine AVal.le_of_eq ?_; refine Eq.trans (b := AVal.d (.sl 1 (((b.map X6).take (b.map X6).length).drop k))) rfl ?_; rw [hE2 hbig]), JL, (by refine AVal.le_of_eq ?_; refine Eq.trans (b := AVal.d (.sl 1 (((b.map X6).take (b.map X6).length).drop k))) rfl ?_; rw [hE2 hbig]), (by refine AVal.le_of_eq ?_; refine Eq.trans (b := ai (((((b.map X6).take (b.map X6).length).drop k)).length : Nat)) rfl ?_; rw [hE2 hbig, List.length_map]), JL, trivial⟩ trivial) ?_
  rintro i ⟨hbg, hi10, hil⟩
  by_cases him : i = (l.take 10).length
  ·have hmm : i = min 10 l.length := by rw [him]; simp
   have hm : Yx l = i := X7Y hbg hmm
   by_cases e10 : (l.take 10).length = 10
   ·have hv : Yr b k = (0, 0, 4) := by rw [hnum]; simp only [hm]; rw [if_pos (by omega)]
    rw [show Y9 b k = (0, 0, 4) by unfold Y9; rw [hv]; rfl]
    refine QM ?_; refine Qg ?_; refine QRb ?_; refine QPb ?_; exact QQb
   ·have hne : ¬ (i = 10) := by rw [him]; exact e10
    have hv : Yr b k = (0, 0, 3) := by rw [hnum]; simp only [hm]; rw [if_neg hne, if_pos (by omega)]
    rw [show Y9 b k = (0, 0, 3) by unfold Y9; rw [hv]; rfl]
    refine QM ?_; refine Qg ?_; refine QRb ?_; refine Qs ?_; refine Qb ?_; exact QQb
  have hlt : i < 10 ∧ i < l.length := by rw [List.length_take] at him; omega
  have hlm : i < (l.take 10).length := by rw [List.length_take]; omega
  obtain ⟨c, hc⟩ := Xx (l := l) (k := i) (by omega)
  have hcm : (l.take 10)[i]? = some c := by rw [List.getElem?_take_of_lt hlt.1]; exact hc
  have hc8 := c.toNat_lt
  have hacc := X3I l i
  have hacc1 := X3I l (i + 1)
  have hsh : c.toNat % 128 * 2 ^ (7 * i) % 2 ^ IntKind.u64.bits = c.toNat % 128 * 2 ^ (7 * i) % 18446744073709551616 := rfl
  have hst : Yf l i ||| c.toNat % 128 * 2 ^ (7 * i) % 18446744073709551616 = Yf l (i + 1) := by simp only [Yf, hc, Option.getD_some]
  have hq : c.toNat % 128 * 2 ^ (7 * i) % 18446744073709551616 < 18446744073709551616 := Nat.mod_lt _ (by omega)
  by_cases hge : 128 ≤ c.toNat
  ·refine QSb ?_; refine Qh ?_; refine Xp ?_; refine QK ?_; exact QTb
  have hm : Yx l = i := X7b hbg hc (by omega) hlt.1
  by_cases h9 : i = 9
  ·by_cases hc1 : 1 < c.toNat
   ·have hv : Yr b k = (0, 0, 4) := by rw [hnum]; simp only [hm, hc, Option.getD_some]; rw [if_neg (by omega), if_neg (by omega), if_pos ⟨h9, hc1⟩]
    rw [show Y9 b k = (0, 0, 4) by unfold Y9; rw [hv]; rfl]
    refine QUb ?_; refine JT ?_; refine Qb ?_; exact QQb
   ·have hval : Yf l (i + 1) = Y0 (l.take (i + 1)) := by subst h9; exact X7R l hc (by omega)
    by_cases hz : 0 < i ∧ c = 0
    ·have hv : Yr b k = (Y0 (l.take (i + 1)), (k : Int) + i + 1, 0) := by rw [hnum]; simp only [hm, hc, Option.getD_some]; rw [if_neg (by omega), if_neg (by omega), if_neg (by omega)]
     rw [show Y9 b k = (Y0 (l.take (i + 1)), 0, 2) by
      unfold Y9; rw [hv, hpad]; simp only [hm, hc, Option.getD_some]
      simp [hz.1, hz.2]]
     obtain ⟨hz1, hz2⟩ := hz
     have hz3 : c.toNat = 0 := by rw [hz2]; rfl
     rw [← hval]
     refine QVb ?_; exact QWb
    ·have hz' : ¬ (0 < i ∧ c.toNat = 0) := fun h => hz ⟨h.1, UInt8.toNat_inj.1 h.2⟩
     have hv : Yr b k = (Y0 (l.take (i + 1)), (k : Int) + i + 1, 0) := by rw [hnum]; simp only [hm, hc, Option.getD_some]; rw [if_neg (by omega), if_neg (by omega), if_neg (by omega)]
     have hpf : V4 b k = false := by
      rw [hpad]; simp only [hm, hc, Option.getD_some]
      rw [Bool.and_eq_false_iff, decide_eq_false_iff_not, decide_eq_false_iff_not]
      by_cases h0 : 0 < i
      ·exact .inr fun h2 => hz ⟨h0, h2⟩
      ·exact .inl h0
     rw [show Y9 b k = (Y0 (l.take (i + 1)), (k : Int) + i + 1, 0) by unfold Y9; rw [hv, hpf]; rfl]
     rw [← hval]
     by_cases hi0 : 0 < i
     ·have hcz : ¬ (c.toNat = 0) := fun h => hz' ⟨hi0, h⟩
      refine QVb ?_; refine JF ?_; exact QXb
     ·exact absurd (by omega) hi0
  ·have hval : Yf l (i + 1) = Y0 (l.take (i + 1)) := X3d l (i + 1) (by omega) (by omega)
   by_cases hz : 0 < i ∧ c = 0
   ·have hv : Yr b k = (Y0 (l.take (i + 1)), (k : Int) + i + 1, 0) := by rw [hnum]; simp only [hm, hc, Option.getD_some]; rw [if_neg (by omega), if_neg (by omega), if_neg (by omega)]
    rw [show Y9 b k = (Y0 (l.take (i + 1)), 0, 2) by
     unfold Y9; rw [hv, hpad]; simp only [hm, hc, Option.getD_some]
     simp [hz.1, hz.2]]
    obtain ⟨hz1, hz2⟩ := hz
    have hz3 : c.toNat = 0 := by rw [hz2]; rfl
    rw [← hval]
    refine Qac ?_; exact QWb
   ·have hz' : ¬ (0 < i ∧ c.toNat = 0) := fun h => hz ⟨h.1, UInt8.toNat_inj.1 h.2⟩
    have hv : Yr b k = (Y0 (l.take (i + 1)), (k : Int) + i + 1, 0) := by rw [hnum]; simp only [hm, hc, Option.getD_some]; rw [if_neg (by omega), if_neg (by omega), if_neg (by omega)]
    have hpf : V4 b k = false := by
     rw [hpad]; simp only [hm, hc, Option.getD_some]
     rw [Bool.and_eq_false_iff, decide_eq_false_iff_not, decide_eq_false_iff_not]
     by_cases h0 : 0 < i
     ·exact .inr fun h2 => hz ⟨h0, h2⟩
     ·exact .inl h0
    rw [show Y9 b k = (Y0 (l.take (i + 1)), (k : Int) + i + 1, 0) by unfold Y9; rw [hv, hpf]; rfl]
    rw [← hval]
    by_cases hi0 : 0 < i
    ·have hcz : ¬ (c.toNat = 0) := fun h => hz' ⟨hi0, h⟩
     refine Qac ?_; refine JF ?_; exact QXb
    ·refine QZb ?_; refine Zs ?_; refine QR ?_; refine QYb ?_; exact QXb
theorem XaK {b : List UInt8} {a : Int} (h : (Yr b a).2.2 = 0) : ∃ k : Nat, a = k ∧ k ≤ b.length ∧ Yx (b.drop k) < (b.drop k).length ∧ Yx (b.drop k) < 10 ∧ (Yr b a).2.1 = ((k + Yx (b.drop k) + 1 : Nat) : Int) := by
 unfold Yr at h ⊢
 split at h
 ·simp at h
 rename_i ha
 have hm : Yx (b.drop a.toNat) ≤ 10 := by
  unfold Yx
  have := (List.takeWhile_sublist (l := (b.drop a.toNat).take 10) (fun b => decide (128 ≤ b.toNat))).length_le
  simp at this ⊢; omega
 simp only at h ⊢
 split at h
 ·simp at h
 rename_i h10
 split at h
 ·simp at h
 rename_i hle
 split at h
 ·simp at h
 rename_i h9
 have ha' : ¬(a < 0) ∧ ¬((b.length : Int) < a) := by simpa using ha
 refine ⟨a.toNat, by omega, by omega, by omega, by omega, ?_⟩
 rw [if_neg ha, if_neg h10, if_neg hle, if_neg h9]
 simp only; omega
theorem XfD {b : List UInt8} {a : Int} : (Yr b a).1 < 18446744073709551616 := by
 by_cases h : (Yr b a).2.2 = 0
 ·by_cases hp : V4 b a = false
  ·exact (X6p (b := b) (a := a) (e := (Yr b a).2.1) (u := (Yr b a).1) (by rw [← h]) hp).2.2.2.2
  ·obtain ⟨k, rfl, hk, h1, h2, _⟩ := XaK h
   have hp : V4 b (k : Int) = true := by simpa using hp
   unfold V4 at hp
   simp only [Int.toNat_natCast, Bool.and_eq_true, decide_eq_true_eq] at hp
   obtain ⟨c, hc⟩ := Xx (l := b.drop k) h1
   rw [hc] at hp
   simp only [Option.getD_some] at hp
   have hc0 : c.toNat = 0 := by rw [hp.2]; rfl
   unfold Yr
   rw [if_neg (by omega)]
   simp only [Int.toNat_natCast]
   rw [if_neg (by omega), if_neg (by omega)]
   split
   ·simp
   ·simp only
    rw [X2t _ _ c hc, hc0]
    have h3 := X4P (b.drop k) (Yx (b.drop k))
    have h4 : (2 : Nat) ^ (7 * Yx (b.drop k)) ≤ 2 ^ 63 := Nat.pow_le_pow_right (by omega) (by omega)
    omega
 ·unfold Yr at h ⊢
  split at h
  ·rename_i h1; rw [if_pos h1]; simp
  rename_i h1; rw [if_neg h1]
  simp only at h ⊢
  split at h
  ·rename_i h2; rw [if_pos h2]; simp
  rename_i h2; rw [if_neg h2]
  split at h
  ·rename_i h3; rw [if_pos h3]; simp
  rename_i h3; rw [if_neg h3]
  split at h
  ·rename_i h4; rw [if_pos h4]; simp
  ·simp at h
theorem X8J {b : List UInt8} {a : Int} : (Y9 b a).1 < 18446744073709551616 := by
 unfold Y9
 simp only
 split
 ·simp
 ·split <;> exact XfD
theorem X4T {b : List UInt8} {a : Int} : Xk b a = if 9223372036854775807 < (Y9 b a).1 then (0, 0, 4) else if (Y9 b a).2.2 ≠ 0 then (0, 0, (Y9 b a).2.2) else (((Y9 b a).1 : Int), (Y9 b a).2.1, 0) := by
 unfold Xk Y9
 simp only
 by_cases h : (Yr b a).2.2 = 0
 ·simp only [h, ne_eq, not_true_eq_false, if_false]
  cases hp : V4 b a with
  | true => simp only [if_true]; simp
  | false => simp only [Bool.false_eq_true, if_false, h]; simp
 ·simp [h]
theorem Xh9 {b : List UInt8} {a : Int} : XO b a = if (Y9 b a).2.2 ≠ 0 then (0, 0, (Y9 b a).2.2) else (zag (Y9 b a).1, (Y9 b a).2.1, 0) := by
 unfold XO Y9
 simp only
 by_cases h : (Yr b a).2.2 = 0
 ·simp only [h, ne_eq, not_true_eq_false, if_false]
  cases hp : V4 b a with
  | true => simp
  | false => simp [h]
 ·simp [h]
abbrev aN3 (r : Int × Int × Int) : AVal := .tup [ai r.1, ai r.2.1, ai r.2.2]
theorem X2v (b : List UInt8) (a : Int) (hb : b.length ≤ 281474976710656) : Con Tryz.prog 72 [] [.d (Xf b), ai a] [] (aN3 (Xk b a)) := by
 refine Xa (xs := [ai (Xk b a).1, ai (Xk b a).2.1, ai (Xk b a).2.2]) Tryz.func72 rfl Tryz.ntmps72 rfl rfl rfl (fun E => ?_)
 have hr := XaY b a hb
 have hlt := X8J (b := b) (a := a)
 rw [X4T]
 generalize Y9 b a = r at *
 obtain ⟨u, e, err⟩ := r
 simp only at hlt ⊢
 by_cases h1 : 9223372036854775807 < u
 ·rw [if_pos h1]
  repeat first | refine X0 ?_ | (refine JR ?_; (repeat first | refine Z1 ?_ | refine Z0 ?_ | refine Zs ?_ | refine ZF ?_ | refine Z9 (hcon := hr) ?_); refine JD ?_) | refine JT ?_ | refine X5 ?_
  exact QMb
 rw [if_neg h1]
 by_cases h2 : err = 0
 ·rw [if_neg (by simpa using h2)]
  repeat first | refine X0 ?_ | (refine JR ?_; (repeat first | refine Z3 (u := n64 u) (r := ni u) ?_ (hr := by exact U2 rfl rfl (by rw [XM]; omega)) | refine Z1 ?_ | refine Z0 ?_ | refine Zs ?_ | refine Zv ?_ | refine ZF ?_ | refine Z9 (hcon := hr) ?_); refine JD ?_) | refine JF ?_ | refine X5 ?_ | refine X4 ?_
  exact QMb
 ·rw [if_pos h2]
  repeat first | refine X0 ?_ | (refine JR ?_; (repeat first | refine Z1 ?_ | refine Z0 ?_ | refine Zs ?_ | refine Zv ?_ | refine ZF ?_ | refine Z9 (hcon := hr) ?_); refine JD ?_) | refine JT ?_ | refine JF ?_ | refine X5 ?_
  exact QMb
theorem X7M (b : List UInt8) (a : Int) (hb : b.length ≤ 281474976710656) : Con Tryz.prog 133 [] [.d (Xf b), ai a] [] (aN3 (XO b a)) := by
 refine Xa (xs := [ai (XO b a).1, ai (XO b a).2.1, ai (XO b a).2.2]) Tryz.func133 rfl Tryz.ntmps133 rfl rfl rfl (fun E => ?_)
 have hr := XaY b a hb
 have hlt := X8J (b := b) (a := a)
 rw [Xh9]
 generalize Y9 b a = r at *
 obtain ⟨u, e, err⟩ := r
 simp only at hlt ⊢
 by_cases h2 : err = 0
 ·rw [if_neg (by simpa using h2)]
  have hx : ∀ w, (Op.unary .xor (ni (u / 2))).run Tryz.prog w = .ok (.int .i64 (-((u / 2 : Nat) : Int) - 1)) w := fun w => Xhn (P := Tryz.prog) (by omega) w
  by_cases hodd : u % 2 = 1
  ·rw [show zag u = -((u / 2 : Nat) : Int) - 1 by unfold zag; rw [if_pos hodd]]
   refine Qb ?_; refine QNb ?_; refine Qi ?_; refine Z9 (hcon := hr) ?_; refine Qdc ?_; refine QEb ?_; refine Qf ?_; refine Z7 (op := .shr) (r' := n64 (u / 2)) (u := n64 u) (v := n64 1) ?_ (hr := by exact X2E (by decide)); refine Z3 (u := n64 (u / 2)) (r := ni (u / 2)) ?_ (hr := by exact U2 rfl rfl (by rw [XM]; omega)); refine Qw ?_; refine Qec ?_; refine Zl ?_; refine Qh ?_; refine Ql ?_; refine Za (u := ni (u / 2)) (r := .int .i64 (-((u / 2 : Nat) : Int) - 1)) ?_ (hr := by exact hx); refine Qc ?_; refine Qi ?_; exact QQb
  ·rw [show zag u = ((u / 2 : Nat) : Int) by unfold zag; rw [if_neg hodd]]
   refine Qb ?_; refine QNb ?_; refine Qi ?_; refine Z9 (hcon := hr) ?_; refine Qdc ?_; refine QEb ?_; refine Qf ?_; refine Z7 (op := .shr) (r' := n64 (u / 2)) (u := n64 u) (v := n64 1) ?_ (hr := by exact X2E (by decide)); refine Z3 (u := n64 (u / 2)) (r := ni (u / 2)) ?_ (hr := by exact U2 rfl rfl (by rw [XM]; omega)); refine Qw ?_; refine Qec ?_; refine Qqb ?_; refine Qi ?_; exact QQb
 ·rw [if_pos h2]
  repeat first | refine X0 ?_ | (refine JR ?_; (repeat first | refine Z1 ?_ | refine Z0 ?_ | refine Zv ?_ | refine ZF ?_ | refine Z9 (hcon := hr) ?_); refine JD ?_) | refine JT ?_
  exact QMb
theorem Xeg {b : List UInt8} {a most : Int} : U8 b a most = if (Xk b a).2.2 ≠ 0 then ([], 0, (Xk b a).2.2) else if most < (Xk b a).1 then ([], 0, 4) else if (b.length : Int) - (Xk b a).2.1 < (Xk b a).1 then ([], 0, 3) else
  ((b.drop (Xk b a).2.1.toNat).take (Xk b a).1.toNat, (Xk b a).2.1 + (Xk b a).1, 0) := rfl
theorem Xan {b : List UInt8} {a : Int} : (Xk b a).2.2 = 0 → ∃ n f : Nat, (Xk b a).1 = n ∧ (Xk b a).2.1 = f ∧ f ≤ b.length ∧ (n : Int) ≤ 9223372036854775807 := by
 intro h
 obtain ⟨⟨k1, k2, k3, k4⟩, k5, k6, k7⟩ := X1C (b := b) (a := a) (n := (Xk b a).1) (e := (Xk b a).2.1) (by rw [← h])
 exact ⟨(Xk b a).1.toNat, (Xk b a).2.1.toNat, by omega, by omega, by omega, by omega⟩
theorem Xae (b : List UInt8) (a most : Int) (hb : b.length ≤ 281474976710656) : Con Tryz.prog 156 [] [.d (Xf b), ai a, ai most] [] (X73 (Xc (U8 b a most).1) (U8 b a most).2.1 (U8 b a most).2.2) := by
 refine Xa (xs := [Xc (U8 b a most).1, ai (U8 b a most).2.1, ai (U8 b a most).2.2]) Tryz.func156 rfl Tryz.ntmps156 rfl rfl rfl (fun E => ?_)
 have hr := X2v b a hb
 have hf := Xan (b := b) (a := a)
 rw [Xeg]
 generalize Xk b a = r at *
 obtain ⟨n, f, err⟩ := r
 simp only at hf ⊢
 by_cases h2 : err = 0
 ·obtain ⟨n, f, rfl, rfl, hf1, hf2⟩ := hf h2
  rw [if_neg (by simpa using h2)]
  by_cases h3 : most < (n : Int)
  ·rw [if_pos h3]
   repeat first | refine X0 ?_ | (refine JR ?_; (repeat first | refine Z1 ?_ | refine Z0 ?_ | refine Zs ?_ | refine Zv ?_ | refine ZF ?_ | refine Z9 (hcon := hr) ?_); refine JD ?_) | refine JT ?_ | refine JF ?_ | refine X5 ?_
   exact QMb
  rw [if_neg h3]
  by_cases h4 : (b.length : Int) - f < n
  ·rw [if_pos h4]
   repeat first | refine X0 ?_ | (refine JR ?_; (repeat first | refine Z1 ?_ | refine Z0 ?_ | refine Zd ?_ | refine Zs ?_ | refine Zv ?_ | refine ZR ?_ | refine ZF ?_ | refine Z9 (hcon := hr) ?_); refine JD ?_) | refine JT ?_ | refine JF ?_ | refine X5 ?_
   exact QMb
  rw [if_neg h4]
  have hsl : ((b.map X6).take (f + n)).drop f = ((b.drop f).take n).map X6 := by rw [List.map_take, List.map_drop, List.drop_take, Nat.add_sub_cancel_left]
  repeat first | refine X0 ?_ | (refine JR ?_; (repeat first | refine Z7 (op := .add) (r' := ni (f + n)) (u := ni f) (v := ni n) ?_ (hr := by exact Ul (by rw [XM]; omega)) | refine ZV (lb := f) (hb := f + n) (ys := ((b.drop f).take n).map X6) ?_ (hys := by exact hsl) | refine Z1 ?_ | refine Z0 ?_ | refine Zd ?_ | refine Zs ?_ | refine Zv ?_ | refine ZR ?_ | refine ZF ?_ | refine ZW ?_ | refine Z9 (hcon := hr) ?_); refine JD ?_) | refine JF ?_ | refine X5 ?_ | refine X4 ?_
  exact QMb
 ·rw [if_pos h2]
  repeat first | refine X0 ?_ | (refine JR ?_; (repeat first | refine Z1 ?_ | refine Z0 ?_ | refine Zv ?_ | refine ZF ?_ | refine Z9 (hcon := hr) ?_); refine JD ?_) | refine JT ?_ | refine X5 ?_
  exact QMb
end Go.Fw

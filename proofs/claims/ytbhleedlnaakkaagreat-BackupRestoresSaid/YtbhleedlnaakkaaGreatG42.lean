/- The reference's Restore. -/
import Derived.Test.YtbhleedlnaakkaaGreatG41
set_option maxHeartbeats 64000000
namespace Go.Fw
open Go Go.Proofs
set_option maxRecDepth 100000
set_option linter.unusedVariables false
set_option linter.unusedSimpArgs false
def H4 (B b : List UInt8) (s : Rd) : Prop := s.e = 0 → 4 ≤ B.length ∧ B.drop 4 = b
theorem X23 {α : Type} {f : Rd → α × Rd} {B b : List UInt8} {s : Rd} (hp : PartR f) (h : H4 B b s) : H4 B b (f s).2 := fun he => h (hp.back he)
theorem X88 {B b : List UInt8} {s : Rd} (h : H4 B b s) : H4 B b (XF b s) := fun he => by
 by_cases q : s.e = 0
 ·exact h q
 ·rw [X5y q] at he; exact absurd he q
theorem X8W {B b : List UInt8} {s : Rd} (h : H4 B b s) : H4 B b (YD s) := fun he => by
 by_cases q : s.e = 0
 ·exact h q
 ·rw [X3f q] at he; exact absurd he q
theorem X3E {α : Type} {f : Rd → α × Rd} {B b : List UInt8} {s : Rd} (hp : PartR f) (h : H4 B b s) : H4 B b (Xs b f s).2 := X8W (X23 hp (X88 h))
theorem X3V {α : Type} {f : Rd → α × Rd} {B b : List UInt8} (hp : PartR f) : ∀ (n : Nat) (s : Rd), H4 B b s → H4 B b (Xt (Xs b f) n s).2
 | 0, s, h => h
 | n + 1, s, h => by
  rw [Xt]
  split
  ·exact h
  ·exact X3V hp n _ (X3E hp h)
theorem XdW (B : List UInt8) : YA B = VB (U7 (B.drop 4) (YL B)).1 (U7 (B.drop 4) (YL B)).2.e := rfl
theorem Xdk (B b : List UInt8) (s : Rd) (hB : B.length ≤ 1073741824) (h4 : s.e = 0 → 4 ≤ B.length ∧ B.drop 4 = b) (hk : s.k ≤ b.length) : Con Tryz.prog 65 [(140, oR B s)] [.ptr 140 0] [(140, oR B (XF b s))] (.tup []) := UO 0 140 (X3U B b s hB h4 hk)
theorem XeT (B : List UInt8) (s : Rd) (hs : Yg s) : Con Tryz.prog 67 [(140, oR B s)] [.ptr 140 0] [(140, oR B (YD s))] (.tup []) := UO 0 140 (X3N B s hs)
theorem XdU (B b : List UInt8) (s : Rd) (h4 : s.e = 0 → 4 ≤ B.length ∧ B.drop 4 = b) (hk : s.k ≤ b.length) : Con Tryz.prog 71 [(140, oR B s)] [.ptr 140 0] [(140, oR B (Vg b s))] (.tup []) := UO 0 140 (XhY B b s h4 hk)
theorem X3n (B : List UInt8) (s : Rd) (hc : s.c.length ≤ 281474976710656) : Con Tryz.prog 66 [(140, oR B s)] [.ptr 140 0] [(140, oR B (Xb s).2)] (ai (Xb s).1) := UO 0 140 (X1q B s hc)
theorem Xer (B b : List UInt8) (s : Rd) (hB : B.length ≤ 1073741824) (hbl : b.length ≤ 1073741824) (h4 : s.e = 0 → 4 ≤ B.length ∧ B.drop 4 = b) (hi : RdInv b s) : Con Tryz.prog 68 [(140, oR B s)] [.ptr 140 0] [(140, oR B (Xs b Yi s).2)] (XW (Xs b Yi s).1) := UO 0 140 (Xes B b s hB hbl h4 hi)
theorem Xf2 (B b : List UInt8) (s : Rd) (hB : B.length ≤ 1073741824) (hbl : b.length ≤ 1073741824) (h4 : s.e = 0 → 4 ≤ B.length ∧ B.drop 4 = b) (hi : RdInv b s) : Con Tryz.prog 69 [(140, oR B s)] [.ptr 140 0] [(140, oR B (Xs b Ym s).2)] (Ub (Xs b Ym s).1) := UO 0 140 (XbV B b s hB hbl h4 hi)
theorem XgJ (B b : List UInt8) (s : Rd) (hB : B.length ≤ 1073741824) (hbl : b.length ≤ 1073741824) (h4 : s.e = 0 → 4 ≤ B.length ∧ B.drop 4 = b) (hi : RdInv b s) : Con Tryz.prog 70 [(140, oR B s)] [.ptr 140 0] [(140, oR B (Xs b XO s).2)] (.agg [ai (Xs b XO s).1.id, ai (Xs b XO s).1.src, ai (Xs b XO s).1.dst, XD (Xs b XO s).1.typ, .d (.sl 6 ((Xs b XO s).1.props.map Xk))]) := UO 0 140 (XfE B b s hB hbl h4 hi)
theorem XbJ (B : List UInt8) : Con Tryz.prog 64 [] [.d (Xa B), XD Xw] [(140, oR B (YL B))] (.ptr 140 0) := UO 100 140 (Xh5 B)
theorem XeF (B : List UInt8) (hB : B.length ≤ 1073741824) : Con Tryz.prog 17 [] [.d (Xa B)] [] (.tup [Y4 (YA B).1, .d (.sl 6 ((YA B).2.1.map Xp)), ai (YA B).2.2]) := by
 refine X9 (xs := [Y4 (YA B).1, .d (.sl 6 ((YA B).2.1.map Xp)), ai (YA B).2.2]) Tryz.func17 rfl Tryz.ntmps17 rfl rfl rfl (fun E => ?_)
 have k0 := XbJ B
 have hh : GraHold (U7 (B.drop 4) (YL B)).1.1 := XaX (B.drop 4) (by rw [List.length_drop]; omega) (YL B) ⟨Nat.zero_le _, ⟨Int.le_refl _, by simp [YL]⟩, by simp [YL]⟩
 have hinv : RdInv (B.drop 4) (YL B) := ⟨Nat.zero_le _, ⟨Int.le_refl _, by simp [YL]⟩, by simp [YL]⟩
 have h4 : H4 B (B.drop 4) (YL B) := fun he => by
  unfold YL at he
  simp only at he
  by_cases q : B.take 4 = Xw
  ·have := congrArg List.length q
   simp only [Xw, List.length_take, List.length_cons, List.length_nil] at this
   exact ⟨by omega, rfl⟩
  ·rw [if_neg q] at he
   simp at he
 have hbl : (B.drop 4).length ≤ 1073741824 := by rw [List.length_drop]; omega
 rw [XdW B]
 unfold U7 at hh ⊢
 rw [X1x] at hh ⊢
 generalize B.drop 4 = b' at *
 generalize YL B = s0 at *
 have ko := Xdk B b' s0 hB h4 hinv.k
 have hi1 := (X0t hinv).1
 have hh1 := X88 h4
 have hhd : Xs b' X0H s0 = (((Xb (XF b' s0)).1, (Xb (Xb (XF b' s0)).2).1, (Xb (Xb (Xb (XF b' s0)).2).2).1, (Xb (Xb (Xb (Xb (XF b' s0)).2).2).2).1, (Xb (Xb (Xb (Xb (Xb (XF b' s0)).2).2).2).2).1),
  YD (Xb (Xb (Xb (Xb (Xb (XF b' s0)).2).2).2).2).2) := rfl
 rw [hhd] at hh ⊢
 clear hhd h4
 simp only at hh ⊢
 generalize XF b' s0 = o1 at *
 have h1 := X3n B o1 (by have := hi1.c; omega)
 have hi2 := X0c XQ Yn.ok hi1
 have hh2 := X23 XQ hh1
 obtain ⟨m1, hm1, hml1⟩ := Vw o1
 rw [hm1] at h1
 generalize ho2 : (Xb o1).2 = o2 at *
 have h2 := X3n B o2 (by have := hi2.c; omega)
 have hi3 := X0c XQ Yn.ok hi2
 have hh3 := X23 XQ hh2
 obtain ⟨m2, hm2, hml2⟩ := Vw o2
 rw [hm2] at h2
 generalize ho3 : (Xb o2).2 = o3 at *
 have h3 := X3n B o3 (by have := hi3.c; omega)
 have hi4 := X0c XQ Yn.ok hi3
 have hh4 := X23 XQ hh3
 obtain ⟨m3, hm3, hml3⟩ := Vw o3
 rw [hm3] at h3
 generalize ho4 : (Xb o3).2 = o4 at *
 have h4' := X3n B o4 (by have := hi4.c; omega)
 have hi5 := X0c XQ Yn.ok hi4
 have hh5 := X23 XQ hh4
 obtain ⟨m4, hm4, hml4⟩ := Vw o4
 rw [hm4] at h4'
 generalize ho5 : (Xb o4).2 = o5 at *
 have h5 := X3n B o5 (by have := hi5.c; omega)
 have hi6 := X0c XQ Yn.ok hi5
 have hh6 := X23 XQ hh5
 obtain ⟨m5, hm5, hml5⟩ := Vw o5
 rw [hm5] at h5
 generalize ho6 : (Xb o5).2 = o6 at *
 have ks := XeT B o6 hi6.ok
 have hinv := (X56 hi6).1
 have h4 := X8W hh6
 simp only [hm1, hm2, hm3, hm4, hm5, Int.toNat_natCast] at hh ⊢
 generalize YD o6 = s7 at *
 clear hm1 hm2 hm3 hm4 hm5
 clear ho2 ho3 ho4 ho5 ho6 hi1 hi2 hi3 hi4 hi5 hi6 hh1 hh2 hh3 hh4 hh5 hh6
 obtain ⟨p0, q0, r0, t0⟩ := s0
 obtain ⟨p1, q1, r1, t1⟩ := o1
 obtain ⟨p2, q2, r2, t2⟩ := o2
 obtain ⟨p3, q3, r3, t3⟩ := o3
 obtain ⟨p4, q4, r4, t4⟩ := o4
 obtain ⟨p5, q5, r5, t5⟩ := o5
 obtain ⟨p6, q6, r6, t6⟩ := o6
 obtain ⟨p7, q7, r7, t7⟩ := s7
 unfold oR at k0 ko h1 h2 h3 h4' h5 ks
 simp only at k0 ko h1 h2 h3 h4' h5 ks
 refine X0 ?_; refine JR ?_; refine Zw (γ := 100) ?_; refine Z0 ?_; refine Z0 ?_; refine JD ?_; refine X0 ?_; refine JR ?_; refine Z1 ?_; refine Z9 (hcon := k0) ?_; refine Z0 ?_; refine JD ?_; refine X0 ?_
 refine JR ?_; refine Zw (γ := 101) ?_; refine JD ?_; refine X0 ?_; refine JR ?_; refine Z0 ?_; refine JD ?_; refine X0 ?_; refine JR ?_; refine Z1 ?_; refine Z9 (hcon := ko) ?_; refine JD ?_; refine X0 ?_
 refine JR ?_; refine Z1 ?_; refine Z9 (hcon := h1) ?_; refine ZB ?_; refine Zy ?_; refine JD ?_; refine X0 ?_; refine JR ?_; refine Z1 ?_; refine Z9 (hcon := h2) ?_; refine ZB ?_; refine Zy ?_; refine JD ?_
 refine X0 ?_; refine JR ?_; refine Z1 ?_; refine Z9 (hcon := h3) ?_; refine Z0 ?_; refine JD ?_; refine X0 ?_; refine JR ?_; refine Z1 ?_; refine Z9 (hcon := h4') ?_; refine Z0 ?_; refine JD ?_
 refine X0 ?_; refine JR ?_; refine Z1 ?_; refine Z9 (hcon := h5) ?_; refine Z0 ?_; refine JD ?_; refine X0 ?_; refine JR ?_; refine Z1 ?_; refine Z9 (hcon := ks) ?_; refine JD ?_; refine X0 ?_
 refine X0 ?_; refine JR ?_; refine Z0 ?_; refine JD ?_
 clear k0 ko h1 h2 h3 h4' h5 ks
 have hLbR := X0j (b := b') X0E X1z m3 ⟨p7, q7, r7, t7⟩ hinv
 have hL4R := X3V (B := B) (b := b') X0E m3 ⟨p7, q7, r7, t7⟩ h4
 generalize hLR : Xt (Xs b' Yi) m3 ⟨p7, q7, r7, t7⟩ = R at *
 refine X15 ⟨124, [(2, .ptr 100 0), (5, .ptr 140 0), (6, .ptr 101 0), (7, .d (.sl 6 (R.1.map Xp))), (9, ai (m4 : Nat)), (10, ai (m5 : Nat))], [(100, .box [ani, ani, ai 0, ai 0]), (101, .box [ani, ani, ai (m1 : Nat), ai (m2 : Nat)]), (140, .box [.d (Xa B), .d (Xa R.2.c), ai ((R.2.k : Int) + 4), ai R.2.a, ai R.2.e])]⟩ ?_ ?_
 ·refine Xm (VR 7 130 6 rfl rfl rfl) ?_
  refine X4 ?_
  refine Xy (ι := List Rul × Nat × Nat × Rd) (fun q => q.1 ++ (Xt (Xs b' Yi) q.2.2.1 q.2.2.2).1 = R.1 ∧ (Xt (Xs b' Yi) q.2.2.1 q.2.2.2).2 = R.2 ∧ RdInv b' q.2.2.2 ∧ H4 B b' q.2.2.2 ∧ q.2.1 + q.2.2.1 = m3) (fun q => ⟨124, [(2, .ptr 100 0), (5, .ptr 140 0), (6, .ptr 101 0), (7, .own 130 (q.1.map Xp).length), (8, ai (m3 : Nat)), (9, ai (m4 : Nat)), (10, ai (m5 : Nat)), (11, ai (q.2.1 : Nat))], [(100, .box [ani, ani, ai 0, ai 0]), (101, .box [ani, ani, ai (m1 : Nat), ai (m2 : Nat)]), (130, .row 6 (q.1.map Xp)), (140, .box [.d (Xa B), .d (Xa q.2.2.2.c), ai ((q.2.2.2.k : Int) + 4), ai q.2.2.2.a, ai q.2.2.2.e])]⟩) (fun q => q.2.2.1) ([], 0, m3, ⟨p7, q7, r7, t7⟩)
   ⟨by rw [hLR]; rfl, by rw [hLR], hinv, h4, by simp⟩
   (X8 rfl JM ⟨rfl, rfl, rfl, rfl, trivial⟩) ?_
  clear hinv h4
  rintro ⟨acc, i, j, s⟩ ⟨g1, g2, hinv, h4, g4⟩
  simp only at g1 g2 hinv h4 g4
  have hroom0 : acc.length ≤ 1073741825 := by
   have h1 := congrArg List.length g1
   have h2 := hLbR.2
   simp only [List.length_append] at h1
   omega
  have hroom : (acc.map Xp).length ≤ 1073741825 := by rw [List.length_map]; exact hroom0
  by_cases hj : j = 0 ∨ s.e ≠ 0
  ·have hLL := X0h g1 g2 hj
   subst hLL
   have hgd : (¬ (i : Int) < (m3 : Nat)) ∨ ((i : Int) < (m3 : Nat) ∧ s.e ≠ 0) := by
    rcases hj with rfl | h
    ·exact .inl (by omega)
    ·by_cases h0 : (i : Int) < (m3 : Nat)
     ·exact .inr ⟨h0, h⟩
     ·exact .inl h0
   clear hLR hLbR hL4R hinv h4 g1 g2 hj
   obtain ⟨k, c, a, e⟩ := s
   simp only at hgd ⊢
   rcases hgd with hj' | ⟨hj', he⟩
   ·refine X0 ?_; refine X0 ?_; refine JR ?_; refine Z1 ?_; refine Z1 ?_; refine Z8 ?_; refine Z1 ?_; refine Zo ?_; refine Zo ?_; refine Zo ?_; refine Zo ?_; refine Zo ?_; refine Zq ?_; refine JD ?_; refine JF ?_
    refine Xj ?_
    refine St.le_trans (Y0 130 rfl) ?_
    refine St.le_trans (YC 7 130 rfl rfl rfl) ?_
    exact X8 rfl JM ⟨rfl, rfl, rfl, trivial⟩
   ·refine X0 ?_; refine X0 ?_; refine JR ?_; refine Z1 ?_; refine Z1 ?_; refine Z8 ?_; refine Z1 ?_; refine Z1 ?_; refine Z01 ?_; refine ZB ?_; refine ZC ?_; refine Zl ?_; refine Zn ?_; refine JD ?_; refine JF ?_
    refine Xj ?_
    refine St.le_trans (Y0 130 rfl) ?_
    refine St.le_trans (YC 7 130 rfl rfl rfl) ?_
    exact X8 rfl JM ⟨rfl, rfl, rfl, trivial⟩
  obtain ⟨j, rfl⟩ : ∃ i, j = i + 1 := ⟨j - 1, by omega⟩
  have hj' : (i : Int) < (m3 : Nat) := by omega
  have he : s.e = 0 := by
   by_cases q : s.e = 0
   ·exact q
   ·exact absurd (.inr q) hj
  rw [X0v he] at g1 g2
  simp only at g1 g2
  have hv3 := (X0r (f := Yi) X0E X1z hinv).1
  have hv4 := X3E (f := Yi) X0E h4
  have k2 := Xer B b' s hB hbl h4 hinv
  generalize (Xs b' Yi s).2 = s3 at *
  generalize (Xs b' Yi s).1 = x at *
  have happ : (acc ++ [x]).map Xp = acc.map Xp ++ [Xp x] := by simp
  clear hj hLR hinv h4
  obtain ⟨k, c, a, e⟩ := s
  obtain ⟨k4, c4, a4, e4⟩ := s3
  simp only at he
  subst he
  unfold oR at k2
  obtain ⟨rk, rn, rname, rkey, rsrc, rdst⟩ := x
  simp only [XW] at k2
  refine X0 ?_; refine X0 ?_; refine JR ?_; refine Z1 ?_; refine Z1 ?_; refine Z8 ?_; refine Z1 ?_; refine Z1 ?_; refine Z01 ?_; refine ZB ?_; refine ZC ?_; refine Zl ?_; refine Zn ?_; refine JD ?_; refine JT ?_
  refine X2 ?_; refine X0 ?_; refine X4 ?_; refine JR ?_; refine Z1 ?_; refine Z1 ?_; refine Z9 (hcon := k2) ?_; refine Z5 ?_; refine Z6 ?_; refine Z0 ?_; refine JD ?_; refine JR ?_; refine Z1 ?_
  refine Zb ?_; refine Z0 ?_; refine JD ?_
  refine ⟨(acc ++ [_], i + 1, j, ⟨k4, c4, a4, e4⟩), ⟨by simpa using g1, g2, hv3, hv4, by simp only; omega⟩, by show j < j + 1; omega, ?_⟩
  rw [happ]
  exact X8 rfl ⟨JL, JL, JL, AVal.le_of_eq (by refine Eq.trans (b := AVal.own 130 (_ + _)) rfl ?_; simp only [List.length_append, List.length_cons, List.length_nil]), JL, JL, JL, JL, trivial⟩ ⟨rfl, rfl, rfl, rfl, trivial⟩
 have hinv := hLbR.1
 have h4 := hL4R
 refine X0 ?_; refine X0 ?_; refine JR ?_; refine Z0 ?_; refine JD ?_
 have hLbN := X0j (b := b') X0P X2o m4 R.2 hinv
 have hL4N := X3V (B := B) (b := b') X0P m4 R.2 h4
 generalize hLN : Xt (Xs b' Ym) m4 R.2 = N at *
 refine X15 ⟨124, [(2, .ptr 100 0), (5, .ptr 140 0), (6, .ptr 101 0), (7, .d (.sl 6 (R.1.map Xp))), (10, ai (m5 : Nat))], [(100, .box [ani, ani, ai 0, ai 0]), (101, .box [.d (.sl 3 (N.1.map Xi)), ani, ai (m1 : Nat), ai (m2 : Nat)]), (140, .box [.d (Xa B), .d (Xa N.2.c), ai ((N.2.k : Int) + 4), ai N.2.a, ai N.2.e])]⟩ ?_ ?_
 ·refine Xm (X0u 101 0 131 3 rfl rfl rfl rfl rfl) ?_
  refine X4 ?_
  refine Xy (ι := List Nod × Nat × Nat × Rd) (fun q => q.1 ++ (Xt (Xs b' Ym) q.2.2.1 q.2.2.2).1 = N.1 ∧ (Xt (Xs b' Ym) q.2.2.1 q.2.2.2).2 = N.2 ∧ RdInv b' q.2.2.2 ∧ H4 B b' q.2.2.2 ∧ q.2.1 + q.2.2.1 = m4) (fun q => ⟨124, [(2, .ptr 100 0), (5, .ptr 140 0), (6, .ptr 101 0), (7, .d (.sl 6 (R.1.map Xp))), (9, ai (m4 : Nat)), (10, ai (m5 : Nat)), (12, ai (q.2.1 : Nat))], [(100, .box [ani, ani, ai 0, ai 0]), (101, .box [.own 131 (q.1.map Xi).length, ani, ai (m1 : Nat), ai (m2 : Nat)]), (131, .row 3 (q.1.map Xi)), (140, .box [.d (Xa B), .d (Xa q.2.2.2.c), ai ((q.2.2.2.k : Int) + 4), ai q.2.2.2.a, ai q.2.2.2.e])]⟩) (fun q => q.2.2.1) ([], 0, m4, R.2)
   ⟨by rw [hLN]; rfl, by rw [hLN], hinv, h4, by simp⟩
   (X8 rfl JM ⟨rfl, rfl, rfl, rfl, trivial⟩) ?_
  clear hinv h4
  rintro ⟨acc, i, j, s⟩ ⟨g1, g2, hinv, h4, g4⟩
  simp only at g1 g2 hinv h4 g4
  have hroom0 : acc.length ≤ 1073741825 := by
   have h1 := congrArg List.length g1
   have h2 := hLbN.2
   simp only [List.length_append] at h1
   omega
  have hroom : (acc.map Xi).length ≤ 1073741825 := by rw [List.length_map]; exact hroom0
  by_cases hj : j = 0 ∨ s.e ≠ 0
  ·have hLL := X0h g1 g2 hj
   subst hLL
   have hgd : (¬ (i : Int) < (m4 : Nat)) ∨ ((i : Int) < (m4 : Nat) ∧ s.e ≠ 0) := by
    rcases hj with rfl | h
    ·exact .inl (by omega)
    ·by_cases h0 : (i : Int) < (m4 : Nat)
     ·exact .inr ⟨h0, h⟩
     ·exact .inl h0
   clear hLN hLbN hL4N hinv h4 g1 g2 hj
   obtain ⟨k, c, a, e⟩ := s
   simp only at hgd ⊢
   rcases hgd with hj' | ⟨hj', he⟩
   ·refine X0 ?_; refine X0 ?_; refine JR ?_; refine Z1 ?_; refine Z1 ?_; refine Z8 ?_; refine Z1 ?_; refine Zo ?_; refine Zo ?_; refine Zo ?_; refine Zo ?_; refine Zo ?_; refine Zq ?_; refine JD ?_; refine JF ?_
    refine Xj ?_
    refine St.le_trans (Y0 131 rfl) ?_
    refine St.le_trans (UG 101 0 131 rfl rfl rfl rfl) ?_
    exact X8 rfl JM ⟨rfl, rfl, rfl, trivial⟩
   ·refine X0 ?_; refine X0 ?_; refine JR ?_; refine Z1 ?_; refine Z1 ?_; refine Z8 ?_; refine Z1 ?_; refine Z1 ?_; refine Z01 ?_; refine ZB ?_; refine ZC ?_; refine Zl ?_; refine Zn ?_; refine JD ?_; refine JF ?_
    refine Xj ?_
    refine St.le_trans (Y0 131 rfl) ?_
    refine St.le_trans (UG 101 0 131 rfl rfl rfl rfl) ?_
    exact X8 rfl JM ⟨rfl, rfl, rfl, trivial⟩
  obtain ⟨j, rfl⟩ : ∃ i, j = i + 1 := ⟨j - 1, by omega⟩
  have hj' : (i : Int) < (m4 : Nat) := by omega
  have he : s.e = 0 := by
   by_cases q : s.e = 0
   ·exact q
   ·exact absurd (.inr q) hj
  rw [X0v he] at g1 g2
  simp only at g1 g2
  have hv3 := (X0r (f := Ym) X0P X2o hinv).1
  have hv4 := X3E (f := Ym) X0P h4
  have k2 := Xf2 B b' s hB hbl h4 hinv
  generalize (Xs b' Ym s).2 = s3 at *
  generalize (Xs b' Ym s).1 = x at *
  have happ : (acc ++ [x]).map Xi = acc.map Xi ++ [Xi x] := by simp
  clear hj hLN hinv h4
  obtain ⟨k, c, a, e⟩ := s
  obtain ⟨k4, c4, a4, e4⟩ := s3
  simp only at he
  subst he
  unfold oR at k2
  obtain ⟨nid, nls, nps⟩ := x
  simp only [Ub] at k2
  refine X0 ?_; refine X0 ?_; refine JR ?_; refine Z1 ?_; refine Z1 ?_; refine Z8 ?_; refine Z1 ?_; refine Z1 ?_; refine Z01 ?_; refine ZB ?_; refine ZC ?_; refine Zl ?_; refine Zn ?_; refine JD ?_; refine JT ?_
  refine X2 ?_; refine X0 ?_; refine X4 ?_; refine JR ?_; refine ZB ?_; refine ZC ?_; refine Z1 ?_; refine Z9 (hcon := k2) ?_; refine Z5 ?_; refine Z6 ?_; refine ZB ?_; refine Zy ?_; refine JD ?_
  refine JR ?_; refine Z1 ?_; refine Zb ?_; refine Z0 ?_; refine JD ?_
  refine ⟨(acc ++ [_], i + 1, j, ⟨k4, c4, a4, e4⟩), ⟨by simpa using g1, g2, hv3, hv4, by simp only; omega⟩, by show j < j + 1; omega, ?_⟩
  rw [happ]
  exact X8 rfl JM ⟨rfl, by refine Eq.trans (b := AObj.box [.own 131 (_ + _), _, _, _]) rfl ?_; simp only [List.length_append, List.length_cons, List.length_nil], rfl, rfl, trivial⟩
 have hinv := hLbN.1
 have h4 := hL4N
 refine X0 ?_; refine X0 ?_; refine JR ?_; refine Z0 ?_; refine JD ?_
 have hLbEE := X0j (b := b') X0S X2k m5 N.2 hinv
 have hL4EE := X3V (B := B) (b := b') X0S m5 N.2 h4
 generalize hLEE : Xt (Xs b' XO) m5 N.2 = EE at *
 refine X15 ⟨124, [(2, .ptr 100 0), (5, .ptr 140 0), (6, .ptr 101 0), (7, .d (.sl 6 (R.1.map Xp)))], [(100, .box [ani, ani, ai 0, ai 0]), (101, .box [.d (.sl 3 (N.1.map Xi)), .d (.sl 5 (EE.1.map Xr)), ai (m1 : Nat), ai (m2 : Nat)]), (140, .box [.d (Xa B), .d (Xa EE.2.c), ai ((EE.2.k : Int) + 4), ai EE.2.a, ai EE.2.e])]⟩ ?_ ?_
 ·refine Xm (X0u 101 1 132 5 rfl rfl rfl rfl rfl) ?_
  refine X4 ?_
  refine Xy (ι := List Edg × Nat × Nat × Rd) (fun q => q.1 ++ (Xt (Xs b' XO) q.2.2.1 q.2.2.2).1 = EE.1 ∧ (Xt (Xs b' XO) q.2.2.1 q.2.2.2).2 = EE.2 ∧ RdInv b' q.2.2.2 ∧ H4 B b' q.2.2.2 ∧ q.2.1 + q.2.2.1 = m5) (fun q => ⟨124, [(2, .ptr 100 0), (5, .ptr 140 0), (6, .ptr 101 0), (7, .d (.sl 6 (R.1.map Xp))), (10, ai (m5 : Nat)), (13, ai (q.2.1 : Nat))], [(100, .box [ani, ani, ai 0, ai 0]), (101, .box [.d (.sl 3 (N.1.map Xi)), .own 132 (q.1.map Xr).length, ai (m1 : Nat), ai (m2 : Nat)]), (132, .row 5 (q.1.map Xr)), (140, .box [.d (Xa B), .d (Xa q.2.2.2.c), ai ((q.2.2.2.k : Int) + 4), ai q.2.2.2.a, ai q.2.2.2.e])]⟩) (fun q => q.2.2.1) ([], 0, m5, N.2)
   ⟨by rw [hLEE]; rfl, by rw [hLEE], hinv, h4, by simp⟩
   (X8 rfl JM ⟨rfl, rfl, rfl, rfl, trivial⟩) ?_
  clear hinv h4
  rintro ⟨acc, i, j, s⟩ ⟨g1, g2, hinv, h4, g4⟩
  simp only at g1 g2 hinv h4 g4
  have hroom0 : acc.length ≤ 1073741825 := by
   have h1 := congrArg List.length g1
   have h2 := hLbEE.2
   simp only [List.length_append] at h1
   omega
  have hroom : (acc.map Xr).length ≤ 1073741825 := by rw [List.length_map]; exact hroom0
  by_cases hj : j = 0 ∨ s.e ≠ 0
  ·have hLL := X0h g1 g2 hj
   subst hLL
   have hgd : (¬ (i : Int) < (m5 : Nat)) ∨ ((i : Int) < (m5 : Nat) ∧ s.e ≠ 0) := by
    rcases hj with rfl | h
    ·exact .inl (by omega)
    ·by_cases h0 : (i : Int) < (m5 : Nat)
     ·exact .inr ⟨h0, h⟩
     ·exact .inl h0
   clear hLEE hLbEE hL4EE hinv h4 g1 g2 hj
   obtain ⟨k, c, a, e⟩ := s
   simp only at hgd ⊢
   rcases hgd with hj' | ⟨hj', he⟩
   ·refine X0 ?_; refine X0 ?_; refine JR ?_; refine Z1 ?_; refine Z1 ?_; refine Z8 ?_; refine Z1 ?_; refine Zo ?_; refine Zo ?_; refine Zo ?_; refine Zo ?_; refine Zo ?_; refine Zq ?_; refine JD ?_; refine JF ?_
    refine Xj ?_
    refine St.le_trans (Y0 132 rfl) ?_
    refine St.le_trans (UG 101 1 132 rfl rfl rfl rfl) ?_
    exact X8 rfl JM ⟨rfl, rfl, rfl, trivial⟩
   ·refine X0 ?_; refine X0 ?_; refine JR ?_; refine Z1 ?_; refine Z1 ?_; refine Z8 ?_; refine Z1 ?_; refine Z1 ?_; refine Z01 ?_; refine ZB ?_; refine ZC ?_; refine Zl ?_; refine Zn ?_; refine JD ?_; refine JF ?_
    refine Xj ?_
    refine St.le_trans (Y0 132 rfl) ?_
    refine St.le_trans (UG 101 1 132 rfl rfl rfl rfl) ?_
    exact X8 rfl JM ⟨rfl, rfl, rfl, trivial⟩
  obtain ⟨j, rfl⟩ : ∃ i, j = i + 1 := ⟨j - 1, by omega⟩
  have hj' : (i : Int) < (m5 : Nat) := by omega
  have he : s.e = 0 := by
   by_cases q : s.e = 0
   ·exact q
   ·exact absurd (.inr q) hj
  rw [X0v he] at g1 g2
  simp only at g1 g2
  have hv3 := (X0r (f := XO) X0S X2k hinv).1
  have hv4 := X3E (f := XO) X0S h4
  have k2 := XgJ B b' s hB hbl h4 hinv
  generalize (Xs b' XO s).2 = s3 at *
  generalize (Xs b' XO s).1 = x at *
  have happ : (acc ++ [x]).map Xr = acc.map Xr ++ [Xr x] := by simp
  clear hj hLEE hinv h4
  obtain ⟨k, c, a, e⟩ := s
  obtain ⟨k4, c4, a4, e4⟩ := s3
  simp only at he
  subst he
  unfold oR at k2
  obtain ⟨eid, esrc, edst, etyp, eps⟩ := x
  simp only at k2
  refine X0 ?_; refine X0 ?_; refine JR ?_; refine Z1 ?_; refine Z1 ?_; refine Z8 ?_; refine Z1 ?_; refine Z1 ?_; refine Z01 ?_; refine ZB ?_; refine ZC ?_; refine Zl ?_; refine Zn ?_; refine JD ?_; refine JT ?_
  refine X2 ?_; refine X0 ?_; refine X4 ?_; refine JR ?_; refine ZB ?_; refine ZC ?_; refine Z1 ?_; refine Z9 (hcon := k2) ?_; refine Z5 ?_; refine Z6 ?_; refine ZB ?_; refine Zy ?_; refine JD ?_
  refine JR ?_; refine Z1 ?_; refine Zb ?_; refine Z0 ?_; refine JD ?_
  refine ⟨(acc ++ [_], i + 1, j, ⟨k4, c4, a4, e4⟩), ⟨by simpa using g1, g2, hv3, hv4, by simp only; omega⟩, by show j < j + 1; omega, ?_⟩
  rw [happ]
  exact X8 rfl JM ⟨rfl, by refine Eq.trans (b := AObj.box [_, .own 132 (_ + _), _, _]) rfl ?_; simp only [List.length_append, List.length_cons, List.length_nil], rfl, rfl, trivial⟩
 have hinv := hLbEE.1
 have h4 := hL4EE
 have hf := XdU B b' EE.2 h4 hinv.k
 have hck := Xax ⟨N.1, EE.1, (m1 : Nat), (m2 : Nat)⟩ hh
 have hRl : R.1.length ≤ 9223372036854775807 := by have := hLbR.2; omega
 have hvl := X91 R.1 hRl
 generalize Vg b' EE.2 = z at *
 clear hinv h4
 obtain ⟨zk, zc, za, e⟩ := z
 obtain ⟨Rl, Rs⟩ := R
 obtain ⟨Nl, Ns⟩ := N
 obtain ⟨El, k, c, a, e8⟩ := EE
 unfold oR at hf
 simp only at hf hck hvl hh ⊢
 simp only [Y4] at hck
 by_cases he : e = 0
 case neg =>
  rw [Xbw he]
  simp only [Y4, List.map_nil]
  refine X0 ?_; refine JR ?_; refine Z1 ?_; refine Z9 (hcon := hf) ?_; refine JD ?_; refine X0 ?_; refine X0 ?_; refine JR ?_; refine Z1 ?_; refine Z01 ?_; refine ZB ?_; refine ZC ?_; refine Zl ?_
  refine JD ?_; refine JF ?_; refine X2 ?_; refine X0 ?_; refine X0 ?_; refine JR ?_; refine Z1 ?_; refine Z01 ?_; refine ZB ?_; refine ZC ?_; refine Zl ?_; refine Z1 ?_; refine Zo ?_; refine Zo ?_
  refine Zo ?_; refine Zq ?_; refine JD ?_; refine JF ?_; refine X2 ?_; refine X0 ?_; refine X0 ?_; refine JR ?_; refine Z1 ?_; refine Z01 ?_; refine ZB ?_; refine ZC ?_; refine Zv ?_; refine JD ?_
  refine JT ?_; refine X0 ?_; refine JR ?_; refine Zx ?_; refine Z1 ?_; refine Z01 ?_; refine ZB ?_; refine ZC ?_; refine Zy ?_; refine Z0 ?_; refine Z0 ?_; refine JD ?_
  exact X1 ⟨_, St.le_trans (XI 100 (cs' := [.d (.sl 3 []), .d (.sl 5 []), ai 0, ai 0]) rfl JM rfl) (Xh 3 (y := .d (.sl 6 [])) (AVal.le_nil 6)), ⟨⟨100, 0, _, rfl, rfl, .inr ⟨4, _, rfl, rfl, rfl, rfl⟩⟩, rfl, rfl, trivial⟩, X3 _⟩
 subst he
 by_cases hg : Yh ⟨Nl, El, (m1 : Nat), (m2 : Nat)⟩ = 0
 case neg =>
  rw [XaJ hg]
  simp only [Y4, List.map_nil]
  generalize Yh ⟨Nl, El, (m1 : Nat), (m2 : Nat)⟩ = ge at *
  refine X0 ?_; refine JR ?_; refine Z1 ?_; refine Z9 (hcon := hf) ?_; refine JD ?_; refine X0 ?_; refine X0 ?_; refine JR ?_; refine Z1 ?_; refine Z01 ?_; refine ZB ?_; refine ZC ?_; refine Zl ?_
  refine JD ?_; refine JT ?_; refine JR ?_; refine Z1 ?_; refine ZL ?_; refine Z9 (hcon := hck) ?_; refine Z01 ?_; refine ZB ?_; refine Zy ?_; refine JD ?_; refine X0 ?_; refine X0 ?_; refine JR ?_; refine Z1 ?_
  refine Z01 ?_; refine ZB ?_; refine ZC ?_; refine Zl ?_; refine Z1 ?_; refine Zo ?_; refine Zo ?_; refine Zo ?_; refine Zq ?_; refine JD ?_; refine JF ?_; refine X2 ?_; refine X0 ?_; refine X0 ?_
  refine JR ?_; refine Z1 ?_; refine Z01 ?_; refine ZB ?_; refine ZC ?_; refine Zv ?_; refine JD ?_; refine JT ?_; refine X0 ?_; refine JR ?_; refine Zx ?_; refine Z1 ?_; refine Z01 ?_; refine ZB ?_; refine ZC ?_
  refine Zy ?_; refine Z0 ?_; refine Z0 ?_; refine JD ?_
  exact X1 ⟨_, St.le_trans (XI 100 (cs' := [.d (.sl 3 []), .d (.sl 5 []), ai 0, ai 0]) rfl JM rfl) (Xh 3 (y := .d (.sl 6 [])) (AVal.le_nil 6)), ⟨⟨100, 0, _, rfl, rfl, .inr ⟨4, _, rfl, rfl, rfl, rfl⟩⟩, rfl, rfl, trivial⟩, X3 _⟩
 rw [hg] at hck
 cases hsv : Uj Rl with
 | false =>
  rw [X7W hg hsv]
  rw [hsv] at hvl
  simp only [Y4, List.map_nil]
  refine X0 ?_; refine JR ?_; refine Z1 ?_; refine Z9 (hcon := hf) ?_; refine JD ?_; refine X0 ?_; refine X0 ?_; refine JR ?_; refine Z1 ?_; refine Z01 ?_; refine ZB ?_; refine ZC ?_; refine Zl ?_
  refine JD ?_; refine JT ?_; refine JR ?_; refine Z1 ?_; refine ZL ?_; refine Z9 (hcon := hck) ?_; refine Z01 ?_; refine ZB ?_; refine Zy ?_; refine JD ?_; refine X0 ?_; refine X0 ?_; refine JR ?_; refine Z1 ?_
  refine Z01 ?_; refine ZB ?_; refine ZC ?_; refine Zl ?_; refine Z1 ?_; refine Z1 ?_; refine Z9 (hcon := hvl) ?_; refine Zu ?_; refine Zn ?_; refine JD ?_; refine JT ?_; refine JR ?_; refine Z1 ?_; refine Z01 ?_
  refine ZB ?_; refine Zy ?_; refine JD ?_; refine X0 ?_; refine X0 ?_; refine JR ?_; refine Z1 ?_; refine Z01 ?_; refine ZB ?_; refine ZC ?_; refine Zv ?_; refine JD ?_; refine JT ?_; refine X0 ?_
  refine JR ?_; refine Zx ?_; refine Z1 ?_; refine Z01 ?_; refine ZB ?_; refine ZC ?_; refine Zy ?_; refine Z0 ?_; refine Z0 ?_; refine JD ?_
  exact X1 ⟨_, St.le_trans (XI 100 (cs' := [.d (.sl 3 []), .d (.sl 5 []), ai 0, ai 0]) rfl JM rfl) (Xh 3 (y := .d (.sl 6 [])) (AVal.le_nil 6)), ⟨⟨100, 0, _, rfl, rfl, .inr ⟨4, _, rfl, rfl, rfl, rfl⟩⟩, rfl, rfl, trivial⟩, X3 _⟩
 | true =>
  rw [X87 hg hsv]
  rw [hsv] at hvl
  simp only [Y4]
  refine X0 ?_; refine JR ?_; refine Z1 ?_; refine Z9 (hcon := hf) ?_; refine JD ?_; refine X0 ?_; refine X0 ?_; refine JR ?_; refine Z1 ?_; refine Z01 ?_; refine ZB ?_; refine ZC ?_; refine Zl ?_
  refine JD ?_; refine JT ?_; refine JR ?_; refine Z1 ?_; refine ZL ?_; refine Z9 (hcon := hck) ?_; refine Z01 ?_; refine ZB ?_; refine Zy ?_; refine JD ?_; refine X0 ?_; refine X0 ?_; refine JR ?_; refine Z1 ?_
  refine Z01 ?_; refine ZB ?_; refine ZC ?_; refine Zl ?_; refine Z1 ?_; refine Z1 ?_; refine Z9 (hcon := hvl) ?_; refine Zu ?_; refine Zn ?_; refine JD ?_; refine JF ?_; refine X2 ?_; refine X0 ?_
  refine X0 ?_; refine JR ?_; refine Z1 ?_; refine Z01 ?_; refine ZB ?_; refine ZC ?_; refine Zv ?_; refine JD ?_; refine JF ?_; refine X2 ?_; refine X0 ?_; refine JR ?_; refine ZL ?_; refine Z1 ?_
  refine Zy ?_; refine Z0 ?_; refine Z0 ?_; refine JD ?_
  exact X1 ⟨_, St.le_refl _, ⟨⟨100, 0, _, rfl, rfl, .inr ⟨4, _, rfl, rfl, rfl, rfl⟩⟩, rfl, rfl, trivial⟩, X3 _⟩
end Go.Fw
namespace Go.Fw
open Go Go.Proofs
set_option maxRecDepth 100000
set_option linter.unusedVariables false
set_option linter.unusedSimpArgs false
theorem XbG (b : List UInt8) : Con Tryz.prog 4 [] [.d (Xa b)] [] (ab true) := by
 refine X9 (xs := [ab true]) Tryz.func4 rfl Tryz.ntmps4 rfl rfl rfl (fun E => ?_)
 have ha := X4C
 have hlm : (b.map X6).length = b.length := by simp
 by_cases hl : (3000 : Int) < ((b.map X6).length : Nat)
 ·refine X0 ?_; refine JR ?_; refine Z0 ?_; refine JD ?_; refine X0 ?_; refine X0 ?_; refine JR ?_; refine Z1 ?_; refine Zd ?_; refine Zs ?_; refine JD ?_; refine JT ?_; refine X0 ?_; refine JR ?_
  refine Z9 (hcon := ha) ?_; refine Z0 ?_; refine JD ?_
  (show AWP Tryz.prog E _ _ _; refine X1 ?_; exact (show Yo _ _ _ _ _ from ⟨_, St.le_refl _, ⟨rfl, trivial⟩, X3 _⟩))
 have hb : b.length ≤ 1073741824 := by omega
 have h1 := X0T b hb (X0m b hb)
 have h2 := XeF b hb
 obtain ⟨hh, hrl⟩ := X8t b hb
 generalize YA b = r at *
 obtain ⟨g, rs, e⟩ := r
 simp only at h1 h2 hh hrl
 have h3 := X4G g hh
 have h4 := X5m rs hrl
 have he : e = e := rfl
 clear hh hb
 obtain ⟨ns, es, nn, ne⟩ := g
 unfold Y4 at *
 simp only at *
 refine X0 ?_; refine JR ?_; refine Z0 ?_; refine JD ?_; refine X0 ?_; refine X0 ?_; refine JR ?_; refine Z1 ?_; refine Zd ?_; refine Zs ?_; refine JD ?_; refine JF ?_; refine X2 ?_; refine X0 ?_
 refine JR ?_; refine Z1 ?_; refine Z9 (hcon := h1) ?_; refine Z1 ?_; refine ZF ?_; refine ZF ?_; refine ZF ?_; refine Zw (γ := 100) ?_; refine Zy ?_; refine Z0 ?_; refine Z0 ?_; refine JD ?_; refine X0 ?_
 refine JR ?_; refine Z1 ?_; refine Z9 (hcon := h2) ?_; refine Z1 ?_; refine ZF ?_; refine ZF ?_; refine ZF ?_; refine Zw (γ := 101) ?_; refine Zy ?_; refine Z0 ?_; refine Z0 ?_; refine JD ?_; refine X0 ?_
 refine JR ?_; refine ZL ?_; refine ZL ?_; refine Z9 (hcon := h3) ?_; refine Z1 ?_; refine Z1 ?_; refine Z1 ?_; refine Z9 (hcon := h4) ?_; refine Zn ?_; refine Z1 ?_; refine Z1 ?_; refine Z1 ?_; refine Zl ?_; refine Zn ?_
 refine Z1 ?_; refine Z9 (hcon := ha) ?_; refine Zn ?_; refine Z0 ?_; refine JD ?_
 (show AWP Tryz.prog E _ _ _; refine X1 ?_; exact (show Yo _ _ _ _ _ from ⟨_, St.le_refl _, ⟨rfl, trivial⟩, X3 _⟩))
end Go.Fw

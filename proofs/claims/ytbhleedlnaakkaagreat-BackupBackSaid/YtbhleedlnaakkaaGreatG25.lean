/- The program's Restore. -/
import Derived.Test.YtbhleedlnaakkaaGreatG24
set_option maxHeartbeats 64000000
namespace Go.Fw
open Go Go.Proofs
set_option maxRecDepth 100000
set_option linter.unusedVariables false
set_option linter.unusedSimpArgs false
theorem X4n (b : List UInt8) (s : Rd) (hb : b.length ≤ 140737488355328) : Con Tryz.prog 56 [(140, oB b s)] [.ptr 140 0] [(140, oB b (XF b s))] (.tup []) := UO 0 140 (Xg2 b s hb)
theorem X41 (b : List UInt8) (s : Rd) : Con Tryz.prog 58 [(140, oB b s)] [.ptr 140 0] [(140, oB b (YD s))] (.tup []) := UO 0 140 (XgD b s)
theorem Xgk (b : List UInt8) (s : Rd) (hk : s.k ≤ b.length) : Con Tryz.prog 63 [(140, oB b s)] [.ptr 140 0] [(140, oB b (Vg b s))] (ai (Vg b s).e) := UO 0 140 (Xeu b s hk)
theorem X3p (b : List UInt8) (s : Rd) (hc : s.c.length ≤ 281474976710656) : Con Tryz.prog 57 [(140, oB b s)] [.ptr 140 0] [(140, oB b (Xb s).2)] (ai (Xb s).1) := UO 0 140 (X1W b s hc)
theorem Xe1 (b : List UInt8) (s : Rd) (hc : s.c.length ≤ 281474976710656) : Con Tryz.prog 59 [(140, oB b s)] [.ptr 140 0, .fn 60 []] [(140, oB b (Yi s).2)] (XW (Yi s).1) := UO 0 140 (XeX b s hc)
theorem XcH (b : List UInt8) (s : Rd) (hs : Yg s) (hc : s.c.length ≤ 1073741824) : Con Tryz.prog 61 [(140, oB b s)] [.ptr 140 0] [(140, oB b (Ym s).2)] (Ub (Ym s).1) := UO 0 140 (XfX b s hs hc)
theorem XcS (b : List UInt8) (s : Rd) (hs : Yg s) (hc : s.c.length ≤ 1073741824) : Con Tryz.prog 62 [(140, oB b s)] [.ptr 140 0] [(140, oB b (XO s).2)] (.agg [ai (XO s).1.id, ai (XO s).1.src, ai (XO s).1.dst, XD (XO s).1.typ, .d (.sl 6 ((XO s).1.props.map Xk))]) := UO 0 140 (XcP b s hs hc)
theorem Xdd (b : List UInt8) : Con Tryz.prog 55 [] [.d (Xa b), XD Xw] [(140, oB (Vj b) (YL b))] (.ptr 140 0) := UO 100 140 (XhJ b)
def VB (x : Gra × List Rul) (e : Int) : Gra × List Rul × Int :=
 let e' := if e ≠ 0 then e else if Yh x.1 ≠ 0 then Yh x.1 else if Uj x.2 = false then 19 else 0
 if e' ≠ 0 then (X0k, [], e') else (x.1, x.2, 0)
theorem Xbw {x : Gra × List Rul} {e : Int} (h : e ≠ 0) : VB x e = (X0k, [], e) := by
 unfold VB
 simp [h]
theorem XaJ {g : Gra} {l : List Rul} (h : Yh g ≠ 0) : VB (g, l) 0 = (X0k, [], Yh g) := by
 unfold VB
 simp [h]
theorem X7W {g : Gra} {l : List Rul} (h : Yh g = 0) (hs : Uj l = false) : VB (g, l) 0 = (X0k, [], 19) := by
 unfold VB
 simp [h, hs]
theorem X87 {g : Gra} {l : List Rul} (h : Yh g = 0) (hs : Uj l = true) : VB (g, l) 0 = (g, l, 0) := by
 unfold VB
 simp [h, hs]
theorem Xe0 {α : Type} {f : Rd → α × Rd} {b : List UInt8} {n : Nat} {s : Rd} (h : s.e ≠ 0) : Xt (Xs b f) n s = ([], s) := X1e h
theorem Xi0 {s : Rd} (h : s.e ≠ 0) : Xb s = (0, s) := X9O h
theorem X9b {b : List UInt8} {s : Rd} (h : s.e ≠ 0) : U7 b s = ((⟨[], [], 0, 0⟩, []), s) := by
 have hh : X0y b s = ((0, 0, 0, 0, 0), s) := by
  rw [X1x]
  unfold Xs X0H
  simp only [X5y h, Xi0 h, X3f h]
 unfold U7
 rw [hh]
 simp only [Xe0 h]
 unfold Vg
 rw [if_neg (fun q => h q.1)]
theorem X8L (b : List UInt8) : YA b = VB (U7 (Vj b) (YL b)).1 (U7 (Vj b) (YL b)).2.e := by
 unfold YA Vj YL
 by_cases h : b.take 4 = Xw
 ·rw [if_pos h, if_pos h]; rfl
 ·rw [if_neg h, if_neg h, X9b (by simp), X9b (by simp)]; rfl
theorem X6D (b : List UInt8) : RdInv (Vj b) (YL b) := ⟨Nat.zero_le _, ⟨Int.le_refl _, by simp [YL]⟩, by simp [YL]⟩
theorem X6V (b : List UInt8) : (Vj b).length ≤ b.length := by
 unfold Vj
 split <;> simp
theorem X0T (b : List UInt8) (hb : b.length ≤ 1073741824) (hh : GraHold (U7 (Vj b) (YL b)).1.1) : Con Tryz.prog 16 [] [.d (Xa b)] [] (.tup [Y4 (YA b).1, .d (.sl 6 ((YA b).2.1.map Xp)), ai (YA b).2.2]) := by
 refine X9 (xs := [Y4 (YA b).1, .d (.sl 6 ((YA b).2.1.map Xp)), ai (YA b).2.2]) Tryz.func16 rfl Tryz.ntmps16 rfl rfl rfl (fun E => ?_)
 have hbl := X6V b
 have hinv := X6D b
 rw [X8L b]
 have k0 := Xdd b
 unfold U7 at hh ⊢
 rw [X1x] at hh ⊢
 generalize Vj b = b' at *
 generalize YL b = s0 at *
 have ko := X4n b' s0 (by omega)
 have hi1 := (X0t hinv).1
 have hhd : Xs b' X0H s0 = (((Xb (XF b' s0)).1, (Xb (Xb (XF b' s0)).2).1, (Xb (Xb (Xb (XF b' s0)).2).2).1, (Xb (Xb (Xb (Xb (XF b' s0)).2).2).2).1, (Xb (Xb (Xb (Xb (Xb (XF b' s0)).2).2).2).2).1),
  YD (Xb (Xb (Xb (Xb (Xb (XF b' s0)).2).2).2).2).2) := rfl
 rw [hhd] at hh ⊢
 clear hhd
 simp only at hh ⊢
 generalize XF b' s0 = o1 at *
 have h1 := X3p b' o1 (by have := hi1.c; omega)
 have hi2 := X0c XQ Yn.ok hi1
 obtain ⟨m1, hm1, hml1⟩ := Vw o1
 rw [hm1] at h1
 generalize ho2 : (Xb o1).2 = o2 at *
 have h2 := X3p b' o2 (by have := hi2.c; omega)
 have hi3 := X0c XQ Yn.ok hi2
 obtain ⟨m2, hm2, hml2⟩ := Vw o2
 rw [hm2] at h2
 generalize ho3 : (Xb o2).2 = o3 at *
 have h3 := X3p b' o3 (by have := hi3.c; omega)
 have hi4 := X0c XQ Yn.ok hi3
 obtain ⟨m3, hm3, hml3⟩ := Vw o3
 rw [hm3] at h3
 generalize ho4 : (Xb o3).2 = o4 at *
 have h4 := X3p b' o4 (by have := hi4.c; omega)
 have hi5 := X0c XQ Yn.ok hi4
 obtain ⟨m4, hm4, hml4⟩ := Vw o4
 rw [hm4] at h4
 generalize ho5 : (Xb o4).2 = o5 at *
 have h5 := X3p b' o5 (by have := hi5.c; omega)
 have hi6 := X0c XQ Yn.ok hi5
 obtain ⟨m5, hm5, hml5⟩ := Vw o5
 rw [hm5] at h5
 generalize ho6 : (Xb o5).2 = o6 at *
 have ks := X41 b' o6
 have hinv := (X56 hi6).1
 simp only [hm1, hm2, hm3, hm4, hm5, Int.toNat_natCast] at hh ⊢
 generalize YD o6 = s7 at *
 clear hm1 hm2 hm3 hm4 hm5
 obtain ⟨p0, q0, r0, t0⟩ := s0
 obtain ⟨p1, q1, r1, t1⟩ := o1
 obtain ⟨p2, q2, r2, t2⟩ := o2
 obtain ⟨p3, q3, r3, t3⟩ := o3
 obtain ⟨p4, q4, r4, t4⟩ := o4
 obtain ⟨p5, q5, r5, t5⟩ := o5
 obtain ⟨p6, q6, r6, t6⟩ := o6
 obtain ⟨p7, q7, r7, t7⟩ := s7
 unfold oB at k0 ko h1 h2 h3 h4 h5 ks
 simp only at k0 ko h1 h2 h3 h4 h5 ks
 clear ho2 ho3 ho4 ho5 ho6 hi1 hi2 hi3 hi4 hi5 hi6
 refine X0 ?_; refine JR ?_; refine Zw (γ := 100) ?_; refine Z0 ?_; refine Z0 ?_; refine JD ?_; refine X0 ?_; refine JR ?_; refine Z1 ?_; refine Z9 (hcon := k0) ?_; refine Z0 ?_; refine JD ?_; refine X0 ?_
 refine JR ?_; refine Z1 ?_; refine Z9 (hcon := ko) ?_; refine JD ?_; refine X0 ?_; refine JR ?_; refine Zw (γ := 101) ?_; refine JD ?_; refine X0 ?_; refine JR ?_; refine Z1 ?_; refine Z9 (hcon := h1) ?_
 refine ZB ?_; refine Zy ?_; refine JD ?_; refine X0 ?_; refine JR ?_; refine Z1 ?_; refine Z9 (hcon := h2) ?_; refine ZB ?_; refine Zy ?_; refine JD ?_; refine X0 ?_; refine JR ?_; refine Z1 ?_
 refine Z9 (hcon := h3) ?_; refine Z1 ?_; refine Z9 (hcon := h4) ?_; refine Z1 ?_; refine Z9 (hcon := h5) ?_; refine Z0 ?_; refine Z0 ?_; refine Z0 ?_; refine JD ?_; refine X0 ?_; refine JR ?_; refine Z1 ?_
 refine Z9 (hcon := ks) ?_; refine JD ?_; refine X0 ?_; refine JR ?_; refine Z0 ?_; refine JD ?_; refine X0 ?_
 clear k0 ko h1 h2 h3 h4 h5 ks
 have hLbR := X0j (b := b') X0E X1z m3 ⟨p7, q7, r7, t7⟩ hinv
 generalize hLR : Xt (Xs b' Yi) m3 ⟨p7, q7, r7, t7⟩ = R at *
 refine X15 ⟨113, [(2, .ptr 100 0), (5, .ptr 140 0), (6, .ptr 101 0), (8, ai m4), (9, ai m5), (10, .d (.sl 6 (R.1.map Xp)))], [(100, .box [ani, ani, ai 0, ai 0]), (101, .box [ani, ani, ai m1, ai m2]), (140, .box [.d (Xa (b'.drop R.2.k)), .d (Xa R.2.c), ai R.2.a, ai R.2.e])]⟩ ?_ ?_
 ·refine Xm (VR 10 130 6 rfl rfl rfl) ?_
  refine X4 ?_
  refine Xy (ι := List Rul × Nat × Rd) (fun q => q.1 ++ (Xt (Xs b' Yi) q.2.1 q.2.2).1 = R.1 ∧ (Xt (Xs b' Yi) q.2.1 q.2.2).2 = R.2 ∧ RdInv b' q.2.2 ∧ q.2.1 ≤ 9223372036854775807) (fun q => ⟨113, [(2, .ptr 100 0), (5, .ptr 140 0), (6, .ptr 101 0), (7, ai q.2.1), (8, ai m4), (9, ai m5), (10, .own 130 (q.1.map Xp).length)], [(100, .box [ani, ani, ai 0, ai 0]), (101, .box [ani, ani, ai m1, ai m2]), (130, .row 6 (q.1.map Xp)), (140, .box [.d (Xa (b'.drop q.2.2.k)), .d (Xa q.2.2.c), ai q.2.2.a, ai q.2.2.e])]⟩) (fun q => q.2.1) ([], m3, ⟨p7, q7, r7, t7⟩)
   ⟨by rw [hLR]; rfl, by rw [hLR], hinv, hml3⟩
   (X8 rfl JM ⟨rfl, rfl, rfl, rfl, trivial⟩) ?_
  clear hinv
  rintro ⟨acc, j, s⟩ ⟨g1, g2, hinv, g4⟩
  simp only at g1 g2 hinv g4
  have hroom0 : acc.length ≤ 1073741825 := by
   have h1 := congrArg List.length g1
   have h2 := hLbR.2
   simp only [List.length_append] at h1
   omega
  have hroom : (acc.map Xp).length ≤ 1073741825 := by rw [List.length_map]; exact hroom0
  by_cases hj : j = 0 ∨ s.e ≠ 0
  ·have hLL := X0h g1 g2 hj
   subst hLL
   have hgd : (¬ (0 : Int) < (j : Nat)) ∨ ((0 : Int) < (j : Nat) ∧ s.e ≠ 0) := by
    rcases hj with rfl | h
    ·exact .inl (by simp)
    ·by_cases h0 : (0 : Int) < (j : Nat)
     ·exact .inr ⟨h0, h⟩
     ·exact .inl h0
   obtain ⟨k, c, a, e⟩ := s
   simp only at hgd ⊢
   rcases hgd with hj' | ⟨hj', he⟩
   ·refine X0 ?_; refine X0 ?_; refine JR ?_; refine Z1 ?_; refine Zs ?_; refine Z1 ?_; refine Zo ?_; refine Zo ?_; refine Zo ?_; refine Zo ?_; refine Zo ?_; refine Zq ?_; refine JD ?_; refine JF ?_
    refine Xj ?_
    refine St.le_trans (Y0 130 rfl) ?_
    refine St.le_trans (YC 10 130 rfl rfl rfl) ?_
    exact X8 rfl JM ⟨rfl, rfl, rfl, trivial⟩
   ·refine X0 ?_; refine X0 ?_; refine JR ?_; refine Z1 ?_; refine Zs ?_; refine Z1 ?_; refine Z1 ?_; refine Z01 ?_; refine ZB ?_; refine ZC ?_; refine Zl ?_; refine Zn ?_; refine JD ?_; refine JF ?_
    refine Xj ?_
    refine St.le_trans (Y0 130 rfl) ?_
    refine St.le_trans (YC 10 130 rfl rfl rfl) ?_
    exact X8 rfl JM ⟨rfl, rfl, rfl, trivial⟩
  obtain ⟨i, rfl⟩ : ∃ i, j = i + 1 := ⟨j - 1, by omega⟩
  have hj' : (0 : Int) < (i + 1 : Nat) := by omega
  have he : s.e = 0 := by
   by_cases q : s.e = 0
   ·exact q
   ·exact absurd (.inr q) hj
  rw [X0v he] at g1 g2
  simp only at g1 g2
  have hv1 := (X0t hinv).1
  have hv3 := (X0r (f := Yi) X0E X1z hinv).1
  have k1 := X4n b' s (by omega)
  have k2 := Xe1 b' (XF b' s) (by have := hv1.c; omega)
  have k3 := X41 b' (Yi (XF b' s)).2
  have hit : Xs b' Yi s = ((Yi (XF b' s)).1, YD (Yi (XF b' s)).2) := rfl
  rw [hit] at g1 g2 hv3
  simp only at g1 g2 hv3
  generalize YD (Yi (XF b' s)).2 = s3 at *
  generalize (Yi (XF b' s)).2 = s2 at *
  generalize (Yi (XF b' s)).1 = x at *
  generalize XF b' s = s1 at *
  have happ : (acc ++ [x]).map Xp = acc.map Xp ++ [Xp x] := by simp
  clear hit hv1 hj hLR
  obtain ⟨k, c, a, e⟩ := s
  obtain ⟨k', c', a', e'⟩ := s1
  obtain ⟨k'', c'', a'', e''⟩ := s2
  obtain ⟨k4, c4, a4, e4⟩ := s3
  simp only at he
  subst he
  unfold oB at k1 k2 k3
  obtain ⟨rk, rn, rname, rkey, rsrc, rdst⟩ := x
  simp only [XW] at k1 k2 k3
  refine X0 ?_; refine X0 ?_; refine JR ?_; refine Z1 ?_; refine Zs ?_; refine Z1 ?_; refine Z1 ?_; refine Z01 ?_; refine ZB ?_; refine ZC ?_; refine Zl ?_; refine Zn ?_; refine JD ?_; refine JT ?_
  refine X2 ?_; refine X0 ?_; refine X4 ?_; refine X0 ?_; refine JR ?_; refine Z1 ?_; refine Z9 (hcon := k1) ?_; refine JD ?_; refine X0 ?_; refine JR ?_; refine Z1 ?_; refine Z1 ?_
  refine Z9 (hcon := k2) ?_; refine Z5 ?_; refine Z6 ?_; refine Z0 ?_; refine JD ?_; refine JR ?_; refine Z1 ?_; refine Z9 (hcon := k3) ?_; refine JD ?_; refine JR ?_; refine Z1 ?_
  refine Z4 (op := .sub) (r' := nj i) (u := .int .i64 ((i + 1 : Nat) : Int)) (v := .int .i64 1) ?_ (hr' := by exact congrArg (Value.int .i64) (show (((i + 1 : Nat) : Int) - 1) = (i : Int) by omega)) (hr := by exact Ya (by unfold Y7; omega))
  refine Z0 ?_; refine JD ?_
  refine ⟨(acc ++ [_], i, ⟨k4, c4, a4, e4⟩), ⟨by simpa using g1, g2, hv3, by simp only; omega⟩, by show i < i + 1; omega, ?_⟩
  rw [happ]
  exact X8 rfl ⟨JL, JL, JL, JL, JL, JL, AVal.le_of_eq (by refine Eq.trans (b := AVal.own 130 (_ + _)) rfl ?_; simp only [List.length_append, List.length_cons, List.length_nil]), trivial⟩ ⟨rfl, rfl, rfl, rfl, trivial⟩
 have hinv := hLbR.1
 refine X0 ?_
 have hLbN := X0j (b := b') X0P X2o m4 R.2 hinv
 generalize hLN : Xt (Xs b' Ym) m4 R.2 = N at *
 refine X15 ⟨113, [(2, .ptr 100 0), (5, .ptr 140 0), (6, .ptr 101 0), (9, ai m5), (10, .d (.sl 6 (R.1.map Xp)))], [(100, .box [ani, ani, ai 0, ai 0]), (101, .box [.d (.sl 3 (N.1.map Xi)), ani, ai m1, ai m2]), (140, .box [.d (Xa (b'.drop N.2.k)), .d (Xa N.2.c), ai N.2.a, ai N.2.e])]⟩ ?_ ?_
 ·refine Xm (X0u 101 0 131 3 rfl rfl rfl rfl rfl) ?_
  refine X4 ?_
  refine Xy (ι := List Nod × Nat × Rd) (fun q => q.1 ++ (Xt (Xs b' Ym) q.2.1 q.2.2).1 = N.1 ∧ (Xt (Xs b' Ym) q.2.1 q.2.2).2 = N.2 ∧ RdInv b' q.2.2 ∧ q.2.1 ≤ 9223372036854775807) (fun q => ⟨113, [(2, .ptr 100 0), (5, .ptr 140 0), (6, .ptr 101 0), (8, ai q.2.1), (9, ai m5), (10, .d (.sl 6 (R.1.map Xp)))], [(100, .box [ani, ani, ai 0, ai 0]), (101, .box [.own 131 (q.1.map Xi).length, ani, ai m1, ai m2]), (131, .row 3 (q.1.map Xi)), (140, .box [.d (Xa (b'.drop q.2.2.k)), .d (Xa q.2.2.c), ai q.2.2.a, ai q.2.2.e])]⟩) (fun q => q.2.1) ([], m4, R.2)
   ⟨by rw [hLN]; rfl, by rw [hLN], hinv, hml4⟩
   (X8 rfl JM ⟨rfl, rfl, rfl, rfl, trivial⟩) ?_
  clear hinv
  rintro ⟨acc, j, s⟩ ⟨g1, g2, hinv, g4⟩
  simp only at g1 g2 hinv g4
  have hroom0 : acc.length ≤ 1073741825 := by
   have h1 := congrArg List.length g1
   have h2 := hLbN.2
   simp only [List.length_append] at h1
   omega
  have hroom : (acc.map Xi).length ≤ 1073741825 := by rw [List.length_map]; exact hroom0
  by_cases hj : j = 0 ∨ s.e ≠ 0
  ·have hLL := X0h g1 g2 hj
   subst hLL
   have hgd : (¬ (0 : Int) < (j : Nat)) ∨ ((0 : Int) < (j : Nat) ∧ s.e ≠ 0) := by
    rcases hj with rfl | h
    ·exact .inl (by simp)
    ·by_cases h0 : (0 : Int) < (j : Nat)
     ·exact .inr ⟨h0, h⟩
     ·exact .inl h0
   obtain ⟨k, c, a, e⟩ := s
   simp only at hgd ⊢
   rcases hgd with hj' | ⟨hj', he⟩
   ·refine X0 ?_; refine X0 ?_; refine JR ?_; refine Z1 ?_; refine Zs ?_; refine Z1 ?_; refine Zo ?_; refine Zo ?_; refine Zo ?_; refine Zo ?_; refine Zo ?_; refine Zq ?_; refine JD ?_; refine JF ?_
    refine Xj ?_
    refine St.le_trans (Y0 131 rfl) ?_
    refine St.le_trans (UG 101 0 131 rfl rfl rfl rfl) ?_
    exact X8 rfl JM ⟨rfl, rfl, rfl, trivial⟩
   ·refine X0 ?_; refine X0 ?_; refine JR ?_; refine Z1 ?_; refine Zs ?_; refine Z1 ?_; refine Z1 ?_; refine Z01 ?_; refine ZB ?_; refine ZC ?_; refine Zl ?_; refine Zn ?_; refine JD ?_; refine JF ?_
    refine Xj ?_
    refine St.le_trans (Y0 131 rfl) ?_
    refine St.le_trans (UG 101 0 131 rfl rfl rfl rfl) ?_
    exact X8 rfl JM ⟨rfl, rfl, rfl, trivial⟩
  obtain ⟨i, rfl⟩ : ∃ i, j = i + 1 := ⟨j - 1, by omega⟩
  have hj' : (0 : Int) < (i + 1 : Nat) := by omega
  have he : s.e = 0 := by
   by_cases q : s.e = 0
   ·exact q
   ·exact absurd (.inr q) hj
  rw [X0v he] at g1 g2
  simp only at g1 g2
  have hv1 := (X0t hinv).1
  have hv3 := (X0r (f := Ym) X0P X2o hinv).1
  have k1 := X4n b' s (by omega)
  have k2 := XcH b' (XF b' s) hv1.ok (by have := hv1.c; omega)
  have k3 := X41 b' (Ym (XF b' s)).2
  have hit : Xs b' Ym s = ((Ym (XF b' s)).1, YD (Ym (XF b' s)).2) := rfl
  rw [hit] at g1 g2 hv3
  simp only at g1 g2 hv3
  generalize YD (Ym (XF b' s)).2 = s3 at *
  generalize (Ym (XF b' s)).2 = s2 at *
  generalize (Ym (XF b' s)).1 = x at *
  generalize XF b' s = s1 at *
  have happ : (acc ++ [x]).map Xi = acc.map Xi ++ [Xi x] := by simp
  clear hit hv1 hj hLN
  obtain ⟨k, c, a, e⟩ := s
  obtain ⟨k', c', a', e'⟩ := s1
  obtain ⟨k'', c'', a'', e''⟩ := s2
  obtain ⟨k4, c4, a4, e4⟩ := s3
  simp only at he
  subst he
  unfold oB at k1 k2 k3
  obtain ⟨nid, nls, nps⟩ := x
  simp only [Ub] at k1 k2 k3
  refine X0 ?_; refine X0 ?_; refine JR ?_; refine Z1 ?_; refine Zs ?_; refine Z1 ?_; refine Z1 ?_; refine Z01 ?_; refine ZB ?_; refine ZC ?_; refine Zl ?_; refine Zn ?_; refine JD ?_; refine JT ?_
  refine X2 ?_; refine X0 ?_; refine X4 ?_; refine X0 ?_; refine JR ?_; refine Z1 ?_; refine Z9 (hcon := k1) ?_; refine JD ?_; refine X0 ?_; refine JR ?_; refine ZB ?_; refine ZC ?_
  refine Z1 ?_; refine Z9 (hcon := k2) ?_; refine Z5 ?_; refine Z6 ?_; refine ZB ?_; refine Zy ?_; refine JD ?_; refine JR ?_; refine Z1 ?_; refine Z9 (hcon := k3) ?_; refine JD ?_; refine JR ?_; refine Z1 ?_
  refine Z4 (op := .sub) (r' := nj i) (u := .int .i64 ((i + 1 : Nat) : Int)) (v := .int .i64 1) ?_ (hr' := by exact congrArg (Value.int .i64) (show (((i + 1 : Nat) : Int) - 1) = (i : Int) by omega)) (hr := by exact Ya (by unfold Y7; omega))
  refine Z0 ?_; refine JD ?_
  refine ⟨(acc ++ [_], i, ⟨k4, c4, a4, e4⟩), ⟨by simpa using g1, g2, hv3, by simp only; omega⟩, by show i < i + 1; omega, ?_⟩
  rw [happ]
  exact X8 rfl JM ⟨rfl, by refine Eq.trans (b := AObj.box [.own 131 (_ + _), _, _, _]) rfl ?_; simp only [List.length_append, List.length_cons, List.length_nil], rfl, rfl, trivial⟩
 have hinv := hLbN.1
 refine X0 ?_
 have hLbEE := X0j (b := b') X0S X2k m5 N.2 hinv
 generalize hLEE : Xt (Xs b' XO) m5 N.2 = EE at *
 refine X15 ⟨113, [(2, .ptr 100 0), (5, .ptr 140 0), (6, .ptr 101 0), (10, .d (.sl 6 (R.1.map Xp)))], [(100, .box [ani, ani, ai 0, ai 0]), (101, .box [.d (.sl 3 (N.1.map Xi)), .d (.sl 5 (EE.1.map Xr)), ai m1, ai m2]), (140, .box [.d (Xa (b'.drop EE.2.k)), .d (Xa EE.2.c), ai EE.2.a, ai EE.2.e])]⟩ ?_ ?_
 ·refine Xm (X0u 101 1 132 5 rfl rfl rfl rfl rfl) ?_
  refine X4 ?_
  refine Xy (ι := List Edg × Nat × Rd) (fun q => q.1 ++ (Xt (Xs b' XO) q.2.1 q.2.2).1 = EE.1 ∧ (Xt (Xs b' XO) q.2.1 q.2.2).2 = EE.2 ∧ RdInv b' q.2.2 ∧ q.2.1 ≤ 9223372036854775807) (fun q => ⟨113, [(2, .ptr 100 0), (5, .ptr 140 0), (6, .ptr 101 0), (9, ai q.2.1), (10, .d (.sl 6 (R.1.map Xp)))], [(100, .box [ani, ani, ai 0, ai 0]), (101, .box [.d (.sl 3 (N.1.map Xi)), .own 132 (q.1.map Xr).length, ai m1, ai m2]), (132, .row 5 (q.1.map Xr)), (140, .box [.d (Xa (b'.drop q.2.2.k)), .d (Xa q.2.2.c), ai q.2.2.a, ai q.2.2.e])]⟩) (fun q => q.2.1) ([], m5, N.2)
   ⟨by rw [hLEE]; rfl, by rw [hLEE], hinv, hml5⟩
   (X8 rfl JM ⟨rfl, rfl, rfl, rfl, trivial⟩) ?_
  clear hinv
  rintro ⟨acc, j, s⟩ ⟨g1, g2, hinv, g4⟩
  simp only at g1 g2 hinv g4
  have hroom0 : acc.length ≤ 1073741825 := by
   have h1 := congrArg List.length g1
   have h2 := hLbEE.2
   simp only [List.length_append] at h1
   omega
  have hroom : (acc.map Xr).length ≤ 1073741825 := by rw [List.length_map]; exact hroom0
  by_cases hj : j = 0 ∨ s.e ≠ 0
  ·have hLL := X0h g1 g2 hj
   subst hLL
   have hgd : (¬ (0 : Int) < (j : Nat)) ∨ ((0 : Int) < (j : Nat) ∧ s.e ≠ 0) := by
    rcases hj with rfl | h
    ·exact .inl (by simp)
    ·by_cases h0 : (0 : Int) < (j : Nat)
     ·exact .inr ⟨h0, h⟩
     ·exact .inl h0
   obtain ⟨k, c, a, e⟩ := s
   simp only at hgd ⊢
   rcases hgd with hj' | ⟨hj', he⟩
   ·refine X0 ?_; refine X0 ?_; refine JR ?_; refine Z1 ?_; refine Zs ?_; refine Z1 ?_; refine Zo ?_; refine Zo ?_; refine Zo ?_; refine Zo ?_; refine Zo ?_; refine Zq ?_; refine JD ?_; refine JF ?_
    refine Xj ?_
    refine St.le_trans (Y0 132 rfl) ?_
    refine St.le_trans (UG 101 1 132 rfl rfl rfl rfl) ?_
    exact X8 rfl JM ⟨rfl, rfl, rfl, trivial⟩
   ·refine X0 ?_; refine X0 ?_; refine JR ?_; refine Z1 ?_; refine Zs ?_; refine Z1 ?_; refine Z1 ?_; refine Z01 ?_; refine ZB ?_; refine ZC ?_; refine Zl ?_; refine Zn ?_; refine JD ?_; refine JF ?_
    refine Xj ?_
    refine St.le_trans (Y0 132 rfl) ?_
    refine St.le_trans (UG 101 1 132 rfl rfl rfl rfl) ?_
    exact X8 rfl JM ⟨rfl, rfl, rfl, trivial⟩
  obtain ⟨i, rfl⟩ : ∃ i, j = i + 1 := ⟨j - 1, by omega⟩
  have hj' : (0 : Int) < (i + 1 : Nat) := by omega
  have he : s.e = 0 := by
   by_cases q : s.e = 0
   ·exact q
   ·exact absurd (.inr q) hj
  rw [X0v he] at g1 g2
  simp only at g1 g2
  have hv1 := (X0t hinv).1
  have hv3 := (X0r (f := XO) X0S X2k hinv).1
  have k1 := X4n b' s (by omega)
  have k2 := XcS b' (XF b' s) hv1.ok (by have := hv1.c; omega)
  have k3 := X41 b' (XO (XF b' s)).2
  have hit : Xs b' XO s = ((XO (XF b' s)).1, YD (XO (XF b' s)).2) := rfl
  rw [hit] at g1 g2 hv3
  simp only at g1 g2 hv3
  generalize YD (XO (XF b' s)).2 = s3 at *
  generalize (XO (XF b' s)).2 = s2 at *
  generalize (XO (XF b' s)).1 = x at *
  generalize XF b' s = s1 at *
  have happ : (acc ++ [x]).map Xr = acc.map Xr ++ [Xr x] := by simp
  clear hit hv1 hj hLEE
  obtain ⟨k, c, a, e⟩ := s
  obtain ⟨k', c', a', e'⟩ := s1
  obtain ⟨k'', c'', a'', e''⟩ := s2
  obtain ⟨k4, c4, a4, e4⟩ := s3
  simp only at he
  subst he
  unfold oB at k1 k2 k3
  obtain ⟨eid, esrc, edst, etyp, eps⟩ := x
  simp only at k1 k2 k3
  refine X0 ?_; refine X0 ?_; refine JR ?_; refine Z1 ?_; refine Zs ?_; refine Z1 ?_; refine Z1 ?_; refine Z01 ?_; refine ZB ?_; refine ZC ?_; refine Zl ?_; refine Zn ?_; refine JD ?_; refine JT ?_
  refine X2 ?_; refine X0 ?_; refine X4 ?_; refine X0 ?_; refine JR ?_; refine Z1 ?_; refine Z9 (hcon := k1) ?_; refine JD ?_; refine X0 ?_; refine JR ?_; refine ZB ?_; refine ZC ?_
  refine Z1 ?_; refine Z9 (hcon := k2) ?_; refine Z5 ?_; refine Z6 ?_; refine ZB ?_; refine Zy ?_; refine JD ?_; refine JR ?_; refine Z1 ?_; refine Z9 (hcon := k3) ?_; refine JD ?_; refine JR ?_; refine Z1 ?_
  refine Z4 (op := .sub) (r' := nj i) (u := .int .i64 ((i + 1 : Nat) : Int)) (v := .int .i64 1) ?_ (hr' := by exact congrArg (Value.int .i64) (show (((i + 1 : Nat) : Int) - 1) = (i : Int) by omega)) (hr := by exact Ya (by unfold Y7; omega))
  refine Z0 ?_; refine JD ?_
  refine ⟨(acc ++ [_], i, ⟨k4, c4, a4, e4⟩), ⟨by simpa using g1, g2, hv3, by simp only; omega⟩, by show i < i + 1; omega, ?_⟩
  rw [happ]
  exact X8 rfl JM ⟨rfl, by refine Eq.trans (b := AObj.box [_, .own 132 (_ + _), _, _]) rfl ?_; simp only [List.length_append, List.length_cons, List.length_nil], rfl, rfl, trivial⟩
 have hinv := hLbEE.1
 have hf := Xgk b' EE.2 hinv.k
 have hck := Xbb ⟨N.1, EE.1, (m1 : Nat), (m2 : Nat)⟩ hh
 have hRl : R.1.length ≤ 9223372036854775807 := by have := hLbR.2; omega
 have hvl := Xbi R.1 hRl
 generalize Vg b' EE.2 = z at *
 obtain ⟨zk, zc, za, e⟩ := z
 obtain ⟨Rl, Rs⟩ := R
 obtain ⟨Nl, Ns⟩ := N
 obtain ⟨El, k, c, a, e8⟩ := EE
 unfold oB at hf
 simp only at hf hck hvl hh ⊢
 simp only [Y4] at hck
 by_cases he : e = 0
 case neg =>
  rw [Xbw he]
  simp only [Y4, List.map_nil]
  refine X0 ?_; refine X0 ?_; refine JR ?_; refine Z1 ?_; refine Z9 (hcon := hf) ?_; refine Z0 ?_; refine JD ?_; refine X0 ?_; refine JR ?_; refine Z1 ?_; refine Zv ?_; refine JD ?_; refine JT ?_
  refine X0 ?_; refine JR ?_; refine Zx ?_; refine Z1 ?_; refine Zy ?_; refine Z0 ?_; refine Z0 ?_; refine JD ?_
  exact X1 ⟨_, St.le_trans (XI 100 (cs' := [.d (.sl 3 []), .d (.sl 5 []), ai 0, ai 0]) rfl JM rfl) (Xh 3 (y := .d (.sl 6 [])) (AVal.le_nil 6)), ⟨⟨100, 0, _, rfl, rfl, .inr ⟨4, _, rfl, rfl, rfl, rfl⟩⟩, rfl, rfl, trivial⟩, X3 _⟩
 subst he
 by_cases hg : Yh ⟨Nl, El, (m1 : Nat), (m2 : Nat)⟩ = 0
 case neg =>
  rw [XaJ hg]
  simp only [Y4, List.map_nil]
  generalize Yh ⟨Nl, El, (m1 : Nat), (m2 : Nat)⟩ = ge at *
  refine X0 ?_; refine X0 ?_; refine JR ?_; refine Z1 ?_; refine Z9 (hcon := hf) ?_; refine Z0 ?_; refine JD ?_; refine X0 ?_; refine JR ?_; refine Z1 ?_; refine Zv ?_; refine JD ?_; refine JF ?_
  refine X2 ?_; refine X0 ?_; refine X0 ?_; refine JR ?_; refine ZL ?_; refine Z9 (hcon := hck) ?_; refine Z0 ?_; refine JD ?_; refine X0 ?_; refine JR ?_; refine Z1 ?_; refine Zv ?_; refine JD ?_
  refine JT ?_; refine X0 ?_; refine JR ?_; refine Zx ?_; refine Z1 ?_; refine Zy ?_; refine Z0 ?_; refine Z0 ?_; refine JD ?_
  exact X1 ⟨_, St.le_trans (XI 100 (cs' := [.d (.sl 3 []), .d (.sl 5 []), ai 0, ai 0]) rfl JM rfl) (Xh 3 (y := .d (.sl 6 [])) (AVal.le_nil 6)), ⟨⟨100, 0, _, rfl, rfl, .inr ⟨4, _, rfl, rfl, rfl, rfl⟩⟩, rfl, rfl, trivial⟩, X3 _⟩
 rw [hg] at hck
 cases hsv : Uj Rl with
 | false =>
  rw [X7W hg hsv]
  rw [hsv] at hvl
  simp only [Y4, List.map_nil]
  refine X0 ?_; refine X0 ?_; refine JR ?_; refine Z1 ?_; refine Z9 (hcon := hf) ?_; refine Z0 ?_; refine JD ?_; refine X0 ?_; refine JR ?_; refine Z1 ?_; refine Zv ?_; refine JD ?_; refine JF ?_
  refine X2 ?_; refine X0 ?_; refine X0 ?_; refine JR ?_; refine ZL ?_; refine Z9 (hcon := hck) ?_; refine Z0 ?_; refine JD ?_; refine X0 ?_; refine JR ?_; refine Z1 ?_; refine Zv ?_; refine JD ?_
  refine JF ?_; refine X2 ?_; refine X0 ?_; refine X0 ?_; refine JR ?_; refine Z1 ?_; refine Z9 (hcon := hvl) ?_; refine Zu ?_; refine JD ?_; refine JT ?_; refine X0 ?_; refine JR ?_; refine Zx ?_
  refine Zy ?_; refine Z0 ?_; refine Z0 ?_; refine JD ?_
  exact X1 ⟨_, St.le_trans (XI 100 (cs' := [.d (.sl 3 []), .d (.sl 5 []), ai 0, ai 0]) rfl JM rfl) (Xh 3 (y := .d (.sl 6 [])) (AVal.le_nil 6)), ⟨⟨100, 0, _, rfl, rfl, .inr ⟨4, _, rfl, rfl, rfl, rfl⟩⟩, rfl, rfl, trivial⟩, X3 _⟩
 | true =>
  rw [X87 hg hsv]
  rw [hsv] at hvl
  simp only [Y4]
  refine X0 ?_; refine X0 ?_; refine JR ?_; refine Z1 ?_; refine Z9 (hcon := hf) ?_; refine Z0 ?_; refine JD ?_; refine X0 ?_; refine JR ?_; refine Z1 ?_; refine Zv ?_; refine JD ?_; refine JF ?_
  refine X2 ?_; refine X0 ?_; refine X0 ?_; refine JR ?_; refine ZL ?_; refine Z9 (hcon := hck) ?_; refine Z0 ?_; refine JD ?_; refine X0 ?_; refine JR ?_; refine Z1 ?_; refine Zv ?_; refine JD ?_
  refine JF ?_; refine X2 ?_; refine X0 ?_; refine X0 ?_; refine JR ?_; refine Z1 ?_; refine Z9 (hcon := hvl) ?_; refine Zu ?_; refine JD ?_; refine JF ?_; refine X2 ?_; refine X0 ?_
  refine JR ?_; refine ZL ?_; refine Z1 ?_; refine Zy ?_; refine Z0 ?_; refine Z0 ?_; refine JD ?_
  exact X1 ⟨_, St.le_refl _, ⟨⟨100, 0, _, rfl, rfl, .inr ⟨4, _, rfl, rfl, rfl, rfl⟩⟩, rfl, rfl, trivial⟩, X3 _⟩
end Go.Fw
namespace Go.Fw
open Go
set_option linter.unusedVariables false
theorem XfZ (s : Rd) : XY (Um s).1 := by
 have h := XfF s.c s.a s.e
 unfold rvS at h
 unfold Um U4
 by_cases q : s.e = 0
 ·rw [if_neg (by simp [q])] at h ⊢; exact h
 ·rw [if_pos q] at h ⊢; exact h
theorem X70 (s : Rd) : (XR s).1.length ≤ 20 := by
 have h := XhG s.c s.a s.e
 unfold rsS at h
 unfold XR U4
 by_cases q : s.e = 0
 ·rw [if_neg (by simp [q])] at h ⊢; exact h
 ·rw [if_pos q] at h ⊢; exact h
theorem Xb8 (s : Rd) : X07 (Yl s).1 := ⟨by have := X70 s; show (XR s).1.length ≤ _; omega, XfZ _⟩
theorem X85 {α : Type} {f : Rd → α × Rd} {P : α → Prop} (h : ∀ s, P (f s).1) : ∀ (n : Nat) (s : Rd), ∀ x ∈ (Xt f n s).1, P x
 | 0, s, x, hx => by simp [Xt] at hx
 | n + 1, s, x, hx => by
  rw [Xt] at hx
  split at hx
  ·simp at hx
  ·simp only [List.mem_cons] at hx
   rcases hx with rfl | hx
   ·exact h s
   ·exact X85 h n _ x hx
theorem X5q {α : Type} {f : Rd → α × Rd} {P : α → Prop} (hp : PartR f) (hg : GoR 1 f) (h : ∀ s, P (f s).1) {s : Rd} (hs : Yg s) (hc : s.c.length ≤ 1073741824) : (Yr f s).1.length ≤ 9223372036854775807 ∧ ∀ x ∈ (Yr f s).1, P x := by
 refine ⟨?_, X85 h _ _⟩
 have := X37 hp hg (n := (Xb s).1.toNat) (Yn.ok s hs) (by rw [(XQ.keep s).2]; exact hc)
 show (Xt f (Xb s).1.toNat (Xb s).2).1.length ≤ _
 omega
theorem Xgs {s : Rd} (hs : Yg s) (hc : s.c.length ≤ 1073741824) : X1B (Ym s).1 := by
 have o1 := Yn.ok s hs
 have c1 := (XQ.keep s).2
 have h1 := X5q Uq Vb (P := fun x : List UInt8 => x.length ≤ 20) X70 o1 (by rw [c1]; exact hc)
 have o2 := X2i Vb o1
 have c2 := ((VP Uq).keep (Xb s).2).2
 have h2 := X5q Vx X1c (P := X07) Xb8 o2 (by rw [c2, c1]; exact hc)
 exact ⟨h1.1, fun x hx => by have := h1.2 x hx; omega, h2.1, h2.2⟩
theorem XgN {s : Rd} (hs : Yg s) (hc : s.c.length ≤ 1073741824) : X2e (XO s).1 := by
 have o1 := Yn.ok s hs
 have c1 := (XQ.keep s).2
 have o2 := Yn.ok _ o1
 have c2 := (XQ.keep (Xb s).2).2
 have o3 := Yn.ok _ o2
 have c3 := (XQ.keep (Xb (Xb s).2).2).2
 have o4 := Vb.ok _ o3
 have c4 := (Uq.keep (Xb (Xb (Xb s).2).2).2).2
 have h2 := X5q Vx X1c (P := X07) Xb8 o4 (by rw [c4, c3, c2, c1]; exact hc)
 exact ⟨by have := X70 (Xb (Xb (Xb s).2).2).2; show (XR (Xb (Xb (Xb s).2).2).2).1.length ≤ _; omega, h2.1, h2.2⟩
theorem X71 {α : Type} {f : Rd → α × Rd} {b : List UInt8} {P : α → Prop} (hp : PartR f) (ho : ∀ s, Yg s → Yg (f s).2) (h : ∀ s, RdInv b s → P (f s).1) : ∀ (n : Nat) (s : Rd), RdInv b s → ∀ x ∈ (Xt (Xs b f) n s).1, P x
 | 0, s, _, x, hx => by simp [Xt] at hx
 | n + 1, s, hi, x, hx => by
  rw [Xt] at hx
  split at hx
  ·simp at hx
  ·simp only [List.mem_cons] at hx
   rcases hx with rfl | hx
   ·exact h _ (X0t hi).1
   ·exact X71 hp ho h n _ (X0r hp ho hi).1 x hx
theorem XaX (b : List UInt8) (hb : b.length ≤ 1073741824) (s : Rd) (hi : RdInv b s) : GraHold (U7 b s).1.1 := by
 have i1 : RdInv b (X0y b s).2 := by rw [X1x]; exact (X0r X5g X9q hi).1
 unfold U7
 simp only
 have i2 := (X0j X0E X1z (X0y b s).1.2.2.1.toNat _ i1).1
 have f3 := X0j X0P X2o (X0y b s).1.2.2.2.1.toNat _ i2
 have f4 := X0j X0S X2k (X0y b s).1.2.2.2.2.toNat _ f3.1
 exact ⟨by have := f3.2; simp only; omega, by have := f4.2; simp only; omega,
  X71 X0P X2o (P := X1B) (fun s hs => Xgs hs.ok (by have := hs.c; omega)) _ _ i2,
  X71 X0S X2k (P := X2e) (fun s hs => XgN hs.ok (by have := hs.c; omega)) _ _ f3.1⟩
theorem X0m (b : List UInt8) (hb : b.length ≤ 1073741824) : GraHold (U7 (Vj b) (YL b)).1.1 := XaX _ (by have := X6V b; omega) _ (X6D b)
end Go.Fw
namespace Go.Fw
open Go
set_option linter.unusedVariables false
theorem X2n {g : Gra} {rs : List Rul} (h : Yy g rs = 0) : V9 g rs = Yz g rs := if_pos h
theorem X6q {g : Gra} {rs : List Rul} (h : Yy g rs = 0) : YA (Yz g rs) = (g, rs, 0) := by
 have := X3I h []
 rwa [List.append_nil, if_pos rfl] at this
def exN : Nod := ⟨1, [[65]], [⟨[107], .mk 2 5 0 [] []⟩]⟩
def exG : Gra := ⟨[exN], [], 2, 1⟩
def exF : List UInt8 := Y2 [1, 1, 1, 65, 1, 1, 107, 2, 10]
def exH : List UInt8 := Y2 [1, 1, 0, 0, 0]
def exX : List UInt8 := Xw ++ Y2 [2, 1, 0, 1, 0]
theorem X7K : Yy ⟨[], [], 1, 1⟩ [] = 0 := by decide +kernel
theorem X6Q : Yy exG [] = 0 := by decide +kernel
theorem Xfu : Yz ⟨[], [], 1, 1⟩ [] = Xw ++ exH := by
 simp [Yz, V0, XL, YH, Xc, vS, exH]
theorem X6j : Yz exG [] = exX ++ exF := by
 simp [Yz, V0, XL, YH, Y1, YT, Yd, Xz, Ys, XA, X7, XP, zig, Xc, vS, exX, exF, exG, exN]
theorem X7C : exF.length = 14 := by kernel_rfl
theorem Xfa : exH.length = 10 := by kernel_rfl
theorem X9h : exX.length = 14 := by kernel_rfl
theorem XeV : YA [71, 68, 66, 50, 97, 98, 99, 100, 101, 102] = (X0k, [], 2) := by kernel_rfl
theorem Xi6 : YA Xw = (X0k, [], 3) := by kernel_rfl
theorem X9Z : GraHold exG := ⟨by decide, by decide, by
 intro n hn
 obtain rfl : n = exN := by simpa [exG] using hn
 refine ⟨by decide, by simp [exN], by decide, ?_⟩
 intro p hp
 obtain rfl : p = ⟨[107], .mk 2 5 0 [] []⟩ := by simpa [exN] using hp
 exact ⟨by decide, by simp [XY, Vi]⟩, by simp [exG]⟩
theorem XbR : GraHold ⟨[], [], 1, 1⟩ := ⟨by simp, by simp, by simp, by simp⟩
end Go.Fw
namespace Go.Fw
open Go Go.Proofs
set_option maxRecDepth 100000
set_option linter.unusedVariables false
set_option linter.unusedSimpArgs false
theorem Xhv (l : List (List UInt8)) (hl : l.length ≤ 9223372036854775807) : Con Tryz.prog 121 [] [.d (.sl 1 (l.map Xn)), .d (.sl 1 (l.map Xn))] [] (ab true) := by
 refine X9 (xs := [ab true]) Tryz.func121 rfl Tryz.ntmps121 rfl rfl rfl (fun E => ?_)
 have hlm : (l.map Xn).length = l.length := by simp
 refine X0 ?_; refine JR ?_; refine Z0 ?_; refine JD ?_; refine X0 ?_; refine X0 ?_; refine JR ?_; refine Z1 ?_; refine Zd ?_; refine Z1 ?_; refine Zd ?_; refine Zv ?_; refine JD ?_; refine JF ?_
 refine X2 ?_; refine X0 ?_; refine X0 ?_; refine JR ?_; refine Z0 ?_; refine JD ?_; refine X4 ?_
 refine Xy (fun i : Nat => i ≤ l.length) (fun i => ⟨26, [(0, .d (.sl 1 (l.map Xn))), (1, .d (.sl 1 (l.map Xn))), (5, ai i)], []⟩) (fun i => l.length - i) 0 (Nat.zero_le _)
  (X8 rfl JM trivial) ?_
 intro i hi
 by_cases hil : i < l.length
 case neg =>
  obtain rfl : i = l.length := by omega
  have hn : ¬ ((l.length : Nat) : Int) < (l.map Xn).length := by omega
  refine X0 ?_; refine X0 ?_; refine JR ?_; refine Z1 ?_; refine Z1 ?_; refine Zd ?_; refine Z8 ?_; refine JD ?_; refine JF ?_; refine Xj ?_; refine X0 ?_; refine JR ?_; refine Z0 ?_; refine JD ?_
  exact X1 ⟨_, St.le_refl _, ⟨rfl, trivial⟩, X3 _⟩
 have hn : (i : Int) < (l.map Xn).length := by omega
 obtain ⟨x, hx⟩ := Xu (l := l) hil
 have hxc : (l.map Xn)[i]? = some (Xn x) := XS hx
 clear hx
 refine X0 ?_; refine X0 ?_; refine JR ?_; refine Z1 ?_; refine Z1 ?_; refine Zd ?_; refine Z8 ?_; refine JD ?_; refine JT ?_; refine X2 ?_; refine X0 ?_; refine X4 ?_; refine X0 ?_
 refine JR ?_; refine Z1 ?_; refine Z1 ?_; refine Zj ?_; refine Zk ?_; refine Z1 ?_; refine Z1 ?_; refine Zj ?_; refine Zk ?_; refine ZM ?_; refine JD ?_; refine JF ?_; refine X2 ?_; refine JR ?_; refine Z1 ?_
 refine Zb ?_; refine Z0 ?_; refine JD ?_
 exact ⟨i + 1, hil, by omega, X8 rfl JM trivial⟩
theorem X8u (l : List Prp) (hok : ∀ p ∈ l, XY p.v) (hl : l.length ≤ 9223372036854775807) : Con Tryz.prog 122 [] [.d (.sl 6 (l.map Xk)), .d (.sl 6 (l.map Xk))] [] (ab true) := by
 refine X9 (xs := [ab true]) Tryz.func122 rfl Tryz.ntmps122 rfl rfl rfl (fun E => ?_)
 have hlm : (l.map Xk).length = l.length := by simp
 refine X0 ?_; refine JR ?_; refine Z0 ?_; refine JD ?_; refine X0 ?_; refine X0 ?_; refine JR ?_; refine Z1 ?_; refine Zd ?_; refine Z1 ?_; refine Zd ?_; refine Zv ?_; refine JD ?_; refine JF ?_
 refine X2 ?_; refine X0 ?_; refine X0 ?_; refine JR ?_; refine Z0 ?_; refine JD ?_; refine X4 ?_
 refine Xy (fun i : Nat => i ≤ l.length) (fun i => ⟨42, [(0, .d (.sl 6 (l.map Xk))), (1, .d (.sl 6 (l.map Xk))), (5, ai i)], []⟩) (fun i => l.length - i) 0 (Nat.zero_le _)
  (X8 rfl JM trivial) ?_
 intro i hi
 by_cases hil : i < l.length
 case neg =>
  obtain rfl : i = l.length := by omega
  have hn : ¬ ((l.length : Nat) : Int) < (l.map Xk).length := by omega
  refine X0 ?_; refine X0 ?_; refine JR ?_; refine Z1 ?_; refine Z1 ?_; refine Zd ?_; refine Z8 ?_; refine JD ?_; refine JF ?_; refine Xj ?_; refine X0 ?_; refine JR ?_; refine Z0 ?_; refine JD ?_
  exact X1 ⟨_, St.le_refl _, ⟨rfl, trivial⟩, X3 _⟩
 have hn : (i : Int) < (l.map Xk).length := by omega
 obtain ⟨x, hx⟩ := Xu (l := l) hil
 have hxc : (l.map Xk)[i]? = some (Xk x) := XS hx
 have ho := Xat x.v (hok x (List.mem_of_getElem? hx))
 unfold X2d at ho
 obtain ⟨key, ⟨vk, vn, vd, vs, vl⟩⟩ := x
 simp only [Xk, YO, Xv] at hxc ho
 clear hx
 refine X0 ?_; refine X0 ?_; refine JR ?_; refine Z1 ?_; refine Z1 ?_; refine Zd ?_; refine Z8 ?_; refine JD ?_; refine JT ?_; refine X2 ?_; refine X0 ?_; refine X4 ?_; refine X0 ?_
 refine JR ?_; refine Z1 ?_; refine Z1 ?_; refine Zj ?_; refine ZN ?_; refine Zk ?_; refine Z1 ?_; refine Z1 ?_; refine Zj ?_; refine ZN ?_; refine Zk ?_; refine ZM ?_; refine Z1 ?_; refine Z1 ?_; refine Z1 ?_
 refine Zj ?_; refine ZN ?_; refine ZK ?_; refine Z1 ?_; refine Z1 ?_; refine Zj ?_; refine ZN ?_; refine ZK ?_; refine Z9 (hcon := ho) ?_; refine Zv ?_; refine Zq ?_; refine JD ?_; refine JF ?_; refine X2 ?_
 refine JR ?_; refine Z1 ?_; refine Zb ?_; refine Z0 ?_; refine JD ?_
 exact ⟨i + 1, hil, by omega, X8 rfl JM trivial⟩
end Go.Fw
namespace Go.Fw
open Go Go.Proofs
set_option maxRecDepth 100000
set_option linter.unusedVariables false
set_option linter.unusedSimpArgs false
theorem XcC (ns : List Nod) (es : List Edg) (nn ne : Int) (hg : GraHold ⟨ns, es, nn, ne⟩) : Con Tryz.prog 72 [] [.agg [.d (.sl 3 (ns.map Xi)), .d (.sl 5 (es.map Xr)), ai nn, ai ne], .agg [.d (.sl 3 (ns.map Xi)), .d (.sl 5 (es.map Xr)), ai nn, ai ne]] [] (ab true) := by
 refine X9 (xs := [ab true]) Tryz.func72 rfl Tryz.ntmps72 rfl rfl rfl (fun E => ?_)
 have hln : (ns.map Xi).length = ns.length := by simp
 have hle : (es.map Xr).length = es.length := by simp
 have hnl := hg.nl
 have hel := hg.el
 simp only at hnl hel
 refine X0 ?_; refine JR ?_; refine ZA (γ := 100) ?_; refine ZA (γ := 101) ?_; refine Z0 ?_; refine JD ?_; refine X0 ?_; refine X0 ?_; refine JR ?_; refine ZB ?_; refine ZC ?_; refine Zd ?_; refine ZB ?_
 refine ZC ?_; refine Zd ?_; refine Zv ?_; refine Z1 ?_; refine ZB ?_; refine ZC ?_; refine Zd ?_; refine ZB ?_; refine ZC ?_; refine Zd ?_; refine Zv ?_; refine Zq ?_; refine JD ?_; refine JF ?_; refine X2 ?_
 refine X0 ?_; refine X0 ?_; refine JR ?_; refine Z0 ?_; refine JD ?_; refine X4 ?_
 refine Xy (fun i : Nat => i ≤ ns.length) (fun i => ⟨116, [(2, .ptr 100 0), (3, .ptr 101 0), (5, ai i)], [(100, .box [.d (.sl 3 (ns.map Xi)), .d (.sl 5 (es.map Xr)), ai nn, ai ne]), (101, .box [.d (.sl 3 (ns.map Xi)), .d (.sl 5 (es.map Xr)), ai nn, ai ne])]⟩) (fun i => ns.length - i) 0 (Nat.zero_le _)
  (X8 rfl JM ⟨rfl, rfl, trivial⟩) ?_
 intro i hi
 by_cases hil : i < ns.length
 case pos =>
  have hn : (i : Int) < (ns.map Xi).length := by omega
  obtain ⟨x, hx⟩ := Xu (l := ns) hil
  have hxc : (ns.map Xi)[i]? = some (Xi x) := XS hx
  have hh := hg.nodes x (List.mem_of_getElem? hx)
  have c1 := Xhv x.labels hh.1
  have c2 := X8u x.props (fun p hp => (hh.2.2.2 p hp).2) hh.2.2.1
  clear hh
  obtain ⟨id, labels, props⟩ := x
  simp only [Xi] at hxc c1 c2
  clear hx
  refine X0 ?_; refine X0 ?_; refine JR ?_; refine Z1 ?_; refine ZB ?_; refine ZC ?_; refine Zd ?_; refine Z8 ?_; refine JD ?_; refine JT ?_; refine X2 ?_; refine X0 ?_; refine X4 ?_
  refine X0 ?_; refine JR ?_; refine ZB ?_; refine ZC ?_; refine Z1 ?_; refine Zj ?_; refine ZK ?_; refine ZB ?_; refine ZC ?_; refine Z1 ?_; refine Zj ?_; refine ZK ?_; refine Zw (γ := 102) ?_
  refine Zw (γ := 103) ?_; refine Zy ?_; refine Zy ?_; refine JD ?_; refine X0 ?_; refine JR ?_; refine ZB ?_; refine ZC ?_; refine ZB ?_; refine ZC ?_; refine Zv ?_; refine Z1 ?_; refine ZB ?_; refine ZC ?_
  refine ZB ?_; refine ZC ?_; refine Z9 (hcon := c1) ?_; refine Zu ?_; refine Zq ?_; refine Z1 ?_; refine ZB ?_; refine ZC ?_; refine ZB ?_; refine ZC ?_; refine Z9 (hcon := c2) ?_; refine Zu ?_; refine Zq ?_; refine JD ?_
  refine JF ?_; refine X2 ?_; refine JR ?_; refine Z1 ?_; refine Zb ?_; refine Z0 ?_; refine JD ?_
  exact ⟨i + 1, hil, by omega, X8 rfl JM ⟨rfl, rfl, trivial⟩⟩
 obtain rfl : i = ns.length := by omega
 have hn : ¬ ((ns.length : Nat) : Int) < (ns.map Xi).length := by omega
 refine X0 ?_; refine X0 ?_; refine JR ?_; refine Z1 ?_; refine ZB ?_; refine ZC ?_; refine Zd ?_; refine Z8 ?_; refine JD ?_; refine JF ?_; refine Xj ?_; refine X0 ?_; refine X0 ?_; refine JR ?_
 refine Z0 ?_; refine JD ?_; refine X4 ?_
 clear hi hil hn
 refine Xy (fun i : Nat => i ≤ es.length) (fun i => ⟨116, [(2, .ptr 100 0), (3, .ptr 101 0), (8, ai i)], [(100, .box [.d (.sl 3 (ns.map Xi)), .d (.sl 5 (es.map Xr)), ai nn, ai ne]), (101, .box [.d (.sl 3 (ns.map Xi)), .d (.sl 5 (es.map Xr)), ai nn, ai ne])]⟩) (fun i => es.length - i) 0 (Nat.zero_le _)
  (X8 rfl JM ⟨rfl, rfl, trivial⟩) ?_
 intro i hi
 by_cases hil : i < es.length
 case pos =>
  have hn : (i : Int) < (es.map Xr).length := by omega
  obtain ⟨x, hx⟩ := Xu (l := es) hil
  have hxc : (es.map Xr)[i]? = some (Xr x) := XS hx
  have hh := hg.edges x (List.mem_of_getElem? hx)
  have c2 := X8u x.props (fun p hp => (hh.2.2 p hp).2) hh.2.1
  clear hh
  obtain ⟨id, src, dst, typ, props⟩ := x
  simp only [Xr] at hxc c2
  clear hx
  refine X0 ?_; refine X0 ?_; refine JR ?_; refine Z1 ?_; refine ZB ?_; refine ZC ?_; refine Zd ?_; refine Z8 ?_; refine JD ?_; refine JT ?_; refine X2 ?_; refine X0 ?_; refine X4 ?_
  refine X0 ?_; refine JR ?_; refine ZB ?_; refine ZC ?_; refine Z1 ?_; refine Zj ?_; refine ZK ?_; refine ZB ?_; refine ZC ?_; refine Z1 ?_; refine Zj ?_; refine ZK ?_; refine Zw (γ := 102) ?_
  refine Zw (γ := 103) ?_; refine Zy ?_; refine Zy ?_; refine JD ?_; refine X0 ?_; refine JR ?_; refine ZB ?_; refine ZC ?_; refine ZB ?_; refine ZC ?_; refine Zv ?_; refine Z1 ?_; refine ZB ?_; refine ZC ?_
  refine ZB ?_; refine ZC ?_; refine Zv ?_; refine Zq ?_; refine Z1 ?_; refine ZB ?_; refine ZC ?_; refine ZB ?_; refine ZC ?_; refine Zv ?_; refine Zq ?_; refine Z1 ?_; refine ZB ?_; refine ZC ?_; refine ZB ?_
  refine ZC ?_; refine ZM ?_; refine Zq ?_; refine Z1 ?_; refine ZB ?_; refine ZC ?_; refine ZB ?_; refine ZC ?_; refine Z9 (hcon := c2) ?_; refine Zu ?_; refine Zq ?_; refine JD ?_; refine JF ?_; refine X2 ?_
  refine JR ?_; refine Z1 ?_; refine Zb ?_; refine Z0 ?_; refine JD ?_
  exact ⟨i + 1, hil, by omega, X8 rfl JM ⟨rfl, rfl, trivial⟩⟩
 obtain rfl : i = es.length := by omega
 have hn : ¬ ((es.length : Nat) : Int) < (es.map Xr).length := by omega
 refine X0 ?_; refine X0 ?_; refine JR ?_; refine Z1 ?_; refine ZB ?_; refine ZC ?_; refine Zd ?_; refine Z8 ?_; refine JD ?_; refine JF ?_; refine Xj ?_; refine X0 ?_; refine JR ?_; refine Z0 ?_
 refine JD ?_
 exact X1 ⟨_, St.le_refl _, ⟨rfl, trivial⟩, X3 _⟩
theorem X4G (g : Gra) (hg : GraHold g) : Con Tryz.prog 18 [] [Y4 g, Y4 g] [] (ab true) := by
 obtain ⟨ns, es, nn, ne⟩ := g
 have hc := XcC ns es nn ne hg
 unfold Y4
 simp only
 refine X9 (xs := [ab true]) Tryz.func18 rfl Tryz.ntmps18 rfl rfl rfl (fun E => ?_)
 refine X0 ?_; refine JR ?_; refine ZA (γ := 100) ?_; refine ZA (γ := 101) ?_; refine Z0 ?_; refine JD ?_; refine X0 ?_; refine JR ?_; refine ZB ?_; refine ZC ?_; refine ZB ?_; refine ZC ?_; refine Zl ?_
 refine Z1 ?_; refine ZB ?_; refine ZC ?_; refine ZB ?_; refine ZC ?_; refine Zl ?_; refine Zn ?_; refine Z1 ?_; refine ZL ?_; refine ZL ?_; refine Z9 (hcon := hc) ?_; refine Zn ?_; refine Z0 ?_; refine JD ?_
 exact X1 ⟨_, St.le_refl _, ⟨rfl, trivial⟩, X3 _⟩
end Go.Fw
namespace Go.Fw
open Go Go.Proofs
set_option maxRecDepth 100000
set_option linter.unusedVariables false
set_option linter.unusedSimpArgs false
theorem Xi5 : Con Tryz.prog 39 [] [] [] (Y4 ⟨[], [], 1, 1⟩) := by
 refine X9 (xs := [Y4 ⟨[], [], 1, 1⟩]) Tryz.func39 rfl Tryz.ntmps39 rfl rfl rfl (fun E => ?_)
 unfold Y4
 simp only [List.map_nil]
 refine X0 ?_; refine JR ?_; refine Zw (γ := 100) ?_; refine JD ?_; refine X0 ?_; refine JR ?_; refine Zx ?_; refine Zy ?_; refine JD ?_
 exact X1 ⟨_, XI 100 (cs' := [.d (.sl 3 []), .d (.sl 5 []), ai 1, ai 1]) rfl JM rfl, ⟨⟨100, 0, _, rfl, rfl, .inr ⟨4, _, rfl, rfl, rfl, rfl⟩⟩, trivial⟩, X3 _⟩
theorem X4C  : Con Tryz.prog 12 [] [] [] (ab true) := by
 refine X9 (xs := [ab true]) Tryz.func12 rfl Tryz.ntmps12 rfl rfl rfl (fun E => ?_)
 have h0 := Xi5
 have h1 := X2m ⟨[], [], 1, 1⟩ [] XbR (by simp)
 have h2 := X2m exG [] X9Z (by simp)
 rw [X2n X7K, X7K, Xfu] at h1
 rw [X2n X6Q, X6Q, X6j] at h2
 have h3 := X6H [1, 1, 1, 65, 1, 1, 107, 2, 10] (by decide)
 rw [show Y2 [1, 1, 1, 65, 1, 1, 107, 2, 10] = exF from rfl] at h3
 have hl4 : (exX ++ exF).length ≤ 1073741824 := by rw [List.length_append, X9h, X7C]; omega
 have h4 := X0T (exX ++ exF) hl4 (X0m _ hl4)
 rw [← X6j, X6q X6Q, X6j] at h4
 have h5 := X0T [71, 68, 66, 50, 97, 98, 99, 100, 101, 102] (by decide) (X0m _ (by decide))
 rw [XeV] at h5
 have h6 := X0T [71, 68, 66, 49] (by decide) (X0m _ (by decide))
 rw [show YA [71, 68, 66, 49] = (X0k, [], 3) from Xi6] at h6
 have h7 := X4G exG X9Z
 have h8 := X6H [1, 1, 0, 0, 0] (by decide)
 rw [show Y2 [1, 1, 0, 0, 0] = exH from rfl] at h8
 have lF := X7C
 have lX := X9h
 have lH := Xfa
 have lFm : (exF.map X6).length = 14 := by rw [List.length_map, lF]
 have lXm : ((exX ++ exF).map X6).length = 28 := by rw [List.length_map, List.length_append, lX, lF]
 have lHm : (exH.map X6).length = 10 := by rw [List.length_map, lH]
 have hsub : (((exX ++ exF).map X6).length : Int) - (exF.map X6).length = 14 := by omega
 have hlt : ¬ (((exX ++ exF).map X6).length : Int) < (exF.map X6).length := by omega
 have hsl : (((exX ++ exF).map X6).take ((exX ++ exF).map X6).length).drop 14 = exF.map X6 := by rw [List.take_length, ← List.map_drop, ← lX, List.drop_left]
 have g14 : (14 : Nat) ≤ ((exX ++ exF).map X6).length := by omega
 have hq1 : Xw ++ exH = Xw ++ exH := rfl
 have hq2 : exF = exF := rfl
 have lgH : Xw.length + exH.length ≤ 9223372036854775807 := by rw [lH]; decide
 simp only [Y4, exG, exN, Xi, Xk, YO, Xn, XJ, List.map_cons, List.map_nil] at h0 h1 h2 h4 h5 h6 h7
 clear hl4
 generalize exF = F at *
 generalize exX = X at *
 generalize exH = H at *
 refine X0 ?_; refine JR ?_; refine Z0 ?_; refine JD ?_; refine X0 ?_; refine JR ?_; refine Z9 (hcon := h0) ?_; refine Z9 (hcon := h1) ?_; refine Z1 ?_; refine ZF ?_; refine ZF ?_; refine Z0 ?_; refine Z0 ?_
 refine JD ?_; refine X0 ?_; refine JR ?_; refine Zx ?_; refine Zx ?_; refine Z5 ?_; refine Z0 ?_; refine JD ?_; refine X0 ?_
 refine Xm (Xh 3 (y := .d (.sl 6 [[.v (.string (X5 [107])), .v (.int .i64 2), .v (.int .i64 5), .v (.int .i64 0), .v (.string (X5 [])), .sl 5 []]])) (AVal.le_d (XcB (XcD (X2h (X33 _) (X2h (X33 _) (X2h (X33 _) (X2h (X33 _) (X2h (X33 _) (X2h (XeW 5) XfM)))))) rfl (Xge 6))))) ?_
 refine JR ?_; refine Z5 ?_; refine Z1 ?_; refine Zx ?_; refine Z5 ?_; refine Zx ?_; refine Zw (γ := 100) ?_; refine Zy ?_; refine JD ?_; refine X0 ?_
 refine Xm (St.le_trans (XI 100 (cs' := [.d (.sl 3 [[.v (.int .i64 1), .sl 1 [[.v (.string (X5 [65]))]], .sl 6 [[.v (.string (X5 [107])), .v (.int .i64 2), .v (.int .i64 5), .v (.int .i64 0), .v (.string (X5 [])), .sl 5 []]]]]), .d (.sl 5 []), ai 2, ai 1]) rfl JM rfl) (X8 (n := 115) (τ := [(0, ab false), (1, .d (Xa (Xw ++ H))), (2, ai 0), (4, .ptr 100 0)]) (L := [(100, .box [.d (.sl 3 [[.v (.int .i64 1), .sl 1 [[.v (.string (X5 [65]))]], .sl 6 [[.v (.string (X5 [107])), .v (.int .i64 2), .v (.int .i64 5), .v (.int .i64 0), .v (.string (X5 [])), .sl 5 []]]]]), .d (.sl 5 []), ai 2, ai 1])]) rfl JM ⟨rfl, trivial⟩)) ?_
 refine JR ?_; refine ZL ?_; refine Z9 (hcon := h2) ?_; refine Z1 ?_; refine ZF ?_; refine ZF ?_; refine Z0 ?_; refine Z0 ?_; refine JD ?_; refine X0 ?_
 refine JR ?_
 (refine Z0c (γ := 105) (sz := 1) (zs := [.int .u8 0]) (ps := bPs [1, 1, 1, 65, 1, 1, 107, 2, 10]) (out := X53 [1, 1, 1, 65, 1, 1, 107, 2, 10]) (xs := List.map X6 [1, 1, 1, 65, 1, 1, 107, 2, 10]) ?_ (hout := by exact (by kernel_rfl)) (hxs := by exact (by kernel_rfl)); refine Z0d ?_)
 refine Z9 (hcon := h3) ?_; refine Z0 ?_; refine JD ?_; refine X0 ?_
 refine JR ?_; refine Z1 ?_; refine Z9 (hcon := h4) ?_; refine Z1 ?_; refine ZF ?_; refine ZF ?_; refine ZF ?_; refine Zw (γ := 101) ?_; refine Zy ?_; refine Z0 ?_; refine Z0 ?_; refine JD ?_; refine X0 ?_
 refine JR ?_
 (refine Z0c (γ := 106) (sz := 1) (zs := [.int .u8 0]) (ps := bPs [71, 68, 66, 50, 97, 98, 99, 100, 101, 102]) (out := X53 [71, 68, 66, 50, 97, 98, 99, 100, 101, 102]) (xs := List.map X6 [71, 68, 66, 50, 97, 98, 99, 100, 101, 102]) ?_ (hout := by exact (by kernel_rfl)) (hxs := by exact (by kernel_rfl)); refine Z0d ?_)
 refine Z9 (hcon := h5) ?_; refine Z1 ?_; refine ZF ?_; refine ZF ?_; refine ZF ?_; refine Zw (γ := 102) ?_; refine Zy ?_; refine Z0 ?_; refine Z0 ?_; refine JD ?_; refine X0 ?_
 refine JR ?_
 (refine Z0c (γ := 107) (sz := 1) (zs := [.int .u8 0]) (ps := bPs [71, 68, 66, 49]) (out := X53 [71, 68, 66, 49]) (xs := List.map X6 [71, 68, 66, 49]) ?_ (hout := by exact (by kernel_rfl)) (hxs := by exact (by kernel_rfl)); refine Z0d ?_)
 refine Z9 (hcon := h6) ?_; refine Z1 ?_; refine ZF ?_; refine ZF ?_; refine ZF ?_; refine Zw (γ := 103) ?_; refine Zy ?_; refine Z0 ?_; refine Z0 ?_; refine JD ?_; refine X0 ?_; refine X0 ?_
 refine JR ?_; refine Z1 ?_; refine Zv ?_; refine Z1 ?_; refine Z1 ?_; refine Zv ?_; refine Zq ?_; refine Z1 ?_; refine Z1 ?_; refine Zv ?_; refine Zq ?_; refine Z1 ?_; refine Z1 ?_; refine Zd ?_; refine Zv ?_
 refine Zq ?_; refine Z1 ?_; refine ZL ?_; refine ZL ?_; refine Z9 (hcon := h7) ?_; refine Zu ?_; refine Zq ?_; refine Z1 ?_; refine Z1 ?_; refine Zd ?_; refine Z1 ?_; refine Zd ?_; refine Z8 ?_; refine Zq ?_
 refine JD ?_; refine JF ?_; refine X2 ?_; refine X0 ?_
 clear h0 h1 h2 h3 h4 h5 h6 h7
 refine JR ?_; refine Z1 ?_; refine ZW ?_
 (refine Z0c (γ := 108) (sz := 1) (zs := [.int .u8 0]) (ps := bPs [1, 1, 0, 0, 0]) (out := X53 [1, 1, 0, 0, 0]) (xs := List.map X6 [1, 1, 0, 0, 0]) ?_ (hout := by exact (by kernel_rfl)) (hxs := by exact (by kernel_rfl)); refine Z0d ?_)
 refine Z9 (hcon := h8) ?_; refine ZW ?_; refine Z7 (op := .add) (r' := .string (X5 (Xw ++ H))) (u := .string (X5 Xw)) (v := .string (X5 H)) ?_ (hr := by exact Xdg lgH); refine Zr ?_; refine Z1 ?_
 refine Z1 ?_; refine Z1 ?_; refine Zd ?_; refine Z1 ?_; refine Zd ?_
 refine Z4 (op := .sub) (r' := .int .i64 14) (u := .int .i64 (((X ++ F).map X6).length : Int)) (v := .int .i64 ((F.map X6).length : Int)) ?_ (hr' := by exact congrArg (Value.int .i64) hsub) (hr := by exact Ya (by unfold Y7; omega))
 refine ZV (lb := 14) (hb := ((X ++ F).map X6).length) (ys := F.map X6) ?_ (hys := by exact hsl); refine ZW ?_; refine Z1 ?_; refine ZW ?_; refine Zr ?_; refine Zn ?_; refine Z1 ?_; refine Z1 ?_; refine Zl ?_
 refine Zn ?_; refine Z1 ?_; refine Z1 ?_; refine Zl ?_; refine Zn ?_; refine Z0 ?_; refine JD ?_
 exact X1 ⟨_, St.le_refl _, ⟨rfl, trivial⟩, X3 _⟩
end Go.Fw

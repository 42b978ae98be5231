/- Wide numbers of the reference: sums, order. -/
import Derived.Test.YtpfldfkhgplcgaaGreatDoorM14
set_option maxHeartbeats 8000000
namespace Go.Fw
open Go Go.Proofs
set_option maxRecDepth 100000
set_option linter.unusedVariables false
set_option linter.unusedSimpArgs false
theorem XbA {l : List Nat} {k y : Nat} (h : k < l.length) : List.take k (l.map YP) ++ [YP y] ++ List.drop (k + 1) (l.map YP) = (l.set k y).map YP := by
 rw [List.set_eq_take_append_cons_drop, if_pos h]; simp
theorem Xgu (n : Nat) : List.replicate n (YP 0) = (List.replicate n 0).map YP := by simp
theorem Xb2 (x y : List Nat) (hx : VT x) (hy : VT y) (hl : y.length = x.length) (hn : x.length ≤ 1000) : Con Tryz.prog 186 [] [.d (UL x), .d (UL y)] [] (.d (UL (X0i x y))) := by
 have hlx : (x.map YP).length = x.length := by simp
 have own : Con Tryz.prog 186 [] [.d (UL x), .d (UL y)] [(130, .row 1 ((X0i x y).map YP))] (.own 130 ((X0i x y).map YP).length) := by
  refine Xa (xs := [.own 130 ((X0i x y).map YP).length]) Tryz.func186 rfl Tryz.ntmps186 rfl rfl rfl (fun E => ?_)
  refine Qv ?_; refine Zd ?_; refine Ze (γ := 130) ?_; refine Qc ?_; refine Qjb ?_
  refine Xu (fun k : Nat => k ≤ x.length) (fun k => ⟨36, [(0, .d (UL x)), (1, .d (UL y)), (5, .own 130 (x.map YP).length), (6, ai (Ve x y k).2), (7, ai k)], [(130, .row 1 ((Ve x y k).1.map YP))]⟩) (fun k => x.length - k) 0 (by omega)
   (X9 rfl ⟨JL, JL, JL, JL, JL, trivial⟩ ⟨?_, trivial⟩) ?_
  ·refine congrArg (AObj.row 1) ?_; refine Eq.trans (b := List.replicate (x.map YP).length (YP 0)) rfl ?_; rw [hlx]; exact Xgu x.length
  intro k hk
  have hpl := Xbi x y k
  have hpm : ((Ve x y k).1.map YP).length = x.length := by rw [List.length_map, hpl]
  by_cases hkx : k < x.length
  case neg =>
   obtain rfl : k = x.length := by omega
   refine Qvb ?_; refine Qz ?_; exact X1 ⟨_, Xb 4 (y := .own 130 ((X0i x y).map YP).length) (AVal.le_of_eq (by refine Eq.trans (b := .own 130 (x.map YP).length) rfl ?_; congr 1; rw [hlx]; exact hpm.symm)), ⟨rfl, trivial⟩, Xj ⟨rfl, trivial⟩⟩
  obtain ⟨a, ha⟩ := Xx (l := x) hkx
  obtain ⟨b, hb⟩ := Xx (l := y) (k := k) (by omega)
  have hc := XaA hx hy k
  have ha1 := X3a hx ha
  have hb1 := X3a hy hb
  have hsucc : Ve x y (k + 1) = ((Ve x y k).1.set k (((Ve x y k).2 + a + b) % 1000), ((Ve x y k).2 + a + b) / 1000) := by
   simp only [Ve, ha, hb, Option.getD_some]
  generalize Ve x y k = p at *
  obtain ⟨l, c⟩ := p
  simp only at hpl hpm hc hsucc
  refine Qpb ?_; refine QHb ?_; refine QE ?_; refine Z7 (op := .add) (r' := nj (c + a)) (u := nj c) (v := nj a) ?_ (hr := by exact Ul (by rw [XM]; omega)); refine Qy ?_; refine QE ?_; refine Z7 (op := .add) (r' := nj (c + a + b)) (u := nj (c + a)) (v := nj b) ?_ (hr := by exact Ul (by rw [XM]; omega)); refine Qx ?_; refine Qy ?_; refine Z7 (op := .rem) (r' := nj ((c + a + b) % 1000)) (u := nj (c + a + b)) (v := nj 1000) ?_ (hr := by exact U5 (by omega)); refine ZO ?_; refine ZP ?_; refine JD ?_; refine Ql ?_; refine Z7 (op := .quo) (r' := nj ((c + a + b) / 1000)) (u := nj (c + a + b)) (v := nj 1000) ?_ (hr := by exact Vv (by omega) (by rw [XM]; omega)); refine Qc ?_; refine Qnb ?_
  refine ⟨k + 1, by omega, by omega, ?_⟩
  dsimp only
  rw [hsucc]
  refine X9 rfl ⟨JL, JL, JL, JL, JL, trivial⟩ ⟨?_, trivial⟩
  exact congrArg (AObj.row 1) (XbA (by omega))
 exact own.data (by simp)
theorem X7E (a0 b : Nat) (ha0 : a0 ≤ 1000000000000000) (hb : b ≤ 1000000000000000) : Con Tryz.prog 167 [] [ai a0, ai b] [] (.d (UL (UB 14 (a0 * b)))) := by
 have own : Con Tryz.prog 167 [] [ai a0, ai b] [(130, .row 1 ((UB 14 (a0 * b)).map YP))] (.own 130 ((UB 14 (a0 * b)).map YP).length) := by
  refine Xa (xs := [.own 130 ((UB 14 (a0 * b)).map YP).length]) Tryz.func167 rfl Tryz.ntmps167 rfl rfl rfl (fun E => ?_)
  refine Qd ?_; refine Qb ?_; refine Ze (γ := 130) ?_; refine Qc ?_; refine Qib ?_
  refine Xu (ι := List Nat × Nat × Nat) (fun s => s.1.length = 14 ∧ VT s.1 ∧ UG s.1 + s.2.1 * b * 1000 ^ s.2.2 = a0 * b ∧ s.2.1 * 1000 ^ s.2.2 ≤ a0)
   (fun s => ⟨51, [(0, ai s.2.1), (1, ai b), (5, .own 130 14), (6, ai s.2.2)], [(130, .row 1 (s.1.map YP))]⟩) (fun s => s.2.1) (List.replicate 14 0, a0, 0)
   ⟨rfl, X5R 14, by rw [X8b]; simp, by simp⟩
   (X9 rfl ⟨JL, JL, JL, JL, trivial⟩ ⟨rfl, trivial⟩) ?_
  rintro ⟨l, a, i⟩ ⟨hl, hlow, hV, hai⟩
  simp only at hl hlow hV hai
  by_cases ha : 0 < a
  case neg =>
   obtain rfl : a = 0 := by omega
   have hfin : UB 14 (a0 * b) = l := by
    rw [← hV, Nat.zero_mul, Nat.zero_mul, Nat.add_zero, ← hl]
    exact X9Q l hlow
   rw [hfin]
   refine Qg ?_; refine Zs ?_; refine Qm ?_; refine Qz ?_; exact X1 ⟨_, Xb 4 (y := .own 130 (l.map YP).length) (AVal.le_of_eq (by refine Eq.trans (b := .own 130 14) rfl ?_; rw [List.length_map, hl])), ⟨rfl, trivial⟩, Xj ⟨rfl, trivial⟩⟩
  have hi5 := XeH hai ha ha0
  have haa : a ≤ 1000000000000000 := Nat.le_trans (Nat.le_mul_of_pos_right _ (Nat.pow_pos (by decide))) (Nat.le_trans hai ha0)
  have hVle := Xik hV
  have hW := XeK (a0 := a0) ha0 hb
  refine Qg ?_; refine Zs ?_; refine Qlb ?_; refine Qf ?_; refine Z7 (op := .rem) (r' := nj (a % 1000)) (u := nj a) (v := nj 1000) ?_ (hr := by exact U5 (by omega)); refine Qx ?_; refine Z7 (op := .quo) (r' := nj (a / 1000)) (u := nj a) (v := nj 1000) ?_ (hr := by exact Vv (by omega) (by rw [XM]; omega)); refine Qx ?_; refine Qc ?_; refine Qv ?_; refine Qc ?_; refine X5 ?_
  generalize hd : a % 1000 = dg at *
  have hdg : dg < 1000 := by omega
  generalize hV2 : UG l + dg * b * 1000 ^ i = V at *
  refine Xu (ι := List Nat × Nat × Nat × Nat) (fun s => s.1.length = 14 ∧ VT s.1 ∧ UG s.1 + (dg * s.2.1 + s.2.2.1) * 1000 ^ s.2.2.2 = V ∧ s.2.1 * 1000 ^ s.2.2.2 ≤ b * 1000 ^ i ∧ s.2.2.1 ≤ 999 ∧ s.2.1 ≤ b)
   (fun s => ⟨51, [(0, ai (a / 1000 : Nat)), (1, ai b), (5, .own 130 14), (6, ai i), (7, ai dg), (8, ai s.2.1), (9, ai s.2.2.1), (10, ai s.2.2.2)], [(130, .row 1 (s.1.map YP))]⟩) (fun s => 20 - s.2.2.2) (l, b, 0, i)
   ⟨hl, hlow, by simpa using hV2, Nat.le_refl _, by simp, Nat.le_refl _⟩
   (X9 rfl ⟨JL, JL, JL, JL, JL, JL, JL, JL, trivial⟩ ⟨rfl, trivial⟩) ?_
  rintro ⟨l2, c, carry, k⟩ ⟨hl2, hlow2, hV3, hck, hcar, hcb⟩
  simp only at hl2 hlow2 hV3 hck hcar hcb
  by_cases hgo : 0 < c ∨ 0 < carry
  case neg =>
   obtain rfl : c = 0 := by omega
   obtain rfl : carry = 0 := by omega
   have hVe : UG l2 = UG l + a % 1000 * b * 1000 ^ i := by
    rw [hd, hV2, ← hV3]; simp
   have hnew := Xfm hV hVe
   have hai2 := X9f hai
   refine Qg ?_; refine Zs ?_; refine Qy ?_; refine Qba ?_; refine Qm ?_; refine Qnb ?_; exact ⟨(l2, a / 1000, i + 1), ⟨hl2, hlow2, hnew, hai2⟩, by show a / 1000 < a; omega, X9 rfl ⟨JL, JL, JL, JL, trivial⟩ ⟨rfl, trivial⟩⟩
  have hk : k ≤ 10 := by
   rcases hgo with h | h
   ·exact XfT hck h hb hi5
   ·exact Xdd hV3 hVle hW h
  obtain ⟨x, hx⟩ := Xx (l := l2) (k := k) (by omega)
  have hx1 := X3a hlow2 hx
  have hstep := Xdh hV3 hx
  have hck2 := X9f hck
  have hm : dg * (c % 1000) ≤ 998001 := Nat.mul_le_mul (show dg ≤ 999 by omega) (show c % 1000 ≤ 999 by omega)
  have hxm : (l2.map YP)[k]? = some (YP x) := YR hx
  have hs := XbA (l := l2) (k := k) (y := (carry + x + dg * (c % 1000)) % 1000) (by omega)
  have hlen : (l2.map YP).length = 14 := by rw [List.length_map, hl2]
  by_cases hc0 : 0 < c
  ·refine Qg ?_; refine Zs ?_; refine QIb ?_; refine Qlb ?_; refine QHb ?_; refine ZO ?_; refine ZQ ?_; refine Z7 (op := .add) (r' := nj (carry + x)) (u := nj carry) (v := nj x) ?_ (hr := by exact Ul (by rw [XM]; omega)); refine Qy ?_; refine Z7 (op := .rem) (r' := nj (c % 1000)) (u := nj c) (v := nj 1000) ?_ (hr := by exact U5 (by omega)); refine Z7 (op := .mul) (r' := nj (dg * (c % 1000))) (u := nj dg) (v := nj (c % 1000)) ?_ (hr := by exact U0 (by rw [XM]; omega)); refine Z7 (op := .add) (r' := nj (carry + x + dg * (c % 1000))) (u := nj (carry + x)) (v := nj (dg * (c % 1000))) ?_ (hr := by exact Ul (by rw [XM]; omega)); refine Qx ?_; refine Z7 (op := .quo) (r' := nj (c / 1000)) (u := nj c) (v := nj 1000) ?_ (hr := by exact Vv (by omega) (by rw [XM]; omega)); refine Qx ?_; refine Qy ?_; refine QJb ?_; refine ZO ?_; refine ZP ?_; refine JD ?_; refine Ql ?_; refine QKb ?_; refine Qc ?_; refine Qnb ?_; exact QLb
  ·have hcar0 : 0 < carry := by omega
   refine Qg ?_; refine Zs ?_; refine Qy ?_; refine Qba ?_; refine Qlb ?_; refine QHb ?_; refine ZO ?_; refine ZQ ?_; refine Z7 (op := .add) (r' := nj (carry + x)) (u := nj carry) (v := nj x) ?_ (hr := by exact Ul (by rw [XM]; omega)); refine Qy ?_; refine Z7 (op := .rem) (r' := nj (c % 1000)) (u := nj c) (v := nj 1000) ?_ (hr := by exact U5 (by omega)); refine Z7 (op := .mul) (r' := nj (dg * (c % 1000))) (u := nj dg) (v := nj (c % 1000)) ?_ (hr := by exact U0 (by rw [XM]; omega)); refine Z7 (op := .add) (r' := nj (carry + x + dg * (c % 1000))) (u := nj (carry + x)) (v := nj (dg * (c % 1000))) ?_ (hr := by exact Ul (by rw [XM]; omega)); refine Qx ?_; refine Z7 (op := .quo) (r' := nj (c / 1000)) (u := nj c) (v := nj 1000) ?_ (hr := by exact Vv (by omega) (by rw [XM]; omega)); refine Qx ?_; refine Qy ?_; refine QJb ?_; refine ZO ?_; refine ZP ?_; refine JD ?_; refine Ql ?_; refine QKb ?_; refine Qc ?_; refine Qnb ?_; exact QLb
 exact own.data (by simp)
def VG (n : Int) : Int := if n < 0 then -1 else if 0 < n then 1 else 0
theorem X8D (n : Int) : Con Tryz.prog 166 [] [ai n] [] (ai (VG n)) := by
 refine Xa (xs := [ai (VG n)]) Tryz.func166 rfl Tryz.ntmps166 rfl rfl rfl (fun E => ?_)
 by_cases h1 : n < 0
 ·rw [show VG n = -1 by simp [VG, h1]]
  refine Qp ?_; exact Qea
 by_cases h2 : 0 < n
 ·rw [show VG n = 1 by simp [VG, h1, h2]]
  refine Qp ?_; refine Qs ?_; refine Qg ?_; refine Zs ?_; exact Qea
 ·rw [show VG n = 0 by simp [VG, h1, h2]]
  repeat first | refine X0 ?_ | (refine JR ?_; (repeat first | refine Z1 ?_ | refine Z0 ?_ | refine Z8 ?_ | refine Zs ?_); refine JD ?_) | refine JF ?_ | refine X4 ?_
  exact QN
theorem Xdw (x : List Nat) (hx : x.length ≤ 1000) : Con Tryz.prog 187 [] [.d (UL x), .d (UL x)] [] (ai 0) := by
 refine Xa (xs := [ai 0]) Tryz.func187 rfl Tryz.ntmps187 rfl rfl rfl (fun E => ?_)
 have hlx : (x.map YP).length = x.length := by simp
 refine QPa ?_; refine ZR ?_; refine Qc ?_; refine X5 ?_
 refine Xu (fun i : Nat => i ≤ x.length) (fun i => ⟨31, [(0, .d (UL x)), (1, .d (UL x)), (5, ai ((i : Int) - 1))], []⟩) (fun i => i) x.length (Nat.le_refl _)
  (X9 rfl ⟨JL, JL, JL, trivial⟩ trivial) ?_
 intro i hi
 cases i with
 | zero =>
  refine Qg ?_; refine Z2 ?_; refine Qm ?_; exact Qia
 | succ j =>
  have e : (((j + 1 : Nat) : Int) - 1) = (j : Int) := by omega
  rw [e]
  obtain ⟨a, ha⟩ := Xx (l := x) (k := j) (by omega)
  have hxm : (x.map YP)[j]? = some (YP a) := YR ha
  repeat first | refine X0 ?_ | (refine JR ?_; (repeat first | refine Z1 ?_ | refine Z0 ?_ | refine Zk ?_ | refine Z8 ?_ | refine Zs ?_ | refine Z2 ?_ | refine ZR ?_ | refine Zj ?_); refine JD ?_) | refine JT ?_ | refine JF ?_ | refine X5 ?_ | refine X4 ?_
  exact ⟨j, by omega, by omega, X9 rfl ⟨JL, JL, JL, trivial⟩ trivial⟩
abbrev X19 : List Nat := List.replicate 14 0
def X1E (s : Int) (x : List Nat) : List Nat := if s = 0 then X0i x x else X0i X19 X19
theorem Xal (s : Int) (hs : s = 0 ∨ s = 1 ∨ s = -1) (x : List Nat) (hx : VT x) (hl : x.length = 14) : Con Tryz.prog 165 [] [ai s, .d (UL x), ai (-s), .d (UL x)] [] (.tup [ai 0, .d (UL (X1E s x))]) := by
 refine Xa (xs := [ai 0, .d (UL (X1E s x))]) Tryz.func165 rfl Tryz.ntmps165 rfl rfl rfl (fun E => ?_)
 have hp := Xb2 x x hx hx rfl (by omega)
 have hz := Xb2 X19 X19 (X5R 14) (X5R 14) rfl (by decide)
 have ho := Xdw x (by omega)
 by_cases h0 : s = 0
 ·subst h0
  rw [show X1E 0 x = X0i x x from if_pos rfl]
  generalize X0i x x = y at *
  repeat first | refine X0 ?_ | (refine JR ?_; (repeat first | refine Z1 ?_ | refine Z0 ?_ | refine Zl ?_ | refine Zn ?_ | refine Zo ?_ | refine Z9 (hcon := hp) ?_); refine JD ?_) | refine JT ?_
  exact X1 ⟨_, St.le_refl _, ⟨rfl, rfl, trivial⟩, X3 _⟩
 have hs2 : X1E s x = X0i X19 X19 := if_neg h0
 rw [hs2]
 clear hs2
 generalize X0i X19 X19 = y at *
 by_cases h1 : s = 1
 ·subst h1
  repeat first | refine X0 ?_ | (refine JR ?_; (repeat first | refine Z1 ?_ | refine Z0 ?_ | refine Zl ?_ | refine Zq ?_ | refine ZS ?_ | refine Z9 (hcon := ho) ?_ | refine Z9 (hcon := hz) ?_); refine JD ?_) | refine JT ?_ | refine JF ?_ | refine X4 ?_
  exact X1 ⟨_, St.le_refl _, ⟨rfl, rfl, trivial⟩, X3 _⟩
 ·obtain rfl : s = -1 := by omega
  repeat first | refine X0 ?_ | (refine JR ?_; (repeat first | refine Z1 ?_ | refine Z0 ?_ | refine Zl ?_ | refine Zq ?_ | refine ZS ?_ | refine Z9 (hcon := ho) ?_ | refine Z9 (hcon := hz) ?_); refine JD ?_) | refine JT ?_ | refine JF ?_ | refine X4 ?_
  exact X1 ⟨_, St.le_refl _, ⟨rfl, rfl, trivial⟩, X3 _⟩
abbrev X73 (x : AVal) (n e : Int) : AVal := .tup [x, ai n, ai e]
end Go.Fw

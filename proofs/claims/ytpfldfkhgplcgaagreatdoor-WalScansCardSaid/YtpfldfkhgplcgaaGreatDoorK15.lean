/- Wide numbers of the reference: sums, order. -/
import Derived.Test.YtpfldfkhgplcgaaGreatDoorK14
set_option maxHeartbeats 8000000
namespace Go.Fw
open Go Go.Proofs
set_option maxRecDepth 100000
set_option linter.unusedVariables false
set_option linter.unusedSimpArgs false
theorem X7a {l : List Nat} {k y : Nat} (h : k < l.length) : List.take k (l.map YE) ++ [YE y] ++ List.drop (k + 1) (l.map YE) = (l.set k y).map YE := by
 rw [List.set_eq_take_append_cons_drop, if_pos h]; simp
theorem XcH (n : Nat) : List.replicate n (YE 0) = (List.replicate n 0).map YE := by simp
theorem X8j (x y : List Nat) (hx : VI x) (hy : VI y) (hl : y.length = x.length) (hn : x.length ≤ 1000) : Con Tryz.prog 186 [] [.d (UA x), .d (UA y)] [] (.d (UA (X03 x y))) := by
 have hlx : (x.map YE).length = x.length := by simp
 have own : Con Tryz.prog 186 [] [.d (UA x), .d (UA y)] [(130, .row 1 ((X03 x y).map YE))] (.own 130 ((X03 x y).map YE).length) := by
  refine Xb (xs := [.own 130 ((X03 x y).map YE).length]) Tryz.func186 rfl Tryz.ntmps186 rfl rfl rfl (fun E => ?_)
  refine Qu ?_; refine Zd ?_; refine Ze (γ := 130) ?_; refine Qc ?_; refine Qib ?_
  refine Xu (fun k : Nat => k ≤ x.length) (fun k => ⟨36, [(0, .d (UA x)), (1, .d (UA y)), (5, .own 130 (x.map YE).length), (6, ai (V0 x y k).2), (7, ai k)], [(130, .row 1 ((V0 x y k).1.map YE))]⟩) (fun k => x.length - k) 0 (by omega)
   (Xa rfl ⟨JL, JL, JL, JL, JL, trivial⟩ ⟨?_, trivial⟩) ?_
  ·refine congrArg (AObj.row 1) ?_; refine Eq.trans (b := List.replicate (x.map YE).length (YE 0)) rfl ?_; rw [hlx]; exact XcH x.length
  intro k hk
  have hpl := XaS x y k
  have hpm : ((V0 x y k).1.map YE).length = x.length := by rw [List.length_map, hpl]
  by_cases hkx : k < x.length
  case neg =>
   obtain rfl : k = x.length := by omega
   refine Qub ?_; refine Qx ?_; exact X1 ⟨_, Xc 4 (y := .own 130 ((X03 x y).map YE).length) (AVal.le_of_eq (by refine Eq.trans (b := .own 130 (x.map YE).length) rfl ?_; congr 1; rw [hlx]; exact hpm.symm)), ⟨rfl, trivial⟩, Xh ⟨rfl, trivial⟩⟩
  obtain ⟨a, ha⟩ := Xv (l := x) hkx
  obtain ⟨b, hb⟩ := Xv (l := y) (k := k) (by omega)
  have hc := X81 hx hy k
  have ha1 := X3a hx ha
  have hb1 := X3a hy hb
  have hsucc : V0 x y (k + 1) = ((V0 x y k).1.set k (((V0 x y k).2 + a + b) % 1000), ((V0 x y k).2 + a + b) / 1000) := by
   simp only [V0, ha, hb, Option.getD_some]
  generalize V0 x y k = p at *
  obtain ⟨l, c⟩ := p
  simp only at hpl hpm hc hsucc
  refine Qpb ?_; refine QGb ?_; refine QD ?_; refine Z7 (op := .add) (r' := nj (c + a)) (u := nj c) (v := nj a) ?_ (hr := by exact Y6 (by rw [Xr]; omega)); refine Qw ?_; refine QD ?_; refine Z7 (op := .add) (r' := nj (c + a + b)) (u := nj (c + a)) (v := nj b) ?_ (hr := by exact Y6 (by rw [Xr]; omega)); refine Qv ?_; refine Qw ?_; refine Z7 (op := .rem) (r' := nj ((c + a + b) % 1000)) (u := nj (c + a + b)) (v := nj 1000) ?_ (hr := by exact YX (by omega)); refine ZO ?_; refine ZP ?_; refine JD ?_; refine Qk ?_; refine Z7 (op := .quo) (r' := nj ((c + a + b) / 1000)) (u := nj (c + a + b)) (v := nj 1000) ?_ (hr := by exact VR (by omega) (by rw [Xr]; omega)); refine Qc ?_; refine Qnb ?_
  refine ⟨k + 1, by omega, by omega, ?_⟩
  dsimp only
  rw [hsucc]
  refine Xa rfl ⟨JL, JL, JL, JL, JL, trivial⟩ ⟨?_, trivial⟩
  exact congrArg (AObj.row 1) (X7a (by omega))
 exact own.data (by simp)
theorem Xak (a0 b : Nat) (ha0 : a0 ≤ 1000000000000000) (hb : b ≤ 1000000000000000) : Con Tryz.prog 167 [] [ai a0, ai b] [] (.d (UA (Um 14 (a0 * b)))) := by
 have own : Con Tryz.prog 167 [] [ai a0, ai b] [(130, .row 1 ((Um 14 (a0 * b)).map YE))] (.own 130 ((Um 14 (a0 * b)).map YE).length) := by
  refine Xb (xs := [.own 130 ((Um 14 (a0 * b)).map YE).length]) Tryz.func167 rfl Tryz.ntmps167 rfl rfl rfl (fun E => ?_)
  refine Qd ?_; refine Qb ?_; refine Ze (γ := 130) ?_; refine Qc ?_; refine Qhb ?_
  refine Xu (ι := List Nat × Nat × Nat) (fun s => s.1.length = 14 ∧ VI s.1 ∧ UB s.1 + s.2.1 * b * 1000 ^ s.2.2 = a0 * b ∧ s.2.1 * 1000 ^ s.2.2 ≤ a0)
   (fun s => ⟨51, [(0, ai s.2.1), (1, ai b), (5, .own 130 14), (6, ai s.2.2)], [(130, .row 1 (s.1.map YE))]⟩) (fun s => s.2.1) (List.replicate 14 0, a0, 0)
   ⟨rfl, X5N 14, by rw [X8W]; simp, by simp⟩
   (Xa rfl ⟨JL, JL, JL, JL, trivial⟩ ⟨rfl, trivial⟩) ?_
  rintro ⟨l, a, i⟩ ⟨hl, hlow, hV, hai⟩
  simp only at hl hlow hV hai
  by_cases ha : 0 < a
  case neg =>
   obtain rfl : a = 0 := by omega
   have hfin : Um 14 (a0 * b) = l := by
    rw [← hV, Nat.zero_mul, Nat.zero_mul, Nat.add_zero, ← hl]
    exact XaB l hlow
   rw [hfin]
   refine Qg ?_; refine Zs ?_; refine Ql ?_; refine Qx ?_; exact X1 ⟨_, Xc 4 (y := .own 130 (l.map YE).length) (AVal.le_of_eq (by refine Eq.trans (b := .own 130 14) rfl ?_; rw [List.length_map, hl])), ⟨rfl, trivial⟩, Xh ⟨rfl, trivial⟩⟩
  have hi5 := Xh8 hai ha ha0
  have haa : a ≤ 1000000000000000 := Nat.le_trans (Nat.le_mul_of_pos_right _ (Nat.pow_pos (by decide))) (Nat.le_trans hai ha0)
  have hVle := XeR hV
  have hW := Xhs (a0 := a0) ha0 hb
  refine Qg ?_; refine Zs ?_; refine Qkb ?_; refine Qf ?_; refine Z7 (op := .rem) (r' := nj (a % 1000)) (u := nj a) (v := nj 1000) ?_ (hr := by exact YX (by omega)); refine Qv ?_; refine Z7 (op := .quo) (r' := nj (a / 1000)) (u := nj a) (v := nj 1000) ?_ (hr := by exact VR (by omega) (by rw [Xr]; omega)); refine Qv ?_; refine Qc ?_; refine Qu ?_; refine Qc ?_; refine X5 ?_
  generalize hd : a % 1000 = dg at *
  have hdg : dg < 1000 := by omega
  generalize hV2 : UB l + dg * b * 1000 ^ i = V at *
  refine Xu (ι := List Nat × Nat × Nat × Nat) (fun s => s.1.length = 14 ∧ VI s.1 ∧ UB s.1 + (dg * s.2.1 + s.2.2.1) * 1000 ^ s.2.2.2 = V ∧ s.2.1 * 1000 ^ s.2.2.2 ≤ b * 1000 ^ i ∧ s.2.2.1 ≤ 999 ∧ s.2.1 ≤ b)
   (fun s => ⟨51, [(0, ai (a / 1000 : Nat)), (1, ai b), (5, .own 130 14), (6, ai i), (7, ai dg), (8, ai s.2.1), (9, ai s.2.2.1), (10, ai s.2.2.2)], [(130, .row 1 (s.1.map YE))]⟩) (fun s => 20 - s.2.2.2) (l, b, 0, i)
   ⟨hl, hlow, by simpa using hV2, Nat.le_refl _, by simp, Nat.le_refl _⟩
   (Xa rfl ⟨JL, JL, JL, JL, JL, JL, JL, JL, trivial⟩ ⟨rfl, trivial⟩) ?_
  rintro ⟨l2, c, carry, k⟩ ⟨hl2, hlow2, hV3, hck, hcar, hcb⟩
  simp only at hl2 hlow2 hV3 hck hcar hcb
  by_cases hgo : 0 < c ∨ 0 < carry
  case neg =>
   obtain rfl : c = 0 := by omega
   obtain rfl : carry = 0 := by omega
   have hVe : UB l2 = UB l + a % 1000 * b * 1000 ^ i := by
    rw [hd, hV2, ← hV3]; simp
   have hnew := Xcq hV hVe
   have hai2 := X8k hai
   refine Qg ?_; refine Zs ?_; refine Qw ?_; refine Qaa ?_; refine Ql ?_; refine Qnb ?_; exact ⟨(l2, a / 1000, i + 1), ⟨hl2, hlow2, hnew, hai2⟩, by show a / 1000 < a; omega, Xa rfl ⟨JL, JL, JL, JL, trivial⟩ ⟨rfl, trivial⟩⟩
  have hk : k ≤ 10 := by
   rcases hgo with h | h
   ·exact Xeq hck h hb hi5
   ·exact XdY hV3 hVle hW h
  obtain ⟨x, hx⟩ := Xv (l := l2) (k := k) (by omega)
  have hx1 := X3a hlow2 hx
  have hstep := Xds hV3 hx
  have hck2 := X8k hck
  have hm : dg * (c % 1000) ≤ 998001 := Nat.mul_le_mul (show dg ≤ 999 by omega) (show c % 1000 ≤ 999 by omega)
  have hxm : (l2.map YE)[k]? = some (YE x) := YF hx
  have hs := X7a (l := l2) (k := k) (y := (carry + x + dg * (c % 1000)) % 1000) (by omega)
  have hlen : (l2.map YE).length = 14 := by rw [List.length_map, hl2]
  by_cases hc0 : 0 < c
  ·refine Qg ?_; refine Zs ?_; refine QHb ?_; refine Qkb ?_; refine QGb ?_; refine ZO ?_; refine ZQ ?_; refine Z7 (op := .add) (r' := nj (carry + x)) (u := nj carry) (v := nj x) ?_ (hr := by exact Y6 (by rw [Xr]; omega)); refine Qw ?_; refine Z7 (op := .rem) (r' := nj (c % 1000)) (u := nj c) (v := nj 1000) ?_ (hr := by exact YX (by omega)); refine Z7 (op := .mul) (r' := nj (dg * (c % 1000))) (u := nj dg) (v := nj (c % 1000)) ?_ (hr := by exact YK (by rw [Xr]; omega)); refine Z7 (op := .add) (r' := nj (carry + x + dg * (c % 1000))) (u := nj (carry + x)) (v := nj (dg * (c % 1000))) ?_ (hr := by exact Y6 (by rw [Xr]; omega)); refine Qv ?_; refine Z7 (op := .quo) (r' := nj (c / 1000)) (u := nj c) (v := nj 1000) ?_ (hr := by exact VR (by omega) (by rw [Xr]; omega)); refine Qv ?_; refine Qw ?_; refine QIb ?_; refine ZO ?_; refine ZP ?_; refine JD ?_; refine Qk ?_; refine QJb ?_; refine Qc ?_; refine Qnb ?_; exact QKb
  ·have hcar0 : 0 < carry := by omega
   refine Qg ?_; refine Zs ?_; refine Qw ?_; refine Qaa ?_; refine Qkb ?_; refine QGb ?_; refine ZO ?_; refine ZQ ?_; refine Z7 (op := .add) (r' := nj (carry + x)) (u := nj carry) (v := nj x) ?_ (hr := by exact Y6 (by rw [Xr]; omega)); refine Qw ?_; refine Z7 (op := .rem) (r' := nj (c % 1000)) (u := nj c) (v := nj 1000) ?_ (hr := by exact YX (by omega)); refine Z7 (op := .mul) (r' := nj (dg * (c % 1000))) (u := nj dg) (v := nj (c % 1000)) ?_ (hr := by exact YK (by rw [Xr]; omega)); refine Z7 (op := .add) (r' := nj (carry + x + dg * (c % 1000))) (u := nj (carry + x)) (v := nj (dg * (c % 1000))) ?_ (hr := by exact Y6 (by rw [Xr]; omega)); refine Qv ?_; refine Z7 (op := .quo) (r' := nj (c / 1000)) (u := nj c) (v := nj 1000) ?_ (hr := by exact VR (by omega) (by rw [Xr]; omega)); refine Qv ?_; refine Qw ?_; refine QIb ?_; refine ZO ?_; refine ZP ?_; refine JD ?_; refine Qk ?_; refine QJb ?_; refine Qc ?_; refine Qnb ?_; exact QKb
 exact own.data (by simp)
def Vs (n : Int) : Int := if n < 0 then -1 else if 0 < n then 1 else 0
theorem XaE (n : Int) : Con Tryz.prog 166 [] [ai n] [] (ai (Vs n)) := by
 refine Xb (xs := [ai (Vs n)]) Tryz.func166 rfl Tryz.ntmps166 rfl rfl rfl (fun E => ?_)
 by_cases h1 : n < 0
 ·rw [show Vs n = -1 by simp [Vs, h1]]
  refine Qo ?_; exact Qca
 by_cases h2 : 0 < n
 ·rw [show Vs n = 1 by simp [Vs, h1, h2]]
  refine Qo ?_; refine Qr ?_; refine Qg ?_; refine Zs ?_; exact Qca
 ·rw [show Vs n = 0 by simp [Vs, h1, h2]]
  repeat first | refine X0 ?_ | (refine JR ?_; (repeat first | refine Z1 ?_ | refine Z0 ?_ | refine Z8 ?_ | refine Zs ?_); refine JD ?_) | refine JF ?_ | refine X4 ?_
  exact QL
theorem XdR (x : List Nat) (hx : x.length ≤ 1000) : Con Tryz.prog 187 [] [.d (UA x), .d (UA x)] [] (ai 0) := by
 refine Xb (xs := [ai 0]) Tryz.func187 rfl Tryz.ntmps187 rfl rfl rfl (fun E => ?_)
 have hlx : (x.map YE).length = x.length := by simp
 refine Qy ?_; refine Zd ?_; refine ZR ?_; refine Qc ?_; refine X5 ?_
 refine Xu (fun i : Nat => i ≤ x.length) (fun i => ⟨31, [(0, .d (UA x)), (1, .d (UA x)), (5, ai ((i : Int) - 1))], []⟩) (fun i => i) x.length (Nat.le_refl _)
  (Xa rfl ⟨JL, JL, JL, trivial⟩ trivial) ?_
 intro i hi
 cases i with
 | zero =>
  refine Qg ?_; refine Z2 ?_; refine Ql ?_; exact Qga
 | succ j =>
  have e : (((j + 1 : Nat) : Int) - 1) = (j : Int) := by omega
  rw [e]
  obtain ⟨a, ha⟩ := Xv (l := x) (k := j) (by omega)
  have hxm : (x.map YE)[j]? = some (YE a) := YF ha
  repeat first | refine X0 ?_ | (refine JR ?_; (repeat first | refine Z1 ?_ | refine Z0 ?_ | refine Zk ?_ | refine Z8 ?_ | refine Zs ?_ | refine Z2 ?_ | refine ZR ?_ | refine Zj ?_); refine JD ?_) | refine JT ?_ | refine JF ?_ | refine X5 ?_ | refine X4 ?_
  exact ⟨j, by omega, by omega, Xa rfl ⟨JL, JL, JL, trivial⟩ trivial⟩
abbrev X1d : List Nat := List.replicate 14 0
def X1V (s : Int) (x : List Nat) : List Nat := if s = 0 then X03 x x else X03 X1d X1d
theorem X8q (s : Int) (hs : s = 0 ∨ s = 1 ∨ s = -1) (x : List Nat) (hx : VI x) (hl : x.length = 14) : Con Tryz.prog 165 [] [ai s, .d (UA x), ai (-s), .d (UA x)] [] (.tup [ai 0, .d (UA (X1V s x))]) := by
 refine Xb (xs := [ai 0, .d (UA (X1V s x))]) Tryz.func165 rfl Tryz.ntmps165 rfl rfl rfl (fun E => ?_)
 have hp := X8j x x hx hx rfl (by omega)
 have hz := X8j X1d X1d (X5N 14) (X5N 14) rfl (by decide)
 have ho := XdR x (by omega)
 by_cases h0 : s = 0
 ·subst h0
  rw [show X1V 0 x = X03 x x from if_pos rfl]
  generalize X03 x x = y at *
  repeat first | refine X0 ?_ | (refine JR ?_; (repeat first | refine Z1 ?_ | refine Z0 ?_ | refine Zl ?_ | refine Zn ?_ | refine Zo ?_ | refine Z9 (hcon := hp) ?_); refine JD ?_) | refine JT ?_
  exact X1 ⟨_, St.le_refl _, ⟨rfl, rfl, trivial⟩, X3 _⟩
 have hs2 : X1V s x = X03 X1d X1d := if_neg h0
 rw [hs2]
 clear hs2
 generalize X03 X1d X1d = y at *
 by_cases h1 : s = 1
 ·subst h1
  repeat first | refine X0 ?_ | (refine JR ?_; (repeat first | refine Z1 ?_ | refine Z0 ?_ | refine Zl ?_ | refine Zq ?_ | refine ZS ?_ | refine Z9 (hcon := ho) ?_ | refine Z9 (hcon := hz) ?_); refine JD ?_) | refine JT ?_ | refine JF ?_ | refine X4 ?_
  exact X1 ⟨_, St.le_refl _, ⟨rfl, rfl, trivial⟩, X3 _⟩
 ·obtain rfl : s = -1 := by omega
  repeat first | refine X0 ?_ | (refine JR ?_; (repeat first | refine Z1 ?_ | refine Z0 ?_ | refine Zl ?_ | refine Zq ?_ | refine ZS ?_ | refine Z9 (hcon := ho) ?_ | refine Z9 (hcon := hz) ?_); refine JD ?_) | refine JT ?_ | refine JF ?_ | refine X4 ?_
  exact X1 ⟨_, St.le_refl _, ⟨rfl, rfl, trivial⟩, X3 _⟩
abbrev X2j (x : AVal) (n e : Int) : AVal := .tup [x, ai n, ai e]
end Go.Fw

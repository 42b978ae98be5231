/- Wide numbers of the reference: sums, order. -/
import Derived.Test.YtaoggblfedekeaaGreatDoorG08
import Derived.Test.YtaoggblfedekeaaGreatDoorG13
import Derived.Test.YtaoggblfedekeaaGreatDoorG09
set_option maxHeartbeats 8000000
namespace Go.Fw
open Go Go.Proofs
set_option maxRecDepth 100000
set_option linter.unusedVariables false
set_option linter.unusedSimpArgs false
theorem X5m {l : List Nat} {k y : Nat} (h : k < l.length) : List.take k (l.map Ye) ++ [Ye y] ++ List.drop (k + 1) (l.map Ye) = (l.set k y).map Ye := by
 rw [List.set_eq_take_append_cons_drop, if_pos h]; simp
theorem X7R (n : Nat) : List.replicate n (Ye 0) = (List.replicate n 0).map Ye := by simp
theorem X5r (x y : List Nat) (hx : UH x) (hy : UH y) (hl : y.length = x.length) (hn : x.length ≤ 1000) : Con Tryz.prog 125 [] [.d (YT x), .d (YT y)] [] (.d (YT (V1 x y))) := by
 have hlx : (x.map Ye).length = x.length := by simp
 have own : Con Tryz.prog 125 [] [.d (YT x), .d (YT y)] [(130, .row 1 ((V1 x y).map Ye))] (.own 130 ((V1 x y).map Ye).length) := by
  refine X8 (xs := [.own 130 ((V1 x y).map Ye).length]) Tryz.func125 rfl Tryz.ntmps125 rfl rfl rfl (fun E => ?_)
  refine X0 ?_; refine JR ?_; refine Z0 ?_; refine JD ?_; refine X0 ?_; refine JR ?_; refine Z1 ?_; refine Zd ?_; refine Ze (γ := 130) ?_; refine Z0 ?_; refine JD ?_; refine X0 ?_; refine JR ?_; refine Z0 ?_
  refine JD ?_; refine X0 ?_; refine X0 ?_; refine JR ?_; refine Z0 ?_; refine JD ?_; refine X5 ?_
  refine XR (fun k : Nat => k ≤ x.length) (fun k => ⟨36, [(0, .d (YT x)), (1, .d (YT y)), (5, .own 130 (x.map Ye).length), (6, ai (U7 x y k).2), (7, ai k)], [(130, .row 1 ((U7 x y k).1.map Ye))]⟩) (fun k => x.length - k) 0 (by omega)
   (Xc rfl ⟨JL, JL, JL, JL, JL, trivial⟩ ⟨?_, trivial⟩) ?_
  ·refine congrArg (AObj.row 1) ?_
   refine Eq.trans (b := List.replicate (x.map Ye).length (Ye 0)) rfl ?_
   rw [hlx]; exact X7R x.length
  intro k hk
  have hpl := X5J x y k
  have hpm : ((U7 x y k).1.map Ye).length = x.length := by rw [List.length_map, hpl]
  by_cases hkx : k < x.length
  case neg =>
   obtain rfl : k = x.length := by omega
   refine X0 ?_; refine X0 ?_; refine JR ?_; refine Z1 ?_; refine Z1 ?_; refine Zd ?_; refine Z8 ?_; refine JD ?_; refine JF ?_; refine Xv ?_; refine X0 ?_; refine JR ?_; refine Z1 ?_; refine Z0 ?_
   refine JD ?_
   exact X1 ⟨_, X9 4 (y := .own 130 ((V1 x y).map Ye).length) (AVal.le_of_eq (by refine Eq.trans (b := .own 130 (x.map Ye).length) rfl ?_; congr 1; rw [hlx]; exact hpm.symm)), ⟨rfl, trivial⟩, Xi ⟨rfl, trivial⟩⟩
  obtain ⟨a, ha⟩ := XT (l := x) hkx
  obtain ⟨b, hb⟩ := XT (l := y) (k := k) (by omega)
  have hc := X77 hx hy k
  have ha1 := X1x hx ha
  have hb1 := X1x hy hb
  have hsucc : U7 x y (k + 1) = ((U7 x y k).1.set k (((U7 x y k).2 + a + b) % 1000), ((U7 x y k).2 + a + b) / 1000) := by
   simp only [U7, ha, hb, Option.getD_some]
  generalize U7 x y k = p at *
  obtain ⟨l, c⟩ := p
  simp only at hpl hpm hc hsucc
  refine X0 ?_; refine X0 ?_; refine JR ?_; refine Z1 ?_; refine Z1 ?_; refine Zd ?_; refine Z8 ?_; refine JD ?_; refine JT ?_; refine X3 ?_; refine X0 ?_; refine X5 ?_; refine X0 ?_
  refine JR ?_; refine Z1 ?_; refine Z1 ?_; refine Z1 ?_; refine ZI ?_; refine ZK ?_; refine Z7 (op := .add) (r' := nj (c + a)) (u := nj c) (v := nj a) ?_ (hr := by exact Yy (by rw [XL]; omega)); refine Z1 ?_
  refine Z1 ?_; refine ZI ?_; refine ZK ?_; refine Z7 (op := .add) (r' := nj (c + a + b)) (u := nj (c + a)) (v := nj b) ?_ (hr := by exact Yy (by rw [XL]; omega)); refine Z0 ?_; refine JD ?_; refine X0 ?_
  refine JR ?_; refine Z1 ?_; refine Z1 ?_; refine Z1 ?_; refine Z7 (op := .rem) (r' := nj ((c + a + b) % 1000)) (u := nj (c + a + b)) (v := nj 1000) ?_ (hr := by exact Ys (by omega)); refine ZO ?_; refine ZP ?_
  refine JD ?_; refine JR ?_; refine Z1 ?_; refine Z7 (op := .quo) (r' := nj ((c + a + b) / 1000)) (u := nj (c + a + b)) (v := nj 1000) ?_ (hr := by exact UK (by omega) (by rw [XL]; omega)); refine Z0 ?_
  refine JD ?_; refine JR ?_; refine Z1 ?_; refine Zb ?_; refine Z0 ?_; refine JD ?_
  refine ⟨k + 1, by omega, by omega, ?_⟩
  dsimp only
  rw [hsucc]
  refine Xc rfl ⟨JL, JL, JL, JL, JL, trivial⟩ ⟨?_, trivial⟩
  exact congrArg (AObj.row 1) (X5m (by omega))
 exact own.data (by simp)
end Go.Fw
namespace Go.Fw
open Go Go.Proofs
set_option maxRecDepth 100000
set_option linter.unusedVariables false
set_option linter.unusedSimpArgs false
theorem X5D (a0 b : Nat) (ha0 : a0 ≤ 1000000000000000) (hb : b ≤ 1000000000000000) : Con Tryz.prog 107 [] [ai a0, ai b] [] (.d (YT (YJ 14 (a0 * b)))) := by
 have own : Con Tryz.prog 107 [] [ai a0, ai b] [(130, .row 1 ((YJ 14 (a0 * b)).map Ye))] (.own 130 ((YJ 14 (a0 * b)).map Ye).length) := by
  refine X8 (xs := [.own 130 ((YJ 14 (a0 * b)).map Ye).length]) Tryz.func107 rfl Tryz.ntmps107 rfl rfl rfl (fun E => ?_)
  refine X0 ?_; refine JR ?_; refine Z0 ?_; refine JD ?_; refine X0 ?_; refine JR ?_; refine Ze (γ := 130) ?_; refine Z0 ?_; refine JD ?_; refine X0 ?_; refine X0 ?_; refine JR ?_; refine Z0 ?_
  refine JD ?_; refine X5 ?_
  refine XR (ι := List Nat × Nat × Nat) (fun s => s.1.length = 14 ∧ UH s.1 ∧ YU s.1 + s.2.1 * b * 1000 ^ s.2.2 = a0 * b ∧ s.2.1 * 1000 ^ s.2.2 ≤ a0)
   (fun s => ⟨51, [(0, ai s.2.1), (1, ai b), (5, .own 130 14), (6, ai s.2.2)], [(130, .row 1 (s.1.map Ye))]⟩) (fun s => s.2.1) (List.replicate 14 0, a0, 0)
   ⟨rfl, X4d 14, by rw [X6A]; simp, by simp⟩
   (Xc rfl ⟨JL, JL, JL, JL, trivial⟩ ⟨rfl, trivial⟩) ?_
  rintro ⟨l, a, i⟩ ⟨hl, hlow, hV, hai⟩
  simp only at hl hlow hV hai
  by_cases ha : 0 < a
  case neg =>
   obtain rfl : a = 0 := by omega
   have hfin : YJ 14 (a0 * b) = l := by
    rw [← hV, Nat.zero_mul, Nat.zero_mul, Nat.add_zero, ← hl]
    exact X6J l hlow
   rw [hfin]
   refine X0 ?_; refine X0 ?_; refine JR ?_; refine Z1 ?_; refine Zp ?_; refine JD ?_; refine JF ?_; refine Xv ?_; refine X0 ?_; refine JR ?_; refine Z1 ?_; refine Z0 ?_; refine JD ?_
   exact X1 ⟨_, X9 4 (y := .own 130 (l.map Ye).length) (AVal.le_of_eq (by refine Eq.trans (b := .own 130 14) rfl ?_; rw [List.length_map, hl])), ⟨rfl, trivial⟩, Xi ⟨rfl, trivial⟩⟩
  have hi5 := Xap hai ha ha0
  have haa : a ≤ 1000000000000000 := Nat.le_trans (Nat.le_mul_of_pos_right _ (Nat.pow_pos (by decide))) (Nat.le_trans hai ha0)
  have hVle := X9i hV
  have hW := X98 (a0 := a0) ha0 hb
  refine X0 ?_; refine X0 ?_; refine JR ?_; refine Z1 ?_; refine Zp ?_; refine JD ?_; refine JT ?_; refine X3 ?_; refine X0 ?_; refine X5 ?_; refine X0 ?_; refine JR ?_; refine Z1 ?_
  refine Z7 (op := .rem) (r' := nj (a % 1000)) (u := nj a) (v := nj 1000) ?_ (hr := by exact Ys (by omega)); refine Z0 ?_; refine JD ?_; refine X0 ?_; refine JR ?_; refine Z1 ?_
  refine Z7 (op := .quo) (r' := nj (a / 1000)) (u := nj a) (v := nj 1000) ?_ (hr := by exact UK (by omega) (by rw [XL]; omega)); refine Z0 ?_; refine JD ?_; refine X0 ?_; refine JR ?_; refine Z1 ?_
  refine Z0 ?_; refine JD ?_; refine X0 ?_; refine JR ?_; refine Z0 ?_; refine JD ?_; refine X0 ?_; refine JR ?_; refine Z1 ?_; refine Z0 ?_; refine JD ?_; refine X5 ?_
  generalize hd : a % 1000 = dg at *
  have hdg : dg < 1000 := by omega
  generalize hV2 : YU l + dg * b * 1000 ^ i = V at *
  refine XR (ι := List Nat × Nat × Nat × Nat) (fun s => s.1.length = 14 ∧ UH s.1 ∧ YU s.1 + (dg * s.2.1 + s.2.2.1) * 1000 ^ s.2.2.2 = V ∧ s.2.1 * 1000 ^ s.2.2.2 ≤ b * 1000 ^ i ∧ s.2.2.1 ≤ 999 ∧ s.2.1 ≤ b)
   (fun s => ⟨51, [(0, ai (a / 1000 : Nat)), (1, ai b), (5, .own 130 14), (6, ai i), (7, ai dg), (8, ai s.2.1), (9, ai s.2.2.1), (10, ai s.2.2.2)], [(130, .row 1 (s.1.map Ye))]⟩) (fun s => 20 - s.2.2.2) (l, b, 0, i)
   ⟨hl, hlow, by simpa using hV2, Nat.le_refl _, by simp, Nat.le_refl _⟩
   (Xc rfl ⟨JL, JL, JL, JL, JL, JL, JL, JL, trivial⟩ ⟨rfl, trivial⟩) ?_
  rintro ⟨l2, c, carry, k⟩ ⟨hl2, hlow2, hV3, hck, hcar, hcb⟩
  simp only at hl2 hlow2 hV3 hck hcar hcb
  by_cases hgo : 0 < c ∨ 0 < carry
  case neg =>
   obtain rfl : c = 0 := by omega
   obtain rfl : carry = 0 := by omega
   have hVe : YU l2 = YU l + a % 1000 * b * 1000 ^ i := by
    rw [hd, hV2, ← hV3]; simp
   have hnew := X8C hV hVe
   have hai2 := X4S hai
   refine X0 ?_; refine X0 ?_; refine JR ?_; refine Z1 ?_; refine Zp ?_; refine Z1 ?_; refine Z1 ?_; refine Zp ?_; refine Zn ?_; refine JD ?_; refine JF ?_; refine Xv ?_; refine JR ?_; refine Z1 ?_
   refine Zb ?_; refine Z0 ?_; refine JD ?_
   exact ⟨(l2, a / 1000, i + 1), ⟨hl2, hlow2, hnew, hai2⟩, by show a / 1000 < a; omega, Xc rfl ⟨JL, JL, JL, JL, trivial⟩ ⟨rfl, trivial⟩⟩
  have hk : k ≤ 10 := by
   rcases hgo with h | h
   ·exact X96 hck h hb hi5
   ·exact X9Z hV3 hVle hW h
  obtain ⟨x, hx⟩ := XT (l := l2) (k := k) (by omega)
  have hx1 := X1x hlow2 hx
  have hstep := Xc0 hV3 hx
  have hck2 := X4S hck
  have hm : dg * (c % 1000) ≤ 998001 := Nat.mul_le_mul (show dg ≤ 999 by omega) (show c % 1000 ≤ 999 by omega)
  have hxm : (l2.map Ye)[k]? = some (Ye x) := YR hx
  have hs := X5m (l := l2) (k := k) (y := (carry + x + dg * (c % 1000)) % 1000) (by omega)
  have hlen : (l2.map Ye).length = 14 := by rw [List.length_map, hl2]
  by_cases hc0 : 0 < c
  ·refine X0 ?_; refine X0 ?_; refine JR ?_; refine Z1 ?_; refine Zp ?_; refine Z1 ?_; refine Zl ?_; refine Zl ?_; refine Zk ?_; refine JD ?_; refine JT ?_; refine X3 ?_; refine X0 ?_
   refine X5 ?_; refine X0 ?_; refine JR ?_; refine Z1 ?_; refine Z1 ?_; refine Z1 ?_; refine ZO ?_; refine ZQ ?_
   refine Z7 (op := .add) (r' := nj (carry + x)) (u := nj carry) (v := nj x) ?_ (hr := by exact Yy (by rw [XL]; omega)); refine Z1 ?_; refine Z1 ?_
   refine Z7 (op := .rem) (r' := nj (c % 1000)) (u := nj c) (v := nj 1000) ?_ (hr := by exact Ys (by omega))
   refine Z7 (op := .mul) (r' := nj (dg * (c % 1000))) (u := nj dg) (v := nj (c % 1000)) ?_ (hr := by exact YO (by rw [XL]; omega))
   refine Z7 (op := .add) (r' := nj (carry + x + dg * (c % 1000))) (u := nj (carry + x)) (v := nj (dg * (c % 1000))) ?_ (hr := by exact Yy (by rw [XL]; omega)); refine Z0 ?_; refine JD ?_; refine X0 ?_
   refine JR ?_; refine Z1 ?_; refine Z7 (op := .quo) (r' := nj (c / 1000)) (u := nj c) (v := nj 1000) ?_ (hr := by exact UK (by omega) (by rw [XL]; omega)); refine Z0 ?_; refine JD ?_; refine X0 ?_
   refine JR ?_; refine Z1 ?_; refine Z1 ?_; refine Z1 ?_
   refine Z7 (op := .rem) (r' := nj ((carry + x + dg * (c % 1000)) % 1000)) (u := nj (carry + x + dg * (c % 1000))) (v := nj 1000) ?_ (hr := by exact Ys (by omega)); refine ZO ?_; refine ZP ?_; refine JD ?_
   refine JR ?_; refine Z1 ?_; refine Z7 (op := .quo) (r' := nj ((carry + x + dg * (c % 1000)) / 1000)) (u := nj (carry + x + dg * (c % 1000))) (v := nj 1000) ?_ (hr := by exact UK (by omega) (by rw [XL]; omega))
   refine Z0 ?_; refine JD ?_; refine JR ?_; refine Z1 ?_; refine Zb ?_; refine Z0 ?_; refine JD ?_
   exact ⟨(l2.set k ((carry + x + dg * (c % 1000)) % 1000), c / 1000, (carry + x + dg * (c % 1000)) / 1000, k + 1), ⟨by rw [List.length_set]; exact hl2, X6p hlow2 k (by omega), hstep, hck2, by show (carry + x + dg * (c % 1000)) / 1000 ≤ 999; omega, by show c / 1000 ≤ b; omega⟩, by show 20 - (k + 1) < 20 - k; omega, Xc rfl ⟨JL, JL, JL, JL, JL, JL, JL, JL, trivial⟩ ⟨congrArg (AObj.row 1) hs, trivial⟩⟩
  ·have hcar0 : 0 < carry := by omega
   refine X0 ?_; refine X0 ?_; refine JR ?_; refine Z1 ?_; refine Zp ?_; refine Z1 ?_; refine Z1 ?_; refine Zp ?_; refine Zn ?_; refine JD ?_; refine JT ?_; refine X3 ?_; refine X0 ?_
   refine X5 ?_; refine X0 ?_; refine JR ?_; refine Z1 ?_; refine Z1 ?_; refine Z1 ?_; refine ZO ?_; refine ZQ ?_
   refine Z7 (op := .add) (r' := nj (carry + x)) (u := nj carry) (v := nj x) ?_ (hr := by exact Yy (by rw [XL]; omega)); refine Z1 ?_; refine Z1 ?_
   refine Z7 (op := .rem) (r' := nj (c % 1000)) (u := nj c) (v := nj 1000) ?_ (hr := by exact Ys (by omega))
   refine Z7 (op := .mul) (r' := nj (dg * (c % 1000))) (u := nj dg) (v := nj (c % 1000)) ?_ (hr := by exact YO (by rw [XL]; omega))
   refine Z7 (op := .add) (r' := nj (carry + x + dg * (c % 1000))) (u := nj (carry + x)) (v := nj (dg * (c % 1000))) ?_ (hr := by exact Yy (by rw [XL]; omega)); refine Z0 ?_; refine JD ?_; refine X0 ?_
   refine JR ?_; refine Z1 ?_; refine Z7 (op := .quo) (r' := nj (c / 1000)) (u := nj c) (v := nj 1000) ?_ (hr := by exact UK (by omega) (by rw [XL]; omega)); refine Z0 ?_; refine JD ?_; refine X0 ?_
   refine JR ?_; refine Z1 ?_; refine Z1 ?_; refine Z1 ?_
   refine Z7 (op := .rem) (r' := nj ((carry + x + dg * (c % 1000)) % 1000)) (u := nj (carry + x + dg * (c % 1000))) (v := nj 1000) ?_ (hr := by exact Ys (by omega)); refine ZO ?_; refine ZP ?_; refine JD ?_
   refine JR ?_; refine Z1 ?_; refine Z7 (op := .quo) (r' := nj ((carry + x + dg * (c % 1000)) / 1000)) (u := nj (carry + x + dg * (c % 1000))) (v := nj 1000) ?_ (hr := by exact UK (by omega) (by rw [XL]; omega))
   refine Z0 ?_; refine JD ?_; refine JR ?_; refine Z1 ?_; refine Zb ?_; refine Z0 ?_; refine JD ?_
   exact ⟨(l2.set k ((carry + x + dg * (c % 1000)) % 1000), c / 1000, (carry + x + dg * (c % 1000)) / 1000, k + 1), ⟨by rw [List.length_set]; exact hl2, X6p hlow2 k (by omega), hstep, hck2, by show (carry + x + dg * (c % 1000)) / 1000 ≤ 999; omega, by show c / 1000 ≤ b; omega⟩, by show 20 - (k + 1) < 20 - k; omega, Xc rfl ⟨JL, JL, JL, JL, JL, JL, JL, JL, trivial⟩ ⟨congrArg (AObj.row 1) hs, trivial⟩⟩
 exact own.data (by simp)
end Go.Fw
namespace Go.Fw
open Go Go.Proofs
set_option maxRecDepth 100000
set_option linter.unusedVariables false
set_option linter.unusedSimpArgs false
def Ux (n : Int) : Int := if n < 0 then -1 else if 0 < n then 1 else 0
theorem X6x (n : Int) : Con Tryz.prog 106 [] [ai n] [] (ai (Ux n)) := by
 refine X8 (xs := [ai (Ux n)]) Tryz.func106 rfl Tryz.ntmps106 rfl rfl rfl (fun E => ?_)
 by_cases h1 : n < 0
 ·rw [show Ux n = -1 by simp [Ux, h1]]
  refine X0 ?_; refine JR ?_; refine Z0 ?_; refine JD ?_; refine X0 ?_; refine X0 ?_; refine JR ?_; refine Z1 ?_; refine Z8 ?_; refine JD ?_; refine JT ?_; refine X0 ?_; refine JR ?_; refine Z0 ?_
  refine JD ?_
  exact X1 ⟨_, St.le_refl _, ⟨rfl, trivial⟩, X2 _⟩
 by_cases h2 : 0 < n
 ·rw [show Ux n = 1 by simp [Ux, h1, h2]]
  refine X0 ?_; refine JR ?_; refine Z0 ?_; refine JD ?_; refine X0 ?_; refine X0 ?_; refine JR ?_; refine Z1 ?_; refine Z8 ?_; refine JD ?_; refine JF ?_; refine X3 ?_; refine X0 ?_
  refine X0 ?_; refine JR ?_; refine Z1 ?_; refine Zp ?_; refine JD ?_; refine JT ?_; refine X0 ?_; refine JR ?_; refine Z0 ?_; refine JD ?_
  exact X1 ⟨_, St.le_refl _, ⟨rfl, trivial⟩, X2 _⟩
 ·rw [show Ux n = 0 by simp [Ux, h1, h2]]
  repeat first | refine X0 ?_ | (refine JR ?_; (repeat first | refine Z1 ?_ | refine Z0 ?_ | refine Z8 ?_ | refine Zp ?_); refine JD ?_) | refine JF ?_ | refine X3 ?_
  exact X1 ⟨_, St.le_refl _, ⟨rfl, trivial⟩, X2 _⟩
theorem X9o (x : List Nat) (hx : x.length ≤ 1000) : Con Tryz.prog 126 [] [.d (YT x), .d (YT x)] [] (ai 0) := by
 refine X8 (xs := [ai 0]) Tryz.func126 rfl Tryz.ntmps126 rfl rfl rfl (fun E => ?_)
 have hlx : (x.map Ye).length = x.length := by simp
 refine X0 ?_; refine JR ?_; refine Z0 ?_; refine JD ?_; refine X0 ?_; refine X0 ?_; refine JR ?_; refine Z1 ?_; refine Zd ?_; refine ZR ?_; refine Z0 ?_; refine JD ?_; refine X5 ?_
 refine XR (fun i : Nat => i ≤ x.length) (fun i => ⟨31, [(0, .d (YT x)), (1, .d (YT x)), (5, ai ((i : Int) - 1))], []⟩) (fun i => i) x.length (Nat.le_refl _)
  (Xc rfl ⟨JL, JL, JL, trivial⟩ trivial) ?_
 intro i hi
 cases i with
 | zero =>
  refine X0 ?_; refine X0 ?_; refine JR ?_; refine Z1 ?_; refine Z2 ?_; refine JD ?_; refine JF ?_; refine Xv ?_; refine X0 ?_; refine JR ?_; refine Z0 ?_; refine JD ?_
  exact X1 ⟨_, St.le_refl _, ⟨rfl, trivial⟩, X2 _⟩
 | succ j =>
  have e : (((j + 1 : Nat) : Int) - 1) = (j : Int) := by omega
  rw [e]
  obtain ⟨a, ha⟩ := XT (l := x) (k := j) (by omega)
  have hxm : (x.map Ye)[j]? = some (Ye a) := YR ha
  repeat first | refine X0 ?_ | (refine JR ?_; (repeat first | refine Z1 ?_ | refine Z0 ?_ | refine ZK ?_ | refine Z8 ?_ | refine Zp ?_ | refine Z2 ?_ | refine ZR ?_ | refine ZI ?_); refine JD ?_) | refine JT ?_ | refine JF ?_ | refine X5 ?_ | refine X3 ?_
  exact ⟨j, by omega, by omega, Xc rfl ⟨JL, JL, JL, trivial⟩ trivial⟩
abbrev VM : List Nat := List.replicate 14 0
def X03 (s : Int) (x : List Nat) : List Nat := if s = 0 then V1 x x else V1 VM VM
theorem X6G (s : Int) (hs : s = 0 ∨ s = 1 ∨ s = -1) (x : List Nat) (hx : UH x) (hl : x.length = 14) : Con Tryz.prog 105 [] [ai s, .d (YT x), ai (-s), .d (YT x)] [] (.tup [ai 0, .d (YT (X03 s x))]) := by
 refine X8 (xs := [ai 0, .d (YT (X03 s x))]) Tryz.func105 rfl Tryz.ntmps105 rfl rfl rfl (fun E => ?_)
 have hp := X5r x x hx hx rfl (by omega)
 have hz := X5r VM VM (X4d 14) (X4d 14) rfl (by decide)
 have ho := X9o x (by omega)
 by_cases h0 : s = 0
 ·subst h0
  rw [show X03 0 x = V1 x x from if_pos rfl]
  generalize V1 x x = y at *
  repeat first | refine X0 ?_ | (refine JR ?_; (repeat first | refine Z1 ?_ | refine Z0 ?_ | refine Zu ?_ | refine Zk ?_ | refine Zl ?_ | refine Z9 (hcon := hp) ?_); refine JD ?_) | refine JT ?_
  exact X1 ⟨_, St.le_refl _, ⟨rfl, rfl, trivial⟩, X2 _⟩
 have hs2 : X03 s x = V1 VM VM := if_neg h0
 rw [hs2]
 clear hs2
 generalize V1 VM VM = y at *
 by_cases h1 : s = 1
 ·subst h1
  repeat first | refine X0 ?_ | (refine JR ?_; (repeat first | refine Z1 ?_ | refine Z0 ?_ | refine Zu ?_ | refine Zn ?_ | refine ZS ?_ | refine Z9 (hcon := ho) ?_ | refine Z9 (hcon := hz) ?_); refine JD ?_) | refine JT ?_ | refine JF ?_ | refine X3 ?_
  exact X1 ⟨_, St.le_refl _, ⟨rfl, rfl, trivial⟩, X2 _⟩
 ·obtain rfl : s = -1 := by omega
  repeat first | refine X0 ?_ | (refine JR ?_; (repeat first | refine Z1 ?_ | refine Z0 ?_ | refine Zu ?_ | refine Zn ?_ | refine ZS ?_ | refine Z9 (hcon := ho) ?_ | refine Z9 (hcon := hz) ?_); refine JD ?_) | refine JT ?_ | refine JF ?_ | refine X3 ?_
  exact X1 ⟨_, St.le_refl _, ⟨rfl, rfl, trivial⟩, X2 _⟩
end Go.Fw
namespace Go.Fw
open Go Go.Proofs
set_option maxRecDepth 100000
set_option linter.unusedVariables false
set_option linter.unusedSimpArgs false
abbrev X2k (x : AVal) (n e : Int) : AVal := .tup [x, ai n, ai e]
theorem X2B {b : List UInt8} {k i : Nat} {c : UInt8} (h : (b.drop k)[i]? = some c) : b[k + i]? = some c := by rwa [List.getElem?_drop] at h
theorem X5R : ∀ {l : List UInt8} {q : Nat} {x : UInt8}, l[q]? = some x → Xt (l.drop q) = x.toNat % 128 + 128 * Xt (l.drop (q + 1)) := by
 intro l q x h
 rw [List.drop_eq_getElem_cons (List.getElem?_eq_some_iff.1 h).1, (List.getElem?_eq_some_iff.1 h).2]; rfl
theorem X2H : ∀ (l : List UInt8) (q : Nat), Xt (l.drop q) ≤ Xt l
 | [], q => by simp
 | y :: l, 0 => Nat.le_refl _
 | y :: l, q + 1 => by
  have := X2H l q
  simp only [List.drop_succ_cons, Xt]; omega
theorem X6s (b : List UInt8) (a : Int) (hb : b.length ≤ 281474976710656) : Con Tryz.prog 97 [] [.d (Xh b), ai a] [] (X2k (UO (Xw b a).1) (Xw b a).2.1 (Xw b a).2.2) := by
 refine X8 (xs := [UO (Xw b a).1, ai (Xw b a).2.1, ai (Xw b a).2.2]) Tryz.func97 rfl Tryz.ntmps97 rfl rfl rfl (fun E => ?_)
 by_cases h1 : a < 0
 ·rw [show Xw b a = (0, 0, 1) by unfold Xw; rw [if_pos (.inl h1)]]
  repeat first | refine X0 ?_ | (refine JR ?_; (repeat first | refine Z1 ?_ | refine Z0 ?_ | refine Z8 ?_ | refine Zk ?_ | refine Zl ?_); refine JD ?_) | refine JT ?_
  exact X1 ⟨_, St.le_refl _, ⟨rfl, rfl, rfl, trivial⟩, X2 _⟩
 by_cases h2 : (b.length : Int) < a
 ·rw [show Xw b a = (0, 0, 1) by unfold Xw; rw [if_pos (.inr h2)]]
  refine X0 ?_; refine JR ?_; refine Z0 ?_; refine Z0 ?_; refine Z0 ?_; refine JD ?_; refine X0 ?_; refine X0 ?_; refine JR ?_; refine Z1 ?_; refine Z8 ?_; refine Z1 ?_; refine Z1 ?_; refine Z1 ?_
  refine Zd ?_; refine Zp ?_; refine Zn ?_; refine JD ?_; refine JT ?_; refine X0 ?_; refine JR ?_; refine Z0 ?_; refine Z0 ?_; refine Z0 ?_; refine JD ?_
  exact X1 ⟨_, St.le_refl _, ⟨rfl, rfl, rfl, trivial⟩, X2 _⟩
 obtain ⟨k, rfl⟩ : ∃ k : Nat, a = k := ⟨a.toNat, by omega⟩
 have hnum : Xw b k = (let l := b.drop k; let n := XX l; if n = 10 then (0, 0, 4) else if l.length ≤ n then (0, 0, 3) else if n = 9 ∧ 1 < ((l[n]?).getD 0).toNat then (0, 0, 4) else (Xt (l.take (n + 1)), (k : Int) + n + 1, 0)) := by
  unfold Xw; rw [if_neg (by omega), Int.toNat_natCast]
 have hll : (b.drop k).length = b.length - k := List.length_drop
 refine X0 ?_; refine JR ?_; refine Z0 ?_; refine Z0 ?_; refine Z0 ?_; refine JD ?_; refine X0 ?_; refine X0 ?_; refine JR ?_; refine Z1 ?_; refine Z8 ?_; refine Z1 ?_; refine Z1 ?_; refine Z1 ?_
 refine Zd ?_; refine Zp ?_; refine Zn ?_; refine JD ?_; refine JF ?_; refine X3 ?_; refine X0 ?_; refine JR ?_; refine Z0 ?_; refine JD ?_; refine X0 ?_; refine X5 ?_
 refine XR (fun i : Nat => big (b.drop k) i ∧ i ≤ 10 ∧ i ≤ (b.drop k).length) (fun i => ⟨79, [(0, .d (Xh b)), (1, ai k), (7, ai i)], []⟩) (fun i => 10 - i) 0 ⟨fun j hj => by omega, by omega, by omega⟩
  (Xc rfl ⟨JL, JL, JL, trivial⟩ trivial) ?_
 rintro i ⟨hbig, hi10, hil⟩
 generalize hl : b.drop k = l at *
 by_cases e10 : i = 10
 ·subst e10
  have hm : XX l = 10 := X22 hbig (by omega)
  rw [show Xw b k = (0, 0, 4) by rw [hnum]; simp only [hm, if_true]]
  repeat first | refine X0 ?_ | (refine JR ?_; (repeat first | refine Z1 ?_ | refine Z0 ?_ | refine Z8 ?_ | refine Zu ?_ | refine Zn ?_ | refine Zl ?_); refine JD ?_) | refine JT ?_ | refine JF ?_ | refine Xv ?_
  exact X1 ⟨_, St.le_refl _, ⟨rfl, rfl, rfl, trivial⟩, X2 _⟩
 by_cases el : i = l.length
 ·have hm : XX l = i := X22 hbig (by omega)
  rw [show Xw b k = (0, 0, 3) by rw [hnum]; simp only [hm]; rw [if_neg e10, if_pos (by omega)]]
  repeat first | refine X0 ?_ | (refine JR ?_; (repeat first | refine Z7 (op := .add) (r' := ni (k + i)) (u := ni k) (v := ni i) ?_ (hr := by exact Yy (by rw [XL]; omega)) | refine Z1 ?_ | refine Z0 ?_ | refine Zd ?_ | refine Z8 ?_ | refine Z2 ?_ | refine Zu ?_ | refine Zk ?_ | refine Zn ?_ | refine Zl ?_); refine JD ?_) | refine JT ?_ | refine JF ?_ | refine X3 ?_ | refine Xv ?_
  exact X1 ⟨_, St.le_refl _, ⟨rfl, rfl, rfl, trivial⟩, X2 _⟩
 obtain ⟨c, hc⟩ := XT (l := l) (k := i) (by omega)
 have hbc : b[k + i]? = some c := X2B (by rw [hl]; exact hc)
 have hc8 := c.toNat_lt
 by_cases hge : 128 ≤ c.toNat
 ·refine X0 ?_; refine X0 ?_; refine JR ?_; refine Z1 ?_; refine Z8 ?_; refine Z1 ?_; refine Z1 ?_; refine Z1 ?_
  refine Z7 (op := .add) (r' := ni (k + i)) (u := ni k) (v := ni i) ?_ (hr := by exact Yy (by rw [XL]; omega)); refine Z1 ?_; refine Zd ?_; refine Z8 ?_; refine Zk ?_; refine Z1 ?_; refine Z1 ?_; refine Z1 ?_
  refine Z1 ?_; refine Z7 (op := .add) (r' := ni (k + i)) (u := ni k) (v := ni i) ?_ (hr := by exact Yy (by rw [XL]; omega)); refine ZI ?_; refine ZK ?_; refine Z2 ?_; refine Zk ?_; refine JD ?_; refine JT ?_
  refine X3 ?_; refine X5 ?_; refine JR ?_; refine Z1 ?_; refine Zb ?_; refine Z0 ?_; refine JD ?_
  exact ⟨i + 1, ⟨X3h hbig hc hge, by omega, by omega⟩, by omega, Xc rfl ⟨JL, JL, JL, trivial⟩ trivial⟩
 have hm : XX l = i := X1A hbig hc (by omega) (by omega)
 by_cases h9 : i = 9 ∧ 1 < c.toNat
 ·rw [show Xw b k = (0, 0, 4) by rw [hnum]; simp only [hm, hc, Option.getD_some]; rw [if_neg e10, if_neg (by omega), if_pos h9]]
  obtain ⟨rfl, h91⟩ := h9
  repeat first | refine X0 ?_ | (refine JR ?_; (repeat first | refine Z7 (op := .add) (r' := ni (k + 9)) (u := ni k) (v := ni 9) ?_ (hr := by exact Yy (by rw [XL]; omega)) | refine Z1 ?_ | refine Z0 ?_ | refine ZK ?_ | refine Zd ?_ | refine Z8 ?_ | refine Zp ?_ | refine Z2 ?_ | refine Zu ?_ | refine Zk ?_ | refine ZI ?_); refine JD ?_) | refine JT ?_ | refine JF ?_ | refine X3 ?_ | refine Xv ?_
  exact X1 ⟨_, St.le_refl _, ⟨rfl, rfl, rfl, trivial⟩, X2 _⟩
 rw [show Xw b k = (Xt (l.take (i + 1)), (k : Int) + i + 1, 0) by rw [hnum]; simp only [hm, hc, Option.getD_some]; rw [if_neg e10, if_neg (by omega), if_neg h9]]
 have hu : Xt (l.take (i + 1)) < 18446744073709551616 := by
  have h1 := X1i l i
  rw [X0r l i c hc]
  by_cases hm9 : i = 9
  ·subst hm9
   have e9 : (2 : Nat) ^ (7 * 9) = 9223372036854775808 := rfl
   rw [e9] at h1 ⊢
   omega
  ·have h2 : (2 : Nat) ^ (7 * i) ≤ 2 ^ 56 := Nat.pow_le_pow_right (by omega) (by omega)
   have e56 : (2 : Nat) ^ 56 = 72057594037927936 := rfl
   rw [e56] at h2
   have h4 : 2 ^ (7 * i) * (c.toNat % 128) ≤ 72057594037927936 * 127 := Nat.mul_le_mul h2 (by omega)
   omega
 by_cases hi9 : i = 9
 ·have hc1 : ¬ (1 < c.toNat) := fun h => h9 ⟨hi9, h⟩
  repeat first | refine X0 ?_ | (refine JR ?_; (repeat first | refine Z7 (op := .add) (r' := ni (k + i)) (u := ni k) (v := ni i) ?_ (hr := by exact Yy (by rw [XL]; omega)) | refine Z1 ?_ | refine Z0 ?_ | refine ZK ?_ | refine Zd ?_ | refine Z8 ?_ | refine Zp ?_ | refine Z2 ?_ | refine Zu ?_ | refine Zk ?_ | refine ZI ?_); refine JD ?_) | refine JF ?_ | refine X5 ?_ | refine X3 ?_ | refine Xv ?_
  refine XR (fun j : Int => -1 ≤ j ∧ j ≤ i) (fun j => ⟨79, [(0, .d (Xh b)), (1, ai k), (7, ai i), (8, UO (Xt ((l.take (i + 1)).drop (j + 1).toNat))), (9, ai j)], []⟩) (fun j => (j + 1).toNat) i ⟨by omega, by omega⟩
   (Xc rfl ⟨JL, JL, JL, (by rw [show ((i : Int) + 1).toNat = i + 1 by omega, List.drop_of_length_le (by simp; omega)]; exact AVal.le_refl _), JL, trivial⟩ trivial) ?_
  rintro j ⟨hj1, hj2⟩
  by_cases hj : 0 ≤ j
  ·obtain ⟨q, rfl⟩ : ∃ q : Nat, j = q := ⟨j.toNat, by omega⟩
   obtain ⟨x, hx⟩ := XT (l := l) (k := q) (by omega)
   have hbx : b[k + q]? = some x := X2B (by rw [hl]; exact hx)
   have hx8 := x.toNat_lt
   have hst : Xt ((l.take (i + 1)).drop q) = Xt ((l.take (i + 1)).drop (q + 1)) * 128 + x.toNat % 128 := by
    rw [X5R (l := l.take (i + 1)) (q := q) (x := x) (by rw [List.getElem?_take_of_lt (by omega)]; exact hx)]; omega
   have hlt : Xt ((l.take (i + 1)).drop q) < 18446744073709551616 := Nat.lt_of_le_of_lt (X2H _ _) hu
   rw [show ((q : Int) + 1).toNat = q + 1 by omega]
   refine X0 ?_; refine X0 ?_; refine JR ?_; refine Z1 ?_; refine Z2 ?_; refine JD ?_; refine JT ?_; refine X3 ?_; refine X0 ?_; refine X5 ?_; refine JR ?_; refine Z1 ?_
   refine Z7 (op := .mul) (r' := n64 (Xt ((l.take (i + 1)).drop (q + 1)) * 128)) (u := n64 (Xt ((l.take (i + 1)).drop (q + 1)))) (v := n64 128) ?_ (hr := by exact YO (by rw [XA]; omega)); refine Z1 ?_
   refine Z1 ?_; refine Z1 ?_; refine Z7 (op := .add) (r' := ni (k + q)) (u := ni k) (v := ni q) ?_ (hr := by exact Yy (by rw [XL]; omega)); refine ZI ?_; refine ZK ?_
   refine Z7 (op := .rem) (r' := n8 (x.toNat % 128)) (u := n8 x.toNat) (v := n8 128) ?_ (hr := by exact Ys (by omega))
   refine Z3 (u := n8 (x.toNat % 128)) (r := n64 (x.toNat % 128)) ?_ (hr := by exact Yi rfl rfl (by rw [XA]; omega))
   refine Z4 (op := .add) (r' := n64 (Xt ((l.take (i + 1)).drop q))) (u := n64 (Xt ((l.take (i + 1)).drop (q + 1)) * 128)) (v := n64 (x.toNat % 128)) ?_ (hr' := by exact by rw [hst]) (hr := by exact Yy (by rw [XA]; omega))
   refine Z0 ?_; refine JD ?_; refine JR ?_; refine Z1 ?_; refine ZR ?_; refine Z0 ?_; refine JD ?_
   refine ⟨(q : Int) - 1, ⟨by omega, by omega⟩, by omega, Xc rfl ⟨JL, JL, JL, (by rw [show ((q : Int) - 1 + 1).toNat = q by omega]; exact AVal.le_refl _), JL, trivial⟩ trivial⟩
  obtain rfl : j = -1 := by omega
  refine X0 ?_; refine X0 ?_; refine JR ?_; refine Z1 ?_; refine Z2 ?_; refine JD ?_; refine JF ?_; refine Xv ?_; refine X0 ?_; refine JR ?_; refine Z1 ?_; refine Z1 ?_; refine Z1 ?_
  refine Z7 (op := .add) (r' := ni (k + i)) (u := ni k) (v := ni i) ?_ (hr := by exact Yy (by rw [XL]; omega)); refine Zb ?_; refine Z0 ?_; refine Z0 ?_; refine Z0 ?_; refine JD ?_
  exact X1 ⟨_, St.le_refl _, ⟨rfl, rfl, rfl, trivial⟩, X2 _⟩
 ·repeat first | refine X0 ?_ | (refine JR ?_; (repeat first | refine Z7 (op := .add) (r' := ni (k + i)) (u := ni k) (v := ni i) ?_ (hr := by exact Yy (by rw [XL]; omega)) | refine Z1 ?_ | refine Z0 ?_ | refine ZK ?_ | refine Zd ?_ | refine Z8 ?_ | refine Z2 ?_ | refine Zu ?_ | refine Zk ?_ | refine Zn ?_ | refine ZI ?_ | refine Zl ?_); refine JD ?_) | refine JF ?_ | refine X5 ?_ | refine X3 ?_ | refine Xv ?_
  refine XR (fun j : Int => -1 ≤ j ∧ j ≤ i) (fun j => ⟨79, [(0, .d (Xh b)), (1, ai k), (7, ai i), (8, UO (Xt ((l.take (i + 1)).drop (j + 1).toNat))), (9, ai j)], []⟩) (fun j => (j + 1).toNat) i ⟨by omega, by omega⟩
   (Xc rfl ⟨JL, JL, JL, (by rw [show ((i : Int) + 1).toNat = i + 1 by omega, List.drop_of_length_le (by simp; omega)]; exact AVal.le_refl _), JL, trivial⟩ trivial) ?_
  rintro j ⟨hj1, hj2⟩
  by_cases hj : 0 ≤ j
  ·obtain ⟨q, rfl⟩ : ∃ q : Nat, j = q := ⟨j.toNat, by omega⟩
   obtain ⟨x, hx⟩ := XT (l := l) (k := q) (by omega)
   have hbx : b[k + q]? = some x := X2B (by rw [hl]; exact hx)
   have hx8 := x.toNat_lt
   have hst : Xt ((l.take (i + 1)).drop q) = Xt ((l.take (i + 1)).drop (q + 1)) * 128 + x.toNat % 128 := by
    rw [X5R (l := l.take (i + 1)) (q := q) (x := x) (by rw [List.getElem?_take_of_lt (by omega)]; exact hx)]; omega
   have hlt : Xt ((l.take (i + 1)).drop q) < 18446744073709551616 := Nat.lt_of_le_of_lt (X2H _ _) hu
   rw [show ((q : Int) + 1).toNat = q + 1 by omega]
   refine X0 ?_; refine X0 ?_; refine JR ?_; refine Z1 ?_; refine Z2 ?_; refine JD ?_; refine JT ?_; refine X3 ?_; refine X0 ?_; refine X5 ?_; refine JR ?_; refine Z1 ?_
   refine Z7 (op := .mul) (r' := n64 (Xt ((l.take (i + 1)).drop (q + 1)) * 128)) (u := n64 (Xt ((l.take (i + 1)).drop (q + 1)))) (v := n64 128) ?_ (hr := by exact YO (by rw [XA]; omega)); refine Z1 ?_
   refine Z1 ?_; refine Z1 ?_; refine Z7 (op := .add) (r' := ni (k + q)) (u := ni k) (v := ni q) ?_ (hr := by exact Yy (by rw [XL]; omega)); refine ZI ?_; refine ZK ?_
   refine Z7 (op := .rem) (r' := n8 (x.toNat % 128)) (u := n8 x.toNat) (v := n8 128) ?_ (hr := by exact Ys (by omega))
   refine Z3 (u := n8 (x.toNat % 128)) (r := n64 (x.toNat % 128)) ?_ (hr := by exact Yi rfl rfl (by rw [XA]; omega))
   refine Z4 (op := .add) (r' := n64 (Xt ((l.take (i + 1)).drop q))) (u := n64 (Xt ((l.take (i + 1)).drop (q + 1)) * 128)) (v := n64 (x.toNat % 128)) ?_ (hr' := by exact by rw [hst]) (hr := by exact Yy (by rw [XA]; omega))
   refine Z0 ?_; refine JD ?_; refine JR ?_; refine Z1 ?_; refine ZR ?_; refine Z0 ?_; refine JD ?_
   refine ⟨(q : Int) - 1, ⟨by omega, by omega⟩, by omega, Xc rfl ⟨JL, JL, JL, (by rw [show ((q : Int) - 1 + 1).toNat = q by omega]; exact AVal.le_refl _), JL, trivial⟩ trivial⟩
  obtain rfl : j = -1 := by omega
  refine X0 ?_; refine X0 ?_; refine JR ?_; refine Z1 ?_; refine Z2 ?_; refine JD ?_; refine JF ?_; refine Xv ?_; refine X0 ?_; refine JR ?_; refine Z1 ?_; refine Z1 ?_; refine Z1 ?_
  refine Z7 (op := .add) (r' := ni (k + i)) (u := ni k) (v := ni i) ?_ (hr := by exact Yy (by rw [XL]; omega)); refine Zb ?_; refine Z0 ?_; refine Z0 ?_; refine Z0 ?_; refine JD ?_
  exact X1 ⟨_, St.le_refl _, ⟨rfl, rfl, rfl, trivial⟩, X2 _⟩
end Go.Fw

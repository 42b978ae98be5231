/- Wide numbers of the reference: sums, order. -/
import Derived.Test.YtaoggblfedekeaaDoorG08
import Derived.Test.YtaoggblfedekeaaDoorG12
import Derived.Test.YtaoggblfedekeaaDoorG09
set_option maxHeartbeats 8000000
namespace Go.Fw
open Go Go.Proofs
set_option maxRecDepth 100000
set_option linter.unusedVariables false
set_option linter.unusedSimpArgs false
theorem X3q {l : List Nat} {k y : Nat} (h : k < l.length) : List.take k (l.map Y2) ++ [Y2 y] ++ List.drop (k + 1) (l.map Y2) = (l.set k y).map Y2 := by
 rw [List.set_eq_take_append_cons_drop, if_pos h]; simp
theorem X7N (n : Nat) : List.replicate n (Y2 0) = (List.replicate n 0).map Y2 := by simp
theorem X53 (x y : List Nat) (hx : Uk x) (hy : Uk y) (hl : y.length = x.length) (hn : x.length ≤ 1000) : Con Tryd.prog 80 [] [.d (Yw x), .d (Yw y)] [] (.d (Yw (UG x y))) := by
 have hlx : (x.map Y2).length = x.length := by simp
 have own : Con Tryd.prog 80 [] [.d (Yw x), .d (Yw y)] [(130, .row 1 ((UG x y).map Y2))] (.own 130 ((UG x y).map Y2).length) := by
  refine Xb (xs := [.own 130 ((UG x y).map Y2).length]) Tryd.func80 rfl Tryd.ntmps80 rfl rfl rfl (fun E => ?_)
  refine X0 ?_; refine JR ?_; refine Z0 ?_; refine JD ?_; refine X0 ?_; refine JR ?_; refine Z1 ?_; refine Zb ?_; refine Zd (γ := 130) ?_; refine Z0 ?_; refine JD ?_; refine X0 ?_; refine JR ?_; refine Z0 ?_
  refine JD ?_; refine X0 ?_; refine X0 ?_; refine JR ?_; refine Z0 ?_; refine JD ?_; refine X5 ?_
  refine XR (fun k : Nat => k ≤ x.length) (fun k => ⟨36, [(0, .d (Yw x)), (1, .d (Yw y)), (5, .own 130 (x.map Y2).length), (6, ai (YQ x y k).2), (7, ai k)], [(130, .row 1 ((YQ x y k).1.map Y2))]⟩) (fun k => x.length - k) 0 (by omega)
   (Xg rfl ⟨JL, JL, JL, JL, JL, trivial⟩ ⟨?_, trivial⟩) ?_
  ·refine congrArg (AObj.row 1) ?_
   refine Eq.trans (b := List.replicate (x.map Y2).length (Y2 0)) rfl ?_
   rw [hlx]; exact X7N x.length
  intro k hk
  have hpl := X3n x y k
  have hpm : ((YQ x y k).1.map Y2).length = x.length := by rw [List.length_map, hpl]
  by_cases hkx : k < x.length
  case neg =>
   obtain rfl : k = x.length := by omega
   refine X0 ?_; refine X0 ?_; refine JR ?_; refine Z1 ?_; refine Z1 ?_; refine Zb ?_; refine Z7 ?_; refine JD ?_; refine JF ?_; refine Xt ?_; refine X0 ?_; refine JR ?_; refine Z1 ?_; refine Z0 ?_
   refine JD ?_
   exact X1 ⟨_, Xi 4 (y := .own 130 ((UG x y).map Y2).length) (AVal.le_of_eq (by refine Eq.trans (b := .own 130 (x.map Y2).length) rfl ?_; congr 1; rw [hlx]; exact hpm.symm)), ⟨rfl, trivial⟩, Xc ⟨rfl, trivial⟩⟩
  obtain ⟨a, ha⟩ := XX (l := x) hkx
  obtain ⟨b, hb⟩ := XX (l := y) (k := k) (by omega)
  have hc := X6e hx hy k
  have ha1 := X0E hx ha
  have hb1 := X0E hy hb
  have hsucc : YQ x y (k + 1) = ((YQ x y k).1.set k (((YQ x y k).2 + a + b) % 1000), ((YQ x y k).2 + a + b) / 1000) := by
   simp only [YQ, ha, hb, Option.getD_some]
  generalize YQ x y k = p at *
  obtain ⟨l, c⟩ := p
  simp only at hpl hpm hc hsucc
  refine X0 ?_; refine X0 ?_; refine JR ?_; refine Z1 ?_; refine Z1 ?_; refine Zb ?_; refine Z7 ?_; refine JD ?_; refine JT ?_; refine X3 ?_; refine X0 ?_; refine X5 ?_; refine X0 ?_
  refine JR ?_; refine Z1 ?_; refine Z1 ?_; refine Z1 ?_; refine ZH ?_; refine ZJ ?_; refine Zw (op := .add) (r' := nj (c + a)) (u := nj c) (v := nj a) ?_ (hr := by exact V7 (by rw [XJ]; omega)); refine Z1 ?_
  refine Z1 ?_; refine ZH ?_; refine ZJ ?_; refine Zw (op := .add) (r' := nj (c + a + b)) (u := nj (c + a)) (v := nj b) ?_ (hr := by exact V7 (by rw [XJ]; omega)); refine Z0 ?_; refine JD ?_; refine X0 ?_
  refine JR ?_; refine Z1 ?_; refine Z1 ?_; refine Z1 ?_; refine Zw (op := .rem) (r' := nj ((c + a + b) % 1000)) (u := nj (c + a + b)) (v := nj 1000) ?_ (hr := by exact Yy (by omega)); refine ZN ?_; refine ZO ?_
  refine JD ?_; refine JR ?_; refine Z1 ?_; refine Zw (op := .quo) (r' := nj ((c + a + b) / 1000)) (u := nj (c + a + b)) (v := nj 1000) ?_ (hr := by exact UV (by omega) (by rw [XJ]; omega)); refine Z0 ?_
  refine JD ?_; refine JR ?_; refine Z1 ?_; refine Zc ?_; refine Z0 ?_; refine JD ?_
  refine ⟨k + 1, by omega, by omega, ?_⟩
  dsimp only
  rw [hsucc]
  refine Xg rfl ⟨JL, JL, JL, JL, JL, trivial⟩ ⟨?_, trivial⟩
  exact congrArg (AObj.row 1) (X3q (by omega))
 exact own.data (by simp)
end Go.Fw
namespace Go.Fw
open Go Go.Proofs
set_option maxRecDepth 100000
set_option linter.unusedVariables false
set_option linter.unusedSimpArgs false
theorem X6b (a0 b : Nat) (ha0 : a0 ≤ 1000000000000000) (hb : b ≤ 1000000000000000) : Con Tryd.prog 63 [] [ai a0, ai b] [] (.d (Yw (Ys 14 (a0 * b)))) := by
 have own : Con Tryd.prog 63 [] [ai a0, ai b] [(130, .row 1 ((Ys 14 (a0 * b)).map Y2))] (.own 130 ((Ys 14 (a0 * b)).map Y2).length) := by
  refine Xb (xs := [.own 130 ((Ys 14 (a0 * b)).map Y2).length]) Tryd.func63 rfl Tryd.ntmps63 rfl rfl rfl (fun E => ?_)
  refine X0 ?_; refine JR ?_; refine Z0 ?_; refine JD ?_; refine X0 ?_; refine JR ?_; refine Zd (γ := 130) ?_; refine Z0 ?_; refine JD ?_; refine X0 ?_; refine X0 ?_; refine JR ?_; refine Z0 ?_
  refine JD ?_; refine X5 ?_
  refine XR (ι := List Nat × Nat × Nat) (fun s => s.1.length = 14 ∧ Uk s.1 ∧ YA s.1 + s.2.1 * b * 1000 ^ s.2.2 = a0 * b ∧ s.2.1 * 1000 ^ s.2.2 ≤ a0)
   (fun s => ⟨51, [(0, ai s.2.1), (1, ai b), (5, .own 130 14), (6, ai s.2.2)], [(130, .row 1 (s.1.map Y2))]⟩) (fun s => s.2.1) (List.replicate 14 0, a0, 0)
   ⟨rfl, X2O 14, by rw [X4U]; simp, by simp⟩
   (Xg rfl ⟨JL, JL, JL, JL, trivial⟩ ⟨rfl, trivial⟩) ?_
  rintro ⟨l, a, i⟩ ⟨hl, hlow, hV, hai⟩
  simp only at hl hlow hV hai
  by_cases ha : 0 < a
  case neg =>
   obtain rfl : a = 0 := by omega
   have hfin : Ys 14 (a0 * b) = l := by
    rw [← hV, Nat.zero_mul, Nat.zero_mul, Nat.add_zero, ← hl]
    exact X5x l hlow
   rw [hfin]
   refine X0 ?_; refine X0 ?_; refine JR ?_; refine Z1 ?_; refine Zn ?_; refine JD ?_; refine JF ?_; refine Xt ?_; refine X0 ?_; refine JR ?_; refine Z1 ?_; refine Z0 ?_; refine JD ?_
   exact X1 ⟨_, Xi 4 (y := .own 130 (l.map Y2).length) (AVal.le_of_eq (by refine Eq.trans (b := .own 130 14) rfl ?_; rw [List.length_map, hl])), ⟨rfl, trivial⟩, Xc ⟨rfl, trivial⟩⟩
  have hi5 := XaU hai ha ha0
  have haa : a ≤ 1000000000000000 := Nat.le_trans (Nat.le_mul_of_pos_right _ (Nat.pow_pos (by decide))) (Nat.le_trans hai ha0)
  have hVle := X70 hV
  have hW := X9l (a0 := a0) ha0 hb
  refine X0 ?_; refine X0 ?_; refine JR ?_; refine Z1 ?_; refine Zn ?_; refine JD ?_; refine JT ?_; refine X3 ?_; refine X0 ?_; refine X5 ?_; refine X0 ?_; refine JR ?_; refine Z1 ?_
  refine Zw (op := .rem) (r' := nj (a % 1000)) (u := nj a) (v := nj 1000) ?_ (hr := by exact Yy (by omega)); refine Z0 ?_; refine JD ?_; refine X0 ?_; refine JR ?_; refine Z1 ?_
  refine Zw (op := .quo) (r' := nj (a / 1000)) (u := nj a) (v := nj 1000) ?_ (hr := by exact UV (by omega) (by rw [XJ]; omega)); refine Z0 ?_; refine JD ?_; refine X0 ?_; refine JR ?_; refine Z1 ?_
  refine Z0 ?_; refine JD ?_; refine X0 ?_; refine JR ?_; refine Z0 ?_; refine JD ?_; refine X0 ?_; refine JR ?_; refine Z1 ?_; refine Z0 ?_; refine JD ?_; refine X5 ?_
  generalize hd : a % 1000 = dg at *
  have hdg : dg < 1000 := by omega
  generalize hV2 : YA l + dg * b * 1000 ^ i = V at *
  refine XR (ι := List Nat × Nat × Nat × Nat) (fun s => s.1.length = 14 ∧ Uk s.1 ∧ YA s.1 + (dg * s.2.1 + s.2.2.1) * 1000 ^ s.2.2.2 = V ∧ s.2.1 * 1000 ^ s.2.2.2 ≤ b * 1000 ^ i ∧ s.2.2.1 ≤ 999 ∧ s.2.1 ≤ b)
   (fun s => ⟨51, [(0, ai (a / 1000 : Nat)), (1, ai b), (5, .own 130 14), (6, ai i), (7, ai dg), (8, ai s.2.1), (9, ai s.2.2.1), (10, ai s.2.2.2)], [(130, .row 1 (s.1.map Y2))]⟩) (fun s => 20 - s.2.2.2) (l, b, 0, i)
   ⟨hl, hlow, by simpa using hV2, Nat.le_refl _, by simp, Nat.le_refl _⟩
   (Xg rfl ⟨JL, JL, JL, JL, JL, JL, JL, JL, trivial⟩ ⟨rfl, trivial⟩) ?_
  rintro ⟨l2, c, carry, k⟩ ⟨hl2, hlow2, hV3, hck, hcar, hcb⟩
  simp only at hl2 hlow2 hV3 hck hcar hcb
  by_cases hgo : 0 < c ∨ 0 < carry
  case neg =>
   obtain rfl : c = 0 := by omega
   obtain rfl : carry = 0 := by omega
   have hVe : YA l2 = YA l + a % 1000 * b * 1000 ^ i := by
    rw [hd, hV2, ← hV3]; simp
   have hnew := X9o hV hVe
   have hai2 := X4i hai
   refine X0 ?_; refine X0 ?_; refine JR ?_; refine Z1 ?_; refine Zn ?_; refine Z1 ?_; refine Z1 ?_; refine Zn ?_; refine Zl ?_; refine JD ?_; refine JF ?_; refine Xt ?_; refine JR ?_; refine Z1 ?_
   refine Zc ?_; refine Z0 ?_; refine JD ?_
   exact ⟨(l2, a / 1000, i + 1), ⟨hl2, hlow2, hnew, hai2⟩, by show a / 1000 < a; omega, Xg rfl ⟨JL, JL, JL, JL, trivial⟩ ⟨rfl, trivial⟩⟩
  have hk : k ≤ 10 := by
   rcases hgo with h | h
   ·exact X7Q hck h hb hi5
   ·exact X7i hV3 hVle hW h
  obtain ⟨x, hx⟩ := XX (l := l2) (k := k) (by omega)
  have hx1 := X0E hlow2 hx
  have hstep := X81 hV3 hx
  have hck2 := X4i hck
  have hm : dg * (c % 1000) ≤ 998001 := Nat.mul_le_mul (show dg ≤ 999 by omega) (show c % 1000 ≤ 999 by omega)
  have hxm : (l2.map Y2)[k]? = some (Y2 x) := Ua hx
  have hs := X3q (l := l2) (k := k) (y := (carry + x + dg * (c % 1000)) % 1000) (by omega)
  have hlen : (l2.map Y2).length = 14 := by rw [List.length_map, hl2]
  by_cases hc0 : 0 < c
  ·refine X0 ?_; refine X0 ?_; refine JR ?_; refine Z1 ?_; refine Zn ?_; refine Z1 ?_; refine Zj ?_; refine Zj ?_; refine Zi ?_; refine JD ?_; refine JT ?_; refine X3 ?_; refine X0 ?_
   refine X5 ?_; refine X0 ?_; refine JR ?_; refine Z1 ?_; refine Z1 ?_; refine Z1 ?_; refine ZN ?_; refine ZP ?_
   refine Zw (op := .add) (r' := nj (carry + x)) (u := nj carry) (v := nj x) ?_ (hr := by exact V7 (by rw [XJ]; omega)); refine Z1 ?_; refine Z1 ?_
   refine Zw (op := .rem) (r' := nj (c % 1000)) (u := nj c) (v := nj 1000) ?_ (hr := by exact Yy (by omega))
   refine Zw (op := .mul) (r' := nj (dg * (c % 1000))) (u := nj dg) (v := nj (c % 1000)) ?_ (hr := by exact YY (by rw [XJ]; omega))
   refine Zw (op := .add) (r' := nj (carry + x + dg * (c % 1000))) (u := nj (carry + x)) (v := nj (dg * (c % 1000))) ?_ (hr := by exact V7 (by rw [XJ]; omega)); refine Z0 ?_; refine JD ?_; refine X0 ?_
   refine JR ?_; refine Z1 ?_; refine Zw (op := .quo) (r' := nj (c / 1000)) (u := nj c) (v := nj 1000) ?_ (hr := by exact UV (by omega) (by rw [XJ]; omega)); refine Z0 ?_; refine JD ?_; refine X0 ?_
   refine JR ?_; refine Z1 ?_; refine Z1 ?_; refine Z1 ?_
   refine Zw (op := .rem) (r' := nj ((carry + x + dg * (c % 1000)) % 1000)) (u := nj (carry + x + dg * (c % 1000))) (v := nj 1000) ?_ (hr := by exact Yy (by omega)); refine ZN ?_; refine ZO ?_; refine JD ?_
   refine JR ?_; refine Z1 ?_; refine Zw (op := .quo) (r' := nj ((carry + x + dg * (c % 1000)) / 1000)) (u := nj (carry + x + dg * (c % 1000))) (v := nj 1000) ?_ (hr := by exact UV (by omega) (by rw [XJ]; omega))
   refine Z0 ?_; refine JD ?_; refine JR ?_; refine Z1 ?_; refine Zc ?_; refine Z0 ?_; refine JD ?_
   exact ⟨(l2.set k ((carry + x + dg * (c % 1000)) % 1000), c / 1000, (carry + x + dg * (c % 1000)) / 1000, k + 1), ⟨by rw [List.length_set]; exact hl2, X4W hlow2 k (by omega), hstep, hck2, by show (carry + x + dg * (c % 1000)) / 1000 ≤ 999; omega, by show c / 1000 ≤ b; omega⟩, by show 20 - (k + 1) < 20 - k; omega, Xg rfl ⟨JL, JL, JL, JL, JL, JL, JL, JL, trivial⟩ ⟨congrArg (AObj.row 1) hs, trivial⟩⟩
  ·have hcar0 : 0 < carry := by omega
   refine X0 ?_; refine X0 ?_; refine JR ?_; refine Z1 ?_; refine Zn ?_; refine Z1 ?_; refine Z1 ?_; refine Zn ?_; refine Zl ?_; refine JD ?_; refine JT ?_; refine X3 ?_; refine X0 ?_
   refine X5 ?_; refine X0 ?_; refine JR ?_; refine Z1 ?_; refine Z1 ?_; refine Z1 ?_; refine ZN ?_; refine ZP ?_
   refine Zw (op := .add) (r' := nj (carry + x)) (u := nj carry) (v := nj x) ?_ (hr := by exact V7 (by rw [XJ]; omega)); refine Z1 ?_; refine Z1 ?_
   refine Zw (op := .rem) (r' := nj (c % 1000)) (u := nj c) (v := nj 1000) ?_ (hr := by exact Yy (by omega))
   refine Zw (op := .mul) (r' := nj (dg * (c % 1000))) (u := nj dg) (v := nj (c % 1000)) ?_ (hr := by exact YY (by rw [XJ]; omega))
   refine Zw (op := .add) (r' := nj (carry + x + dg * (c % 1000))) (u := nj (carry + x)) (v := nj (dg * (c % 1000))) ?_ (hr := by exact V7 (by rw [XJ]; omega)); refine Z0 ?_; refine JD ?_; refine X0 ?_
   refine JR ?_; refine Z1 ?_; refine Zw (op := .quo) (r' := nj (c / 1000)) (u := nj c) (v := nj 1000) ?_ (hr := by exact UV (by omega) (by rw [XJ]; omega)); refine Z0 ?_; refine JD ?_; refine X0 ?_
   refine JR ?_; refine Z1 ?_; refine Z1 ?_; refine Z1 ?_
   refine Zw (op := .rem) (r' := nj ((carry + x + dg * (c % 1000)) % 1000)) (u := nj (carry + x + dg * (c % 1000))) (v := nj 1000) ?_ (hr := by exact Yy (by omega)); refine ZN ?_; refine ZO ?_; refine JD ?_
   refine JR ?_; refine Z1 ?_; refine Zw (op := .quo) (r' := nj ((carry + x + dg * (c % 1000)) / 1000)) (u := nj (carry + x + dg * (c % 1000))) (v := nj 1000) ?_ (hr := by exact UV (by omega) (by rw [XJ]; omega))
   refine Z0 ?_; refine JD ?_; refine JR ?_; refine Z1 ?_; refine Zc ?_; refine Z0 ?_; refine JD ?_
   exact ⟨(l2.set k ((carry + x + dg * (c % 1000)) % 1000), c / 1000, (carry + x + dg * (c % 1000)) / 1000, k + 1), ⟨by rw [List.length_set]; exact hl2, X4W hlow2 k (by omega), hstep, hck2, by show (carry + x + dg * (c % 1000)) / 1000 ≤ 999; omega, by show c / 1000 ≤ b; omega⟩, by show 20 - (k + 1) < 20 - k; omega, Xg rfl ⟨JL, JL, JL, JL, JL, JL, JL, JL, trivial⟩ ⟨congrArg (AObj.row 1) hs, trivial⟩⟩
 exact own.data (by simp)
end Go.Fw
namespace Go.Fw
open Go Go.Proofs
set_option maxRecDepth 100000
set_option linter.unusedVariables false
set_option linter.unusedSimpArgs false
def Ue (n : Int) : Int := if n < 0 then -1 else if 0 < n then 1 else 0
theorem X3F (n : Int) : Con Tryd.prog 62 [] [ai n] [] (ai (Ue n)) := by
 refine Xb (xs := [ai (Ue n)]) Tryd.func62 rfl Tryd.ntmps62 rfl rfl rfl (fun E => ?_)
 by_cases h1 : n < 0
 ·rw [show Ue n = -1 by simp [Ue, h1]]
  refine X0 ?_; refine JR ?_; refine Z0 ?_; refine JD ?_; refine X0 ?_; refine X0 ?_; refine JR ?_; refine Z1 ?_; refine Z7 ?_; refine JD ?_; refine JT ?_; refine X0 ?_; refine JR ?_; refine Z0 ?_
  refine JD ?_
  exact X1 ⟨_, St.le_refl _, ⟨rfl, trivial⟩, X2 _⟩
 by_cases h2 : 0 < n
 ·rw [show Ue n = 1 by simp [Ue, h1, h2]]
  refine X0 ?_; refine JR ?_; refine Z0 ?_; refine JD ?_; refine X0 ?_; refine X0 ?_; refine JR ?_; refine Z1 ?_; refine Z7 ?_; refine JD ?_; refine JF ?_; refine X3 ?_; refine X0 ?_
  refine X0 ?_; refine JR ?_; refine Z1 ?_; refine Zn ?_; refine JD ?_; refine JT ?_; refine X0 ?_; refine JR ?_; refine Z0 ?_; refine JD ?_
  exact X1 ⟨_, St.le_refl _, ⟨rfl, trivial⟩, X2 _⟩
 ·rw [show Ue n = 0 by simp [Ue, h1, h2]]
  repeat first | refine X0 ?_ | (refine JR ?_; (repeat first | refine Z1 ?_ | refine Z0 ?_ | refine Z7 ?_ | refine Zn ?_); refine JD ?_) | refine JF ?_ | refine X3 ?_
  exact X1 ⟨_, St.le_refl _, ⟨rfl, trivial⟩, X2 _⟩
theorem X89 (x : List Nat) (hx : x.length ≤ 1000) : Con Tryd.prog 81 [] [.d (Yw x), .d (Yw x)] [] (ai 0) := by
 refine Xb (xs := [ai 0]) Tryd.func81 rfl Tryd.ntmps81 rfl rfl rfl (fun E => ?_)
 have hlx : (x.map Y2).length = x.length := by simp
 refine X0 ?_; refine JR ?_; refine Z0 ?_; refine JD ?_; refine X0 ?_; refine X0 ?_; refine JR ?_; refine Z1 ?_; refine Zb ?_; refine ZQ ?_; refine Z0 ?_; refine JD ?_; refine X5 ?_
 refine XR (fun i : Nat => i ≤ x.length) (fun i => ⟨31, [(0, .d (Yw x)), (1, .d (Yw x)), (5, ai ((i : Int) - 1))], []⟩) (fun i => i) x.length (Nat.le_refl _)
  (Xg rfl ⟨JL, JL, JL, trivial⟩ trivial) ?_
 intro i hi
 cases i with
 | zero =>
  refine X0 ?_; refine X0 ?_; refine JR ?_; refine Z1 ?_; refine Z2 ?_; refine JD ?_; refine JF ?_; refine Xt ?_; refine X0 ?_; refine JR ?_; refine Z0 ?_; refine JD ?_
  exact X1 ⟨_, St.le_refl _, ⟨rfl, trivial⟩, X2 _⟩
 | succ j =>
  have e : (((j + 1 : Nat) : Int) - 1) = (j : Int) := by omega
  rw [e]
  obtain ⟨a, ha⟩ := XX (l := x) (k := j) (by omega)
  have hxm : (x.map Y2)[j]? = some (Y2 a) := Ua ha
  repeat first | refine X0 ?_ | (refine JR ?_; (repeat first | refine Z1 ?_ | refine Z0 ?_ | refine ZJ ?_ | refine Z7 ?_ | refine Zn ?_ | refine Z2 ?_ | refine ZQ ?_ | refine ZH ?_); refine JD ?_) | refine JT ?_ | refine JF ?_ | refine X5 ?_ | refine X3 ?_
  exact ⟨j, by omega, by omega, Xg rfl ⟨JL, JL, JL, trivial⟩ trivial⟩
abbrev Vi : List Nat := List.replicate 14 0
def VK (s : Int) (x : List Nat) : List Nat := if s = 0 then UG x x else UG Vi Vi
theorem X51 (s : Int) (hs : s = 0 ∨ s = 1 ∨ s = -1) (x : List Nat) (hx : Uk x) (hl : x.length = 14) : Con Tryd.prog 61 [] [ai s, .d (Yw x), ai (-s), .d (Yw x)] [] (.tup [ai 0, .d (Yw (VK s x))]) := by
 refine Xb (xs := [ai 0, .d (Yw (VK s x))]) Tryd.func61 rfl Tryd.ntmps61 rfl rfl rfl (fun E => ?_)
 have hp := X53 x x hx hx rfl (by omega)
 have hz := X53 Vi Vi (X2O 14) (X2O 14) rfl (by decide)
 have ho := X89 x (by omega)
 by_cases h0 : s = 0
 ·subst h0
  rw [show VK 0 x = UG x x from if_pos rfl]
  generalize UG x x = y at *
  repeat first | refine X0 ?_ | (refine JR ?_; (repeat first | refine Z1 ?_ | refine Z0 ?_ | refine Zs ?_ | refine Zi ?_ | refine Zj ?_ | refine Z8 (hcon := hp) ?_); refine JD ?_) | refine JT ?_
  exact X1 ⟨_, St.le_refl _, ⟨rfl, rfl, trivial⟩, X2 _⟩
 have hs2 : VK s x = UG Vi Vi := if_neg h0
 rw [hs2]
 clear hs2
 generalize UG Vi Vi = y at *
 by_cases h1 : s = 1
 ·subst h1
  repeat first | refine X0 ?_ | (refine JR ?_; (repeat first | refine Z1 ?_ | refine Z0 ?_ | refine Zs ?_ | refine Zl ?_ | refine ZR ?_ | refine Z8 (hcon := ho) ?_ | refine Z8 (hcon := hz) ?_); refine JD ?_) | refine JT ?_ | refine JF ?_ | refine X3 ?_
  exact X1 ⟨_, St.le_refl _, ⟨rfl, rfl, trivial⟩, X2 _⟩
 ·obtain rfl : s = -1 := by omega
  repeat first | refine X0 ?_ | (refine JR ?_; (repeat first | refine Z1 ?_ | refine Z0 ?_ | refine Zs ?_ | refine Zl ?_ | refine ZR ?_ | refine Z8 (hcon := ho) ?_ | refine Z8 (hcon := hz) ?_); refine JD ?_) | refine JT ?_ | refine JF ?_ | refine X3 ?_
  exact X1 ⟨_, St.le_refl _, ⟨rfl, rfl, trivial⟩, X2 _⟩
end Go.Fw
namespace Go.Fw
open Go Go.Proofs
set_option maxRecDepth 100000
set_option linter.unusedVariables false
set_option linter.unusedSimpArgs false
abbrev X3Z (x : AVal) (n e : Int) : AVal := .tup [x, ai n, ai e]
end Go.Fw

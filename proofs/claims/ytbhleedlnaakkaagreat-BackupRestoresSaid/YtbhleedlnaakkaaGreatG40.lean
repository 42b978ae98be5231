/- Reading values by the reference: the elements of a path. -/
import Derived.Test.YtbhleedlnaakkaaGreatG28
import Derived.Test.YtbhleedlnaakkaaGreatG34
import Derived.Test.YtbhleedlnaakkaaGreatG39
set_option maxHeartbeats 16000000
namespace Go.Fw
open Go Go.Proofs
set_option maxRecDepth 100000
set_option linter.unusedVariables false
set_option linter.unusedSimpArgs false
theorem Xb9 (b : List UInt8) (m : Nat) (a : Int) (gp : Nat → Int → Val × Int × Int) (R : Val × Int × Int) (hm : m ≤ 8) (hb : b.length ≤ 281474976710656)
  (hge : ∀ i q : Nat, q ≤ b.length → Uz b (gp i q).2) (hg : ∀ i q : Nat, q ≤ b.length → X1r b q (8 - m) i (VA (gp i q))) (hG : R = X1d gp b a 7) : X26 b a 7 (8 - m) R := by
 refine X9 (xs := [Xv R.1, ai R.2.1, ai R.2.2]) Tryz.func247 rfl Tryz.ntmps247 rfl rfl rfl (fun E => ?_)
 have hc := X3w b a hb
 have hue := X1A b a
 unfold X1d at hG
 simp only at hG
 obtain ⟨N, hN⟩ := X2z b a
 generalize Xe b a = u at *
 obtain ⟨n, a2, e2⟩ := u
 simp only at hN
 subst hN
 simp only [Int.toNat_natCast] at hc hG hue
 by_cases he2 : e2 = 0
 case neg =>
  rw [if_pos he2] at hG
  subst hG
  repeat first | refine X0 ?_ | (refine JR ?_; (repeat first | refine Z1 ?_ | refine Z0 ?_ | refine ZL ?_ | refine Zv ?_ | refine Zw (γ := 100) ?_ | refine Zw (γ := 101) ?_ | refine Zy ?_ | refine Zx ?_ | refine ZF ?_ | refine Z9 (hcon := hc) ?_); refine JD ?_) | refine JT ?_
  exact X1 ⟨_, XI 100 (cs := [ai 7, ai 0, ai 0, .d (.v (.string (X5 []))), ani]) (cs' := [ai 7, ai 0, ai 0, .d (.v (.string (X5 []))), .d (.sl 5 [])]) rfl ⟨AVal.le_refl _, AVal.le_refl _, AVal.le_refl _, AVal.le_refl _, AVal.le_nil 5, trivial⟩ rfl, ⟨⟨100, 0, _, rfl, rfl, .inr ⟨5, _, rfl, rfl, rfl, rfl⟩⟩, rfl, rfl, trivial⟩, X3 _⟩
 subst he2
 rw [if_neg (by simp)] at hG
 have h00 := hue rfl
 simp only at h00
 clear hue
 by_cases hN : 25 < N
 ·rw [if_pos (by simp [Ul]; omega)] at hG
  subst hG
  have hN' : (N : Int) > 25 := by omega
  repeat first | refine X0 ?_ | (refine JR ?_; (repeat first | refine Z1 ?_ | refine Z0 ?_ | refine ZL ?_ | refine Zs ?_ | refine Zl ?_ | refine Zv ?_ | refine Zw (γ := 100) ?_ | refine Zw (γ := 101) ?_ | refine Zy ?_ | refine Zx ?_ | refine ZF ?_ | refine Zn ?_ | refine Zq ?_ | refine Zo ?_ | refine Z9 (hcon := hc) ?_); refine JD ?_) | refine JT ?_ | refine JF ?_ | refine X2 ?_
  exact X1 ⟨_, XI 100 (cs := [ai 7, ai 0, ai 0, .d (.v (.string (X5 []))), ani]) (cs' := [ai 7, ai 0, ai 0, .d (.v (.string (X5 []))), .d (.sl 5 [])]) rfl ⟨AVal.le_refl _, AVal.le_refl _, AVal.le_refl _, AVal.le_refl _, AVal.le_nil 5, trivial⟩ rfl, ⟨⟨100, 0, _, rfl, rfl, .inr ⟨5, _, rfl, rfl, rfl, rfl⟩⟩, rfl, rfl, trivial⟩, X3 _⟩
 have hN' : ¬ (N : Int) > 25 := by omega
 by_cases hN3 : N % 2 = 0
 ·rw [if_pos (by simp [Ul]; omega)] at hG
  subst hG
  have hN4 : ((N % 2 : Nat) : Int) = 0 := by omega
  refine X0 ?_; refine JR ?_; refine Zw (γ := 100) ?_; refine Z0 ?_; refine Z0 ?_; refine JD ?_; refine X0 ?_; refine JR ?_; refine Z1 ?_; refine Zx ?_; refine Zw (γ := 101) ?_; refine Zy ?_; refine JD ?_
  refine X0 ?_; refine JR ?_; refine Z1 ?_; refine Z1 ?_; refine Z9 (hcon := hc) ?_; refine Z1 ?_; refine ZF ?_; refine ZF ?_; refine ZF ?_; refine Z0 ?_; refine Z0 ?_; refine Z0 ?_; refine JD ?_; refine X0 ?_
  refine X0 ?_; refine JR ?_; refine Z1 ?_; refine Zv ?_; refine JD ?_; refine JF ?_; refine X2 ?_; refine X0 ?_; refine X0 ?_; refine JR ?_; refine Z1 ?_; refine Zl ?_; refine Z1 ?_; refine Zo ?_
  refine Zo ?_; refine Zq ?_; refine Z1 ?_; refine Z1 ?_; refine Zl ?_; refine Z1 ?_; refine Z1 ?_; refine Zs ?_; refine Z1 ?_; refine Z1 ?_
  refine Z02 (op := .rem) (r' := .int .i64 ((N % 2 : Nat) : Int)) (u := .int .i64 N) (v := .int .i64 2) ?_ (hr' := by exact congrArg (Value.int .i64) (show ((N : Int) % 2) = ((N % 2 : Nat) : Int) by omega)); refine Zl ?_
  refine Zq ?_; refine Zn ?_; refine Zq ?_; refine JD ?_; refine JT ?_; refine X0 ?_; refine JR ?_; refine ZL ?_; refine Zy ?_; refine Z0 ?_; refine Z0 ?_; refine JD ?_
  exact X1 ⟨_, XI 100 (cs := [ai 7, ai 0, ai 0, .d (.v (.string (X5 []))), ani]) (cs' := [ai 7, ai 0, ai 0, .d (.v (.string (X5 []))), .d (.sl 5 [])]) rfl ⟨AVal.le_refl _, AVal.le_refl _, AVal.le_refl _, AVal.le_refl _, AVal.le_nil 5, trivial⟩ rfl, ⟨⟨100, 0, _, rfl, rfl, .inr ⟨5, _, rfl, rfl, rfl, rfl⟩⟩, rfl, rfl, trivial⟩, X3 _⟩
 rw [if_neg (by simp [Ul]; omega)] at hG
 have hN4 : ¬ ((N % 2 : Nat) : Int) = 0 := by omega
 repeat first | refine X0 ?_ | (refine JR ?_; (repeat first | refine Z02 (op := .rem) (r' := .int .i64 ((N % 2 : Nat) : Int)) (u := .int .i64 N) (v := .int .i64 2) ?_ (hr' := by exact congrArg (Value.int .i64) (show ((N : Int) % 2) = ((N % 2 : Nat) : Int) by omega)) | refine Z1 ?_ | refine Z0 ?_ | refine Zs ?_ | refine Zl ?_ | refine Zv ?_ | refine Zw (γ := 100) ?_ | refine Zw (γ := 101) ?_ | refine Zy ?_ | refine Zx ?_ | refine ZF ?_ | refine Zn ?_ | refine Zq ?_ | refine Zo ?_ | refine Z9 (hcon := hc) ?_); refine JD ?_) | refine JF ?_ | refine X4 ?_ | refine X2 ?_
 refine Xm (X0u 101 4 121 5 (cs := [ai 7, ai 0, ai 0, .d (.v (.string (X5 []))), ani]) rfl rfl rfl rfl rfl) ?_
 refine Xy (fun i : Nat => i ≤ N ∧ (XC gp a2 i).2.2 = 0 ∧ (XC gp a2 i).1.length = i) (fun i => ⟨87, [(0, .d (Xa b)), (2, ai 7), (3, ai (8 - m)), (8, .ptr 100 0), (11, .ptr 101 0), (12, ai N), (13, ai (XC gp a2 i).2.1), (15, ai i)], [(100, .box [ai 0, ai 0, ai 0, .d (.v (.string (X5 []))), ani]), (101, .box [ai 7, ai 0, ai 0, .d (.v (.string (X5 []))), .own 121 (XC gp a2 i).1.length]), (121, .row 5 (XJ (XC gp a2 i).1))]⟩) (fun i => N - i) 0 ⟨by omega, rfl, rfl⟩
  (X8 rfl ⟨JL, JL, JL, JL, JL, JL, JL, JL, trivial⟩ ⟨rfl, rfl, rfl, trivial⟩) ?_
 intro i hi
 obtain ⟨hi, hpe, hil⟩ := hi
 have hlen := UR (XC gp a2 i).1
 by_cases hiN : i < N
 case neg =>
  obtain rfl : i = N := by omega
  rw [if_neg (by simpa using hpe)] at hG
  generalize XC gp a2 i = p at *
  obtain ⟨l, pa, pe⟩ := p
  simp only at hpe hil hG hlen
  subst hpe hG
  refine Xm (Y0 121 rfl) ?_
  refine Xm (UG 101 4 121 (cs := [ai 7, ai 0, ai 0, .d (.v (.string (X5 []))), .own 121 l.length]) (sz := 5) (xs := XJ l) rfl rfl rfl hlen.symm) ?_
  refine X0 ?_; refine X0 ?_; refine JR ?_; refine Z1 ?_; refine Z1 ?_; refine Z8 ?_; refine JD ?_; refine JF ?_; refine Xj ?_; refine X0 ?_; refine JR ?_; refine ZL ?_; refine Z1 ?_; refine Zy ?_
  refine Z0 ?_; refine Z0 ?_; refine JD ?_
  exact X1 ⟨_, St.le_refl _, ⟨⟨100, 0, _, rfl, rfl, .inr ⟨5, _, rfl, rfl, rfl, rfl⟩⟩, rfl, rfl, trivial⟩, X3 _⟩
 obtain ⟨q, hq1, hq2⟩ := X1U hge h00 i hpe
 have hcall := hg i q hq2
 unfold X1r at hcall
 have hsucc := X0x hpe
 have hsl := X4H hpe
 rw [hq1] at hsucc
 generalize gp i q = r at hcall hsucc
 by_cases hre : r.2.2 = 0
 case neg =>
  have hst := X0D (g := gp) (a := a2) (k := i + 1) (by rw [hsucc]; exact hre) N (by omega)
  rw [hst, if_pos (by rw [hsucc]; exact hre), hsucc] at hG
  unfold VA at hcall
  rw [if_pos hre] at hcall
  generalize XC gp a2 i = p at *
  obtain ⟨l, pa, pe⟩ := p
  obtain ⟨x, xa, xe⟩ := r
  simp only [List.dropLast_concat] at hq1 hpe hil hG hlen hcall hre
  clear hsucc hst hsl
  subst hG hq1 hpe
  simp only [Xv, XJ] at hcall
  refine Xm (Y0 121 rfl) ?_
  refine Xm (UG 101 4 121 (cs := [ai 7, ai 0, ai 0, .d (.v (.string (X5 []))), .own 121 l.length]) (sz := 5) (xs := XJ l) rfl rfl rfl hlen.symm) ?_
  repeat first | refine X0 ?_ | (refine JR ?_; (repeat first | refine Z1 ?_ | refine Z0 ?_ | refine ZL ?_ | refine Z8 ?_ | refine Zl ?_ | refine Zv ?_ | refine Zb ?_ | refine Zw (γ := 102) ?_ | refine Zy ?_ | refine ZF ?_ | refine Z9 (hcon := hcall) ?_); refine JD ?_) | refine JT ?_ | refine X4 ?_ | refine X2 ?_
  exact X1 ⟨_, St.le_refl _, ⟨⟨100, 0, _, rfl, rfl, .inr ⟨5, _, rfl, rfl, rfl, rfl⟩⟩, rfl, rfl, trivial⟩, X3 _⟩
 have hpe2 : (XC gp a2 (i + 1)).2.2 = 0 := by rw [hsucc]; exact hre
 unfold VA at hcall
 rw [if_neg (by simpa using hre)] at hcall
 generalize XC gp a2 i = p at *
 obtain ⟨l, pa, pe⟩ := p
 obtain ⟨x, xa, xe⟩ := r
 simp only at hq1 hpe hil hsucc hlen hcall hre
 subst hq1 hpe hre
 obtain ⟨xk, xn, xd, xs, xl⟩ := x
 simp only [Xv] at hcall
 skip
 repeat first | refine X0 ?_ | (refine JR ?_; (repeat first | refine Z1 ?_ | refine Z0 ?_ | refine ZB ?_ | refine ZC ?_ | refine ZL ?_ | refine Z8 ?_ | refine Zl ?_ | refine Zv ?_ | refine Zb ?_ | refine Zw (γ := 102) ?_ | refine Zy ?_ | refine ZF ?_ | refine Z5 ?_ | refine Z6 ?_ | refine Z9 (hcon := hcall) ?_); refine JD ?_) | refine JT ?_ | refine JF ?_ | refine X4 ?_ | refine X2 ?_
 refine ⟨i + 1, ⟨by omega, hpe2, hsl⟩, by omega, ?_⟩
 dsimp only
 rw [hsucc]
 refine X8 rfl ⟨JL, JL, JL, JL, JL, JL, JL, JL, trivial⟩ ⟨rfl, ?_, ?_, trivial⟩
 ·refine Eq.trans (b := AObj.box ([ai 7, ai 0, ai 0, .d (.v (.string (X5 []))), .own 121 _])) rfl ?_
  congr 6; simp [hlen]
 ·exact congrArg (AObj.row 5) (X3F l xk xn xd xs xl)
end Go.Fw
namespace Go.Fw
open Go Go.Proofs
set_option maxRecDepth 100000
set_option linter.unusedVariables false
set_option linter.unusedSimpArgs false
def X5t (b : List UInt8) (a : Int) (k lists : Int) (r : Val × Int × Int) : Prop :=
 Con Tryz.prog 233 [] [.d (Xa b), ai a, ai k, ai lists] [] (.tup [Xv r.1, ai r.2.1, ai r.2.2])
theorem X6y (b : List UInt8) (m k : Nat) (a : Int) (gl gp : Nat → Int → Val × Int × Int) (R : Val × Int × Int) (hm : m ≤ 8) (hb : b.length ≤ 281474976710656) (hk : k ≤ 8)
  (h8 : k = 8 → ∀ R, R = X1d gl b a 8 → X26 b a 8 (8 - m) R) (h7 : k = 7 → ∀ R, R = X1d gp b a 7 → X26 b a 7 (8 - m) R) (hG : R = YR gl gp b a k) : X5t b a k (8 - m) R := by
 refine X9 (xs := [Xv R.1, ai R.2.1, ai R.2.2]) Tryz.func233 rfl Tryz.ntmps233 rfl rfl rfl (fun E => ?_)
 by_cases hk8 : k = 8
 ·subst hk8
  have hcall := h8 rfl R (by rw [hG]; simp [YR])
  unfold X26 at hcall
  obtain ⟨⟨xk, xn, xd, xs, xl⟩, xa, xe⟩ := R
  simp only [Xv] at hcall
  rw [show (((8 : Nat) : Int)) = 8 from rfl]
  repeat first | refine X0 ?_ | (refine JR ?_; (repeat first | refine Z1 ?_ | refine Z0 ?_ | refine Zl ?_ | refine Zw (γ := 100) ?_ | refine Zw (γ := 101) ?_ | refine Zy ?_ | refine Zx ?_ | refine ZF ?_ | refine Z9 (hcon := hcall) ?_); refine JD ?_) | refine JT ?_ | refine JF ?_ | refine X4 ?_ | refine X2 ?_
  exact X1 ⟨_, St.le_refl _, ⟨⟨100, 0, _, rfl, rfl, .inr ⟨5, _, rfl, rfl, rfl, rfl⟩⟩, rfl, rfl, trivial⟩, X3 _⟩
 by_cases hk7 : k = 7
 ·subst hk7
  have hcall := h7 rfl R (by rw [hG]; simp [YR])
  unfold X26 at hcall
  obtain ⟨⟨xk, xn, xd, xs, xl⟩, xa, xe⟩ := R
  simp only [Xv] at hcall
  rw [show (((7 : Nat) : Int)) = 7 from rfl]
  repeat first | refine X0 ?_ | (refine JR ?_; (repeat first | refine Z1 ?_ | refine Z0 ?_ | refine Zl ?_ | refine Zw (γ := 100) ?_ | refine Zw (γ := 101) ?_ | refine Zy ?_ | refine Zx ?_ | refine ZF ?_ | refine Z9 (hcon := hcall) ?_); refine JD ?_) | refine JT ?_ | refine JF ?_ | refine X4 ?_
  exact X1 ⟨_, St.le_refl _, ⟨⟨100, 0, _, rfl, rfl, .inr ⟨5, _, rfl, rfl, rfl, rfl⟩⟩, rfl, rfl, trivial⟩, X3 _⟩
 by_cases hk0 : k = 0
 ·subst hk0
  obtain rfl : R = (.mk 0 0 0 [] [], (a : Int), 0) := by rw [hG]; simp [YR, Y8]
  rw [show (((0 : Nat) : Int)) = 0 from rfl]
  repeat first | refine X0 ?_ | (refine JR ?_; (repeat first | refine Z1 ?_ | refine Z0 ?_ | refine ZL ?_ | refine Zl ?_ | refine Zw (γ := 100) ?_ | refine Zw (γ := 101) ?_ | refine Zy ?_ | refine Zx ?_); refine JD ?_) | refine JF ?_ | refine X4 ?_ | refine X2 ?_
  exact X1 ⟨_, XI 100 (cs := [ai 0, ai 0, ai 0, .d (.v (.string (X5 []))), ani]) (cs' := [ai 0, ai 0, ai 0, .d (.v (.string (X5 []))), .d (.sl 5 [])]) rfl ⟨AVal.le_refl _, AVal.le_refl _, AVal.le_refl _, AVal.le_refl _, AVal.le_nil 5, trivial⟩ rfl, ⟨⟨100, 0, _, rfl, rfl, .inr ⟨5, _, rfl, rfl, rfl, rfl⟩⟩, rfl, rfl, trivial⟩, X3 _⟩
 by_cases hk1 : k = 1
 ·subst hk1
  have hn := X1O b a hb
  rw [show YR gl gp b a ((1 : Nat) : Int) = (.mk 1 (Xq b a).1 0 [] [], (Xq b a).2.1, (Xq b a).2.2) by simp [YR, Y8]] at hG
  generalize Xq b a = u at *
  obtain ⟨n, a2, e2⟩ := u
  subst hG
  rw [show (((1 : Nat) : Int)) = 1 from rfl]
  try simp only at hn
  repeat first | refine X0 ?_ | (refine JR ?_; (repeat first | refine Z1 ?_ | refine Z0 ?_ | refine ZB ?_ | refine ZL ?_ | refine Zl ?_ | refine Zw (γ := 100) ?_ | refine Zw (γ := 101) ?_ | refine Zy ?_ | refine Zx ?_ | refine ZF ?_ | refine Z9 (hcon := hn) ?_); refine JD ?_) | refine JT ?_ | refine X4 ?_ | refine X2 ?_
  exact X1 ⟨_, XI 100 (cs := [ai 1, ai n, ai 0, .d (.v (.string (X5 []))), ani]) (cs' := [ai 1, ai n, ai 0, .d (.v (.string (X5 []))), .d (.sl 5 [])]) rfl ⟨AVal.le_refl _, AVal.le_refl _, AVal.le_refl _, AVal.le_refl _, AVal.le_nil 5, trivial⟩ rfl, ⟨⟨100, 0, _, rfl, rfl, .inr ⟨5, _, rfl, rfl, rfl, rfl⟩⟩, rfl, rfl, trivial⟩, X3 _⟩
 by_cases hk2 : k = 2
 ·subst hk2
  have hn := X1O b a hb
  rw [show YR gl gp b a ((2 : Nat) : Int) = (.mk 2 (Xq b a).1 0 [] [], (Xq b a).2.1, (Xq b a).2.2) by simp [YR, Y8]] at hG
  generalize Xq b a = u at *
  obtain ⟨n, a2, e2⟩ := u
  subst hG
  rw [show (((2 : Nat) : Int)) = 2 from rfl]
  try simp only at hn
  repeat first | refine X0 ?_ | (refine JR ?_; (repeat first | refine Z1 ?_ | refine Z0 ?_ | refine ZB ?_ | refine ZL ?_ | refine Zl ?_ | refine Zw (γ := 100) ?_ | refine Zw (γ := 101) ?_ | refine Zy ?_ | refine Zx ?_ | refine ZF ?_ | refine Z9 (hcon := hn) ?_); refine JD ?_) | refine JT ?_ | refine JF ?_ | refine X4 ?_ | refine X2 ?_
  exact X1 ⟨_, XI 100 (cs := [ai 2, ai n, ai 0, .d (.v (.string (X5 []))), ani]) (cs' := [ai 2, ai n, ai 0, .d (.v (.string (X5 []))), .d (.sl 5 [])]) rfl ⟨AVal.le_refl _, AVal.le_refl _, AVal.le_refl _, AVal.le_refl _, AVal.le_nil 5, trivial⟩ rfl, ⟨⟨100, 0, _, rfl, rfl, .inr ⟨5, _, rfl, rfl, rfl, rfl⟩⟩, rfl, rfl, trivial⟩, X3 _⟩
 by_cases hk5 : k = 5
 ·subst hk5
  have hn := X1O b a hb
  rw [show YR gl gp b a ((5 : Nat) : Int) = (.mk 5 (Xq b a).1 0 [] [], (Xq b a).2.1, (Xq b a).2.2) by simp [YR, Y8]] at hG
  generalize Xq b a = u at *
  obtain ⟨n, a2, e2⟩ := u
  subst hG
  rw [show (((5 : Nat) : Int)) = 5 from rfl]
  try simp only at hn
  repeat first | refine X0 ?_ | (refine JR ?_; (repeat first | refine Z1 ?_ | refine Z0 ?_ | refine ZB ?_ | refine ZL ?_ | refine Zl ?_ | refine Zw (γ := 100) ?_ | refine Zw (γ := 101) ?_ | refine Zy ?_ | refine Zx ?_ | refine ZF ?_ | refine Z9 (hcon := hn) ?_); refine JD ?_) | refine JT ?_ | refine JF ?_ | refine X4 ?_ | refine X2 ?_
  exact X1 ⟨_, XI 100 (cs := [ai 5, ai n, ai 0, .d (.v (.string (X5 []))), ani]) (cs' := [ai 5, ai n, ai 0, .d (.v (.string (X5 []))), .d (.sl 5 [])]) rfl ⟨AVal.le_refl _, AVal.le_refl _, AVal.le_refl _, AVal.le_refl _, AVal.le_nil 5, trivial⟩ rfl, ⟨⟨100, 0, _, rfl, rfl, .inr ⟨5, _, rfl, rfl, rfl, rfl⟩⟩, rfl, rfl, trivial⟩, X3 _⟩
 by_cases hk6 : k = 6
 ·subst hk6
  have hn := X1O b a hb
  rw [show YR gl gp b a ((6 : Nat) : Int) = (.mk 6 (Xq b a).1 0 [] [], (Xq b a).2.1, (Xq b a).2.2) by simp [YR, Y8]] at hG
  generalize Xq b a = u at *
  obtain ⟨n, a2, e2⟩ := u
  subst hG
  rw [show (((6 : Nat) : Int)) = 6 from rfl]
  try simp only at hn
  repeat first | refine X0 ?_ | (refine JR ?_; (repeat first | refine Z1 ?_ | refine Z0 ?_ | refine ZB ?_ | refine ZL ?_ | refine Zl ?_ | refine Zw (γ := 100) ?_ | refine Zw (γ := 101) ?_ | refine Zy ?_ | refine Zx ?_ | refine ZF ?_ | refine Z9 (hcon := hn) ?_); refine JD ?_) | refine JT ?_ | refine JF ?_ | refine X4 ?_
  exact X1 ⟨_, XI 100 (cs := [ai 6, ai n, ai 0, .d (.v (.string (X5 []))), ani]) (cs' := [ai 6, ai n, ai 0, .d (.v (.string (X5 []))), .d (.sl 5 [])]) rfl ⟨AVal.le_refl _, AVal.le_refl _, AVal.le_refl _, AVal.le_refl _, AVal.le_nil 5, trivial⟩ rfl, ⟨⟨100, 0, _, rfl, rfl, .inr ⟨5, _, rfl, rfl, rfl, rfl⟩⟩, rfl, rfl, trivial⟩, X3 _⟩
 by_cases hk4 : k = 4
 ·subst hk4
  have hn := X6w b a 100 hb
  rw [show YR gl gp b a ((4 : Nat) : Int) = (.mk 4 0 0 (Y9 b a 100).1 [], (Y9 b a 100).2.1, (Y9 b a 100).2.2) by simp [YR, Y8]] at hG
  generalize Y9 b a 100 = u at *
  obtain ⟨s, a2, e2⟩ := u
  subst hG
  rw [show (((4 : Nat) : Int)) = 4 from rfl]
  try simp only at hn
  repeat first | refine X0 ?_ | (refine JR ?_; (repeat first | refine Z1 ?_ | refine Z0 ?_ | refine ZB ?_ | refine ZL ?_ | refine Zl ?_ | refine Zw (γ := 100) ?_ | refine Zw (γ := 101) ?_ | refine Zy ?_ | refine Zx ?_ | refine ZF ?_ | refine Z9 (hcon := hn) ?_); refine JD ?_) | refine JT ?_ | refine JF ?_ | refine X4 ?_
  exact X1 ⟨_, XI 100 (cs := [ai 4, ai 0, ai 0, .d (.v (.string (X5 s))), ani]) (cs' := [ai 4, ai 0, ai 0, .d (.v (.string (X5 s))), .d (.sl 5 [])]) rfl ⟨AVal.le_refl _, AVal.le_refl _, AVal.le_refl _, AVal.le_refl _, AVal.le_nil 5, trivial⟩ rfl, ⟨⟨100, 0, _, rfl, rfl, .inr ⟨5, _, rfl, rfl, rfl, rfl⟩⟩, rfl, rfl, trivial⟩, X3 _⟩
 obtain rfl : k = 3 := by omega
 have hn := X1O b a hb
 have hne := X3C b a
 rw [show YR gl gp b a ((3 : Nat) : Int) = if (Xq b a).2.2 ≠ 0 then (.mk 3 0 0 [] [], (Xq b a).2.1, (Xq b a).2.2) else (.mk 3 (Xq b a).1 (Xq b (Xq b a).2.1).1 [] [], (Xq b (Xq b a).2.1).2.1, (Xq b (Xq b a).2.1).2.2) by simp [YR, Y8]] at hG
 have hz := XdB (b := b) (a := a)
 generalize Xq b a = u at *
 obtain ⟨n, a2, e2⟩ := u
 simp only at hn hG hne hz
 rw [show (((3 : Nat) : Int)) = 3 from rfl]
 by_cases he : e2 = 0
 ·subst he
  rw [if_neg (by simp)] at hG
  obtain ⟨q, hq1, hq2⟩ := hne rfl
  simp only at hq1
  subst hq1
  have hd := X1O b q hb
  generalize Xq b q = u2 at *
  obtain ⟨d, a3, e3⟩ := u2
  simp only at hd hG
  subst hG
  repeat first | refine X0 ?_ | (refine JR ?_; (repeat first | refine Z1 ?_ | refine Z0 ?_ | refine ZB ?_ | refine ZL ?_ | refine Zl ?_ | refine Zv ?_ | refine Zw (γ := 100) ?_ | refine Zw (γ := 101) ?_ | refine Zy ?_ | refine Zx ?_ | refine ZF ?_ | refine Z9 (hcon := hn) ?_ | refine Z9 (hcon := hd) ?_); refine JD ?_) | refine JT ?_ | refine JF ?_ | refine X4 ?_ | refine X2 ?_
  exact X1 ⟨_, XI 100 (cs := [ai 3, ai n, ai d, .d (.v (.string (X5 []))), ani]) (cs' := [ai 3, ai n, ai d, .d (.v (.string (X5 []))), .d (.sl 5 [])]) rfl ⟨AVal.le_refl _, AVal.le_refl _, AVal.le_refl _, AVal.le_refl _, AVal.le_nil 5, trivial⟩ rfl, ⟨⟨100, 0, _, rfl, rfl, .inr ⟨5, _, rfl, rfl, rfl, rfl⟩⟩, rfl, rfl, trivial⟩, X3 _⟩
 ·rw [if_pos he] at hG
  obtain rfl := hz he
  subst hG
  repeat first | refine X0 ?_ | (refine JR ?_; (repeat first | refine Z1 ?_ | refine Z0 ?_ | refine ZL ?_ | refine Zl ?_ | refine Zv ?_ | refine Zw (γ := 100) ?_ | refine Zw (γ := 101) ?_ | refine Zy ?_ | refine Zx ?_ | refine ZF ?_ | refine Z9 (hcon := hn) ?_); refine JD ?_) | refine JT ?_ | refine JF ?_ | refine X4 ?_
  exact X1 ⟨_, XI 100 (cs := [ai 3, ai 0, ai 0, .d (.v (.string (X5 []))), ani]) (cs' := [ai 3, ai 0, ai 0, .d (.v (.string (X5 []))), .d (.sl 5 [])]) rfl ⟨AVal.le_refl _, AVal.le_refl _, AVal.le_refl _, AVal.le_refl _, AVal.le_nil 5, trivial⟩ rfl, ⟨⟨100, 0, _, rfl, rfl, .inr ⟨5, _, rfl, rfl, rfl, rfl⟩⟩, rfl, rfl, trivial⟩, X3 _⟩
end Go.Fw
namespace Go.Fw
open Go Go.Proofs
set_option maxRecDepth 100000
set_option linter.unusedVariables false
set_option linter.unusedSimpArgs false
theorem X69 (b : List UInt8) (m a : Nat) (want path : Int) (gl gp : Nat → Int → Val × Int × Int) (R : Val × Int × Int) (hm : m ≤ 8) (ha : a ≤ b.length) (hb : b.length ≤ 281474976710656)
  (hcont : a < b.length → ∀ k : Nat, k ≤ 8 → (k = 8 → m ≠ 0) → (want ≠ 0 → (k : Int) = want) → X5t b ((a : Int) + 1) k (8 - m) (YR gl gp b ((a : Int) + 1) k))
  (hok : ∀ k : Int, (YR gl gp b ((a : Int) + 1) k).2.2 = 0 → XY (YR gl gp b ((a : Int) + 1) k).1)
  (hp : (path = -1 ∧ want = 0) ∨ ∃ i : Nat, path = i ∧ want = 5 + (i % 2 : Nat)) (hR : R = VA (Ud gl gp m b a want)) : X1r b a (8 - m) path R := by
 refine X9 (xs := [Xv R.1, ai R.2.1, ai R.2.2]) Tryz.func217 rfl Tryz.ntmps217 rfl rfl rfl (fun E => ?_)
 rw [XgY, Int.toNat_natCast] at hR
 by_cases h1 : a = b.length
 ·rw [if_pos (by omega)] at hR
  subst hR
  have hai : (a : Int) = b.length := by omega
  refine X0 ?_; refine JR ?_; refine Zw (γ := 100) ?_; refine Z0 ?_; refine Z0 ?_; refine JD ?_; refine X0 ?_; refine X0 ?_; refine JR ?_; refine Z1 ?_; refine Z8 ?_; refine Z1 ?_; refine Z1 ?_; refine Z1 ?_
  refine Zd ?_; refine Zs ?_; refine Zq ?_; refine JD ?_; refine JF ?_; refine X2 ?_; refine X0 ?_; refine X0 ?_; refine JR ?_; refine Z1 ?_; refine Z1 ?_; refine Zd ?_; refine Zl ?_; refine JD ?_
  refine JT ?_; refine X0 ?_; refine JR ?_; refine Zx ?_; refine Zy ?_; refine Z0 ?_; refine Z0 ?_; refine JD ?_
  exact X1 ⟨_, XI 100 (cs := [ai 0, ai 0, ai 0, .d (.v (.string (X5 []))), ani]) (cs' := [ai 0, ai 0, ai 0, .d (.v (.string (X5 []))), .d (.sl 5 [])]) rfl ⟨AVal.le_refl _, AVal.le_refl _, AVal.le_refl _, AVal.le_refl _, AVal.le_nil 5, trivial⟩ rfl, ⟨⟨100, 0, _, rfl, rfl, .inr ⟨5, _, rfl, rfl, rfl, rfl⟩⟩, rfl, rfl, trivial⟩, X3 _⟩
 rw [if_neg (by omega)] at hR
 have hai : ¬ (a : Int) = b.length := by omega
 obtain ⟨c, hc⟩ := Xu (l := b) (k := a) (by omega)
 rw [hc, Option.getD_some] at hR
 by_cases hg : ((c.toNat : Nat) : Int) ≤ 8 ∧ (c.toNat = 8 → m ≠ 0) ∧ (want ≠ 0 → ((c.toNat : Nat) : Int) = want)
 case neg =>
  rw [if_pos (by omega)] at hR
  subst hR
  by_cases h8 : 8 < ((c.toNat : Nat) : Int)
  ·repeat first | refine X0 ?_ | (refine JR ?_; (repeat first | refine Z1 ?_ | refine Z0 ?_ | refine Zk ?_ | refine Zd ?_ | refine Z8 ?_ | refine Zs ?_ | refine Zl ?_ | refine Zw (γ := 100) ?_ | refine Zy ?_ | refine Zx ?_ | refine Zn ?_ | refine Zq ?_ | refine Zj ?_ | refine ZY ?_ | refine Zo ?_ | refine Zp ?_); refine JD ?_) | refine JT ?_ | refine JF ?_ | refine X2 ?_
   exact X1 ⟨_, XI 100 (cs := [ai 0, ai 0, ai 0, .d (.v (.string (X5 []))), ani]) (cs' := [ai 0, ai 0, ai 0, .d (.v (.string (X5 []))), .d (.sl 5 [])]) rfl ⟨AVal.le_refl _, AVal.le_refl _, AVal.le_refl _, AVal.le_refl _, AVal.le_nil 5, trivial⟩ rfl, ⟨⟨100, 0, _, rfl, rfl, .inr ⟨5, _, rfl, rfl, rfl, rfl⟩⟩, rfl, rfl, trivial⟩, X3 _⟩
  by_cases hk8 : ((c.toNat : Nat) : Int) = 8 ∧ (8 : Int) - m ≥ 8
  ·obtain ⟨hk1, hk2⟩ := hk8
   repeat first | refine X0 ?_ | (refine JR ?_; (repeat first | refine Z1 ?_ | refine Z0 ?_ | refine Zk ?_ | refine Zd ?_ | refine Z8 ?_ | refine Zs ?_ | refine Z2 ?_ | refine Zl ?_ | refine Zw (γ := 100) ?_ | refine Zy ?_ | refine Zx ?_ | refine Zn ?_ | refine Zq ?_ | refine Zj ?_ | refine ZY ?_ | refine Zo ?_ | refine Zp ?_); refine JD ?_) | refine JT ?_ | refine JF ?_ | refine X2 ?_
   exact X1 ⟨_, XI 100 (cs := [ai 0, ai 0, ai 0, .d (.v (.string (X5 []))), ani]) (cs' := [ai 0, ai 0, ai 0, .d (.v (.string (X5 []))), .d (.sl 5 [])]) rfl ⟨AVal.le_refl _, AVal.le_refl _, AVal.le_refl _, AVal.le_refl _, AVal.le_nil 5, trivial⟩ rfl, ⟨⟨100, 0, _, rfl, rfl, .inr ⟨5, _, rfl, rfl, rfl, rfl⟩⟩, rfl, rfl, trivial⟩, X3 _⟩
  rcases hp with ⟨rfl, rfl⟩ | ⟨i, rfl, rfl⟩
  ·exfalso; omega
  have hi0 : (i : Int) ≥ 0 := by omega
  by_cases hk : ((c.toNat : Nat) : Int) = 8
  ·have hk2 : ¬ (8 : Int) - m ≥ 8 := fun h => hk8 ⟨hk, h⟩
   by_cases hi : i % 2 = 0
   ·have hi1 : ((i % 2 : Nat) : Int) = 0 := by omega
    have hi2 : ((c.toNat : Nat) : Int) ≠ 5 := by omega
    repeat first | refine X0 ?_ | (refine JR ?_; (repeat first | refine Z02 (op := .rem) (r' := .int .i64 ((i % 2 : Nat) : Int)) (u := .int .i64 i) (v := .int .i64 2) ?_ (hr' := by exact congrArg (Value.int .i64) (show ((i : Int) % 2) = ((i % 2 : Nat) : Int) by omega)) | refine Z1 ?_ | refine Z0 ?_ | refine Zk ?_ | refine Zd ?_ | refine Z8 ?_ | refine Zs ?_ | refine Z2 ?_ | refine Zl ?_ | refine Zv ?_ | refine Zw (γ := 100) ?_ | refine Zy ?_ | refine Zx ?_ | refine Zn ?_ | refine Zq ?_ | refine Zj ?_ | refine ZY ?_ | refine Zo ?_ | refine Zp ?_); refine JD ?_) | refine JT ?_ | refine JF ?_ | refine X2 ?_
    exact X1 ⟨_, XI 100 (cs := [ai 0, ai 0, ai 0, .d (.v (.string (X5 []))), ani]) (cs' := [ai 0, ai 0, ai 0, .d (.v (.string (X5 []))), .d (.sl 5 [])]) rfl ⟨AVal.le_refl _, AVal.le_refl _, AVal.le_refl _, AVal.le_refl _, AVal.le_nil 5, trivial⟩ rfl, ⟨⟨100, 0, _, rfl, rfl, .inr ⟨5, _, rfl, rfl, rfl, rfl⟩⟩, rfl, rfl, trivial⟩, X3 _⟩
   ·have hi1 : ((i % 2 : Nat) : Int) ≠ 0 := by omega
    have hi3 : ((i % 2 : Nat) : Int) = 1 := by omega
    have hi2 : ((c.toNat : Nat) : Int) ≠ 6 := by omega
    repeat first | refine X0 ?_ | (refine JR ?_; (repeat first | refine Z02 (op := .rem) (r' := .int .i64 ((i % 2 : Nat) : Int)) (u := .int .i64 i) (v := .int .i64 2) ?_ (hr' := by exact congrArg (Value.int .i64) (show ((i : Int) % 2) = ((i % 2 : Nat) : Int) by omega)) | refine Z1 ?_ | refine Z0 ?_ | refine Zk ?_ | refine Zd ?_ | refine Z8 ?_ | refine Zs ?_ | refine Z2 ?_ | refine Zl ?_ | refine Zv ?_ | refine Zw (γ := 100) ?_ | refine Zy ?_ | refine Zx ?_ | refine Zn ?_ | refine Zq ?_ | refine Zj ?_ | refine ZY ?_ | refine Zo ?_); refine JD ?_) | refine JT ?_ | refine JF ?_ | refine X2 ?_
    exact X1 ⟨_, XI 100 (cs := [ai 0, ai 0, ai 0, .d (.v (.string (X5 []))), ani]) (cs' := [ai 0, ai 0, ai 0, .d (.v (.string (X5 []))), .d (.sl 5 [])]) rfl ⟨AVal.le_refl _, AVal.le_refl _, AVal.le_refl _, AVal.le_refl _, AVal.le_nil 5, trivial⟩ rfl, ⟨⟨100, 0, _, rfl, rfl, .inr ⟨5, _, rfl, rfl, rfl, rfl⟩⟩, rfl, rfl, trivial⟩, X3 _⟩
  ·by_cases hi : i % 2 = 0
   ·have hi1 : ((i % 2 : Nat) : Int) = 0 := by omega
    have hi2 : ((c.toNat : Nat) : Int) ≠ 5 := by omega
    repeat first | refine X0 ?_ | (refine JR ?_; (repeat first | refine Z02 (op := .rem) (r' := .int .i64 ((i % 2 : Nat) : Int)) (u := .int .i64 i) (v := .int .i64 2) ?_ (hr' := by exact congrArg (Value.int .i64) (show ((i : Int) % 2) = ((i % 2 : Nat) : Int) by omega)) | refine Z1 ?_ | refine Z0 ?_ | refine Zk ?_ | refine Zd ?_ | refine Z8 ?_ | refine Zs ?_ | refine Z2 ?_ | refine Zl ?_ | refine Zv ?_ | refine Zw (γ := 100) ?_ | refine Zy ?_ | refine Zx ?_ | refine Zn ?_ | refine Zq ?_ | refine Zj ?_ | refine ZY ?_ | refine Zo ?_ | refine Zp ?_); refine JD ?_) | refine JT ?_ | refine JF ?_ | refine X2 ?_
    exact X1 ⟨_, XI 100 (cs := [ai 0, ai 0, ai 0, .d (.v (.string (X5 []))), ani]) (cs' := [ai 0, ai 0, ai 0, .d (.v (.string (X5 []))), .d (.sl 5 [])]) rfl ⟨AVal.le_refl _, AVal.le_refl _, AVal.le_refl _, AVal.le_refl _, AVal.le_nil 5, trivial⟩ rfl, ⟨⟨100, 0, _, rfl, rfl, .inr ⟨5, _, rfl, rfl, rfl, rfl⟩⟩, rfl, rfl, trivial⟩, X3 _⟩
   ·have hi1 : ((i % 2 : Nat) : Int) ≠ 0 := by omega
    have hi3 : ((i % 2 : Nat) : Int) = 1 := by omega
    have hi2 : ((c.toNat : Nat) : Int) ≠ 6 := by omega
    repeat first | refine X0 ?_ | (refine JR ?_; (repeat first | refine Z02 (op := .rem) (r' := .int .i64 ((i % 2 : Nat) : Int)) (u := .int .i64 i) (v := .int .i64 2) ?_ (hr' := by exact congrArg (Value.int .i64) (show ((i : Int) % 2) = ((i % 2 : Nat) : Int) by omega)) | refine Z1 ?_ | refine Z0 ?_ | refine Zk ?_ | refine Zd ?_ | refine Z8 ?_ | refine Zs ?_ | refine Z2 ?_ | refine Zl ?_ | refine Zv ?_ | refine Zw (γ := 100) ?_ | refine Zy ?_ | refine Zx ?_ | refine Zn ?_ | refine Zq ?_ | refine Zj ?_ | refine ZY ?_ | refine Zo ?_); refine JD ?_) | refine JT ?_ | refine JF ?_ | refine X2 ?_
    exact X1 ⟨_, XI 100 (cs := [ai 0, ai 0, ai 0, .d (.v (.string (X5 []))), ani]) (cs' := [ai 0, ai 0, ai 0, .d (.v (.string (X5 []))), .d (.sl 5 [])]) rfl ⟨AVal.le_refl _, AVal.le_refl _, AVal.le_refl _, AVal.le_refl _, AVal.le_nil 5, trivial⟩ rfl, ⟨⟨100, 0, _, rfl, rfl, .inr ⟨5, _, rfl, rfl, rfl, rfl⟩⟩, rfl, rfl, trivial⟩, X3 _⟩
 obtain ⟨hg1, hg2, hg3⟩ := hg
 rw [if_neg (by omega)] at hR
 have hcall := hcont (by omega) c.toNat (by omega) hg2 hg3
 have hokk := hok c.toNat
 unfold X5t at hcall
 generalize YR gl gp b ((a : Int) + 1) c.toNat = r at *
 obtain ⟨⟨vk, vn, vd, vs, vl⟩, x, e⟩ := r
 have hvalid := fun he => X3t (.mk vk vn vd vs vl) (hokk he)
 simp only [Xv] at hcall hvalid hR
 rcases hp with ⟨rfl, rfl⟩ | ⟨i, rfl, rfl⟩
 ·by_cases hk : ((c.toNat : Nat) : Int) = 8
  ·have hk2 : ¬ (8 : Int) - m ≥ 8 := by have := hg2 (by omega); omega
   by_cases he : e = 0
   case neg =>
    rw [if_pos he] at hR
    subst hR
    repeat first | refine X0 ?_ | (refine JR ?_; (repeat first | refine Z1 ?_ | refine Z0 ?_ | refine Zk ?_ | refine Zd ?_ | refine Z8 ?_ | refine Zs ?_ | refine Z2 ?_ | refine Zl ?_ | refine Zv ?_ | refine Zb ?_ | refine Zw (γ := 100) ?_ | refine Zw (γ := 101) ?_ | refine Zy ?_ | refine Zx ?_ | refine ZF ?_ | refine Zn ?_ | refine Zq ?_ | refine Zj ?_ | refine ZY ?_ | refine Zo ?_ | refine Z9 (hcon := hcall) ?_); refine JD ?_) | refine JT ?_ | refine JF ?_ | refine X2 ?_
    exact X1 ⟨_, XI 100 (cs := [ai 0, ai 0, ai 0, .d (.v (.string (X5 []))), ani]) (cs' := [ai 0, ai 0, ai 0, .d (.v (.string (X5 []))), .d (.sl 5 [])]) rfl ⟨AVal.le_refl _, AVal.le_refl _, AVal.le_refl _, AVal.le_refl _, AVal.le_nil 5, trivial⟩ rfl, ⟨⟨100, 0, _, rfl, rfl, .inr ⟨5, _, rfl, rfl, rfl, rfl⟩⟩, rfl, rfl, trivial⟩, X3 _⟩
   subst he
   replace hvalid := hvalid rfl
   rw [if_neg (by simp)] at hR
   cases hv : X7 8 (.mk vk vn vd vs vl) with
   | false =>
    rw [hv] at hvalid hR
    rw [if_pos rfl] at hR
    subst hR
    repeat first | refine X0 ?_ | (refine JR ?_; (repeat first | refine Z1 ?_ | refine Z0 ?_ | refine ZL ?_ | refine Zk ?_ | refine Zd ?_ | refine Z8 ?_ | refine Zs ?_ | refine Z2 ?_ | refine Zl ?_ | refine Zv ?_ | refine Zb ?_ | refine Zu ?_ | refine Zw (γ := 100) ?_ | refine Zw (γ := 101) ?_ | refine Zy ?_ | refine Zx ?_ | refine ZF ?_ | refine Zn ?_ | refine Zq ?_ | refine Zj ?_ | refine ZY ?_ | refine Zo ?_ | refine Z9 (hcon := hcall) ?_ | refine Z9 (hcon := hvalid) ?_); refine JD ?_) | refine JT ?_ | refine JF ?_ | refine X2 ?_
    exact X1 ⟨_, XI 100 (cs := [ai 0, ai 0, ai 0, .d (.v (.string (X5 []))), ani]) (cs' := [ai 0, ai 0, ai 0, .d (.v (.string (X5 []))), .d (.sl 5 [])]) rfl ⟨AVal.le_refl _, AVal.le_refl _, AVal.le_refl _, AVal.le_refl _, AVal.le_nil 5, trivial⟩ rfl, ⟨⟨100, 0, _, rfl, rfl, .inr ⟨5, _, rfl, rfl, rfl, rfl⟩⟩, rfl, rfl, trivial⟩, X3 _⟩
   | true =>
    rw [hv] at hvalid hR
    rw [if_neg (by simp)] at hR
    subst hR
    repeat first | refine X0 ?_ | (refine JR ?_; (repeat first | refine Z1 ?_ | refine Z0 ?_ | refine ZL ?_ | refine Zk ?_ | refine Zd ?_ | refine Z8 ?_ | refine Zs ?_ | refine Z2 ?_ | refine Zl ?_ | refine Zv ?_ | refine Zb ?_ | refine Zu ?_ | refine Zw (γ := 100) ?_ | refine Zw (γ := 101) ?_ | refine Zy ?_ | refine ZF ?_ | refine Zn ?_ | refine Zq ?_ | refine Zj ?_ | refine ZY ?_ | refine Zo ?_ | refine Z9 (hcon := hcall) ?_ | refine Z9 (hcon := hvalid) ?_); refine JD ?_) | refine JF ?_ | refine X2 ?_
    exact X1 ⟨_, St.le_refl _, ⟨⟨100, 0, _, rfl, rfl, .inr ⟨5, _, rfl, rfl, rfl, rfl⟩⟩, rfl, rfl, trivial⟩, X3 _⟩
  ·skip
   by_cases he : e = 0
   case neg =>
    rw [if_pos he] at hR
    subst hR
    repeat first | refine X0 ?_ | (refine JR ?_; (repeat first | refine Z1 ?_ | refine Z0 ?_ | refine Zk ?_ | refine Zd ?_ | refine Z8 ?_ | refine Zs ?_ | refine Z2 ?_ | refine Zl ?_ | refine Zv ?_ | refine Zb ?_ | refine Zw (γ := 100) ?_ | refine Zw (γ := 101) ?_ | refine Zy ?_ | refine Zx ?_ | refine ZF ?_ | refine Zq ?_ | refine Zj ?_ | refine ZY ?_ | refine Zo ?_ | refine Z9 (hcon := hcall) ?_); refine JD ?_) | refine JT ?_ | refine JF ?_ | refine X2 ?_
    exact X1 ⟨_, XI 100 (cs := [ai 0, ai 0, ai 0, .d (.v (.string (X5 []))), ani]) (cs' := [ai 0, ai 0, ai 0, .d (.v (.string (X5 []))), .d (.sl 5 [])]) rfl ⟨AVal.le_refl _, AVal.le_refl _, AVal.le_refl _, AVal.le_refl _, AVal.le_nil 5, trivial⟩ rfl, ⟨⟨100, 0, _, rfl, rfl, .inr ⟨5, _, rfl, rfl, rfl, rfl⟩⟩, rfl, rfl, trivial⟩, X3 _⟩
   subst he
   replace hvalid := hvalid rfl
   rw [if_neg (by simp)] at hR
   cases hv : X7 8 (.mk vk vn vd vs vl) with
   | false =>
    rw [hv] at hvalid hR
    rw [if_pos rfl] at hR
    subst hR
    repeat first | refine X0 ?_ | (refine JR ?_; (repeat first | refine Z1 ?_ | refine Z0 ?_ | refine ZL ?_ | refine Zk ?_ | refine Zd ?_ | refine Z8 ?_ | refine Zs ?_ | refine Z2 ?_ | refine Zl ?_ | refine Zv ?_ | refine Zb ?_ | refine Zu ?_ | refine Zw (γ := 100) ?_ | refine Zw (γ := 101) ?_ | refine Zy ?_ | refine Zx ?_ | refine ZF ?_ | refine Zq ?_ | refine Zj ?_ | refine ZY ?_ | refine Zo ?_ | refine Z9 (hcon := hcall) ?_ | refine Z9 (hcon := hvalid) ?_); refine JD ?_) | refine JT ?_ | refine JF ?_ | refine X2 ?_
    exact X1 ⟨_, XI 100 (cs := [ai 0, ai 0, ai 0, .d (.v (.string (X5 []))), ani]) (cs' := [ai 0, ai 0, ai 0, .d (.v (.string (X5 []))), .d (.sl 5 [])]) rfl ⟨AVal.le_refl _, AVal.le_refl _, AVal.le_refl _, AVal.le_refl _, AVal.le_nil 5, trivial⟩ rfl, ⟨⟨100, 0, _, rfl, rfl, .inr ⟨5, _, rfl, rfl, rfl, rfl⟩⟩, rfl, rfl, trivial⟩, X3 _⟩
   | true =>
    rw [hv] at hvalid hR
    rw [if_neg (by simp)] at hR
    subst hR
    repeat first | refine X0 ?_ | (refine JR ?_; (repeat first | refine Z1 ?_ | refine Z0 ?_ | refine ZL ?_ | refine Zk ?_ | refine Zd ?_ | refine Z8 ?_ | refine Zs ?_ | refine Z2 ?_ | refine Zl ?_ | refine Zv ?_ | refine Zb ?_ | refine Zu ?_ | refine Zw (γ := 100) ?_ | refine Zw (γ := 101) ?_ | refine Zy ?_ | refine ZF ?_ | refine Zq ?_ | refine Zj ?_ | refine ZY ?_ | refine Zo ?_ | refine Z9 (hcon := hcall) ?_ | refine Z9 (hcon := hvalid) ?_); refine JD ?_) | refine JF ?_ | refine X2 ?_
    exact X1 ⟨_, St.le_refl _, ⟨⟨100, 0, _, rfl, rfl, .inr ⟨5, _, rfl, rfl, rfl, rfl⟩⟩, rfl, rfl, trivial⟩, X3 _⟩
 have hi0 : (i : Int) ≥ 0 := by omega
 have hk : ¬ ((c.toNat : Nat) : Int) = 8 := by have := hg3 (by omega); omega
 by_cases hi : i % 2 = 0
 ·have hi1 : ((i % 2 : Nat) : Int) = 0 := by omega
  have hi2 : ((c.toNat : Nat) : Int) = 5 := by have := hg3 (by omega); omega
  have hi3 : ¬ ((i % 2 : Nat) : Int) = 1 := by omega
  by_cases he : e = 0
  case neg =>
   rw [if_pos he] at hR
   subst hR
   repeat first | refine X0 ?_ | (refine JR ?_; (repeat first | refine Z02 (op := .rem) (r' := .int .i64 ((i % 2 : Nat) : Int)) (u := .int .i64 i) (v := .int .i64 2) ?_ (hr' := by exact congrArg (Value.int .i64) (show ((i : Int) % 2) = ((i % 2 : Nat) : Int) by omega)) | refine Z1 ?_ | refine Z0 ?_ | refine Zk ?_ | refine Zd ?_ | refine Z8 ?_ | refine Zs ?_ | refine Z2 ?_ | refine Zl ?_ | refine Zv ?_ | refine Zb ?_ | refine Zw (γ := 100) ?_ | refine Zw (γ := 101) ?_ | refine Zy ?_ | refine Zx ?_ | refine ZF ?_ | refine Zn ?_ | refine Zq ?_ | refine Zj ?_ | refine ZY ?_ | refine Zo ?_ | refine Z9 (hcon := hcall) ?_); refine JD ?_) | refine JT ?_ | refine JF ?_ | refine X2 ?_
   exact X1 ⟨_, XI 100 (cs := [ai 0, ai 0, ai 0, .d (.v (.string (X5 []))), ani]) (cs' := [ai 0, ai 0, ai 0, .d (.v (.string (X5 []))), .d (.sl 5 [])]) rfl ⟨AVal.le_refl _, AVal.le_refl _, AVal.le_refl _, AVal.le_refl _, AVal.le_nil 5, trivial⟩ rfl, ⟨⟨100, 0, _, rfl, rfl, .inr ⟨5, _, rfl, rfl, rfl, rfl⟩⟩, rfl, rfl, trivial⟩, X3 _⟩
  subst he
  replace hvalid := hvalid rfl
  rw [if_neg (by simp)] at hR
  cases hv : X7 8 (.mk vk vn vd vs vl) with
  | false =>
   rw [hv] at hvalid hR
   rw [if_pos rfl] at hR
   subst hR
   repeat first | refine X0 ?_ | (refine JR ?_; (repeat first | refine Z02 (op := .rem) (r' := .int .i64 ((i % 2 : Nat) : Int)) (u := .int .i64 i) (v := .int .i64 2) ?_ (hr' := by exact congrArg (Value.int .i64) (show ((i : Int) % 2) = ((i % 2 : Nat) : Int) by omega)) | refine Z1 ?_ | refine Z0 ?_ | refine ZL ?_ | refine Zk ?_ | refine Zd ?_ | refine Z8 ?_ | refine Zs ?_ | refine Z2 ?_ | refine Zl ?_ | refine Zv ?_ | refine Zb ?_ | refine Zu ?_ | refine Zw (γ := 100) ?_ | refine Zw (γ := 101) ?_ | refine Zy ?_ | refine Zx ?_ | refine ZF ?_ | refine Zn ?_ | refine Zq ?_ | refine Zj ?_ | refine ZY ?_ | refine Zo ?_ | refine Z9 (hcon := hcall) ?_ | refine Z9 (hcon := hvalid) ?_); refine JD ?_) | refine JT ?_ | refine JF ?_ | refine X2 ?_
   exact X1 ⟨_, XI 100 (cs := [ai 0, ai 0, ai 0, .d (.v (.string (X5 []))), ani]) (cs' := [ai 0, ai 0, ai 0, .d (.v (.string (X5 []))), .d (.sl 5 [])]) rfl ⟨AVal.le_refl _, AVal.le_refl _, AVal.le_refl _, AVal.le_refl _, AVal.le_nil 5, trivial⟩ rfl, ⟨⟨100, 0, _, rfl, rfl, .inr ⟨5, _, rfl, rfl, rfl, rfl⟩⟩, rfl, rfl, trivial⟩, X3 _⟩
  | true =>
   rw [hv] at hvalid hR
   rw [if_neg (by simp)] at hR
   subst hR
   repeat first | refine X0 ?_ | (refine JR ?_; (repeat first | refine Z02 (op := .rem) (r' := .int .i64 ((i % 2 : Nat) : Int)) (u := .int .i64 i) (v := .int .i64 2) ?_ (hr' := by exact congrArg (Value.int .i64) (show ((i : Int) % 2) = ((i % 2 : Nat) : Int) by omega)) | refine Z1 ?_ | refine Z0 ?_ | refine ZL ?_ | refine Zk ?_ | refine Zd ?_ | refine Z8 ?_ | refine Zs ?_ | refine Z2 ?_ | refine Zl ?_ | refine Zv ?_ | refine Zb ?_ | refine Zu ?_ | refine Zw (γ := 100) ?_ | refine Zw (γ := 101) ?_ | refine Zy ?_ | refine ZF ?_ | refine Zn ?_ | refine Zq ?_ | refine Zj ?_ | refine ZY ?_ | refine Zo ?_ | refine Z9 (hcon := hcall) ?_ | refine Z9 (hcon := hvalid) ?_); refine JD ?_) | refine JF ?_ | refine X2 ?_
   exact X1 ⟨_, St.le_refl _, ⟨⟨100, 0, _, rfl, rfl, .inr ⟨5, _, rfl, rfl, rfl, rfl⟩⟩, rfl, rfl, trivial⟩, X3 _⟩
 have hi1 : ¬ ((i % 2 : Nat) : Int) = 0 := by omega
 have hi3 : ((i % 2 : Nat) : Int) = 1 := by omega
 have hi2 : ((c.toNat : Nat) : Int) = 6 := by have := hg3 (by omega); omega
 by_cases he : e = 0
 case neg =>
  rw [if_pos he] at hR
  subst hR
  repeat first | refine X0 ?_ | (refine JR ?_; (repeat first | refine Z02 (op := .rem) (r' := .int .i64 ((i % 2 : Nat) : Int)) (u := .int .i64 i) (v := .int .i64 2) ?_ (hr' := by exact congrArg (Value.int .i64) (show ((i : Int) % 2) = ((i % 2 : Nat) : Int) by omega)) | refine Z1 ?_ | refine Z0 ?_ | refine Zk ?_ | refine Zd ?_ | refine Z8 ?_ | refine Zs ?_ | refine Z2 ?_ | refine Zl ?_ | refine Zv ?_ | refine Zb ?_ | refine Zw (γ := 100) ?_ | refine Zw (γ := 101) ?_ | refine Zy ?_ | refine Zx ?_ | refine ZF ?_ | refine Zn ?_ | refine Zq ?_ | refine Zj ?_ | refine ZY ?_ | refine Zo ?_ | refine Z9 (hcon := hcall) ?_); refine JD ?_) | refine JT ?_ | refine JF ?_ | refine X2 ?_
  exact X1 ⟨_, XI 100 (cs := [ai 0, ai 0, ai 0, .d (.v (.string (X5 []))), ani]) (cs' := [ai 0, ai 0, ai 0, .d (.v (.string (X5 []))), .d (.sl 5 [])]) rfl ⟨AVal.le_refl _, AVal.le_refl _, AVal.le_refl _, AVal.le_refl _, AVal.le_nil 5, trivial⟩ rfl, ⟨⟨100, 0, _, rfl, rfl, .inr ⟨5, _, rfl, rfl, rfl, rfl⟩⟩, rfl, rfl, trivial⟩, X3 _⟩
 subst he
 replace hvalid := hvalid rfl
 rw [if_neg (by simp)] at hR
 cases hv : X7 8 (.mk vk vn vd vs vl) with
 | false =>
  rw [hv] at hvalid hR
  rw [if_pos rfl] at hR
  subst hR
  repeat first | refine X0 ?_ | (refine JR ?_; (repeat first | refine Z02 (op := .rem) (r' := .int .i64 ((i % 2 : Nat) : Int)) (u := .int .i64 i) (v := .int .i64 2) ?_ (hr' := by exact congrArg (Value.int .i64) (show ((i : Int) % 2) = ((i % 2 : Nat) : Int) by omega)) | refine Z1 ?_ | refine Z0 ?_ | refine ZL ?_ | refine Zk ?_ | refine Zd ?_ | refine Z8 ?_ | refine Zs ?_ | refine Z2 ?_ | refine Zl ?_ | refine Zv ?_ | refine Zb ?_ | refine Zu ?_ | refine Zw (γ := 100) ?_ | refine Zw (γ := 101) ?_ | refine Zy ?_ | refine Zx ?_ | refine ZF ?_ | refine Zn ?_ | refine Zq ?_ | refine Zj ?_ | refine ZY ?_ | refine Zo ?_ | refine Z9 (hcon := hcall) ?_ | refine Z9 (hcon := hvalid) ?_); refine JD ?_) | refine JT ?_ | refine JF ?_ | refine X2 ?_
  exact X1 ⟨_, XI 100 (cs := [ai 0, ai 0, ai 0, .d (.v (.string (X5 []))), ani]) (cs' := [ai 0, ai 0, ai 0, .d (.v (.string (X5 []))), .d (.sl 5 [])]) rfl ⟨AVal.le_refl _, AVal.le_refl _, AVal.le_refl _, AVal.le_refl _, AVal.le_nil 5, trivial⟩ rfl, ⟨⟨100, 0, _, rfl, rfl, .inr ⟨5, _, rfl, rfl, rfl, rfl⟩⟩, rfl, rfl, trivial⟩, X3 _⟩
 | true =>
  rw [hv] at hvalid hR
  rw [if_neg (by simp)] at hR
  subst hR
  repeat first | refine X0 ?_ | (refine JR ?_; (repeat first | refine Z02 (op := .rem) (r' := .int .i64 ((i % 2 : Nat) : Int)) (u := .int .i64 i) (v := .int .i64 2) ?_ (hr' := by exact congrArg (Value.int .i64) (show ((i : Int) % 2) = ((i % 2 : Nat) : Int) by omega)) | refine Z1 ?_ | refine Z0 ?_ | refine ZL ?_ | refine Zk ?_ | refine Zd ?_ | refine Z8 ?_ | refine Zs ?_ | refine Z2 ?_ | refine Zl ?_ | refine Zv ?_ | refine Zb ?_ | refine Zu ?_ | refine Zw (γ := 100) ?_ | refine Zw (γ := 101) ?_ | refine Zy ?_ | refine ZF ?_ | refine Zn ?_ | refine Zq ?_ | refine Zj ?_ | refine ZY ?_ | refine Zo ?_ | refine Z9 (hcon := hcall) ?_ | refine Z9 (hcon := hvalid) ?_); refine JD ?_) | refine JF ?_ | refine X2 ?_
  exact X1 ⟨_, St.le_refl _, ⟨⟨100, 0, _, rfl, rfl, .inr ⟨5, _, rfl, rfl, rfl, rfl⟩⟩, rfl, rfl, trivial⟩, X3 _⟩
end Go.Fw
namespace Go.Fw
open Go Go.Proofs
set_option maxRecDepth 100000
set_option linter.unusedVariables false
set_option linter.unusedSimpArgs false
theorem X6u (i : Nat) (q : Int) (h : (noG i q).2.2 = 0) : X7 8 (noG i q).1 = true := by simp [noG] at h
theorem Xar (b : List UInt8) (i : Nat) (q : Int) (h : (Uu b i q).2.2 = 0) : X7 8 (Uu b i q).1 = true := X6S h
theorem Xe7 (b : List UInt8) (m : Nat) (q : Int) (h : (V5 b m q).2.2 = 0) : X7 8 (V5 b m q).1 = true := by
 rw [X0q] at h ⊢
 exact X6S h
theorem X7y (b : List UInt8) : ∀ (m i : Nat) (q : Int), (VZ b m i q).2.2 = 0 → X7 8 (VZ b m i q).1 = true
 | 0, i, q, h => X6u i q h
 | m + 1, i, q, h => Xe7 b m q h
theorem X6M {gl gp : Nat → Int → Val × Int × Int} {b : List UInt8} {a k : Int} (hgl : ∀ i q, (gl i q).2.2 = 0 → X7 8 (gl i q).1 = true) (hgp : ∀ i q, (gp i q).2.2 = 0 → X7 8 (gp i q).1 = true)
  (h : (YR gl gp b a k).2.2 = 0) : XY (YR gl gp b a k).1 := by
 obtain ⟨e1, e2⟩ := XaG gl gp b a k
 rw [e1] at h
 rw [e2 h]
 exact XgB hgl hgp h
theorem X7u (b : List UInt8) (hb : b.length ≤ 281474976710656) (m a i : Nat) (hm : m ≤ 8) (ha : a ≤ b.length) : X1r b a (8 - m) i (VA (Uu b i a)) := by
 have hw : (5 + ((i % 2 : Nat) : Int)) = 5 ∨ (5 + ((i % 2 : Nat) : Int)) = 6 := by omega
 unfold Uu
 rw [← X9v b a m _ hw noG noG]
 refine X69 b m a (5 + ((i % 2 : Nat) : Int)) i noG noG _ hm ha hb (fun _ k hk _ hkw => ?_) (fun k h => X6M X6u X6u h) (.inr ⟨i, rfl, rfl⟩) rfl
 have hk2 := hkw (by omega)
 exact X6y b m k (a + 1) noG noG _ hm hb hk (fun h => by omega) (fun h => by omega) rfl
theorem X9w (b : List UInt8) (hb : b.length ≤ 281474976710656) : ∀ (m a : Nat), m ≤ 8 → a ≤ b.length → X1r b a (8 - m) (-1) (VA (V5 b m a))
 | 0, a, hm, ha => by
  rw [X0q]
  exact X69 b 0 a 0 (-1) (VZ b 0) (Uu b) _ hm ha hb
   (fun _ k hk h8 _ => X6y b 0 k (a + 1) (VZ b 0) (Uu b) _ hm hb hk (fun h => absurd rfl (h8 h))
    (fun _ R hR => Xb9 b 0 (a + 1) (Uu b) R hm hb (fun i q h => X2B i q h) (fun i q h => X7u b hb 0 q i hm h) hR) rfl)
   (fun k h => X6M (X7y b 0) (Xar b) h) (.inl ⟨rfl, rfl⟩) rfl
 | m + 1, a, hm, ha => by
  rw [X0q]
  exact X69 b (m + 1) a 0 (-1) (VZ b (m + 1)) (Uu b) _ hm ha hb
   (fun _ k hk h8 _ => X6y b (m + 1) k (a + 1) (VZ b (m + 1)) (Uu b) _ hm hb hk
    (fun _ R hR => Xc4 b (m + 1) (a + 1) (VZ b (m + 1)) R hm hb (fun i q h => X5l m q h) (fun i q h => by
     have := X9w b hb m q (by omega) h
     rw [show (8 : Int) - ((m + 1 : Nat) : Int) + 1 = 8 - (m : Int) by omega]
     exact this) hR)
    (fun _ R hR => Xb9 b (m + 1) (a + 1) (Uu b) R hm hb (fun i q h => X2B i q h) (fun i q h => X7u b hb (m + 1) q i hm h) hR) rfl)
   (fun k h => X6M (X7y b (m + 1)) (Xar b) h) (.inl ⟨rfl, rfl⟩) rfl
theorem Xcp (b : List UInt8) (a : Int) (h : a < 0 ∨ (b.length : Int) < a) : Con Tryz.prog 217 [] [.d (Xa b), ai a, ai 0, ai (-1)] [] (.tup [Xv zV, ai 0, ai 1]) := by
 refine X9 (xs := [Xv zV, ai 0, ai 1]) Tryz.func217 rfl Tryz.ntmps217 rfl rfl rfl (fun E => ?_)
 by_cases h1 : a < 0
 ·refine X0 ?_; refine JR ?_; refine Zw (γ := 100) ?_; refine Z0 ?_; refine Z0 ?_; refine JD ?_; refine X0 ?_; refine X0 ?_; refine JR ?_; refine Z1 ?_; refine Z8 ?_; refine Z1 ?_; refine Zo ?_; refine Zo ?_
  refine Zo ?_; refine Zo ?_; refine Zn ?_; refine JD ?_; refine JT ?_; refine X0 ?_; refine JR ?_; refine Zx ?_; refine Zy ?_; refine Z0 ?_; refine Z0 ?_; refine JD ?_
  exact X1 ⟨_, XI 100 (cs := [ai 0, ai 0, ai 0, .d (.v (.string (X5 []))), ani]) (cs' := [ai 0, ai 0, ai 0, .d (.v (.string (X5 []))), .d (.sl 5 [])]) rfl ⟨AVal.le_refl _, AVal.le_refl _, AVal.le_refl _, AVal.le_refl _, AVal.le_nil 5, trivial⟩ rfl, ⟨⟨100, 0, _, rfl, rfl, .inr ⟨5, _, rfl, rfl, rfl, rfl⟩⟩, rfl, rfl, trivial⟩, X3 _⟩
 ·have h2 : (b.length : Int) < a := by omega
  refine X0 ?_; refine JR ?_; refine Zw (γ := 100) ?_; refine Z0 ?_; refine Z0 ?_; refine JD ?_; refine X0 ?_; refine X0 ?_; refine JR ?_; refine Z1 ?_; refine Z8 ?_; refine Z1 ?_; refine Z1 ?_; refine Z1 ?_
  refine Zd ?_; refine Zs ?_; refine Zq ?_; refine JD ?_; refine JT ?_; refine X0 ?_; refine JR ?_; refine Zx ?_; refine Zy ?_; refine Z0 ?_; refine Z0 ?_; refine JD ?_
  exact X1 ⟨_, XI 100 (cs := [ai 0, ai 0, ai 0, .d (.v (.string (X5 []))), ani]) (cs' := [ai 0, ai 0, ai 0, .d (.v (.string (X5 []))), .d (.sl 5 [])]) rfl ⟨AVal.le_refl _, AVal.le_refl _, AVal.le_refl _, AVal.le_refl _, AVal.le_nil 5, trivial⟩ rfl, ⟨⟨100, 0, _, rfl, rfl, .inr ⟨5, _, rfl, rfl, rfl, rfl⟩⟩, rfl, rfl, trivial⟩, X3 _⟩
theorem Xds (b : List UInt8) (hb : b.length ≤ 281474976710656) (a : Int) : Con Tryz.prog 217 [] [.d (Xa b), ai a, ai 0, ai (-1)] [] (.tup [Xv (Yf b a).1, ai (Yf b a).2.1, ai (Yf b a).2.2]) := by
 rw [Xhq]
 by_cases h : a < 0 ∨ (b.length : Int) < a
 ·rw [if_pos h]; exact Xcp b a h
 ·rw [if_neg h]
  obtain ⟨q, rfl⟩ : ∃ q : Nat, a = q := ⟨a.toNat, by omega⟩
  exact X9w b hb 8 q (by omega) (by omega)
theorem Xfr (b : List UInt8) (hb : b.length ≤ 281474976710656) (a : Int) : Con Tryz.prog 179 [] [.d (Xa b), ai a] [] (.tup [Xv (Yf b a).1, ai (Yf b a).2.1, ai (Yf b a).2.2]) := by
 refine X9 (xs := [Xv (Yf b a).1, ai (Yf b a).2.1, ai (Yf b a).2.2]) Tryz.func179 rfl Tryz.ntmps179 rfl rfl rfl (fun E => ?_)
 have h := Xds b hb a
 generalize Yf b a = u at *
 obtain ⟨⟨k, n, d, s, l⟩, i, e⟩ := u
 simp only [Xv] at h
 refine X0 ?_; refine JR ?_; refine Zw (γ := 100) ?_; refine Z0 ?_; refine Z0 ?_; refine JD ?_; refine X0 ?_; refine JR ?_; refine Z1 ?_; refine Z1 ?_; refine Z9 (hcon := h) ?_; refine ZF ?_; refine ZF ?_
 refine ZF ?_; refine Zy ?_; refine Z0 ?_; refine Z0 ?_; refine JD ?_
 exact X1 ⟨_, St.le_refl _, ⟨⟨100, 0, _, rfl, rfl, .inr ⟨5, _, rfl, rfl, rfl, rfl⟩⟩, rfl, rfl, trivial⟩, X3 _⟩
end Go.Fw
namespace Go.Fw
open Go Go.Proofs
set_option maxRecDepth 100000
set_option linter.unusedVariables false
set_option linter.unusedSimpArgs false
abbrev X0U (b : List UInt8) (a e : Int) : AVal := .agg [.d (Xa b), ai a, ai e]
theorem XfO (b : List UInt8) (a e limit : Int) (hb : b.length ≤ 281474976710656) (ha : e = 0 → 0 ≤ a ∧ a ≤ b.length) : Con Tryz.prog 214 [] [X0U b a e, ai limit] [] (.tup [X0U b (rkI b a e limit).2.1 (rkI b a e limit).2.2, ai (rkI b a e limit).1]) := by
 refine X9 (xs := [X0U b (rkI b a e limit).2.1 (rkI b a e limit).2.2, ai (rkI b a e limit).1]) Tryz.func214 rfl Tryz.ntmps214 rfl rfl rfl (fun E => ?_)
 have hlm : (b.map X6).length = b.length := by simp
 unfold rkI
 by_cases he : e = 0
 case neg =>
  rw [if_pos he]
  refine X0 ?_; refine JR ?_; refine ZA (γ := 100) ?_; refine Zw (γ := 101) ?_; refine Z0 ?_; refine JD ?_; refine X0 ?_; refine X0 ?_; refine JR ?_; refine ZB ?_; refine ZC ?_; refine Zv ?_; refine JD ?_
  refine JT ?_; refine X0 ?_; refine JR ?_; refine ZL ?_; refine Zy ?_; refine Z0 ?_; refine JD ?_
  exact X1 ⟨_, St.le_refl _, ⟨⟨101, 0, _, rfl, rfl, .inr ⟨3, _, rfl, rfl, rfl, rfl⟩⟩, rfl, trivial⟩, X3 _⟩
 subst he
 rw [if_neg (by simp)]
 obtain ⟨m, rfl⟩ : ∃ m : Nat, a = m := ⟨a.toNat, by have := ha rfl; omega⟩
 rw [Int.toNat_natCast]
 by_cases h1 : b.length ≤ m
 ·rw [show rkS b m 0 limit = (0, (m : Int), 3) by unfold rkS; rw [if_neg (by simp), if_pos h1]]
  have h1' : ((b.map X6).length : Int) ≤ m := by omega
  refine X0 ?_; refine JR ?_; refine ZA (γ := 100) ?_; refine Zw (γ := 101) ?_; refine Z0 ?_; refine JD ?_; refine X0 ?_; refine X0 ?_; refine JR ?_; refine ZB ?_; refine ZC ?_; refine Zv ?_; refine JD ?_
  refine JF ?_; refine X2 ?_; refine X0 ?_; refine X0 ?_; refine JR ?_; refine ZB ?_; refine ZC ?_; refine ZB ?_; refine ZC ?_; refine Zd ?_; refine Z2 ?_; refine JD ?_; refine JT ?_; refine X0 ?_
  refine JR ?_; refine ZB ?_; refine Zy ?_; refine JD ?_; refine X0 ?_; refine JR ?_; refine ZL ?_; refine Zy ?_; refine Z0 ?_; refine JD ?_
  exact X1 ⟨_, St.le_refl _, ⟨⟨101, 0, _, rfl, rfl, .inr ⟨3, _, rfl, rfl, rfl, rfl⟩⟩, rfl, trivial⟩, X3 _⟩
 have h1' : ¬ ((b.map X6).length : Int) ≤ m := by omega
 obtain ⟨c, hc⟩ := Xu (l := b) (k := m) (by omega)
 have hrk : rkS b m 0 limit = if ((c.toNat : Nat) : Int) < 1 ∨ limit < ((c.toNat : Nat) : Int) then (0, (m : Int), 2) else (((c.toNat : Nat) : Int), (m : Int) + 1, 0) := by
  unfold rkS; rw [if_neg (by simp), if_neg h1, hc, Option.getD_some]
 have hxm : (b.map X6)[m]? = some (X6 c) := XS hc
 by_cases h2 : ((c.toNat : Nat) : Int) < 1
 ·rw [hrk, if_pos (.inl h2)]
  repeat first | refine X0 ?_ | (refine JR ?_; (repeat first | refine Z1 ?_ | refine Z0 ?_ | refine ZB ?_ | refine ZC ?_ | refine ZL ?_ | refine Zk ?_ | refine Zd ?_ | refine Z8 ?_ | refine Z2 ?_ | refine Zv ?_ | refine Zw (γ := 101) ?_ | refine ZA (γ := 100) ?_ | refine Zy ?_ | refine Zn ?_ | refine Zj ?_ | refine ZY ?_ | refine Zo ?_); refine JD ?_) | refine JT ?_ | refine JF ?_ | refine X2 ?_
  exact X1 ⟨_, St.le_refl _, ⟨⟨101, 0, _, rfl, rfl, .inr ⟨3, _, rfl, rfl, rfl, rfl⟩⟩, rfl, trivial⟩, X3 _⟩
 by_cases h3 : limit < ((c.toNat : Nat) : Int)
 ·rw [hrk, if_pos (.inr h3)]
  repeat first | refine X0 ?_ | (refine JR ?_; (repeat first | refine Z1 ?_ | refine Z0 ?_ | refine ZB ?_ | refine ZC ?_ | refine ZL ?_ | refine Zk ?_ | refine Zd ?_ | refine Z8 ?_ | refine Zs ?_ | refine Z2 ?_ | refine Zv ?_ | refine Zw (γ := 101) ?_ | refine ZA (γ := 100) ?_ | refine Zy ?_ | refine Zq ?_ | refine Zj ?_ | refine ZY ?_); refine JD ?_) | refine JT ?_ | refine JF ?_ | refine X2 ?_
  exact X1 ⟨_, St.le_refl _, ⟨⟨101, 0, _, rfl, rfl, .inr ⟨3, _, rfl, rfl, rfl, rfl⟩⟩, rfl, trivial⟩, X3 _⟩
 rw [hrk, if_neg (by omega)]
 repeat first | refine X0 ?_ | (refine JR ?_; (repeat first | refine Z1 ?_ | refine Z0 ?_ | refine ZB ?_ | refine ZC ?_ | refine ZL ?_ | refine Zk ?_ | refine Zd ?_ | refine Z8 ?_ | refine Zs ?_ | refine Z2 ?_ | refine Zv ?_ | refine Zb ?_ | refine Zw (γ := 101) ?_ | refine ZA (γ := 100) ?_ | refine Zy ?_ | refine Zq ?_ | refine Zj ?_ | refine ZY ?_); refine JD ?_) | refine JF ?_ | refine X2 ?_
 exact X1 ⟨_, St.le_refl _, ⟨⟨101, 0, _, rfl, rfl, .inr ⟨3, _, rfl, rfl, rfl, rfl⟩⟩, rfl, trivial⟩, X3 _⟩
theorem X3R (b : List UInt8) (a e : Int) (hb : b.length ≤ 281474976710656) : Con Tryz.prog 215 [] [X0U b a e] [] (.tup [X0U b (rsS b a e).2.1 (rsS b a e).2.2, XD (rsS b a e).1]) := by
 refine X9 (xs := [X0U b (rsS b a e).2.1 (rsS b a e).2.2, XD (rsS b a e).1]) Tryz.func215 rfl Tryz.ntmps215 rfl rfl rfl (fun E => ?_)
 have hu := X6w b a 20 hb
 unfold rsS
 generalize Y9 b a 20 = u at *
 obtain ⟨u1, u2, u3⟩ := u
 by_cases he : e = 0
 ·rw [if_neg (by simpa using he)]
  repeat first | refine X0 ?_ | (refine JR ?_; (repeat first | refine Z1 ?_ | refine Z0 ?_ | refine ZB ?_ | refine ZC ?_ | refine ZL ?_ | refine Zv ?_ | refine Zw (γ := 101) ?_ | refine ZA (γ := 100) ?_ | refine Zy ?_ | refine ZF ?_ | refine Z9 (hcon := hu) ?_); refine JD ?_) | refine JF ?_ | refine X2 ?_
  exact X1 ⟨_, St.le_refl _, ⟨⟨101, 0, _, rfl, rfl, .inr ⟨3, _, rfl, rfl, rfl, rfl⟩⟩, rfl, trivial⟩, X3 _⟩
 ·rw [if_pos he]
  refine X0 ?_; refine JR ?_; refine ZA (γ := 100) ?_; refine Zw (γ := 101) ?_; refine Z0 ?_; refine JD ?_; refine X0 ?_; refine X0 ?_; refine JR ?_; refine ZB ?_; refine ZC ?_; refine Zv ?_; refine JD ?_
  refine JT ?_; refine X0 ?_; refine JR ?_; refine ZL ?_; refine Zy ?_; refine Z0 ?_; refine JD ?_
  exact X1 ⟨_, St.le_refl _, ⟨⟨101, 0, _, rfl, rfl, .inr ⟨3, _, rfl, rfl, rfl, rfl⟩⟩, rfl, trivial⟩, X3 _⟩
theorem XbN (b : List UInt8) (a e : Int) (hb : b.length ≤ 281474976710656) (ha : e = 0 → 0 ≤ a ∧ a ≤ b.length) : Con Tryz.prog 177 [] [X0U b a e] [] (.tup [X0U b (U5 b a e).2.1 (U5 b a e).2.2, XW (U5 b a e).1]) := by
 refine X9 (xs := [X0U b (U5 b a e).2.1 (U5 b a e).2.2, XW (U5 b a e).1]) Tryz.func177 rfl Tryz.ntmps177 rfl rfl rfl (fun E => ?_)
 have hk := XfO b a e 7 hb ha
 unfold U5
 generalize rkI b a e 7 = k at *
 obtain ⟨kd, a1, e1⟩ := k
 simp only at hk ⊢
 have h1 := X3R b a1 e1 hb
 generalize rsS b a1 e1 = u1 at *
 obtain ⟨s1, a2, e2⟩ := u1
 simp only at h1 ⊢
 have h2 := X3R b a2 e2 hb
 generalize rsS b a2 e2 = u2 at *
 obtain ⟨s2, a3, e3⟩ := u2
 simp only at h2 ⊢
 have h3 := X3R b a3 e3 hb
 generalize rsS b a3 e3 = u3 at *
 obtain ⟨s3, a4, e4⟩ := u3
 simp only at h3 ⊢
 have h4 := X3R b a4 e4 hb
 generalize rsS b a4 e4 = u4 at *
 obtain ⟨s4, a5, e5⟩ := u4
 simp only [XW] at h4 ⊢
 by_cases he : e5 = 0
 ·subst he
  have hi := X1O b a5 hb
  rw [X4q]
  generalize Xq b a5 = u5 at *
  obtain ⟨n, a6, e6⟩ := u5
  repeat first | refine X0 ?_ | (refine JR ?_; (repeat first | refine Z1 ?_ | refine Z0 ?_ | refine ZB ?_ | refine ZC ?_ | refine ZL ?_ | refine Zl ?_ | refine Zw (γ := 101) ?_ | refine Zw (γ := 102) ?_ | refine Zw (γ := 103) ?_ | refine ZA (γ := 100) ?_ | refine Zy ?_ | refine ZF ?_ | refine Z9 (hcon := hk) ?_ | refine Z9 (hcon := h1) ?_ | refine Z9 (hcon := h2) ?_ | refine Z9 (hcon := h3) ?_ | refine Z9 (hcon := h4) ?_ | refine Z9 (hcon := hi) ?_); refine JD ?_) | refine JT ?_
  exact X1 ⟨_, St.le_refl _, ⟨⟨101, 0, _, rfl, rfl, .inr ⟨3, _, rfl, rfl, rfl, rfl⟩⟩, ⟨102, 0, _, rfl, rfl, .inr ⟨6, _, rfl, rfl, rfl, rfl⟩⟩, trivial⟩, X3 _⟩
 ·rw [X7a he]
  repeat first | refine X0 ?_ | (refine JR ?_; (repeat first | refine Z1 ?_ | refine Z0 ?_ | refine ZB ?_ | refine ZC ?_ | refine ZL ?_ | refine Zl ?_ | refine Zw (γ := 101) ?_ | refine Zw (γ := 102) ?_ | refine Zw (γ := 103) ?_ | refine ZA (γ := 100) ?_ | refine Zy ?_ | refine ZF ?_ | refine Z9 (hcon := hk) ?_ | refine Z9 (hcon := h1) ?_ | refine Z9 (hcon := h2) ?_ | refine Z9 (hcon := h3) ?_ | refine Z9 (hcon := h4) ?_); refine JD ?_) | refine JF ?_ | refine X2 ?_
  exact X1 ⟨_, St.le_refl _, ⟨⟨101, 0, _, rfl, rfl, .inr ⟨3, _, rfl, rfl, rfl, rfl⟩⟩, ⟨102, 0, _, rfl, rfl, .inr ⟨6, _, rfl, rfl, rfl, rfl⟩⟩, trivial⟩, X3 _⟩
end Go.Fw

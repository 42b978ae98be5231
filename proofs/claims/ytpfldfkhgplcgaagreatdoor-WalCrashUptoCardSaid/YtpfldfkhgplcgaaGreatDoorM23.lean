/- Reading values: value, all. -/
import Derived.Test.YtpfldfkhgplcgaaGreatDoorM22
set_option maxHeartbeats 16000000
namespace Go.Fw
open Go Go.Proofs
set_option maxRecDepth 100000
set_option linter.unusedVariables false
set_option linter.unusedSimpArgs false
theorem X65 (b : List UInt8) (m a : Nat) (want : Int) (gl gp : Nat → Int → Val × Int × Int) (hm : m ≤ 8) (ha : a ≤ b.length) (hb : b.length ≤ 281474976710656)
  (hgl : ∀ i q : Nat, q ≤ b.length → UN b (gl i q).2) (hgp : ∀ i q : Nat, q ≤ b.length → UN b (gp i q).2)
  (hl : want = 0 → m ≠ 0 → ∀ i q : Nat, q ≤ b.length → X0t b q (8 - m + 1) 0 (gl i q)) (hp : want = 0 → ∀ i q : Nat, q ≤ b.length → X0t b q (8 - m) (5 + (i % 2 : Nat)) (gp i q)) (hw : want ≠ 0 → want = 5 ∨ want = 6) :
  X0t b a (8 - m) want (Uw gl gp m b a want) := by
 have hk := Xi8 b a m want hm ha hb
 by_cases hbad : (Vh b a m want).2.2 = 0
 case neg =>
  rw [Xe6 hbad]
  refine Xa (xs := [Xo zV]) Tryz.func157 rfl Tryz.ntmps157 rfl rfl rfl (fun E => ?_)
  generalize Vh b a m want = u at *
  refine Qka ?_; refine JD ?_; refine QHb ?_; refine Z9 (hcon := hk) ?_; refine Zx ?_; refine Qrd ?_; refine Qg ?_; refine Z01 ?_; refine QHa ?_; refine Zv ?_; refine QPb ?_; refine Zx ?_; refine QWa ?_; exact Qsd
 obtain ⟨k, hkk, hlt, hk8, hkm, hkw, hG⟩ := Xdb ha hbad
 rw [hkk] at hk
 clear hbad hkk
 replace hG := hG gl gp
 generalize hR : Uw gl gp m b a want = R at *
 simp only at hk
 by_cases h8 : k = 8
 ·subst h8
  have hw0 : want = 0 := Classical.byContradiction fun h => by
   have h1 := hkw h
   rcases hw h with h2 | h2 <;> omega
  exact Xdu b m a want gl gp R hm hlt hb hgl (hl hw0 (hkm rfl)) hk hG
 by_cases h7 : k = 7
 ·subst h7
  have hw0 : want = 0 := Classical.byContradiction fun h => by
   have h1 := hkw h
   rcases hw h with h2 | h2 <;> omega
  exact XhZ b m a want gl gp R hm hlt hb hgp (hp hw0) hk hG
 refine Xa (xs := [Xo R.1]) Tryz.func157 rfl Tryz.ntmps157 rfl rfl rfl (fun E => ?_)
 by_cases h0 : k = 0
 ·subst h0
  rw [show ((0 : Nat) : Int) = 0 from rfl] at hk hG
  rw [show YJ gl gp b (a + 1) 0 = (.mk 0 0 0 [] [], (a : Int) + 1, 0) by simp [YJ]] at hG
  have hval := VR (.mk 0 0 0 [] [])
  simp only [Xo] at hval
  have hv : X8 8 (.mk 0 0 0 [] []) = true := by rw [X8]; simp
  rw [hv] at hval
  obtain rfl : R = (.mk 0 0 0 [] [], (a : Int) + 1, 0) := by rw [hG]; simp [YN, hv]
  repeat first | refine X0 ?_ | (refine JR ?_; (repeat first | refine Z1 ?_ | refine Z0 ?_ | refine Z01 ?_ | refine ZB ?_ | refine ZC ?_ | refine ZL ?_ | refine Zl ?_ | refine Zv ?_ | refine Zu ?_ | refine Zw (γ := 100) ?_ | refine Zw (γ := 101) ?_ | refine Zy ?_ | refine Zx ?_ | refine Zn ?_ | refine Z9 (hcon := hk) ?_ | refine Z9 (hcon := hval) ?_); refine JD ?_) | refine JF ?_ | refine X5 ?_ | refine X4 ?_
  exact Qsd
 by_cases h1 : k = 1
 ·subst h1
  rw [show ((1 : Nat) : Int) = 1 from rfl] at hk hG
  have hn := X2N b (a + 1) 0 hb
  rw [if_pos rfl, if_pos rfl] at hn
  rw [show YJ gl gp b (a + 1) 1 = (.mk 1 (XO b (a + 1)).1 0 [] [], (XO b (a + 1)).2.1, (XO b (a + 1)).2.2) by simp [YJ]] at hG
  generalize XO b (a + 1) = u at *
  obtain ⟨n, a2, e2⟩ := u
  simp only at hn hG
  by_cases he : e2 = 0
  ·subst he
   have hval := VR (.mk 1 n 0 [] [])
   simp only [Xo] at hval
   cases hv : X8 8 (.mk 1 n 0 [] []) with
   | false =>
    rw [hv] at hval
    obtain rfl : R = ((.mk 1 n 0 [] []), a2, 2) := by rw [hG]; simp [YN, hv]
    repeat first | refine X0 ?_ | (refine JR ?_; (repeat first | refine Z1 ?_ | refine Z0 ?_ | refine Z01 ?_ | refine ZB ?_ | refine ZC ?_ | refine ZL ?_ | refine Zl ?_ | refine Zv ?_ | refine Zu ?_ | refine Zw (γ := 100) ?_ | refine Zw (γ := 101) ?_ | refine Zy ?_ | refine Zx ?_ | refine Zn ?_ | refine Z9 (hcon := hk) ?_ | refine Z9 (hcon := hn) ?_ | refine Z9 (hcon := hval) ?_); refine JD ?_) | refine JT ?_ | refine JF ?_ | refine X5 ?_ | refine X4 ?_
    exact Qtd
   | true =>
    rw [hv] at hval
    obtain rfl : R = ((.mk 1 n 0 [] []), a2, 0) := by rw [hG]; simp [YN, hv]
    repeat first | refine X0 ?_ | (refine JR ?_; (repeat first | refine Z1 ?_ | refine Z0 ?_ | refine Z01 ?_ | refine ZB ?_ | refine ZC ?_ | refine ZL ?_ | refine Zl ?_ | refine Zv ?_ | refine Zu ?_ | refine Zw (γ := 100) ?_ | refine Zw (γ := 101) ?_ | refine Zy ?_ | refine Zx ?_ | refine Zn ?_ | refine Z9 (hcon := hk) ?_ | refine Z9 (hcon := hn) ?_ | refine Z9 (hcon := hval) ?_); refine JD ?_) | refine JT ?_ | refine JF ?_ | refine X5 ?_ | refine X4 ?_
    exact Qtd
  ·obtain rfl : R = ((.mk 1 n 0 [] []), a2, e2) := by rw [hG]; simp [YN, he]
   repeat first | refine X0 ?_ | (refine JR ?_; (repeat first | refine Z1 ?_ | refine Z0 ?_ | refine Z01 ?_ | refine ZB ?_ | refine ZC ?_ | refine ZL ?_ | refine Zl ?_ | refine Zv ?_ | refine Zw (γ := 100) ?_ | refine Zw (γ := 101) ?_ | refine Zy ?_ | refine Zx ?_ | refine Zq ?_ | refine Zo ?_ | refine Z9 (hcon := hk) ?_ | refine Z9 (hcon := hn) ?_); refine JD ?_) | refine JT ?_ | refine JF ?_ | refine X5 ?_ | refine X4 ?_
   exact Qtd
 by_cases h2 : k = 2
 ·subst h2
  rw [show ((2 : Nat) : Int) = 2 from rfl] at hk hG
  have hn := X2N b (a + 1) 0 hb
  rw [if_pos rfl, if_pos rfl] at hn
  rw [show YJ gl gp b (a + 1) 2 = (.mk 2 (XO b (a + 1)).1 0 [] [], (XO b (a + 1)).2.1, (XO b (a + 1)).2.2) by simp [YJ]] at hG
  generalize XO b (a + 1) = u at *
  obtain ⟨n, a2, e2⟩ := u
  simp only at hn hG
  by_cases he : e2 = 0
  ·subst he
   have hval := VR (.mk 2 n 0 [] [])
   simp only [Xo] at hval
   cases hv : X8 8 (.mk 2 n 0 [] []) with
   | false =>
    rw [hv] at hval
    obtain rfl : R = ((.mk 2 n 0 [] []), a2, 2) := by rw [hG]; simp [YN, hv]
    repeat first | refine X0 ?_ | (refine JR ?_; (repeat first | refine Z1 ?_ | refine Z0 ?_ | refine Z01 ?_ | refine ZB ?_ | refine ZC ?_ | refine ZL ?_ | refine Zl ?_ | refine Zv ?_ | refine Zu ?_ | refine Zw (γ := 100) ?_ | refine Zw (γ := 101) ?_ | refine Zy ?_ | refine Zx ?_ | refine Zn ?_ | refine Z9 (hcon := hk) ?_ | refine Z9 (hcon := hn) ?_ | refine Z9 (hcon := hval) ?_); refine JD ?_) | refine JT ?_ | refine JF ?_ | refine X5 ?_ | refine X4 ?_
    exact Qud
   | true =>
    rw [hv] at hval
    obtain rfl : R = ((.mk 2 n 0 [] []), a2, 0) := by rw [hG]; simp [YN, hv]
    repeat first | refine X0 ?_ | (refine JR ?_; (repeat first | refine Z1 ?_ | refine Z0 ?_ | refine Z01 ?_ | refine ZB ?_ | refine ZC ?_ | refine ZL ?_ | refine Zl ?_ | refine Zv ?_ | refine Zu ?_ | refine Zw (γ := 100) ?_ | refine Zw (γ := 101) ?_ | refine Zy ?_ | refine Zx ?_ | refine Zn ?_ | refine Z9 (hcon := hk) ?_ | refine Z9 (hcon := hn) ?_ | refine Z9 (hcon := hval) ?_); refine JD ?_) | refine JT ?_ | refine JF ?_ | refine X5 ?_ | refine X4 ?_
    exact Qud
  ·obtain rfl : R = ((.mk 2 n 0 [] []), a2, e2) := by rw [hG]; simp [YN, he]
   repeat first | refine X0 ?_ | (refine JR ?_; (repeat first | refine Z1 ?_ | refine Z0 ?_ | refine Z01 ?_ | refine ZB ?_ | refine ZC ?_ | refine ZL ?_ | refine Zl ?_ | refine Zv ?_ | refine Zw (γ := 100) ?_ | refine Zw (γ := 101) ?_ | refine Zy ?_ | refine Zx ?_ | refine Zq ?_ | refine Zo ?_ | refine Z9 (hcon := hk) ?_ | refine Z9 (hcon := hn) ?_); refine JD ?_) | refine JT ?_ | refine JF ?_ | refine X5 ?_ | refine X4 ?_
   exact Qud
 by_cases h5 : k = 5
 ·subst h5
  rw [show ((5 : Nat) : Int) = 5 from rfl] at hk hG
  have hn := X2N b (a + 1) 0 hb
  rw [if_pos rfl, if_pos rfl] at hn
  rw [show YJ gl gp b (a + 1) 5 = (.mk 5 (XO b (a + 1)).1 0 [] [], (XO b (a + 1)).2.1, (XO b (a + 1)).2.2) by simp [YJ]] at hG
  generalize XO b (a + 1) = u at *
  obtain ⟨n, a2, e2⟩ := u
  simp only at hn hG
  by_cases he : e2 = 0
  ·subst he
   have hval := VR (.mk 5 n 0 [] [])
   simp only [Xo] at hval
   cases hv : X8 8 (.mk 5 n 0 [] []) with
   | false =>
    rw [hv] at hval
    obtain rfl : R = ((.mk 5 n 0 [] []), a2, 2) := by rw [hG]; simp [YN, hv]
    repeat first | refine X0 ?_ | (refine JR ?_; (repeat first | refine Z1 ?_ | refine Z0 ?_ | refine Z01 ?_ | refine ZB ?_ | refine ZC ?_ | refine ZL ?_ | refine Zl ?_ | refine Zv ?_ | refine Zu ?_ | refine Zw (γ := 100) ?_ | refine Zw (γ := 101) ?_ | refine Zy ?_ | refine Zx ?_ | refine Zn ?_ | refine Z9 (hcon := hk) ?_ | refine Z9 (hcon := hn) ?_ | refine Z9 (hcon := hval) ?_); refine JD ?_) | refine JT ?_ | refine JF ?_ | refine X5 ?_ | refine X4 ?_
    exact Qvd
   | true =>
    rw [hv] at hval
    obtain rfl : R = ((.mk 5 n 0 [] []), a2, 0) := by rw [hG]; simp [YN, hv]
    repeat first | refine X0 ?_ | (refine JR ?_; (repeat first | refine Z1 ?_ | refine Z0 ?_ | refine Z01 ?_ | refine ZB ?_ | refine ZC ?_ | refine ZL ?_ | refine Zl ?_ | refine Zv ?_ | refine Zu ?_ | refine Zw (γ := 100) ?_ | refine Zw (γ := 101) ?_ | refine Zy ?_ | refine Zx ?_ | refine Zn ?_ | refine Z9 (hcon := hk) ?_ | refine Z9 (hcon := hn) ?_ | refine Z9 (hcon := hval) ?_); refine JD ?_) | refine JT ?_ | refine JF ?_ | refine X5 ?_ | refine X4 ?_
    exact Qvd
  ·obtain rfl : R = ((.mk 5 n 0 [] []), a2, e2) := by rw [hG]; simp [YN, he]
   repeat first | refine X0 ?_ | (refine JR ?_; (repeat first | refine Z1 ?_ | refine Z0 ?_ | refine Z01 ?_ | refine ZB ?_ | refine ZC ?_ | refine ZL ?_ | refine Zl ?_ | refine Zv ?_ | refine Zw (γ := 100) ?_ | refine Zw (γ := 101) ?_ | refine Zy ?_ | refine Zx ?_ | refine Zq ?_ | refine Zo ?_ | refine Z9 (hcon := hk) ?_ | refine Z9 (hcon := hn) ?_); refine JD ?_) | refine JT ?_ | refine JF ?_ | refine X5 ?_ | refine X4 ?_
   exact Qvd
 by_cases h6 : k = 6
 ·subst h6
  rw [show ((6 : Nat) : Int) = 6 from rfl] at hk hG
  have hn := X2N b (a + 1) 0 hb
  rw [if_pos rfl, if_pos rfl] at hn
  rw [show YJ gl gp b (a + 1) 6 = (.mk 6 (XO b (a + 1)).1 0 [] [], (XO b (a + 1)).2.1, (XO b (a + 1)).2.2) by simp [YJ]] at hG
  generalize XO b (a + 1) = u at *
  obtain ⟨n, a2, e2⟩ := u
  simp only at hn hG
  by_cases he : e2 = 0
  ·subst he
   have hval := VR (.mk 6 n 0 [] [])
   simp only [Xo] at hval
   cases hv : X8 8 (.mk 6 n 0 [] []) with
   | false =>
    rw [hv] at hval
    obtain rfl : R = ((.mk 6 n 0 [] []), a2, 2) := by rw [hG]; simp [YN, hv]
    repeat first | refine X0 ?_ | (refine JR ?_; (repeat first | refine Z1 ?_ | refine Z0 ?_ | refine Z01 ?_ | refine ZB ?_ | refine ZC ?_ | refine ZL ?_ | refine Zl ?_ | refine Zv ?_ | refine Zu ?_ | refine Zw (γ := 100) ?_ | refine Zw (γ := 101) ?_ | refine Zy ?_ | refine Zx ?_ | refine Zn ?_ | refine Z9 (hcon := hk) ?_ | refine Z9 (hcon := hn) ?_ | refine Z9 (hcon := hval) ?_); refine JD ?_) | refine JT ?_ | refine JF ?_ | refine X5 ?_ | refine X4 ?_
    exact Qwd
   | true =>
    rw [hv] at hval
    obtain rfl : R = ((.mk 6 n 0 [] []), a2, 0) := by rw [hG]; simp [YN, hv]
    repeat first | refine X0 ?_ | (refine JR ?_; (repeat first | refine Z1 ?_ | refine Z0 ?_ | refine Z01 ?_ | refine ZB ?_ | refine ZC ?_ | refine ZL ?_ | refine Zl ?_ | refine Zv ?_ | refine Zu ?_ | refine Zw (γ := 100) ?_ | refine Zw (γ := 101) ?_ | refine Zy ?_ | refine Zx ?_ | refine Zn ?_ | refine Z9 (hcon := hk) ?_ | refine Z9 (hcon := hn) ?_ | refine Z9 (hcon := hval) ?_); refine JD ?_) | refine JT ?_ | refine JF ?_ | refine X5 ?_ | refine X4 ?_
    exact Qwd
  ·obtain rfl : R = ((.mk 6 n 0 [] []), a2, e2) := by rw [hG]; simp [YN, he]
   repeat first | refine X0 ?_ | (refine JR ?_; (repeat first | refine Z1 ?_ | refine Z0 ?_ | refine Z01 ?_ | refine ZB ?_ | refine ZC ?_ | refine ZL ?_ | refine Zl ?_ | refine Zv ?_ | refine Zw (γ := 100) ?_ | refine Zw (γ := 101) ?_ | refine Zy ?_ | refine Zx ?_ | refine Zq ?_ | refine Zo ?_ | refine Z9 (hcon := hk) ?_ | refine Z9 (hcon := hn) ?_); refine JD ?_) | refine JT ?_ | refine JF ?_ | refine X5 ?_ | refine X4 ?_
   exact Qwd
 by_cases h3 : k = 3
 ·subst h3
  rw [show ((3 : Nat) : Int) = 3 from rfl] at hk hG
  have hn := X2N b (a + 1) 0 hb
  rw [if_pos rfl, if_pos rfl] at hn
  have hz := @XfH b (a + 1)
  have hc : YJ gl gp b (a + 1) 3 = if (XO b (a + 1)).2.2 ≠ 0 then (.mk 3 0 0 [] [], (XO b (a + 1)).2.1, (XO b (a + 1)).2.2) else (.mk 3 (XO b (a + 1)).1 (XO b (XO b (a + 1)).2.1).1 [] [], (XO b (XO b (a + 1)).2.1).2.1, (XO b (XO b (a + 1)).2.1).2.2) := by simp [YJ]
  generalize XO b (a + 1) = u at *
  obtain ⟨n, a2, e2⟩ := u
  simp only at hn hz hc
  have hn2 := X2N b a2 e2 hb
  by_cases he2 : e2 = 0
  ·subst he2
   rw [if_pos rfl, if_pos rfl] at hn2
   rw [if_neg (by simp)] at hc
   rw [hc] at hG
   generalize XO b a2 = u at *
   obtain ⟨d, a3, e3⟩ := u
   simp only at hn2 hG
   by_cases he : e3 = 0
   ·subst he
    have hval := VR (.mk 3 n d [] [])
    simp only [Xo] at hval
    cases hv : X8 8 (.mk 3 n d [] []) with
    | false =>
     rw [hv] at hval
     obtain rfl : R = ((.mk 3 n d [] []), a3, 2) := by rw [hG]; simp [YN, hv]
     repeat first | refine X0 ?_ | (refine JR ?_; (repeat first | refine Z1 ?_ | refine Z0 ?_ | refine Z01 ?_ | refine ZB ?_ | refine ZC ?_ | refine ZL ?_ | refine Zl ?_ | refine Zv ?_ | refine Zu ?_ | refine Zw (γ := 100) ?_ | refine Zw (γ := 101) ?_ | refine Zy ?_ | refine Zx ?_ | refine Zn ?_ | refine Z9 (hcon := hk) ?_ | refine Z9 (hcon := hn) ?_ | refine Z9 (hcon := hn2) ?_ | refine Z9 (hcon := hval) ?_); refine JD ?_) | refine JT ?_ | refine JF ?_ | refine X5 ?_ | refine X4 ?_
     exact Qxd
    | true =>
     rw [hv] at hval
     obtain rfl : R = ((.mk 3 n d [] []), a3, 0) := by rw [hG]; simp [YN, hv]
     repeat first | refine X0 ?_ | (refine JR ?_; (repeat first | refine Z1 ?_ | refine Z0 ?_ | refine Z01 ?_ | refine ZB ?_ | refine ZC ?_ | refine ZL ?_ | refine Zl ?_ | refine Zv ?_ | refine Zu ?_ | refine Zw (γ := 100) ?_ | refine Zw (γ := 101) ?_ | refine Zy ?_ | refine Zx ?_ | refine Zn ?_ | refine Z9 (hcon := hk) ?_ | refine Z9 (hcon := hn) ?_ | refine Z9 (hcon := hn2) ?_ | refine Z9 (hcon := hval) ?_); refine JD ?_) | refine JT ?_ | refine JF ?_ | refine X5 ?_ | refine X4 ?_
     exact Qxd
   ·obtain rfl : R = ((.mk 3 n d [] []), a3, e3) := by rw [hG]; simp [YN, he]
    repeat first | refine X0 ?_ | (refine JR ?_; (repeat first | refine Z1 ?_ | refine Z0 ?_ | refine Z01 ?_ | refine ZB ?_ | refine ZC ?_ | refine ZL ?_ | refine Zl ?_ | refine Zv ?_ | refine Zw (γ := 100) ?_ | refine Zw (γ := 101) ?_ | refine Zy ?_ | refine Zx ?_ | refine Zq ?_ | refine Zo ?_ | refine Z9 (hcon := hk) ?_ | refine Z9 (hcon := hn) ?_ | refine Z9 (hcon := hn2) ?_); refine JD ?_) | refine JT ?_ | refine JF ?_ | refine X5 ?_ | refine X4 ?_
    exact Qxd
  ·rw [if_neg he2, if_neg he2] at hn2
   rw [if_pos he2] at hc
   rw [hc] at hG
   obtain rfl := hz he2
   obtain rfl : R = (.mk 3 0 0 [] [], a2, e2) := by rw [hG]; simp [YN, he2]
   repeat first | refine X0 ?_ | (refine JR ?_; (repeat first | refine Z1 ?_ | refine Z0 ?_ | refine Z01 ?_ | refine ZB ?_ | refine ZC ?_ | refine ZL ?_ | refine Zl ?_ | refine Zv ?_ | refine Zw (γ := 100) ?_ | refine Zw (γ := 101) ?_ | refine Zy ?_ | refine Zx ?_ | refine Zq ?_ | refine Zo ?_ | refine Z9 (hcon := hk) ?_ | refine Z9 (hcon := hn) ?_ | refine Z9 (hcon := hn2) ?_); refine JD ?_) | refine JT ?_ | refine JF ?_ | refine X5 ?_ | refine X4 ?_
   exact X1 ⟨_, XJ 100 (cs := [ai 3, ai 0, ai 0, .d (.v (.string (X7 []))), ani]) (cs' := [ai 3, ai 0, ai 0, .d (.v (.string (X7 []))), .d (.sl 5 [])]) rfl ⟨AVal.le_refl _, AVal.le_refl _, AVal.le_refl _, AVal.le_refl _, AVal.le_nil 5, trivial⟩ rfl, ⟨⟨100, 0, _, rfl, rfl, .inr ⟨5, _, rfl, rfl, rfl, rfl⟩⟩, trivial⟩, Xj ⟨rfl, trivial⟩⟩
 by_cases h4 : k = 4
 ·subst h4
  rw [show ((4 : Nat) : Int) = 4 from rfl] at hk hG
  have hn := Xae b (a + 1) 100 hb
  rw [show YJ gl gp b (a + 1) 4 = (.mk 4 0 0 (U8 b (a + 1) 100).1 [], (U8 b (a + 1) 100).2.1, (U8 b (a + 1) 100).2.2) by simp [YJ]] at hG
  generalize U8 b (a + 1) 100 = u at *
  obtain ⟨s, a2, e2⟩ := u
  simp only at hn hG
  by_cases he : e2 = 0
  ·subst he
   have hval := VR (.mk 4 0 0 s [])
   simp only [Xo] at hval
   cases hv : X8 8 (.mk 4 0 0 s []) with
   | false =>
    rw [hv] at hval
    obtain rfl : R = ((.mk 4 0 0 s []), a2, 2) := by rw [hG]; simp [YN, hv]
    repeat first | refine X0 ?_ | (refine JR ?_; (repeat first | refine Z1 ?_ | refine Z0 ?_ | refine Z01 ?_ | refine ZB ?_ | refine ZC ?_ | refine ZL ?_ | refine Zl ?_ | refine Zv ?_ | refine Zu ?_ | refine Zw (γ := 100) ?_ | refine Zw (γ := 101) ?_ | refine Zy ?_ | refine Zx ?_ | refine ZF ?_ | refine Zn ?_ | refine Z9 (hcon := hk) ?_ | refine Z9 (hcon := hn) ?_ | refine Z9 (hcon := hval) ?_); refine JD ?_) | refine JT ?_ | refine JF ?_ | refine X5 ?_ | refine X4 ?_
    exact Qyd
   | true =>
    rw [hv] at hval
    obtain rfl : R = ((.mk 4 0 0 s []), a2, 0) := by rw [hG]; simp [YN, hv]
    repeat first | refine X0 ?_ | (refine JR ?_; (repeat first | refine Z1 ?_ | refine Z0 ?_ | refine Z01 ?_ | refine ZB ?_ | refine ZC ?_ | refine ZL ?_ | refine Zl ?_ | refine Zv ?_ | refine Zu ?_ | refine Zw (γ := 100) ?_ | refine Zw (γ := 101) ?_ | refine Zy ?_ | refine Zx ?_ | refine ZF ?_ | refine Zn ?_ | refine Z9 (hcon := hk) ?_ | refine Z9 (hcon := hn) ?_ | refine Z9 (hcon := hval) ?_); refine JD ?_) | refine JT ?_ | refine JF ?_ | refine X5 ?_ | refine X4 ?_
    exact Qyd
  ·obtain rfl : R = ((.mk 4 0 0 s []), a2, e2) := by rw [hG]; simp [YN, he]
   repeat first | refine X0 ?_ | (refine JR ?_; (repeat first | refine Z1 ?_ | refine Z0 ?_ | refine Z01 ?_ | refine ZB ?_ | refine ZC ?_ | refine ZL ?_ | refine Zl ?_ | refine Zv ?_ | refine Zw (γ := 100) ?_ | refine Zw (γ := 101) ?_ | refine Zy ?_ | refine Zx ?_ | refine ZF ?_ | refine Zq ?_ | refine Zo ?_ | refine Z9 (hcon := hk) ?_ | refine Z9 (hcon := hn) ?_); refine JD ?_) | refine JT ?_ | refine JF ?_ | refine X5 ?_ | refine X4 ?_
   exact Qyd
 omega
def rkI (b : List UInt8) (a e limit : Int) : Int × Int × Int := if e ≠ 0 then (0, a, e) else rkS b a.toNat 0 limit
def rnS (b : List UInt8) (a e : Int) : Int × Int × Int := if e ≠ 0 then (0, a, e) else Xk b a
def riS (b : List UInt8) (a e : Int) : Int × Int × Int := if e ≠ 0 then (0, a, e) else XO b a
def rsS (b : List UInt8) (a e : Int) : List UInt8 × Int × Int := if e ≠ 0 then ([], a, e) else U8 b a 20
def rvS (b : List UInt8) (a e : Int) : Val × Int × Int := if e ≠ 0 then (zV, a, e) else Uj b a
theorem X6I (b : List UInt8) (a e limit : Int) (hb : b.length ≤ 281474976710656) (ha : e = 0 → 0 ≤ a ∧ a ≤ b.length) : Con Tryz.prog 94 [(0, oRd b a e)] [.ptr 0 0, ai limit] [(0, oRd b (rkI b a e limit).2.1 (rkI b a e limit).2.2)] (ai (rkI b a e limit).1) := by
 by_cases h : e = 0
 ·subst h
  obtain ⟨m, rfl⟩ : ∃ m : Nat, a = m := ⟨a.toNat, by have := ha rfl; omega⟩
  have := ha rfl
  have hk := Xi0 b m 0 limit hb (by omega)
  rw [show rkI b m 0 limit = rkS b m 0 limit by unfold rkI; simp]
  exact hk
 ·unfold rkI
  rw [if_pos h]
  refine Xa (xs := [ai 0]) Tryz.func94 rfl Tryz.ntmps94 rfl rfl rfl (fun E => ?_)
  exact Qid
theorem X3u (b : List UInt8) (a e : Int) (hb : b.length ≤ 281474976710656) : Con Tryz.prog 95 [(0, oRd b a e)] [.ptr 0 0] [(0, oRd b (rnS b a e).2.1 (rnS b a e).2.2)] (ai (rnS b a e).1) := by
 have h := XeG b a e hb
 unfold rnS
 by_cases he : e = 0
 ·rw [if_pos he, if_pos he] at h
  rw [if_neg (by simpa using he)]
  exact h
 ·rw [if_neg he, if_neg he] at h
  rw [if_pos he]
  exact h
theorem X24 (b : List UInt8) (a e : Int) (hb : b.length ≤ 281474976710656) : Con Tryz.prog 131 [(0, oRd b a e)] [.ptr 0 0] [(0, oRd b (rsS b a e).2.1 (rsS b a e).2.2)] (Xc (rsS b a e).1) := by
 refine Xa (xs := [Xc (rsS b a e).1]) Tryz.func131 rfl Tryz.ntmps131 rfl rfl rfl (fun E => ?_)
 have hu := Xae b a 20 hb
 unfold rsS
 generalize U8 b a 20 = u at *
 obtain ⟨u1, u2, u3⟩ := u
 obtain ⟨r, hr⟩ : ∃ r, r = (if e ≠ 0 then (([] : List UInt8), a, e) else (u1, u2, u3)) := ⟨_, rfl⟩
 rw [← hr]
 refine Qd ?_; refine Qo ?_; refine Qgd ?_; refine JD ?_; refine VP rfl (fun hq => ?_) (fun hq => ?_); refine Qf ?_; refine Z01 ?_; refine QHa ?_; refine Qc ?_; refine QDa ?_; refine Z01 ?_; refine QHa ?_; refine Z1 ?_; refine Z9 (hcon := hu) ?_; refine Qcc ?_; refine Z0 ?_; refine Z01 ?_; refine ZB ?_; refine Zy ?_; refine Z01 ?_; refine Qhd ?_; refine Qz ?_; (simp [*] at hr; subst hr; exact X1 ⟨_, St.le_refl _, ⟨rfl, trivial⟩, Xj ⟨rfl, trivial⟩⟩); refine X4 ?_; refine Qz ?_
 (simp [*] at hr; subst hr; exact X1 ⟨_, St.le_refl _, ⟨rfl, trivial⟩, Xj ⟨rfl, trivial⟩⟩)
theorem XfQ (b : List UInt8) (a m : Nat) (want : Int) (hw : want = 5 ∨ want = 6) (gl gp : Nat → Int → Val × Int × Int) : Uw gl gp m b a want = X2z b a want := by
 unfold X2z Uw
 split
 ·rfl
 simp only
 have hc : ∀ gl gp gl' gp' (k : Int), (k = 5 ∨ k = 6) → YJ gl gp b (a + 1) k = YJ gl' gp' b (a + 1) k := by
  intro _ _ _ _ k hk
  unfold YJ
  rw [if_pos (by omega), if_pos (by omega)]
 by_cases h : ((((b[(a : Int).toNat]?).getD 0).toNat : Nat) : Int) = want
 ·rw [if_neg (c := 8 < _ ∨ _) (by omega), if_neg (c := 8 < _ ∨ _) (by omega), hc gl gp noG noG _ (by omega)]
 ·rw [if_pos (by omega), if_pos (by omega)]
theorem X90 (b : List UInt8) (a m : Nat) (want : Int) (hm : m ≤ 8) (ha : a ≤ b.length) (hb : b.length ≤ 281474976710656) (hw : want = 5 ∨ want = 6) : X0t b a (8 - m) want (X2z b a want) := by
 rw [← XfQ b a m want hw noG noG]
 exact X65 b m a want noG noG hm ha hb (fun i q _ => X2Y i q) (fun i q _ => X2Y i q) (by omega) (by omega) (by omega)
theorem X9I (b : List UInt8) (hb : b.length ≤ 281474976710656) : ∀ (m a : Nat), m ≤ 8 → a ≤ b.length → X0t b a (8 - m) 0 (X01 b m a)
 | 0, a, hm, ha => by
  rw [X2a]
  exact X65 b 0 a 0 (X3l b 0) (X0x b) hm ha hb (fun i q _ => X2Y i q) (fun i q h => X4b i q h) (fun _ h => absurd rfl h) (fun _ i q h => X90 b q 0 _ hm h hb (by omega)) (fun h => absurd rfl h)
 | m + 1, a, hm, ha => by
  rw [X2a]
  refine X65 b (m + 1) a 0 (X3l b (m + 1)) (X0x b) hm ha hb (fun i q h => X9p m q h) (fun i q h => X4b i q h) (fun _ _ i q h => ?_) (fun _ i q h => X90 b q (m + 1) _ hm h hb (by omega)) (fun h => absurd rfl h)
  have := X9I b hb m q (by omega) h
  rw [show (8 : Int) - ((m + 1 : Nat) : Int) + 1 = 8 - (m : Int) by omega]
  exact this
theorem Xi7 (b : List UInt8) (hb : b.length ≤ 281474976710656) (a : Nat) (ha : a ≤ b.length) (r : Val × Int × Int) (hr : X01 b 8 a = r) :
  Con Tryz.prog 157 [(101, oRd b a 0)] [.ptr 101 0, ai 0, ai 0] [(101, oRd b r.2.1 r.2.2)] (Xo r.1) := by
 have h := UX 0 101 (X9I b hb 8 a (by omega) ha)
 rw [hr] at h
 obtain ⟨⟨k, n, d, s, l⟩, x, y⟩ := r
 exact h
theorem XhQ (b : List UInt8) (hb : b.length ≤ 281474976710656) (a : Int) : Con Tryz.prog 132 [] [.d (Xf b), ai a] [] (.tup [Xo (Uj b a).1, ai (Uj b a).2.1, ai (Uj b a).2.2]) := by
 refine Xa (xs := [Xo (Uj b a).1, ai (Uj b a).2.1, ai (Uj b a).2.2]) Tryz.func132 rfl Tryz.ntmps132 rfl rfl rfl (fun E => ?_)
 by_cases h1 : a < 0
 ·rw [show Uj b a = (zV, 0, 1) by unfold Uj; rw [if_pos (.inl h1)]]
  refine Qka ?_; refine QAa ?_; refine Qg ?_; refine Z8 ?_; refine Qda ?_; refine QPb ?_; refine Zx ?_; refine Qzd ?_; exact QAd
 by_cases h2 : (b.length : Int) < a
 ·rw [show Uj b a = (zV, 0, 1) by unfold Uj; rw [if_pos (.inr h2)]]
  refine Qka ?_; refine QAa ?_; refine Qg ?_; refine Z8 ?_; refine QCa ?_; refine Zd ?_; refine Qba ?_; refine QPb ?_; refine Zx ?_; refine Qzd ?_; exact QAd
 obtain ⟨q, rfl⟩ : ∃ q : Nat, a = q := ⟨a.toNat, by omega⟩
 have hq : q ≤ b.length := by omega
 have hv : Uj b q = if (X01 b 8 q).2.2 ≠ 0 then (zV, 0, (X01 b 8 q).2.2) else X01 b 8 q := by unfold Uj; rw [if_neg (by omega)]
 have hcon := Xi7 b hb q hq _ rfl
 rw [hv]
 clear hv
 generalize X01 b 8 q = r at *
 obtain ⟨⟨k, n, d, s, l⟩, x, y⟩ := r
 simp only [Xo] at hcon
 by_cases h3 : y = 0
 ·subst h3
  rw [if_neg (by simp)]
  repeat first | refine X0 ?_ | (refine JR ?_; (repeat first | refine Z1 ?_ | refine Z0 ?_ | refine Z01 ?_ | refine ZB ?_ | refine ZC ?_ | refine ZL ?_ | refine Zd ?_ | refine Z8 ?_ | refine Zs ?_ | refine Zv ?_ | refine Zw (γ := 100) ?_ | refine Zw (γ := 102) ?_ | refine ZA (γ := 101) ?_ | refine Zy ?_ | refine Zx ?_ | refine Zq ?_ | refine Z9 (hcon := hcon) ?_); refine JD ?_) | refine JF ?_ | refine X4 ?_
  exact X1 ⟨_, St.le_refl _, ⟨⟨100, 0, _, rfl, rfl, .inr ⟨5, _, rfl, rfl, rfl, rfl⟩⟩, rfl, rfl, trivial⟩, X3 _⟩
 ·rw [if_pos h3]
  repeat first | refine X0 ?_ | (refine JR ?_; (repeat first | refine Z1 ?_ | refine Z0 ?_ | refine Z01 ?_ | refine ZB ?_ | refine ZC ?_ | refine Zd ?_ | refine Z8 ?_ | refine Zs ?_ | refine Zv ?_ | refine Zw (γ := 100) ?_ | refine Zw (γ := 102) ?_ | refine ZA (γ := 101) ?_ | refine Zy ?_ | refine Zx ?_ | refine Zq ?_ | refine Z9 (hcon := hcon) ?_); refine JD ?_) | refine JT ?_ | refine JF ?_ | refine X4 ?_
  exact QAd
def YT (b : List UInt8) (a e : Int) : Chg × Int × Int :=
 let k := rkI b a e 8
 let i := rnS b k.2.1 k.2.2
 let f := if k.1 = 6 then rnS b i.2.1 i.2.2 else (0, i.2.1, i.2.2)
 let t := if k.1 = 6 then rnS b f.2.1 f.2.2 else (0, f.2.1, f.2.2)
 let s := if XV k.1 = true then rsS b t.2.1 t.2.2 else ([], t.2.1, t.2.2)
 let v := if XQ k.1 = true then rvS b s.2.1 s.2.2 else (zV, s.2.1, s.2.2)
 (⟨k.1, i.1, f.1, t.1, s.1, v.1⟩, v.2.1, v.2.2)
theorem Xhs (b : List UInt8) (a e limit : Int) : ((rkI b a e limit).1 = 0 ∧ (rkI b a e limit).2.2 ≠ 0) ∨ (1 ≤ (rkI b a e limit).1 ∧ (rkI b a e limit).1 ≤ limit ∧ (rkI b a e limit).2.2 = 0) := by
 unfold rkI
 by_cases h : e = 0
 ·subst h
  rw [if_neg (by simp)]
  unfold rkS
  rw [if_neg (by simp)]
  split
  ·exact .inl ⟨rfl, by simp⟩
  ·split
   ·exact .inl ⟨rfl, by simp⟩
   ·exact .inr ⟨by simp only; omega, by simp only; omega, rfl⟩
 ·rw [if_pos h]
  exact .inl ⟨rfl, h⟩
theorem X7n {b : List UInt8} {a e : Int} (h : e ≠ 0) : rnS b a e = (0, a, e) := if_pos h
theorem X98 {b : List UInt8} {a e : Int} (h : e ≠ 0) : rsS b a e = ([], a, e) := if_pos h
theorem XaD {b : List UInt8} {a e : Int} (h : e ≠ 0) : riS b a e = (0, a, e) := if_pos h
theorem X8u {b : List UInt8} {a e : Int} (h : e ≠ 0) : rvS b a e = (zV, a, e) := if_pos h
theorem X6r {b : List UInt8} {a : Int} : rvS b a 0 = Uj b a := if_neg (by simp)
theorem Xe3 (b : List UInt8) (a e : Int) (hb : b.length ≤ 281474976710656) (ha : e = 0 → 0 ≤ a ∧ a ≤ b.length) : Con Tryz.prog 96 [(0, oRd b a e)] [.ptr 0 0] [(0, oRd b (YT b a e).2.1 (YT b a e).2.2)] (Ye (YT b a e).1) := by
 refine Xa (xs := [Ye (YT b a e).1]) Tryz.func96 rfl Tryz.ntmps96 rfl rfl rfl (fun E => ?_)
 have hk := X6I b a e 8 hb ha
 have hop := Xhs b a e 8
 unfold YT
 generalize rkI b a e 8 = k at *
 obtain ⟨op, a1, e1⟩ := k
 simp only at hk hop ⊢
 have hf := X7Q op
 by_cases h0 : op = 0
 ·subst h0
  have he : e1 ≠ 0 := by omega
  have hi := X3u b a1 e1 hb
  have hs := X24 b a1 e1 hb
  rw [X7n he] at hi ⊢
  rw [X98 he] at hs
  simp only [if_neg (show ¬ (0 : Int) = 6 by omega), if_neg (show ¬ XV 0 = true by decide), if_neg (show ¬ XQ 0 = true by decide)]
  simp only [Ye] at *
  repeat first | refine X0 ?_ | (refine JR ?_; (repeat first | refine Z1 ?_ | refine Z0 ?_ | refine Z01 ?_ | refine ZB ?_ | refine ZC ?_ | refine ZL ?_ | refine Zl ?_ | refine Zw (γ := 100) ?_ | refine Zw (γ := 101) ?_ | refine Zy ?_ | refine Zx ?_ | refine ZF ?_ | refine Zn ?_ | refine Z9 (hcon := hk) ?_ | refine Z9 (hcon := hf) ?_ | refine Z9 (hcon := hi) ?_ | refine Z9 (hcon := hs) ?_); refine JD ?_) | refine JT ?_ | refine JF ?_ | refine X4 ?_
  exact X1 ⟨_, XJ 100 (cs' := [ai 0, ai 0, ai 0, ai 0, Xc [], ai 0, ai 0, ai 0, Xc [], .d (.sl 5 [])]) rfl JM rfl, ⟨⟨100, 0, _, rfl, rfl, .inr ⟨10, _, rfl, rfl, rfl, rfl⟩⟩, trivial⟩, Xj ⟨rfl, trivial⟩⟩
 have hop : 1 ≤ op ∧ op ≤ 8 ∧ e1 = 0 := by omega
 obtain ⟨o1, o2, rfl⟩ := hop
 have hi := X3u b a1 0 hb
 generalize rnS b a1 0 = i at *
 obtain ⟨id, a2, e2⟩ := i
 simp only at hi ⊢
 by_cases h6 : op = 6
 ·subst h6
  simp only [if_true, if_pos (show XV 6 = true by decide), if_neg (show ¬ XQ 6 = true by decide)]
  have hs := X3u b a2 e2 hb
  generalize rnS b a2 e2 = f at *
  obtain ⟨src, a3, e3⟩ := f
  simp only at hs ⊢
  have hd := X3u b a3 e3 hb
  generalize rnS b a3 e3 = t at *
  obtain ⟨dst, a4, e4⟩ := t
  simp only at hd ⊢
  have hn := X24 b a4 e4 hb
  generalize rsS b a4 e4 = s at *
  obtain ⟨name, a5, e5⟩ := s
  simp only [Ye] at *
  repeat first | refine X0 ?_ | (refine JR ?_; (repeat first | refine Z1 ?_ | refine Z0 ?_ | refine ZB ?_ | refine ZC ?_ | refine ZL ?_ | refine Zw (γ := 100) ?_ | refine Zw (γ := 101) ?_ | refine Zy ?_ | refine Zx ?_ | refine ZF ?_ | refine Zq ?_ | refine Zo ?_ | refine Z9 (hcon := hk) ?_ | refine Z9 (hcon := hf) ?_ | refine Z9 (hcon := hi) ?_ | refine Z9 (hcon := hs) ?_ | refine Z9 (hcon := hd) ?_ | refine Z9 (hcon := hn) ?_); refine JD ?_) | refine JT ?_ | refine JF ?_ | refine X4 ?_
  exact X1 ⟨_, XJ 100 (cs' := [ai 6, ai id, ai src, ai dst, Xc name, ai 0, ai 0, ai 0, Xc [], .d (.sl 5 [])]) rfl JM rfl, ⟨⟨100, 0, _, rfl, rfl, .inr ⟨10, _, rfl, rfl, rfl, rfl⟩⟩, trivial⟩, Xj ⟨rfl, trivial⟩⟩
 simp only [if_neg h6]
 by_cases hn : XV op = true
 case neg =>
  have hv : ¬ XQ op = true := by revert hn; unfold XV XQ; simp; omega
  simp only [if_neg hn, if_neg hv]
  have hu : op = 1 ∨ op = 2 ∨ op = 7 := by revert hn; unfold XV; simp; omega
  rcases hu with rfl | rfl | rfl
  ·simp only [Ye] at *
   repeat first | refine X0 ?_ | (refine JR ?_; (repeat first | refine Z1 ?_ | refine Z0 ?_ | refine ZB ?_ | refine ZC ?_ | refine ZL ?_ | refine Zw (γ := 100) ?_ | refine Zw (γ := 101) ?_ | refine Zy ?_ | refine Zx ?_ | refine ZF ?_ | refine Zq ?_ | refine Zo ?_ | refine Z9 (hcon := hk) ?_ | refine Z9 (hcon := hf) ?_ | refine Z9 (hcon := hi) ?_); refine JD ?_) | refine JF ?_ | refine X4 ?_
   exact QBd
  ·simp only [Ye] at *
   repeat first | refine X0 ?_ | (refine JR ?_; (repeat first | refine Z1 ?_ | refine Z0 ?_ | refine ZB ?_ | refine ZC ?_ | refine ZL ?_ | refine Zw (γ := 100) ?_ | refine Zw (γ := 101) ?_ | refine Zy ?_ | refine Zx ?_ | refine ZF ?_ | refine Zq ?_ | refine Zo ?_ | refine Z9 (hcon := hk) ?_ | refine Z9 (hcon := hf) ?_ | refine Z9 (hcon := hi) ?_); refine JD ?_) | refine JF ?_ | refine X4 ?_
   exact QBd
  ·simp only [Ye] at *
   repeat first | refine X0 ?_ | (refine JR ?_; (repeat first | refine Z1 ?_ | refine Z0 ?_ | refine ZB ?_ | refine ZC ?_ | refine ZL ?_ | refine Zw (γ := 100) ?_ | refine Zw (γ := 101) ?_ | refine Zy ?_ | refine Zx ?_ | refine ZF ?_ | refine Zq ?_ | refine Zo ?_ | refine Z9 (hcon := hk) ?_ | refine Z9 (hcon := hf) ?_ | refine Z9 (hcon := hi) ?_); refine JD ?_) | refine JF ?_ | refine X4 ?_
   exact QBd
 simp only [if_pos hn]
 have hs := X24 b a2 e2 hb
 generalize rsS b a2 e2 = s at *
 obtain ⟨name, a3, e3⟩ := s
 simp only at hs ⊢
 by_cases hv : XQ op = true
 case neg =>
  simp only [if_neg hv]
  have hu : op = 3 ∨ op = 4 := by revert hn hv; unfold XV XQ; simp; omega
  rcases hu with rfl | rfl
  ·simp only [Ye] at *
   repeat first | refine X0 ?_ | (refine JR ?_; (repeat first | refine Z1 ?_ | refine Z0 ?_ | refine ZB ?_ | refine ZC ?_ | refine ZL ?_ | refine Zw (γ := 100) ?_ | refine Zw (γ := 101) ?_ | refine Zy ?_ | refine Zx ?_ | refine ZF ?_ | refine Zq ?_ | refine Zo ?_ | refine Z9 (hcon := hk) ?_ | refine Z9 (hcon := hf) ?_ | refine Z9 (hcon := hi) ?_ | refine Z9 (hcon := hs) ?_); refine JD ?_) | refine JT ?_ | refine JF ?_ | refine X4 ?_
   exact QCd
  ·simp only [Ye] at *
   repeat first | refine X0 ?_ | (refine JR ?_; (repeat first | refine Z1 ?_ | refine Z0 ?_ | refine ZB ?_ | refine ZC ?_ | refine ZL ?_ | refine Zw (γ := 100) ?_ | refine Zw (γ := 101) ?_ | refine Zy ?_ | refine Zx ?_ | refine ZF ?_ | refine Zq ?_ | refine Zo ?_ | refine Z9 (hcon := hk) ?_ | refine Z9 (hcon := hf) ?_ | refine Z9 (hcon := hi) ?_ | refine Z9 (hcon := hs) ?_); refine JD ?_) | refine JT ?_ | refine JF ?_ | refine X4 ?_
   exact QCd
 simp only [if_pos hv]
 have hu : op = 5 ∨ op = 8 := by revert hv; unfold XQ; simp
 by_cases he : e3 = 0
 ·subst he
  rw [X6r]
  have hr := XhQ b hb a3
  generalize Uj b a3 = v at *
  obtain ⟨⟨vk, vn, vd, vs, vl⟩, a4, e4⟩ := v
  rcases hu with rfl | rfl
  ·simp only [Ye, Xo] at *
   repeat first | refine X0 ?_ | (refine JR ?_; (repeat first | refine Z1 ?_ | refine Z0 ?_ | refine Z01 ?_ | refine ZB ?_ | refine ZC ?_ | refine ZL ?_ | refine Zl ?_ | refine Zw (γ := 100) ?_ | refine Zw (γ := 101) ?_ | refine Zy ?_ | refine Zx ?_ | refine ZF ?_ | refine Zn ?_ | refine Z9 (hcon := hk) ?_ | refine Z9 (hcon := hf) ?_ | refine Z9 (hcon := hi) ?_ | refine Z9 (hcon := hs) ?_ | refine Z9 (hcon := hr) ?_); refine JD ?_) | refine JT ?_ | refine JF ?_ | refine X4 ?_
   exact QDd
  ·simp only [Ye, Xo] at *
   repeat first | refine X0 ?_ | (refine JR ?_; (repeat first | refine Z1 ?_ | refine Z0 ?_ | refine Z01 ?_ | refine ZB ?_ | refine ZC ?_ | refine ZL ?_ | refine Zl ?_ | refine Zw (γ := 100) ?_ | refine Zw (γ := 101) ?_ | refine Zy ?_ | refine Zx ?_ | refine ZF ?_ | refine Zn ?_ | refine Z9 (hcon := hk) ?_ | refine Z9 (hcon := hf) ?_ | refine Z9 (hcon := hi) ?_ | refine Z9 (hcon := hs) ?_ | refine Z9 (hcon := hr) ?_); refine JD ?_) | refine JT ?_ | refine JF ?_ | refine X4 ?_
   exact QDd
 ·rw [X8u he]
  rcases hu with rfl | rfl
  ·simp only [Ye] at *
   repeat first | refine X0 ?_ | (refine JR ?_; (repeat first | refine Z1 ?_ | refine Z0 ?_ | refine Z01 ?_ | refine ZB ?_ | refine ZC ?_ | refine ZL ?_ | refine Zl ?_ | refine Zw (γ := 100) ?_ | refine Zw (γ := 101) ?_ | refine Zy ?_ | refine Zx ?_ | refine ZF ?_ | refine Zn ?_ | refine Z9 (hcon := hk) ?_ | refine Z9 (hcon := hf) ?_ | refine Z9 (hcon := hi) ?_ | refine Z9 (hcon := hs) ?_); refine JD ?_) | refine JT ?_ | refine JF ?_ | refine X4 ?_
   exact QCd
  ·simp only [Ye] at *
   repeat first | refine X0 ?_ | (refine JR ?_; (repeat first | refine Z1 ?_ | refine Z0 ?_ | refine Z01 ?_ | refine ZB ?_ | refine ZC ?_ | refine ZL ?_ | refine Zl ?_ | refine Zw (γ := 100) ?_ | refine Zw (γ := 101) ?_ | refine Zy ?_ | refine Zx ?_ | refine ZF ?_ | refine Zn ?_ | refine Z9 (hcon := hk) ?_ | refine Z9 (hcon := hf) ?_ | refine Z9 (hcon := hi) ?_ | refine Z9 (hcon := hs) ?_); refine JD ?_) | refine JT ?_ | refine JF ?_ | refine X4 ?_
   exact QCd
def UJ (b : List UInt8) (a e : Int) : Rul × Int × Int :=
 let k := rkI b a e 7
 let n := rsS b k.2.1 k.2.2
 let y := rsS b n.2.1 n.2.2
 let s := rsS b y.2.1 y.2.2
 let d := rsS b s.2.1 s.2.2
 let i := riS b d.2.1 d.2.2
 (⟨k.1, i.1, n.1, y.1, s.1, d.1⟩, i.2.1, i.2.2)
theorem X5T {b : List UInt8} {a : Int} : riS b a 0 = XO b a := if_neg (by simp)
theorem XfB (b : List UInt8) (a e : Int) (hb : b.length ≤ 281474976710656) (ha : e = 0 → 0 ≤ a ∧ a ≤ b.length) : Con Tryz.prog 97 [(0, oRd b a e)] [.ptr 0 0] [(0, oRd b (UJ b a e).2.1 (UJ b a e).2.2)] (Uv (UJ b a e).1) := by
 refine Xa (xs := [Uv (UJ b a e).1]) Tryz.func97 rfl Tryz.ntmps97 rfl rfl rfl (fun E => ?_)
 have hk := X6I b a e 7 hb ha
 unfold UJ
 generalize rkI b a e 7 = k at *
 obtain ⟨kd, a1, e1⟩ := k
 simp only at hk ⊢
 have h1 := X24 b a1 e1 hb
 generalize rsS b a1 e1 = u1 at *
 obtain ⟨s1, a2, e2⟩ := u1
 simp only at h1 ⊢
 have h2 := X24 b a2 e2 hb
 generalize rsS b a2 e2 = u2 at *
 obtain ⟨s2, a3, e3⟩ := u2
 simp only at h2 ⊢
 have h3 := X24 b a3 e3 hb
 generalize rsS b a3 e3 = u3 at *
 obtain ⟨s3, a4, e4⟩ := u3
 simp only at h3 ⊢
 have h4 := X24 b a4 e4 hb
 generalize rsS b a4 e4 = u4 at *
 obtain ⟨s4, a5, e5⟩ := u4
 simp only [Uv] at h4 ⊢
 refine Qka ?_; refine JD ?_; refine Qf ?_; refine Z9 (hcon := hk) ?_; refine Zx ?_; refine Qrd ?_; refine X0 ?_; refine Qb ?_; refine ZB ?_; refine ZB ?_; refine ZB ?_; refine ZB ?_; refine Z03 (γ := 102) ?_; refine Z04 ?_; refine Z1 ?_; refine JD ?_; refine X5 ?_
 refine Xu (ι := Nat) (fun i => i ≤ 4) (fun i => ⟨52, [(0, .ptr 0 0), (2, .ptr 100 0), (3, .ptr 101 0), (14, .bsl 102 4), (15, ai 4), (16, ai i)], match i with
   | 0 => [(0, oRd b a1 e1), (100, .box [ai 0, ai 0, Xc [], Xc [], Xc [], Xc []]), (101, .box [ai kd, ai 0, Xc [], Xc [], Xc [], Xc []]), (102, .box [.ptr 101 2, .ptr 101 3, .ptr 101 4, .ptr 101 5])]
   | 1 => [(0, oRd b a2 e2), (100, .box [ai 0, ai 0, Xc [], Xc [], Xc [], Xc []]), (101, .box [ai kd, ai 0, Xc s1, Xc [], Xc [], Xc []]), (102, .box [.ptr 101 2, .ptr 101 3, .ptr 101 4, .ptr 101 5])]
   | 2 => [(0, oRd b a3 e3), (100, .box [ai 0, ai 0, Xc [], Xc [], Xc [], Xc []]), (101, .box [ai kd, ai 0, Xc s1, Xc s2, Xc [], Xc []]), (102, .box [.ptr 101 2, .ptr 101 3, .ptr 101 4, .ptr 101 5])]
   | 3 => [(0, oRd b a4 e4), (100, .box [ai 0, ai 0, Xc [], Xc [], Xc [], Xc []]), (101, .box [ai kd, ai 0, Xc s1, Xc s2, Xc s3, Xc []]), (102, .box [.ptr 101 2, .ptr 101 3, .ptr 101 4, .ptr 101 5])]
   | _ => [(0, oRd b a5 e5), (100, .box [ai 0, ai 0, Xc [], Xc [], Xc [], Xc []]), (101, .box [ai kd, ai 0, Xc s1, Xc s2, Xc s3, Xc s4]), (102, .box [.ptr 101 2, .ptr 101 3, .ptr 101 4, .ptr 101 5])]⟩) (fun i => 4 - i) 0 (by omega)
  (X9 rfl ⟨JL, JL, JL, JL, JL, JL, trivial⟩ ⟨rfl, rfl, rfl, rfl, trivial⟩) ?_
 intro i hi
 match i, hi with
 | 0, _ =>
  refine QEd ?_; refine Z9 (hcon := h1) ?_; refine Z01 ?_; refine QWa ?_; refine QK ?_; exact ⟨1, by omega, by omega, X9 rfl ⟨JL, JL, JL, JL, JL, JL, trivial⟩ ⟨rfl, rfl, rfl, rfl, trivial⟩⟩
 | 1, _ =>
  refine QEd ?_; refine Z9 (hcon := h2) ?_; refine Z01 ?_; refine QWa ?_; refine QK ?_; exact ⟨2, by omega, by omega, X9 rfl ⟨JL, JL, JL, JL, JL, JL, trivial⟩ ⟨rfl, rfl, rfl, rfl, trivial⟩⟩
 | 2, _ =>
  refine QEd ?_; refine Z9 (hcon := h3) ?_; refine Z01 ?_; refine QWa ?_; refine QK ?_; exact ⟨3, by omega, by omega, X9 rfl ⟨JL, JL, JL, JL, JL, JL, trivial⟩ ⟨rfl, rfl, rfl, rfl, trivial⟩⟩
 | 3, _ =>
  refine QEd ?_; refine Z9 (hcon := h4) ?_; refine Z01 ?_; refine QWa ?_; refine QK ?_; exact ⟨4, by omega, by omega, X9 rfl ⟨JL, JL, JL, JL, JL, JL, trivial⟩ ⟨rfl, rfl, rfl, rfl, trivial⟩⟩
 | 4, _ =>
  by_cases he : e5 = 0
  ·subst he
   have hi := X7M b a5 hb
   rw [X5T]
   generalize XO b a5 = u5 at *
   obtain ⟨n, a6, e6⟩ := u5
   repeat first | refine X0 ?_ | (refine JR ?_; (repeat first | refine Z1 ?_ | refine Z0 ?_ | refine Z01 ?_ | refine ZB ?_ | refine ZC ?_ | refine ZL ?_ | refine Z8 ?_ | refine Zl ?_ | refine Zy ?_ | refine ZF ?_ | refine Z9 (hcon := hi) ?_); refine JD ?_) | refine JT ?_ | refine JF ?_ | refine Xp ?_
   exact QFd
  ·rw [XaD he]
   refine QM ?_; refine Qg ?_; refine Qgd ?_; refine Qs ?_; refine Qjd ?_; exact QFd
def roS (b : List UInt8) (a e : Int) : Bool × Int × Int :=
 if e ≠ 0 then (false, a, e) else if (b.length : Int) ≤ a then (false, a, 3) else
  if 1 < ((b[a.toNat]?).getD 0).toNat then (false, a, 2) else (decide ((((b[a.toNat]?).getD 0).toNat : Int) = 1), a + 1, 0)
theorem XcZ (b : List UInt8) (a e : Int) (hb : b.length ≤ 281474976710656) (ha : e = 0 → 0 ≤ a ∧ a ≤ b.length) : Con Tryz.prog 98 [(0, oRd b a e)] [.ptr 0 0] [(0, oRd b (roS b a e).2.1 (roS b a e).2.2)] (ab (roS b a e).1) := by
 refine Xa (xs := [ab (roS b a e).1]) Tryz.func98 rfl Tryz.ntmps98 rfl rfl rfl (fun E => ?_)
 have hlm : (b.map X6).length = b.length := by simp
 unfold roS
 by_cases he : e = 0
 case neg =>
  rw [if_pos he]
  exact Qid
 subst he
 obtain ⟨m, rfl⟩ : ∃ m : Nat, a = m := ⟨a.toNat, by have := ha rfl; omega⟩
 rw [if_neg (by simp), Int.toNat_natCast]
 by_cases h1 : (b.length : Int) ≤ m
 ·rw [if_pos h1]
  have h1' : ((b.map X6).length : Int) ≤ m := by omega
  repeat first | refine X0 ?_ | (refine JR ?_; (repeat first | refine Z1 ?_ | refine Z0 ?_ | refine Z01 ?_ | refine ZB ?_ | refine ZC ?_ | refine Zd ?_ | refine Z2 ?_ | refine Zv ?_ | refine Zy ?_); refine JD ?_) | refine JT ?_ | refine JF ?_ | refine X5 ?_
  exact Qr
 rw [if_neg h1]
 have h1' : ¬ ((b.map X6).length : Int) ≤ m := by omega
 obtain ⟨c, hc⟩ := Xx (l := b) (k := m) (by omega)
 have hxm : (b.map X6)[m]? = some (X6 c) := YR hc
 rw [hc, Option.getD_some]
 by_cases h2 : 1 < c.toNat
 ·rw [if_pos h2]
  repeat first | refine X0 ?_ | (refine JR ?_; (repeat first | refine Z1 ?_ | refine Z0 ?_ | refine Z01 ?_ | refine ZB ?_ | refine ZC ?_ | refine Zk ?_ | refine Zd ?_ | refine Zs ?_ | refine Z2 ?_ | refine Zv ?_ | refine Zy ?_ | refine Zj ?_); refine JD ?_) | refine JT ?_ | refine JF ?_ | refine X5 ?_
  exact Qr
 rw [if_neg h2]
 repeat first | refine X0 ?_ | (refine JR ?_; (repeat first | refine Z4 (op := .sub) (r' := nj m) (u := .int .i64 ((m : Int) + 1)) (v := .int .i64 1) ?_ (hr' := by exact congrArg (Value.int .i64) (show ((m : Int) + 1 - 1) = (m : Int) by omega)) (hr := by exact X0M (by unfold U6; omega)) | refine Z1 ?_ | refine Z0 ?_ | refine Z01 ?_ | refine ZB ?_ | refine ZC ?_ | refine Zk ?_ | refine Zd ?_ | refine Zs ?_ | refine Z2 ?_ | refine Zl ?_ | refine Zv ?_ | refine Zb ?_ | refine Zy ?_ | refine Zj ?_); refine JD ?_) | refine JF ?_ | refine X5 ?_
 exact Qr
end Go.Fw

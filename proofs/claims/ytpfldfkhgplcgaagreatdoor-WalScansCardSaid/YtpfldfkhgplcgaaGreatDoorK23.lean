/- Reading values: value, all. -/
import Derived.Test.YtpfldfkhgplcgaaGreatDoorK22
set_option maxHeartbeats 16000000
namespace Go.Fw
open Go Go.Proofs
set_option maxRecDepth 100000
set_option linter.unusedVariables false
set_option linter.unusedSimpArgs false
theorem X5e (b : List UInt8) (m a : Nat) (want : Int) (gl gp : Nat → Int → Val × Int × Int) (hm : m ≤ 8) (ha : a ≤ b.length) (hb : b.length ≤ 281474976710656)
  (hgl : ∀ i q : Nat, q ≤ b.length → Uo b (gl i q).2) (hgp : ∀ i q : Nat, q ≤ b.length → Uo b (gp i q).2)
  (hl : want = 0 → m ≠ 0 → ∀ i q : Nat, q ≤ b.length → X0c b q (8 - m + 1) 0 (gl i q)) (hp : want = 0 → ∀ i q : Nat, q ≤ b.length → X0c b q (8 - m) (5 + (i % 2 : Nat)) (gp i q)) (hw : want ≠ 0 → want = 5 ∨ want = 6) :
  X0c b a (8 - m) want (U9 gl gp m b a want) := by
 have hk := Xfa b a m want hm ha hb
 by_cases hbad : (V2 b a m want).2.2 = 0
 case neg =>
  rw [XbO hbad]
  refine Xb (xs := [Xi zV]) Tryz.func157 rfl Tryz.ntmps157 rfl rfl rfl (fun E => ?_)
  generalize V2 b a m want = u at *
  refine Qia ?_; refine JD ?_; refine QGb ?_; refine Z9 (hcon := hk) ?_; refine Zx ?_; refine Qyd ?_; refine Qg ?_; refine Z01 ?_; refine QFa ?_; refine Zv ?_; refine QOb ?_; refine Zx ?_; refine QTa ?_; exact Qzd
 obtain ⟨k, hkk, hlt, hk8, hkm, hkw, hG⟩ := Xcf ha hbad
 rw [hkk] at hk
 clear hbad hkk
 replace hG := hG gl gp
 generalize hR : U9 gl gp m b a want = R at *
 simp only at hk
 by_cases h8 : k = 8
 ·subst h8
  have hw0 : want = 0 := Classical.byContradiction fun h => by
   have h1 := hkw h
   rcases hw h with h2 | h2 <;> omega
  exact Xca b m a want gl gp R hm hlt hb hgl (hl hw0 (hkm rfl)) hk hG
 by_cases h7 : k = 7
 ·subst h7
  have hw0 : want = 0 := Classical.byContradiction fun h => by
   have h1 := hkw h
   rcases hw h with h2 | h2 <;> omega
  exact XdS b m a want gl gp R hm hlt hb hgp (hp hw0) hk hG
 refine Xb (xs := [Xi R.1]) Tryz.func157 rfl Tryz.ntmps157 rfl rfl rfl (fun E => ?_)
 by_cases h0 : k = 0
 ·subst h0
  rw [show ((0 : Nat) : Int) = 0 from rfl] at hk hG
  rw [show XV gl gp b (a + 1) 0 = (.mk 0 0 0 [] [], (a : Int) + 1, 0) by simp [XV]] at hG
  have hval := VG (.mk 0 0 0 [] [])
  simp only [Xi] at hval
  have hv : X8 8 (.mk 0 0 0 [] []) = true := by rw [X8]; simp
  rw [hv] at hval
  obtain rfl : R = (.mk 0 0 0 [] [], (a : Int) + 1, 0) := by rw [hG]; simp [YA, hv]
  repeat first | refine X0 ?_ | (refine JR ?_; (repeat first | refine Z1 ?_ | refine Z0 ?_ | refine Z01 ?_ | refine ZB ?_ | refine ZC ?_ | refine ZL ?_ | refine Zl ?_ | refine Zv ?_ | refine Zu ?_ | refine Zw (γ := 100) ?_ | refine Zw (γ := 101) ?_ | refine Zy ?_ | refine Zx ?_ | refine Zn ?_ | refine Z9 (hcon := hk) ?_ | refine Z9 (hcon := hval) ?_); refine JD ?_) | refine JF ?_ | refine X5 ?_ | refine X4 ?_
  exact Qzd
 by_cases h1 : k = 1
 ·subst h1
  rw [show ((1 : Nat) : Int) = 1 from rfl] at hk hG
  have hn := X2o b (a + 1) 0 hb
  rw [if_pos rfl, if_pos rfl] at hn
  rw [show XV gl gp b (a + 1) 1 = (.mk 1 (Xp b (a + 1)).1 0 [] [], (Xp b (a + 1)).2.1, (Xp b (a + 1)).2.2) by simp [XV]] at hG
  generalize Xp b (a + 1) = u at *
  obtain ⟨n, a2, e2⟩ := u
  simp only at hn hG
  by_cases he : e2 = 0
  ·subst he
   have hval := VG (.mk 1 n 0 [] [])
   simp only [Xi] at hval
   cases hv : X8 8 (.mk 1 n 0 [] []) with
   | false =>
    rw [hv] at hval
    obtain rfl : R = ((.mk 1 n 0 [] []), a2, 2) := by rw [hG]; simp [YA, hv]
    repeat first | refine X0 ?_ | (refine JR ?_; (repeat first | refine Z1 ?_ | refine Z0 ?_ | refine Z01 ?_ | refine ZB ?_ | refine ZC ?_ | refine ZL ?_ | refine Zl ?_ | refine Zv ?_ | refine Zu ?_ | refine Zw (γ := 100) ?_ | refine Zw (γ := 101) ?_ | refine Zy ?_ | refine Zx ?_ | refine Zn ?_ | refine Z9 (hcon := hk) ?_ | refine Z9 (hcon := hn) ?_ | refine Z9 (hcon := hval) ?_); refine JD ?_) | refine JT ?_ | refine JF ?_ | refine X5 ?_ | refine X4 ?_
    exact QAd
   | true =>
    rw [hv] at hval
    obtain rfl : R = ((.mk 1 n 0 [] []), a2, 0) := by rw [hG]; simp [YA, hv]
    repeat first | refine X0 ?_ | (refine JR ?_; (repeat first | refine Z1 ?_ | refine Z0 ?_ | refine Z01 ?_ | refine ZB ?_ | refine ZC ?_ | refine ZL ?_ | refine Zl ?_ | refine Zv ?_ | refine Zu ?_ | refine Zw (γ := 100) ?_ | refine Zw (γ := 101) ?_ | refine Zy ?_ | refine Zx ?_ | refine Zn ?_ | refine Z9 (hcon := hk) ?_ | refine Z9 (hcon := hn) ?_ | refine Z9 (hcon := hval) ?_); refine JD ?_) | refine JT ?_ | refine JF ?_ | refine X5 ?_ | refine X4 ?_
    exact QAd
  ·obtain rfl : R = ((.mk 1 n 0 [] []), a2, e2) := by rw [hG]; simp [YA, he]
   repeat first | refine X0 ?_ | (refine JR ?_; (repeat first | refine Z1 ?_ | refine Z0 ?_ | refine Z01 ?_ | refine ZB ?_ | refine ZC ?_ | refine ZL ?_ | refine Zl ?_ | refine Zv ?_ | refine Zw (γ := 100) ?_ | refine Zw (γ := 101) ?_ | refine Zy ?_ | refine Zx ?_ | refine Zq ?_ | refine Zo ?_ | refine Z9 (hcon := hk) ?_ | refine Z9 (hcon := hn) ?_); refine JD ?_) | refine JT ?_ | refine JF ?_ | refine X5 ?_ | refine X4 ?_
   exact QAd
 by_cases h2 : k = 2
 ·subst h2
  rw [show ((2 : Nat) : Int) = 2 from rfl] at hk hG
  have hn := X2o b (a + 1) 0 hb
  rw [if_pos rfl, if_pos rfl] at hn
  rw [show XV gl gp b (a + 1) 2 = (.mk 2 (Xp b (a + 1)).1 0 [] [], (Xp b (a + 1)).2.1, (Xp b (a + 1)).2.2) by simp [XV]] at hG
  generalize Xp b (a + 1) = u at *
  obtain ⟨n, a2, e2⟩ := u
  simp only at hn hG
  by_cases he : e2 = 0
  ·subst he
   have hval := VG (.mk 2 n 0 [] [])
   simp only [Xi] at hval
   cases hv : X8 8 (.mk 2 n 0 [] []) with
   | false =>
    rw [hv] at hval
    obtain rfl : R = ((.mk 2 n 0 [] []), a2, 2) := by rw [hG]; simp [YA, hv]
    repeat first | refine X0 ?_ | (refine JR ?_; (repeat first | refine Z1 ?_ | refine Z0 ?_ | refine Z01 ?_ | refine ZB ?_ | refine ZC ?_ | refine ZL ?_ | refine Zl ?_ | refine Zv ?_ | refine Zu ?_ | refine Zw (γ := 100) ?_ | refine Zw (γ := 101) ?_ | refine Zy ?_ | refine Zx ?_ | refine Zn ?_ | refine Z9 (hcon := hk) ?_ | refine Z9 (hcon := hn) ?_ | refine Z9 (hcon := hval) ?_); refine JD ?_) | refine JT ?_ | refine JF ?_ | refine X5 ?_ | refine X4 ?_
    exact QBd
   | true =>
    rw [hv] at hval
    obtain rfl : R = ((.mk 2 n 0 [] []), a2, 0) := by rw [hG]; simp [YA, hv]
    repeat first | refine X0 ?_ | (refine JR ?_; (repeat first | refine Z1 ?_ | refine Z0 ?_ | refine Z01 ?_ | refine ZB ?_ | refine ZC ?_ | refine ZL ?_ | refine Zl ?_ | refine Zv ?_ | refine Zu ?_ | refine Zw (γ := 100) ?_ | refine Zw (γ := 101) ?_ | refine Zy ?_ | refine Zx ?_ | refine Zn ?_ | refine Z9 (hcon := hk) ?_ | refine Z9 (hcon := hn) ?_ | refine Z9 (hcon := hval) ?_); refine JD ?_) | refine JT ?_ | refine JF ?_ | refine X5 ?_ | refine X4 ?_
    exact QBd
  ·obtain rfl : R = ((.mk 2 n 0 [] []), a2, e2) := by rw [hG]; simp [YA, he]
   repeat first | refine X0 ?_ | (refine JR ?_; (repeat first | refine Z1 ?_ | refine Z0 ?_ | refine Z01 ?_ | refine ZB ?_ | refine ZC ?_ | refine ZL ?_ | refine Zl ?_ | refine Zv ?_ | refine Zw (γ := 100) ?_ | refine Zw (γ := 101) ?_ | refine Zy ?_ | refine Zx ?_ | refine Zq ?_ | refine Zo ?_ | refine Z9 (hcon := hk) ?_ | refine Z9 (hcon := hn) ?_); refine JD ?_) | refine JT ?_ | refine JF ?_ | refine X5 ?_ | refine X4 ?_
   exact QBd
 by_cases h5 : k = 5
 ·subst h5
  rw [show ((5 : Nat) : Int) = 5 from rfl] at hk hG
  have hn := X2o b (a + 1) 0 hb
  rw [if_pos rfl, if_pos rfl] at hn
  rw [show XV gl gp b (a + 1) 5 = (.mk 5 (Xp b (a + 1)).1 0 [] [], (Xp b (a + 1)).2.1, (Xp b (a + 1)).2.2) by simp [XV]] at hG
  generalize Xp b (a + 1) = u at *
  obtain ⟨n, a2, e2⟩ := u
  simp only at hn hG
  by_cases he : e2 = 0
  ·subst he
   have hval := VG (.mk 5 n 0 [] [])
   simp only [Xi] at hval
   cases hv : X8 8 (.mk 5 n 0 [] []) with
   | false =>
    rw [hv] at hval
    obtain rfl : R = ((.mk 5 n 0 [] []), a2, 2) := by rw [hG]; simp [YA, hv]
    repeat first | refine X0 ?_ | (refine JR ?_; (repeat first | refine Z1 ?_ | refine Z0 ?_ | refine Z01 ?_ | refine ZB ?_ | refine ZC ?_ | refine ZL ?_ | refine Zl ?_ | refine Zv ?_ | refine Zu ?_ | refine Zw (γ := 100) ?_ | refine Zw (γ := 101) ?_ | refine Zy ?_ | refine Zx ?_ | refine Zn ?_ | refine Z9 (hcon := hk) ?_ | refine Z9 (hcon := hn) ?_ | refine Z9 (hcon := hval) ?_); refine JD ?_) | refine JT ?_ | refine JF ?_ | refine X5 ?_ | refine X4 ?_
    exact QCd
   | true =>
    rw [hv] at hval
    obtain rfl : R = ((.mk 5 n 0 [] []), a2, 0) := by rw [hG]; simp [YA, hv]
    repeat first | refine X0 ?_ | (refine JR ?_; (repeat first | refine Z1 ?_ | refine Z0 ?_ | refine Z01 ?_ | refine ZB ?_ | refine ZC ?_ | refine ZL ?_ | refine Zl ?_ | refine Zv ?_ | refine Zu ?_ | refine Zw (γ := 100) ?_ | refine Zw (γ := 101) ?_ | refine Zy ?_ | refine Zx ?_ | refine Zn ?_ | refine Z9 (hcon := hk) ?_ | refine Z9 (hcon := hn) ?_ | refine Z9 (hcon := hval) ?_); refine JD ?_) | refine JT ?_ | refine JF ?_ | refine X5 ?_ | refine X4 ?_
    exact QCd
  ·obtain rfl : R = ((.mk 5 n 0 [] []), a2, e2) := by rw [hG]; simp [YA, he]
   repeat first | refine X0 ?_ | (refine JR ?_; (repeat first | refine Z1 ?_ | refine Z0 ?_ | refine Z01 ?_ | refine ZB ?_ | refine ZC ?_ | refine ZL ?_ | refine Zl ?_ | refine Zv ?_ | refine Zw (γ := 100) ?_ | refine Zw (γ := 101) ?_ | refine Zy ?_ | refine Zx ?_ | refine Zq ?_ | refine Zo ?_ | refine Z9 (hcon := hk) ?_ | refine Z9 (hcon := hn) ?_); refine JD ?_) | refine JT ?_ | refine JF ?_ | refine X5 ?_ | refine X4 ?_
   exact QCd
 by_cases h6 : k = 6
 ·subst h6
  rw [show ((6 : Nat) : Int) = 6 from rfl] at hk hG
  have hn := X2o b (a + 1) 0 hb
  rw [if_pos rfl, if_pos rfl] at hn
  rw [show XV gl gp b (a + 1) 6 = (.mk 6 (Xp b (a + 1)).1 0 [] [], (Xp b (a + 1)).2.1, (Xp b (a + 1)).2.2) by simp [XV]] at hG
  generalize Xp b (a + 1) = u at *
  obtain ⟨n, a2, e2⟩ := u
  simp only at hn hG
  by_cases he : e2 = 0
  ·subst he
   have hval := VG (.mk 6 n 0 [] [])
   simp only [Xi] at hval
   cases hv : X8 8 (.mk 6 n 0 [] []) with
   | false =>
    rw [hv] at hval
    obtain rfl : R = ((.mk 6 n 0 [] []), a2, 2) := by rw [hG]; simp [YA, hv]
    repeat first | refine X0 ?_ | (refine JR ?_; (repeat first | refine Z1 ?_ | refine Z0 ?_ | refine Z01 ?_ | refine ZB ?_ | refine ZC ?_ | refine ZL ?_ | refine Zl ?_ | refine Zv ?_ | refine Zu ?_ | refine Zw (γ := 100) ?_ | refine Zw (γ := 101) ?_ | refine Zy ?_ | refine Zx ?_ | refine Zn ?_ | refine Z9 (hcon := hk) ?_ | refine Z9 (hcon := hn) ?_ | refine Z9 (hcon := hval) ?_); refine JD ?_) | refine JT ?_ | refine JF ?_ | refine X5 ?_ | refine X4 ?_
    exact QDd
   | true =>
    rw [hv] at hval
    obtain rfl : R = ((.mk 6 n 0 [] []), a2, 0) := by rw [hG]; simp [YA, hv]
    repeat first | refine X0 ?_ | (refine JR ?_; (repeat first | refine Z1 ?_ | refine Z0 ?_ | refine Z01 ?_ | refine ZB ?_ | refine ZC ?_ | refine ZL ?_ | refine Zl ?_ | refine Zv ?_ | refine Zu ?_ | refine Zw (γ := 100) ?_ | refine Zw (γ := 101) ?_ | refine Zy ?_ | refine Zx ?_ | refine Zn ?_ | refine Z9 (hcon := hk) ?_ | refine Z9 (hcon := hn) ?_ | refine Z9 (hcon := hval) ?_); refine JD ?_) | refine JT ?_ | refine JF ?_ | refine X5 ?_ | refine X4 ?_
    exact QDd
  ·obtain rfl : R = ((.mk 6 n 0 [] []), a2, e2) := by rw [hG]; simp [YA, he]
   repeat first | refine X0 ?_ | (refine JR ?_; (repeat first | refine Z1 ?_ | refine Z0 ?_ | refine Z01 ?_ | refine ZB ?_ | refine ZC ?_ | refine ZL ?_ | refine Zl ?_ | refine Zv ?_ | refine Zw (γ := 100) ?_ | refine Zw (γ := 101) ?_ | refine Zy ?_ | refine Zx ?_ | refine Zq ?_ | refine Zo ?_ | refine Z9 (hcon := hk) ?_ | refine Z9 (hcon := hn) ?_); refine JD ?_) | refine JT ?_ | refine JF ?_ | refine X5 ?_ | refine X4 ?_
   exact QDd
 by_cases h3 : k = 3
 ·subst h3
  rw [show ((3 : Nat) : Int) = 3 from rfl] at hk hG
  have hn := X2o b (a + 1) 0 hb
  rw [if_pos rfl, if_pos rfl] at hn
  have hz := @XcY b (a + 1)
  have hc : XV gl gp b (a + 1) 3 = if (Xp b (a + 1)).2.2 ≠ 0 then (.mk 3 0 0 [] [], (Xp b (a + 1)).2.1, (Xp b (a + 1)).2.2) else (.mk 3 (Xp b (a + 1)).1 (Xp b (Xp b (a + 1)).2.1).1 [] [], (Xp b (Xp b (a + 1)).2.1).2.1, (Xp b (Xp b (a + 1)).2.1).2.2) := by simp [XV]
  generalize Xp b (a + 1) = u at *
  obtain ⟨n, a2, e2⟩ := u
  simp only at hn hz hc
  have hn2 := X2o b a2 e2 hb
  by_cases he2 : e2 = 0
  ·subst he2
   rw [if_pos rfl, if_pos rfl] at hn2
   rw [if_neg (by simp)] at hc
   rw [hc] at hG
   generalize Xp b a2 = u at *
   obtain ⟨d, a3, e3⟩ := u
   simp only at hn2 hG
   by_cases he : e3 = 0
   ·subst he
    have hval := VG (.mk 3 n d [] [])
    simp only [Xi] at hval
    cases hv : X8 8 (.mk 3 n d [] []) with
    | false =>
     rw [hv] at hval
     obtain rfl : R = ((.mk 3 n d [] []), a3, 2) := by rw [hG]; simp [YA, hv]
     repeat first | refine X0 ?_ | (refine JR ?_; (repeat first | refine Z1 ?_ | refine Z0 ?_ | refine Z01 ?_ | refine ZB ?_ | refine ZC ?_ | refine ZL ?_ | refine Zl ?_ | refine Zv ?_ | refine Zu ?_ | refine Zw (γ := 100) ?_ | refine Zw (γ := 101) ?_ | refine Zy ?_ | refine Zx ?_ | refine Zn ?_ | refine Z9 (hcon := hk) ?_ | refine Z9 (hcon := hn) ?_ | refine Z9 (hcon := hn2) ?_ | refine Z9 (hcon := hval) ?_); refine JD ?_) | refine JT ?_ | refine JF ?_ | refine X5 ?_ | refine X4 ?_
     exact QEd
    | true =>
     rw [hv] at hval
     obtain rfl : R = ((.mk 3 n d [] []), a3, 0) := by rw [hG]; simp [YA, hv]
     repeat first | refine X0 ?_ | (refine JR ?_; (repeat first | refine Z1 ?_ | refine Z0 ?_ | refine Z01 ?_ | refine ZB ?_ | refine ZC ?_ | refine ZL ?_ | refine Zl ?_ | refine Zv ?_ | refine Zu ?_ | refine Zw (γ := 100) ?_ | refine Zw (γ := 101) ?_ | refine Zy ?_ | refine Zx ?_ | refine Zn ?_ | refine Z9 (hcon := hk) ?_ | refine Z9 (hcon := hn) ?_ | refine Z9 (hcon := hn2) ?_ | refine Z9 (hcon := hval) ?_); refine JD ?_) | refine JT ?_ | refine JF ?_ | refine X5 ?_ | refine X4 ?_
     exact QEd
   ·obtain rfl : R = ((.mk 3 n d [] []), a3, e3) := by rw [hG]; simp [YA, he]
    repeat first | refine X0 ?_ | (refine JR ?_; (repeat first | refine Z1 ?_ | refine Z0 ?_ | refine Z01 ?_ | refine ZB ?_ | refine ZC ?_ | refine ZL ?_ | refine Zl ?_ | refine Zv ?_ | refine Zw (γ := 100) ?_ | refine Zw (γ := 101) ?_ | refine Zy ?_ | refine Zx ?_ | refine Zq ?_ | refine Zo ?_ | refine Z9 (hcon := hk) ?_ | refine Z9 (hcon := hn) ?_ | refine Z9 (hcon := hn2) ?_); refine JD ?_) | refine JT ?_ | refine JF ?_ | refine X5 ?_ | refine X4 ?_
    exact QEd
  ·rw [if_neg he2, if_neg he2] at hn2
   rw [if_pos he2] at hc
   rw [hc] at hG
   obtain rfl := hz he2
   obtain rfl : R = (.mk 3 0 0 [] [], a2, e2) := by rw [hG]; simp [YA, he2]
   repeat first | refine X0 ?_ | (refine JR ?_; (repeat first | refine Z1 ?_ | refine Z0 ?_ | refine Z01 ?_ | refine ZB ?_ | refine ZC ?_ | refine ZL ?_ | refine Zl ?_ | refine Zv ?_ | refine Zw (γ := 100) ?_ | refine Zw (γ := 101) ?_ | refine Zy ?_ | refine Zx ?_ | refine Zq ?_ | refine Zo ?_ | refine Z9 (hcon := hk) ?_ | refine Z9 (hcon := hn) ?_ | refine Z9 (hcon := hn2) ?_); refine JD ?_) | refine JT ?_ | refine JF ?_ | refine X5 ?_ | refine X4 ?_
   exact X1 ⟨_, Xl 100 (cs := [ai 3, ai 0, ai 0, .d (.v (.string (X6 []))), ani]) (cs' := [ai 3, ai 0, ai 0, .d (.v (.string (X6 []))), .d (.sl 5 [])]) rfl ⟨AVal.le_refl _, AVal.le_refl _, AVal.le_refl _, AVal.le_refl _, AVal.le_nil 5, trivial⟩ rfl, ⟨⟨100, 0, _, rfl, rfl, .inr ⟨5, _, rfl, rfl, rfl, rfl⟩⟩, trivial⟩, Xh ⟨rfl, trivial⟩⟩
 by_cases h4 : k = 4
 ·subst h4
  rw [show ((4 : Nat) : Int) = 4 from rfl] at hk hG
  have hn := XaP b (a + 1) 100 hb
  rw [show XV gl gp b (a + 1) 4 = (.mk 4 0 0 (Yk b (a + 1) 100).1 [], (Yk b (a + 1) 100).2.1, (Yk b (a + 1) 100).2.2) by simp [XV]] at hG
  generalize Yk b (a + 1) 100 = u at *
  obtain ⟨s, a2, e2⟩ := u
  simp only at hn hG
  by_cases he : e2 = 0
  ·subst he
   have hval := VG (.mk 4 0 0 s [])
   simp only [Xi] at hval
   cases hv : X8 8 (.mk 4 0 0 s []) with
   | false =>
    rw [hv] at hval
    obtain rfl : R = ((.mk 4 0 0 s []), a2, 2) := by rw [hG]; simp [YA, hv]
    repeat first | refine X0 ?_ | (refine JR ?_; (repeat first | refine Z1 ?_ | refine Z0 ?_ | refine Z01 ?_ | refine ZB ?_ | refine ZC ?_ | refine ZL ?_ | refine Zl ?_ | refine Zv ?_ | refine Zu ?_ | refine Zw (γ := 100) ?_ | refine Zw (γ := 101) ?_ | refine Zy ?_ | refine Zx ?_ | refine ZF ?_ | refine Zn ?_ | refine Z9 (hcon := hk) ?_ | refine Z9 (hcon := hn) ?_ | refine Z9 (hcon := hval) ?_); refine JD ?_) | refine JT ?_ | refine JF ?_ | refine X5 ?_ | refine X4 ?_
    exact QFd
   | true =>
    rw [hv] at hval
    obtain rfl : R = ((.mk 4 0 0 s []), a2, 0) := by rw [hG]; simp [YA, hv]
    repeat first | refine X0 ?_ | (refine JR ?_; (repeat first | refine Z1 ?_ | refine Z0 ?_ | refine Z01 ?_ | refine ZB ?_ | refine ZC ?_ | refine ZL ?_ | refine Zl ?_ | refine Zv ?_ | refine Zu ?_ | refine Zw (γ := 100) ?_ | refine Zw (γ := 101) ?_ | refine Zy ?_ | refine Zx ?_ | refine ZF ?_ | refine Zn ?_ | refine Z9 (hcon := hk) ?_ | refine Z9 (hcon := hn) ?_ | refine Z9 (hcon := hval) ?_); refine JD ?_) | refine JT ?_ | refine JF ?_ | refine X5 ?_ | refine X4 ?_
    exact QFd
  ·obtain rfl : R = ((.mk 4 0 0 s []), a2, e2) := by rw [hG]; simp [YA, he]
   repeat first | refine X0 ?_ | (refine JR ?_; (repeat first | refine Z1 ?_ | refine Z0 ?_ | refine Z01 ?_ | refine ZB ?_ | refine ZC ?_ | refine ZL ?_ | refine Zl ?_ | refine Zv ?_ | refine Zw (γ := 100) ?_ | refine Zw (γ := 101) ?_ | refine Zy ?_ | refine Zx ?_ | refine ZF ?_ | refine Zq ?_ | refine Zo ?_ | refine Z9 (hcon := hk) ?_ | refine Z9 (hcon := hn) ?_); refine JD ?_) | refine JT ?_ | refine JF ?_ | refine X5 ?_ | refine X4 ?_
   exact QFd
 omega
def rkI (b : List UInt8) (a e limit : Int) : Int × Int × Int := if e ≠ 0 then (0, a, e) else rkS b a.toNat 0 limit
def rnS (b : List UInt8) (a e : Int) : Int × Int × Int := if e ≠ 0 then (0, a, e) else Xf b a
def riS (b : List UInt8) (a e : Int) : Int × Int × Int := if e ≠ 0 then (0, a, e) else Xp b a
def rsS (b : List UInt8) (a e : Int) : List UInt8 × Int × Int := if e ≠ 0 then ([], a, e) else Yk b a 20
def rvS (b : List UInt8) (a e : Int) : Val × Int × Int := if e ≠ 0 then (zV, a, e) else Yn b a
theorem X5T (b : List UInt8) (a e limit : Int) (hb : b.length ≤ 281474976710656) (ha : e = 0 → 0 ≤ a ∧ a ≤ b.length) : Con Tryz.prog 94 [(0, oRd b a e)] [.ptr 0 0, ai limit] [(0, oRd b (rkI b a e limit).2.1 (rkI b a e limit).2.2)] (ai (rkI b a e limit).1) := by
 by_cases h : e = 0
 ·subst h
  obtain ⟨m, rfl⟩ : ∃ m : Nat, a = m := ⟨a.toNat, by have := ha rfl; omega⟩
  have := ha rfl
  have hk := Xfy b m 0 limit hb (by omega)
  rw [show rkI b m 0 limit = rkS b m 0 limit by unfold rkI; simp]
  exact hk
 ·unfold rkI
  rw [if_pos h]
  refine Xb (xs := [ai 0]) Tryz.func94 rfl Tryz.ntmps94 rfl rfl rfl (fun E => ?_)
  exact Qkd
theorem X3d (b : List UInt8) (a e : Int) (hb : b.length ≤ 281474976710656) : Con Tryz.prog 95 [(0, oRd b a e)] [.ptr 0 0] [(0, oRd b (rnS b a e).2.1 (rnS b a e).2.2)] (ai (rnS b a e).1) := by
 have h := XcM b a e hb
 unfold rnS
 by_cases he : e = 0
 ·rw [if_pos he, if_pos he] at h
  rw [if_neg (by simpa using he)]
  exact h
 ·rw [if_neg he, if_neg he] at h
  rw [if_pos he]
  exact h
theorem X1u (b : List UInt8) (a e : Int) (hb : b.length ≤ 281474976710656) : Con Tryz.prog 131 [(0, oRd b a e)] [.ptr 0 0] [(0, oRd b (rsS b a e).2.1 (rsS b a e).2.2)] (X9 (rsS b a e).1) := by
 refine Xb (xs := [X9 (rsS b a e).1]) Tryz.func131 rfl Tryz.ntmps131 rfl rfl rfl (fun E => ?_)
 have hu := XaP b a 20 hb
 unfold rsS
 generalize Yk b a 20 = u at *
 obtain ⟨u1, u2, u3⟩ := u
 obtain ⟨r, hr⟩ : ∃ r, r = (if e ≠ 0 then (([] : List UInt8), a, e) else (u1, u2, u3)) := ⟨_, rfl⟩
 rw [← hr]
 refine Qd ?_; refine Qy ?_; refine Qid ?_; refine JD ?_; refine Vt rfl (fun hq => ?_) (fun hq => ?_); refine Qf ?_; refine Z01 ?_; refine QFa ?_; refine Qc ?_; refine JR ?_; refine QBa ?_; refine Z01 ?_; refine QFa ?_; refine Z1 ?_; refine Z9 (hcon := hu) ?_; refine Qac ?_; refine ZF ?_; refine Z0 ?_; refine Z01 ?_; refine ZB ?_; refine Zy ?_; refine Z01 ?_; refine Qjd ?_; refine Qx ?_; (simp [*] at hr; subst hr; exact X1 ⟨_, St.le_refl _, ⟨rfl, trivial⟩, Xh ⟨rfl, trivial⟩⟩); refine X4 ?_; refine Qx ?_
 (simp [*] at hr; subst hr; exact X1 ⟨_, St.le_refl _, ⟨rfl, trivial⟩, Xh ⟨rfl, trivial⟩⟩)
theorem Xa4 (b : List UInt8) (a m : Nat) (want : Int) (hw : want = 5 ∨ want = 6) (gl gp : Nat → Int → Val × Int × Int) : U9 gl gp m b a want = X2u b a want := by
 unfold X2u U9
 split
 ·rfl
 simp only
 have hc : ∀ gl gp gl' gp' (k : Int), (k = 5 ∨ k = 6) → XV gl gp b (a + 1) k = XV gl' gp' b (a + 1) k := by
  intro _ _ _ _ k hk
  unfold XV
  rw [if_pos (by omega), if_pos (by omega)]
 by_cases h : ((((b[(a : Int).toNat]?).getD 0).toNat : Nat) : Int) = want
 ·rw [if_neg (c := 8 < _ ∨ _) (by omega), if_neg (c := 8 < _ ∨ _) (by omega), hc gl gp noG noG _ (by omega)]
 ·rw [if_pos (by omega), if_pos (by omega)]
theorem Xay (b : List UInt8) (a m : Nat) (want : Int) (hm : m ≤ 8) (ha : a ≤ b.length) (hb : b.length ≤ 281474976710656) (hw : want = 5 ∨ want = 6) : X0c b a (8 - m) want (X2u b a want) := by
 rw [← Xa4 b a m want hw noG noG]
 exact X5e b m a want noG noG hm ha hb (fun i q _ => X2l i q) (fun i q _ => X2l i q) (by omega) (by omega) (by omega)
theorem X8J (b : List UInt8) (hb : b.length ≤ 281474976710656) : ∀ (m a : Nat), m ≤ 8 → a ≤ b.length → X0c b a (8 - m) 0 (UX b m a)
 | 0, a, hm, ha => by
  rw [X0o]
  exact X5e b 0 a 0 (VM b 0) (Uu b) hm ha hb (fun i q _ => X2l i q) (fun i q h => X23 i q h) (fun _ h => absurd rfl h) (fun _ i q h => Xay b q 0 _ hm h hb (by omega)) (fun h => absurd rfl h)
 | m + 1, a, hm, ha => by
  rw [X0o]
  refine X5e b (m + 1) a 0 (VM b (m + 1)) (Uu b) hm ha hb (fun i q h => X5b m q h) (fun i q h => X23 i q h) (fun _ _ i q h => ?_) (fun _ i q h => Xay b q (m + 1) _ hm h hb (by omega)) (fun h => absurd rfl h)
  have := X8J b hb m q (by omega) h
  rw [show (8 : Int) - ((m + 1 : Nat) : Int) + 1 = 8 - (m : Int) by omega]
  exact this
theorem Xe5 (b : List UInt8) (hb : b.length ≤ 281474976710656) (a : Nat) (ha : a ≤ b.length) (r : Val × Int × Int) (hr : UX b 8 a = r) :
  Con Tryz.prog 157 [(101, oRd b a 0)] [.ptr 101 0, ai 0, ai 0] [(101, oRd b r.2.1 r.2.2)] (Xi r.1) := by
 have h := Vv 0 101 (X8J b hb 8 a (by omega) ha)
 rw [hr] at h
 obtain ⟨⟨k, n, d, s, l⟩, x, y⟩ := r
 exact h
theorem Xh2 (b : List UInt8) (hb : b.length ≤ 281474976710656) (a : Int) : Con Tryz.prog 132 [] [.d (Xg b), ai a] [] (.tup [Xi (Yn b a).1, ai (Yn b a).2.1, ai (Yn b a).2.2]) := by
 refine Xb (xs := [Xi (Yn b a).1, ai (Yn b a).2.1, ai (Yn b a).2.2]) Tryz.func132 rfl Tryz.ntmps132 rfl rfl rfl (fun E => ?_)
 by_cases h1 : a < 0
 ·rw [show Yn b a = (zV, 0, 1) by unfold Yn; rw [if_pos (.inl h1)]]
  refine Qia ?_; refine Qya ?_; refine Qn ?_; refine Qba ?_; refine Zn ?_; exact QHd
 by_cases h2 : (b.length : Int) < a
 ·rw [show Yn b a = (zV, 0, 1) by unfold Yn; rw [if_pos (.inr h2)]]
  refine Qia ?_; refine Qya ?_; refine QNb ?_; refine QQa ?_; exact QHd
 obtain ⟨q, rfl⟩ : ∃ q : Nat, a = q := ⟨a.toNat, by omega⟩
 have hq : q ≤ b.length := by omega
 have hv : Yn b q = if (UX b 8 q).2.2 ≠ 0 then (zV, 0, (UX b 8 q).2.2) else UX b 8 q := by unfold Yn; rw [if_neg (by omega)]
 have hcon := Xe5 b hb q hq _ rfl
 rw [hv]
 clear hv
 generalize UX b 8 q = r at *
 obtain ⟨⟨k, n, d, s, l⟩, x, y⟩ := r
 simp only [Xi] at hcon
 by_cases h3 : y = 0
 ·subst h3
  rw [if_neg (by simp)]
  repeat first | refine X0 ?_ | (refine JR ?_; (repeat first | refine Z1 ?_ | refine Z0 ?_ | refine Z01 ?_ | refine ZB ?_ | refine ZC ?_ | refine ZL ?_ | refine Zd ?_ | refine Z8 ?_ | refine Zs ?_ | refine Zv ?_ | refine Zw (γ := 100) ?_ | refine Zw (γ := 102) ?_ | refine ZA (γ := 101) ?_ | refine Zy ?_ | refine Zx ?_ | refine Zq ?_ | refine Z9 (hcon := hcon) ?_); refine JD ?_) | refine JF ?_ | refine X4 ?_
  exact QId
 ·rw [if_pos h3]
  repeat first | refine X0 ?_ | (refine JR ?_; (repeat first | refine Z1 ?_ | refine Z0 ?_ | refine Z01 ?_ | refine ZB ?_ | refine ZC ?_ | refine Zd ?_ | refine Z8 ?_ | refine Zs ?_ | refine Zv ?_ | refine Zw (γ := 100) ?_ | refine Zw (γ := 102) ?_ | refine ZA (γ := 101) ?_ | refine Zy ?_ | refine Zx ?_ | refine Zq ?_ | refine Z9 (hcon := hcon) ?_); refine JD ?_) | refine JT ?_ | refine JF ?_ | refine X4 ?_
  exact QGd
def Yc (b : List UInt8) (a e : Int) : Chg × Int × Int :=
 let k := rkI b a e 8
 let i := rnS b k.2.1 k.2.2
 let f := if k.1 = 6 then rnS b i.2.1 i.2.2 else (0, i.2.1, i.2.2)
 let t := if k.1 = 6 then rnS b f.2.1 f.2.2 else (0, f.2.1, f.2.2)
 let s := if XX k.1 = true then rsS b t.2.1 t.2.2 else ([], t.2.1, t.2.2)
 let v := if XS k.1 = true then rvS b s.2.1 s.2.2 else (zV, s.2.1, s.2.2)
 (⟨k.1, i.1, f.1, t.1, s.1, v.1⟩, v.2.1, v.2.2)
theorem Xgq (b : List UInt8) (a e limit : Int) : ((rkI b a e limit).1 = 0 ∧ (rkI b a e limit).2.2 ≠ 0) ∨ (1 ≤ (rkI b a e limit).1 ∧ (rkI b a e limit).1 ≤ limit ∧ (rkI b a e limit).2.2 = 0) := by
 unfold rkI
 by_cases h : e = 0
 ·subst h
  rw [if_neg (by simp)]
  unfold rkS
  rw [if_neg (by simp)]
  split
  ·exact .inl ⟨rfl, by simp⟩
  ·split
   ·exact .inl ⟨rfl, by simp⟩
   ·exact .inr ⟨by simp only; omega, by simp only; omega, rfl⟩
 ·rw [if_pos h]
  exact .inl ⟨rfl, h⟩
theorem X5U {b : List UInt8} {a e : Int} (h : e ≠ 0) : rnS b a e = (0, a, e) := if_pos h
theorem X7f {b : List UInt8} {a e : Int} (h : e ≠ 0) : rsS b a e = ([], a, e) := if_pos h
theorem X6T {b : List UInt8} {a e : Int} (h : e ≠ 0) : riS b a e = (0, a, e) := if_pos h
theorem X9v {b : List UInt8} {a e : Int} (h : e ≠ 0) : rvS b a e = (zV, a, e) := if_pos h
theorem X57 {b : List UInt8} {a : Int} : rvS b a 0 = Yn b a := if_neg (by simp)
theorem Xhd (b : List UInt8) (a e : Int) (hb : b.length ≤ 281474976710656) (ha : e = 0 → 0 ≤ a ∧ a ≤ b.length) : Con Tryz.prog 96 [(0, oRd b a e)] [.ptr 0 0] [(0, oRd b (Yc b a e).2.1 (Yc b a e).2.2)] (Y3 (Yc b a e).1) := by
 refine Xb (xs := [Y3 (Yc b a e).1]) Tryz.func96 rfl Tryz.ntmps96 rfl rfl rfl (fun E => ?_)
 have hk := X5T b a e 8 hb ha
 have hop := Xgq b a e 8
 unfold Yc
 generalize rkI b a e 8 = k at *
 obtain ⟨op, a1, e1⟩ := k
 simp only at hk hop ⊢
 have hf := Xba op
 by_cases h0 : op = 0
 ·subst h0
  have he : e1 ≠ 0 := by omega
  have hi := X3d b a1 e1 hb
  have hs := X1u b a1 e1 hb
  rw [X5U he] at hi ⊢
  rw [X7f he] at hs
  simp only [if_neg (show ¬ (0 : Int) = 6 by omega), if_neg (show ¬ XX 0 = true by decide), if_neg (show ¬ XS 0 = true by decide)]
  simp only [Y3] at *
  repeat first | refine X0 ?_ | (refine JR ?_; (repeat first | refine Z1 ?_ | refine Z0 ?_ | refine Z01 ?_ | refine ZB ?_ | refine ZC ?_ | refine ZL ?_ | refine Zl ?_ | refine Zw (γ := 100) ?_ | refine Zw (γ := 101) ?_ | refine Zy ?_ | refine Zx ?_ | refine ZF ?_ | refine Zn ?_ | refine Z9 (hcon := hk) ?_ | refine Z9 (hcon := hf) ?_ | refine Z9 (hcon := hi) ?_ | refine Z9 (hcon := hs) ?_); refine JD ?_) | refine JT ?_ | refine JF ?_ | refine X4 ?_
  exact X1 ⟨_, Xl 100 (cs' := [ai 0, ai 0, ai 0, ai 0, X9 [], ai 0, ai 0, ai 0, X9 [], .d (.sl 5 [])]) rfl JM rfl, ⟨⟨100, 0, _, rfl, rfl, .inr ⟨10, _, rfl, rfl, rfl, rfl⟩⟩, trivial⟩, Xh ⟨rfl, trivial⟩⟩
 have hop : 1 ≤ op ∧ op ≤ 8 ∧ e1 = 0 := by omega
 obtain ⟨o1, o2, rfl⟩ := hop
 have hi := X3d b a1 0 hb
 generalize rnS b a1 0 = i at *
 obtain ⟨id, a2, e2⟩ := i
 simp only at hi ⊢
 by_cases h6 : op = 6
 ·subst h6
  simp only [if_true, if_pos (show XX 6 = true by decide), if_neg (show ¬ XS 6 = true by decide)]
  have hs := X3d b a2 e2 hb
  generalize rnS b a2 e2 = f at *
  obtain ⟨src, a3, e3⟩ := f
  simp only at hs ⊢
  have hd := X3d b a3 e3 hb
  generalize rnS b a3 e3 = t at *
  obtain ⟨dst, a4, e4⟩ := t
  simp only at hd ⊢
  have hn := X1u b a4 e4 hb
  generalize rsS b a4 e4 = s at *
  obtain ⟨name, a5, e5⟩ := s
  simp only [Y3] at *
  repeat first | refine X0 ?_ | (refine JR ?_; (repeat first | refine Z1 ?_ | refine Z0 ?_ | refine ZB ?_ | refine ZC ?_ | refine ZL ?_ | refine Zw (γ := 100) ?_ | refine Zw (γ := 101) ?_ | refine Zy ?_ | refine Zx ?_ | refine ZF ?_ | refine Zq ?_ | refine Zo ?_ | refine Z9 (hcon := hk) ?_ | refine Z9 (hcon := hf) ?_ | refine Z9 (hcon := hi) ?_ | refine Z9 (hcon := hs) ?_ | refine Z9 (hcon := hd) ?_ | refine Z9 (hcon := hn) ?_); refine JD ?_) | refine JT ?_ | refine JF ?_ | refine X4 ?_
  exact X1 ⟨_, Xl 100 (cs' := [ai 6, ai id, ai src, ai dst, X9 name, ai 0, ai 0, ai 0, X9 [], .d (.sl 5 [])]) rfl JM rfl, ⟨⟨100, 0, _, rfl, rfl, .inr ⟨10, _, rfl, rfl, rfl, rfl⟩⟩, trivial⟩, Xh ⟨rfl, trivial⟩⟩
 simp only [if_neg h6]
 by_cases hn : XX op = true
 case neg =>
  have hv : ¬ XS op = true := by revert hn; unfold XX XS; simp; omega
  simp only [if_neg hn, if_neg hv]
  have hu : op = 1 ∨ op = 2 ∨ op = 7 := by revert hn; unfold XX; simp; omega
  rcases hu with rfl | rfl | rfl
  ·simp only [Y3] at *
   repeat first | refine X0 ?_ | (refine JR ?_; (repeat first | refine Z1 ?_ | refine Z0 ?_ | refine ZB ?_ | refine ZC ?_ | refine ZL ?_ | refine Zw (γ := 100) ?_ | refine Zw (γ := 101) ?_ | refine Zy ?_ | refine Zx ?_ | refine ZF ?_ | refine Zq ?_ | refine Zo ?_ | refine Z9 (hcon := hk) ?_ | refine Z9 (hcon := hf) ?_ | refine Z9 (hcon := hi) ?_); refine JD ?_) | refine JF ?_ | refine X4 ?_
   exact QJd
  ·simp only [Y3] at *
   repeat first | refine X0 ?_ | (refine JR ?_; (repeat first | refine Z1 ?_ | refine Z0 ?_ | refine ZB ?_ | refine ZC ?_ | refine ZL ?_ | refine Zw (γ := 100) ?_ | refine Zw (γ := 101) ?_ | refine Zy ?_ | refine Zx ?_ | refine ZF ?_ | refine Zq ?_ | refine Zo ?_ | refine Z9 (hcon := hk) ?_ | refine Z9 (hcon := hf) ?_ | refine Z9 (hcon := hi) ?_); refine JD ?_) | refine JF ?_ | refine X4 ?_
   exact QJd
  ·simp only [Y3] at *
   repeat first | refine X0 ?_ | (refine JR ?_; (repeat first | refine Z1 ?_ | refine Z0 ?_ | refine ZB ?_ | refine ZC ?_ | refine ZL ?_ | refine Zw (γ := 100) ?_ | refine Zw (γ := 101) ?_ | refine Zy ?_ | refine Zx ?_ | refine ZF ?_ | refine Zq ?_ | refine Zo ?_ | refine Z9 (hcon := hk) ?_ | refine Z9 (hcon := hf) ?_ | refine Z9 (hcon := hi) ?_); refine JD ?_) | refine JF ?_ | refine X4 ?_
   exact QJd
 simp only [if_pos hn]
 have hs := X1u b a2 e2 hb
 generalize rsS b a2 e2 = s at *
 obtain ⟨name, a3, e3⟩ := s
 simp only at hs ⊢
 by_cases hv : XS op = true
 case neg =>
  simp only [if_neg hv]
  have hu : op = 3 ∨ op = 4 := by revert hn hv; unfold XX XS; simp; omega
  rcases hu with rfl | rfl
  ·simp only [Y3] at *
   repeat first | refine X0 ?_ | (refine JR ?_; (repeat first | refine Z1 ?_ | refine Z0 ?_ | refine ZB ?_ | refine ZC ?_ | refine ZL ?_ | refine Zw (γ := 100) ?_ | refine Zw (γ := 101) ?_ | refine Zy ?_ | refine Zx ?_ | refine ZF ?_ | refine Zq ?_ | refine Zo ?_ | refine Z9 (hcon := hk) ?_ | refine Z9 (hcon := hf) ?_ | refine Z9 (hcon := hi) ?_ | refine Z9 (hcon := hs) ?_); refine JD ?_) | refine JT ?_ | refine JF ?_ | refine X4 ?_
   exact QKd
  ·simp only [Y3] at *
   repeat first | refine X0 ?_ | (refine JR ?_; (repeat first | refine Z1 ?_ | refine Z0 ?_ | refine ZB ?_ | refine ZC ?_ | refine ZL ?_ | refine Zw (γ := 100) ?_ | refine Zw (γ := 101) ?_ | refine Zy ?_ | refine Zx ?_ | refine ZF ?_ | refine Zq ?_ | refine Zo ?_ | refine Z9 (hcon := hk) ?_ | refine Z9 (hcon := hf) ?_ | refine Z9 (hcon := hi) ?_ | refine Z9 (hcon := hs) ?_); refine JD ?_) | refine JT ?_ | refine JF ?_ | refine X4 ?_
   exact QKd
 simp only [if_pos hv]
 have hu : op = 5 ∨ op = 8 := by revert hv; unfold XS; simp
 by_cases he : e3 = 0
 ·subst he
  rw [X57]
  have hr := Xh2 b hb a3
  generalize Yn b a3 = v at *
  obtain ⟨⟨vk, vn, vd, vs, vl⟩, a4, e4⟩ := v
  rcases hu with rfl | rfl
  ·simp only [Y3, Xi] at *
   repeat first | refine X0 ?_ | (refine JR ?_; (repeat first | refine Z1 ?_ | refine Z0 ?_ | refine Z01 ?_ | refine ZB ?_ | refine ZC ?_ | refine ZL ?_ | refine Zl ?_ | refine Zw (γ := 100) ?_ | refine Zw (γ := 101) ?_ | refine Zy ?_ | refine Zx ?_ | refine ZF ?_ | refine Zn ?_ | refine Z9 (hcon := hk) ?_ | refine Z9 (hcon := hf) ?_ | refine Z9 (hcon := hi) ?_ | refine Z9 (hcon := hs) ?_ | refine Z9 (hcon := hr) ?_); refine JD ?_) | refine JT ?_ | refine JF ?_ | refine X4 ?_
   exact QLd
  ·simp only [Y3, Xi] at *
   repeat first | refine X0 ?_ | (refine JR ?_; (repeat first | refine Z1 ?_ | refine Z0 ?_ | refine Z01 ?_ | refine ZB ?_ | refine ZC ?_ | refine ZL ?_ | refine Zl ?_ | refine Zw (γ := 100) ?_ | refine Zw (γ := 101) ?_ | refine Zy ?_ | refine Zx ?_ | refine ZF ?_ | refine Zn ?_ | refine Z9 (hcon := hk) ?_ | refine Z9 (hcon := hf) ?_ | refine Z9 (hcon := hi) ?_ | refine Z9 (hcon := hs) ?_ | refine Z9 (hcon := hr) ?_); refine JD ?_) | refine JT ?_ | refine JF ?_ | refine X4 ?_
   exact QLd
 ·rw [X9v he]
  rcases hu with rfl | rfl
  ·simp only [Y3] at *
   repeat first | refine X0 ?_ | (refine JR ?_; (repeat first | refine Z1 ?_ | refine Z0 ?_ | refine Z01 ?_ | refine ZB ?_ | refine ZC ?_ | refine ZL ?_ | refine Zl ?_ | refine Zw (γ := 100) ?_ | refine Zw (γ := 101) ?_ | refine Zy ?_ | refine Zx ?_ | refine ZF ?_ | refine Zn ?_ | refine Z9 (hcon := hk) ?_ | refine Z9 (hcon := hf) ?_ | refine Z9 (hcon := hi) ?_ | refine Z9 (hcon := hs) ?_); refine JD ?_) | refine JT ?_ | refine JF ?_ | refine X4 ?_
   exact QKd
  ·simp only [Y3] at *
   repeat first | refine X0 ?_ | (refine JR ?_; (repeat first | refine Z1 ?_ | refine Z0 ?_ | refine Z01 ?_ | refine ZB ?_ | refine ZC ?_ | refine ZL ?_ | refine Zl ?_ | refine Zw (γ := 100) ?_ | refine Zw (γ := 101) ?_ | refine Zy ?_ | refine Zx ?_ | refine ZF ?_ | refine Zn ?_ | refine Z9 (hcon := hk) ?_ | refine Z9 (hcon := hf) ?_ | refine Z9 (hcon := hi) ?_ | refine Z9 (hcon := hs) ?_); refine JD ?_) | refine JT ?_ | refine JF ?_ | refine X4 ?_
   exact QKd
def YN (b : List UInt8) (a e : Int) : Rul × Int × Int :=
 let k := rkI b a e 7
 let n := rsS b k.2.1 k.2.2
 let y := rsS b n.2.1 n.2.2
 let s := rsS b y.2.1 y.2.2
 let d := rsS b s.2.1 s.2.2
 let i := riS b d.2.1 d.2.2
 (⟨k.1, i.1, n.1, y.1, s.1, d.1⟩, i.2.1, i.2.2)
theorem X3E {b : List UInt8} {a : Int} : riS b a 0 = Xp b a := if_neg (by simp)
theorem XcK (b : List UInt8) (a e : Int) (hb : b.length ≤ 281474976710656) (ha : e = 0 → 0 ≤ a ∧ a ≤ b.length) : Con Tryz.prog 97 [(0, oRd b a e)] [.ptr 0 0] [(0, oRd b (YN b a e).2.1 (YN b a e).2.2)] (Uw (YN b a e).1) := by
 refine Xb (xs := [Uw (YN b a e).1]) Tryz.func97 rfl Tryz.ntmps97 rfl rfl rfl (fun E => ?_)
 have hk := X5T b a e 7 hb ha
 unfold YN
 generalize rkI b a e 7 = k at *
 obtain ⟨kd, a1, e1⟩ := k
 simp only at hk ⊢
 have h1 := X1u b a1 e1 hb
 generalize rsS b a1 e1 = u1 at *
 obtain ⟨s1, a2, e2⟩ := u1
 simp only at h1 ⊢
 have h2 := X1u b a2 e2 hb
 generalize rsS b a2 e2 = u2 at *
 obtain ⟨s2, a3, e3⟩ := u2
 simp only at h2 ⊢
 have h3 := X1u b a3 e3 hb
 generalize rsS b a3 e3 = u3 at *
 obtain ⟨s3, a4, e4⟩ := u3
 simp only at h3 ⊢
 have h4 := X1u b a4 e4 hb
 generalize rsS b a4 e4 = u4 at *
 obtain ⟨s4, a5, e5⟩ := u4
 simp only [Uw] at h4 ⊢
 refine Qia ?_; refine JD ?_; refine Qf ?_; refine Z9 (hcon := hk) ?_; refine Zx ?_; refine Qyd ?_; refine X0 ?_; refine Qb ?_; refine ZB ?_; refine ZB ?_; refine ZB ?_; refine ZB ?_; refine Z03 (γ := 102) ?_; refine Z04 ?_; refine Z1 ?_; refine JD ?_; refine X5 ?_
 refine Xu (ι := Nat) (fun i => i ≤ 4) (fun i => ⟨52, [(0, .ptr 0 0), (2, .ptr 100 0), (3, .ptr 101 0), (14, .bsl 102 4), (15, ai 4), (16, ai i)], match i with
   | 0 => [(0, oRd b a1 e1), (100, .box [ai 0, ai 0, X9 [], X9 [], X9 [], X9 []]), (101, .box [ai kd, ai 0, X9 [], X9 [], X9 [], X9 []]), (102, .box [.ptr 101 2, .ptr 101 3, .ptr 101 4, .ptr 101 5])]
   | 1 => [(0, oRd b a2 e2), (100, .box [ai 0, ai 0, X9 [], X9 [], X9 [], X9 []]), (101, .box [ai kd, ai 0, X9 s1, X9 [], X9 [], X9 []]), (102, .box [.ptr 101 2, .ptr 101 3, .ptr 101 4, .ptr 101 5])]
   | 2 => [(0, oRd b a3 e3), (100, .box [ai 0, ai 0, X9 [], X9 [], X9 [], X9 []]), (101, .box [ai kd, ai 0, X9 s1, X9 s2, X9 [], X9 []]), (102, .box [.ptr 101 2, .ptr 101 3, .ptr 101 4, .ptr 101 5])]
   | 3 => [(0, oRd b a4 e4), (100, .box [ai 0, ai 0, X9 [], X9 [], X9 [], X9 []]), (101, .box [ai kd, ai 0, X9 s1, X9 s2, X9 s3, X9 []]), (102, .box [.ptr 101 2, .ptr 101 3, .ptr 101 4, .ptr 101 5])]
   | _ => [(0, oRd b a5 e5), (100, .box [ai 0, ai 0, X9 [], X9 [], X9 [], X9 []]), (101, .box [ai kd, ai 0, X9 s1, X9 s2, X9 s3, X9 s4]), (102, .box [.ptr 101 2, .ptr 101 3, .ptr 101 4, .ptr 101 5])]⟩) (fun i => 4 - i) 0 (by omega)
  (Xa rfl ⟨JL, JL, JL, JL, JL, JL, trivial⟩ ⟨rfl, rfl, rfl, rfl, trivial⟩) ?_
 intro i hi
 match i, hi with
 | 0, _ =>
  refine QMd ?_; refine Z9 (hcon := h1) ?_; refine Z01 ?_; refine QTa ?_; refine QI ?_; exact ⟨1, by omega, by omega, Xa rfl ⟨JL, JL, JL, JL, JL, JL, trivial⟩ ⟨rfl, rfl, rfl, rfl, trivial⟩⟩
 | 1, _ =>
  refine QMd ?_; refine Z9 (hcon := h2) ?_; refine Z01 ?_; refine QTa ?_; refine QI ?_; exact ⟨2, by omega, by omega, Xa rfl ⟨JL, JL, JL, JL, JL, JL, trivial⟩ ⟨rfl, rfl, rfl, rfl, trivial⟩⟩
 | 2, _ =>
  refine QMd ?_; refine Z9 (hcon := h3) ?_; refine Z01 ?_; refine QTa ?_; refine QI ?_; exact ⟨3, by omega, by omega, Xa rfl ⟨JL, JL, JL, JL, JL, JL, trivial⟩ ⟨rfl, rfl, rfl, rfl, trivial⟩⟩
 | 3, _ =>
  refine QMd ?_; refine Z9 (hcon := h4) ?_; refine Z01 ?_; refine QTa ?_; refine QI ?_; exact ⟨4, by omega, by omega, Xa rfl ⟨JL, JL, JL, JL, JL, JL, trivial⟩ ⟨rfl, rfl, rfl, rfl, trivial⟩⟩
 | 4, _ =>
  by_cases he : e5 = 0
  ·subst he
   have hi := X9t b a5 hb
   rw [X3E]
   generalize Xp b a5 = u5 at *
   obtain ⟨n, a6, e6⟩ := u5
   repeat first | refine X0 ?_ | (refine JR ?_; (repeat first | refine Z1 ?_ | refine Z0 ?_ | refine Z01 ?_ | refine ZB ?_ | refine ZC ?_ | refine ZL ?_ | refine Z8 ?_ | refine Zl ?_ | refine Zy ?_ | refine ZF ?_ | refine Z9 (hcon := hi) ?_); refine JD ?_) | refine JT ?_ | refine JF ?_ | refine Xn ?_
   exact QNd
  ·rw [X6T he]
   refine QK ?_; refine Qg ?_; refine Qid ?_; refine Qr ?_; refine Qmd ?_; exact QNd
def roS (b : List UInt8) (a e : Int) : Bool × Int × Int :=
 if e ≠ 0 then (false, a, e) else if (b.length : Int) ≤ a then (false, a, 3) else
  if 1 < ((b[a.toNat]?).getD 0).toNat then (false, a, 2) else (decide ((((b[a.toNat]?).getD 0).toNat : Int) = 1), a + 1, 0)
theorem Xcw (b : List UInt8) (a e : Int) (hb : b.length ≤ 281474976710656) (ha : e = 0 → 0 ≤ a ∧ a ≤ b.length) : Con Tryz.prog 98 [(0, oRd b a e)] [.ptr 0 0] [(0, oRd b (roS b a e).2.1 (roS b a e).2.2)] (ab (roS b a e).1) := by
 refine Xb (xs := [ab (roS b a e).1]) Tryz.func98 rfl Tryz.ntmps98 rfl rfl rfl (fun E => ?_)
 have hlm : (b.map X7).length = b.length := by simp
 unfold roS
 by_cases he : e = 0
 case neg =>
  rw [if_pos he]
  exact Qkd
 subst he
 obtain ⟨m, rfl⟩ : ∃ m : Nat, a = m := ⟨a.toNat, by have := ha rfl; omega⟩
 rw [if_neg (by simp), Int.toNat_natCast]
 by_cases h1 : (b.length : Int) ≤ m
 ·rw [if_pos h1]
  have h1' : ((b.map X7).length : Int) ≤ m := by omega
  repeat first | refine X0 ?_ | (refine JR ?_; (repeat first | refine Z1 ?_ | refine Z0 ?_ | refine Z01 ?_ | refine ZB ?_ | refine ZC ?_ | refine Zd ?_ | refine Z2 ?_ | refine Zv ?_ | refine Zy ?_); refine JD ?_) | refine JT ?_ | refine JF ?_ | refine X5 ?_
  exact Qq
 rw [if_neg h1]
 have h1' : ¬ ((b.map X7).length : Int) ≤ m := by omega
 obtain ⟨c, hc⟩ := Xv (l := b) (k := m) (by omega)
 have hxm : (b.map X7)[m]? = some (X7 c) := YF hc
 rw [hc, Option.getD_some]
 by_cases h2 : 1 < c.toNat
 ·rw [if_pos h2]
  repeat first | refine X0 ?_ | (refine JR ?_; (repeat first | refine Z1 ?_ | refine Z0 ?_ | refine Z01 ?_ | refine ZB ?_ | refine ZC ?_ | refine Zk ?_ | refine Zd ?_ | refine Zs ?_ | refine Z2 ?_ | refine Zv ?_ | refine Zy ?_ | refine Zj ?_); refine JD ?_) | refine JT ?_ | refine JF ?_ | refine X5 ?_
  exact Qq
 rw [if_neg h2]
 repeat first | refine X0 ?_ | (refine JR ?_; (repeat first | refine Z4 (op := .sub) (r' := nj m) (u := .int .i64 ((m : Int) + 1)) (v := .int .i64 1) ?_ (hr' := by exact congrArg (Value.int .i64) (show ((m : Int) + 1 - 1) = (m : Int) by omega)) (hr := by exact X0B (by unfold YP; omega)) | refine Z1 ?_ | refine Z0 ?_ | refine Z01 ?_ | refine ZB ?_ | refine ZC ?_ | refine Zk ?_ | refine Zd ?_ | refine Zs ?_ | refine Z2 ?_ | refine Zl ?_ | refine Zv ?_ | refine Zb ?_ | refine Zy ?_ | refine Zj ?_); refine JD ?_) | refine JF ?_ | refine X5 ?_
 exact Qq
end Go.Fw

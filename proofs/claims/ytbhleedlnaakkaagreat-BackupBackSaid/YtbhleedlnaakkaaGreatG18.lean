/- Reading values: value, all. -/
import Derived.Test.YtbhleedlnaakkaaGreatG17
set_option maxHeartbeats 16000000
namespace Go.Fw
open Go Go.Proofs
set_option maxRecDepth 100000
set_option linter.unusedVariables false
set_option linter.unusedSimpArgs false
theorem X7m (b : List UInt8) (m a : Nat) (want : Int) (gl gp : Nat → Int → Val × Int × Int) (hm : m ≤ 8) (ha : a ≤ b.length) (hb : b.length ≤ 281474976710656)
  (hgl : ∀ i q : Nat, q ≤ b.length → Uz b (gl i q).2) (hgp : ∀ i q : Nat, q ≤ b.length → Uz b (gp i q).2)
  (hl : want = 0 → m ≠ 0 → ∀ i q : Nat, q ≤ b.length → X0b b q (8 - m + 1) 0 (gl i q)) (hp : want = 0 → ∀ i q : Nat, q ≤ b.length → X0b b q (8 - m) (5 + (i % 2 : Nat)) (gp i q)) (hw : want ≠ 0 → want = 5 ∨ want = 6) :
  X0b b a (8 - m) want (Ud gl gp m b a want) := by
 have hk := XdT b a m want hm ha hb
 by_cases hbad : (V4 b a m want).2.2 = 0
 case neg =>
  rw [Xeq hbad]
  refine X9 (xs := [Xv zV]) Tryz.func213 rfl Tryz.ntmps213 rfl rfl rfl (fun E => ?_)
  generalize V4 b a m want = u at *
  refine X0 ?_; refine JR ?_; refine Zw (γ := 100) ?_; refine JD ?_; refine X0 ?_; refine JR ?_; refine Z1 ?_; refine Z1 ?_; refine Z1 ?_; refine Z9 (hcon := hk) ?_; refine Zx ?_; refine Zw (γ := 101) ?_
  refine Zy ?_; refine JD ?_; refine X0 ?_; refine X0 ?_; refine JR ?_; refine Z1 ?_; refine Z01 ?_; refine ZB ?_; refine ZC ?_; refine Zv ?_; refine JD ?_; refine JT ?_; refine X0 ?_; refine JR ?_
  refine Zx ?_; refine Zy ?_; refine JD ?_
  exact X1 ⟨_, XI 100 (cs := [ai 0, ai 0, ai 0, .d (.v (.string (X5 []))), ani]) (cs' := [ai 0, ai 0, ai 0, .d (.v (.string (X5 []))), .d (.sl 5 [])]) rfl ⟨AVal.le_refl _, AVal.le_refl _, AVal.le_refl _, AVal.le_refl _, AVal.le_nil 5, trivial⟩ rfl, ⟨⟨100, 0, _, rfl, rfl, .inr ⟨5, _, rfl, rfl, rfl, rfl⟩⟩, trivial⟩, Xd ⟨rfl, trivial⟩⟩
 obtain ⟨k, hkk, hlt, hk8, hkm, hkw, hG⟩ := Xdc ha hbad
 rw [hkk] at hk
 clear hbad hkk
 replace hG := hG gl gp
 generalize hR : Ud gl gp m b a want = R at *
 simp only at hk
 by_cases h8 : k = 8
 ·subst h8
  have hw0 : want = 0 := Classical.byContradiction fun h => by
   have h1 := hkw h
   rcases hw h with h2 | h2 <;> omega
  exact Xhg b m a want gl gp R hm hlt hb hgl (hl hw0 (hkm rfl)) hk hG
 by_cases h7 : k = 7
 ·subst h7
  have hw0 : want = 0 := Classical.byContradiction fun h => by
   have h1 := hkw h
   rcases hw h with h2 | h2 <;> omega
  exact Xga b m a want gl gp R hm hlt hb hgp (hp hw0) hk hG
 refine X9 (xs := [Xv R.1]) Tryz.func213 rfl Tryz.ntmps213 rfl rfl rfl (fun E => ?_)
 by_cases h0 : k = 0
 ·subst h0
  rw [show ((0 : Nat) : Int) = 0 from rfl] at hk hG
  rw [show Y8 gl gp b (a + 1) 0 = (.mk 0 0 0 [] [], (a : Int) + 1, 0) by simp [Y8]] at hG
  have hval := X0g (.mk 0 0 0 [] [])
  simp only [Xv] at hval
  have hv : X7 8 (.mk 0 0 0 [] []) = true := by rw [X7]; simp
  rw [hv] at hval
  obtain rfl : R = (.mk 0 0 0 [] [], (a : Int) + 1, 0) := by rw [hG]; simp [YF, hv]
  repeat first | refine X0 ?_ | (refine JR ?_; (repeat first | refine Z1 ?_ | refine Z0 ?_ | refine Z01 ?_ | refine ZB ?_ | refine ZC ?_ | refine ZL ?_ | refine Zl ?_ | refine Zv ?_ | refine Zu ?_ | refine Zw (γ := 100) ?_ | refine Zw (γ := 101) ?_ | refine Zy ?_ | refine Zx ?_ | refine Zn ?_ | refine Z9 (hcon := hk) ?_ | refine Z9 (hcon := hval) ?_); refine JD ?_) | refine JF ?_ | refine X4 ?_ | refine X2 ?_
  exact X1 ⟨_, XI 100 (cs := [ai 0, ai 0, ai 0, .d (.v (.string (X5 []))), ani]) (cs' := [ai 0, ai 0, ai 0, .d (.v (.string (X5 []))), .d (.sl 5 [])]) rfl ⟨AVal.le_refl _, AVal.le_refl _, AVal.le_refl _, AVal.le_refl _, AVal.le_nil 5, trivial⟩ rfl, ⟨⟨100, 0, _, rfl, rfl, .inr ⟨5, _, rfl, rfl, rfl, rfl⟩⟩, trivial⟩, Xd ⟨rfl, trivial⟩⟩
 by_cases h1 : k = 1
 ·subst h1
  rw [show ((1 : Nat) : Int) = 1 from rfl] at hk hG
  have hn := X2K b (a + 1) 0 hb
  rw [if_pos rfl, if_pos rfl] at hn
  rw [show Y8 gl gp b (a + 1) 1 = (.mk 1 (Xq b (a + 1)).1 0 [] [], (Xq b (a + 1)).2.1, (Xq b (a + 1)).2.2) by simp [Y8]] at hG
  generalize Xq b (a + 1) = u at *
  obtain ⟨n, a2, e2⟩ := u
  simp only at hn hG
  by_cases he : e2 = 0
  ·subst he
   have hval := X0g (.mk 1 n 0 [] [])
   simp only [Xv] at hval
   cases hv : X7 8 (.mk 1 n 0 [] []) with
   | false =>
    rw [hv] at hval
    obtain rfl : R = ((.mk 1 n 0 [] []), a2, 2) := by rw [hG]; simp [YF, hv]
    repeat first | refine X0 ?_ | (refine JR ?_; (repeat first | refine Z1 ?_ | refine Z0 ?_ | refine Z01 ?_ | refine ZB ?_ | refine ZC ?_ | refine ZL ?_ | refine Zl ?_ | refine Zv ?_ | refine Zu ?_ | refine Zw (γ := 100) ?_ | refine Zw (γ := 101) ?_ | refine Zy ?_ | refine Zx ?_ | refine Zn ?_ | refine Z9 (hcon := hk) ?_ | refine Z9 (hcon := hn) ?_ | refine Z9 (hcon := hval) ?_); refine JD ?_) | refine JT ?_ | refine JF ?_ | refine X4 ?_ | refine X2 ?_
    exact X1 ⟨_, XI 100 (cs := [ai 1, ai n, ai 0, .d (.v (.string (X5 []))), ani]) (cs' := [ai 1, ai n, ai 0, .d (.v (.string (X5 []))), .d (.sl 5 [])]) rfl ⟨AVal.le_refl _, AVal.le_refl _, AVal.le_refl _, AVal.le_refl _, AVal.le_nil 5, trivial⟩ rfl, ⟨⟨100, 0, _, rfl, rfl, .inr ⟨5, _, rfl, rfl, rfl, rfl⟩⟩, trivial⟩, Xd ⟨rfl, trivial⟩⟩
   | true =>
    rw [hv] at hval
    obtain rfl : R = ((.mk 1 n 0 [] []), a2, 0) := by rw [hG]; simp [YF, hv]
    repeat first | refine X0 ?_ | (refine JR ?_; (repeat first | refine Z1 ?_ | refine Z0 ?_ | refine Z01 ?_ | refine ZB ?_ | refine ZC ?_ | refine ZL ?_ | refine Zl ?_ | refine Zv ?_ | refine Zu ?_ | refine Zw (γ := 100) ?_ | refine Zw (γ := 101) ?_ | refine Zy ?_ | refine Zx ?_ | refine Zn ?_ | refine Z9 (hcon := hk) ?_ | refine Z9 (hcon := hn) ?_ | refine Z9 (hcon := hval) ?_); refine JD ?_) | refine JT ?_ | refine JF ?_ | refine X4 ?_ | refine X2 ?_
    exact X1 ⟨_, XI 100 (cs := [ai 1, ai n, ai 0, .d (.v (.string (X5 []))), ani]) (cs' := [ai 1, ai n, ai 0, .d (.v (.string (X5 []))), .d (.sl 5 [])]) rfl ⟨AVal.le_refl _, AVal.le_refl _, AVal.le_refl _, AVal.le_refl _, AVal.le_nil 5, trivial⟩ rfl, ⟨⟨100, 0, _, rfl, rfl, .inr ⟨5, _, rfl, rfl, rfl, rfl⟩⟩, trivial⟩, Xd ⟨rfl, trivial⟩⟩
  ·obtain rfl : R = ((.mk 1 n 0 [] []), a2, e2) := by rw [hG]; simp [YF, he]
   repeat first | refine X0 ?_ | (refine JR ?_; (repeat first | refine Z1 ?_ | refine Z0 ?_ | refine Z01 ?_ | refine ZB ?_ | refine ZC ?_ | refine ZL ?_ | refine Zl ?_ | refine Zv ?_ | refine Zw (γ := 100) ?_ | refine Zw (γ := 101) ?_ | refine Zy ?_ | refine Zx ?_ | refine Zq ?_ | refine Zo ?_ | refine Z9 (hcon := hk) ?_ | refine Z9 (hcon := hn) ?_); refine JD ?_) | refine JT ?_ | refine JF ?_ | refine X4 ?_ | refine X2 ?_
   exact X1 ⟨_, XI 100 (cs := [ai 1, ai n, ai 0, .d (.v (.string (X5 []))), ani]) (cs' := [ai 1, ai n, ai 0, .d (.v (.string (X5 []))), .d (.sl 5 [])]) rfl ⟨AVal.le_refl _, AVal.le_refl _, AVal.le_refl _, AVal.le_refl _, AVal.le_nil 5, trivial⟩ rfl, ⟨⟨100, 0, _, rfl, rfl, .inr ⟨5, _, rfl, rfl, rfl, rfl⟩⟩, trivial⟩, Xd ⟨rfl, trivial⟩⟩
 by_cases h2 : k = 2
 ·subst h2
  rw [show ((2 : Nat) : Int) = 2 from rfl] at hk hG
  have hn := X2K b (a + 1) 0 hb
  rw [if_pos rfl, if_pos rfl] at hn
  rw [show Y8 gl gp b (a + 1) 2 = (.mk 2 (Xq b (a + 1)).1 0 [] [], (Xq b (a + 1)).2.1, (Xq b (a + 1)).2.2) by simp [Y8]] at hG
  generalize Xq b (a + 1) = u at *
  obtain ⟨n, a2, e2⟩ := u
  simp only at hn hG
  by_cases he : e2 = 0
  ·subst he
   have hval := X0g (.mk 2 n 0 [] [])
   simp only [Xv] at hval
   cases hv : X7 8 (.mk 2 n 0 [] []) with
   | false =>
    rw [hv] at hval
    obtain rfl : R = ((.mk 2 n 0 [] []), a2, 2) := by rw [hG]; simp [YF, hv]
    repeat first | refine X0 ?_ | (refine JR ?_; (repeat first | refine Z1 ?_ | refine Z0 ?_ | refine Z01 ?_ | refine ZB ?_ | refine ZC ?_ | refine ZL ?_ | refine Zl ?_ | refine Zv ?_ | refine Zu ?_ | refine Zw (γ := 100) ?_ | refine Zw (γ := 101) ?_ | refine Zy ?_ | refine Zx ?_ | refine Zn ?_ | refine Z9 (hcon := hk) ?_ | refine Z9 (hcon := hn) ?_ | refine Z9 (hcon := hval) ?_); refine JD ?_) | refine JT ?_ | refine JF ?_ | refine X4 ?_ | refine X2 ?_
    exact X1 ⟨_, XI 100 (cs := [ai 2, ai n, ai 0, .d (.v (.string (X5 []))), ani]) (cs' := [ai 2, ai n, ai 0, .d (.v (.string (X5 []))), .d (.sl 5 [])]) rfl ⟨AVal.le_refl _, AVal.le_refl _, AVal.le_refl _, AVal.le_refl _, AVal.le_nil 5, trivial⟩ rfl, ⟨⟨100, 0, _, rfl, rfl, .inr ⟨5, _, rfl, rfl, rfl, rfl⟩⟩, trivial⟩, Xd ⟨rfl, trivial⟩⟩
   | true =>
    rw [hv] at hval
    obtain rfl : R = ((.mk 2 n 0 [] []), a2, 0) := by rw [hG]; simp [YF, hv]
    repeat first | refine X0 ?_ | (refine JR ?_; (repeat first | refine Z1 ?_ | refine Z0 ?_ | refine Z01 ?_ | refine ZB ?_ | refine ZC ?_ | refine ZL ?_ | refine Zl ?_ | refine Zv ?_ | refine Zu ?_ | refine Zw (γ := 100) ?_ | refine Zw (γ := 101) ?_ | refine Zy ?_ | refine Zx ?_ | refine Zn ?_ | refine Z9 (hcon := hk) ?_ | refine Z9 (hcon := hn) ?_ | refine Z9 (hcon := hval) ?_); refine JD ?_) | refine JT ?_ | refine JF ?_ | refine X4 ?_ | refine X2 ?_
    exact X1 ⟨_, XI 100 (cs := [ai 2, ai n, ai 0, .d (.v (.string (X5 []))), ani]) (cs' := [ai 2, ai n, ai 0, .d (.v (.string (X5 []))), .d (.sl 5 [])]) rfl ⟨AVal.le_refl _, AVal.le_refl _, AVal.le_refl _, AVal.le_refl _, AVal.le_nil 5, trivial⟩ rfl, ⟨⟨100, 0, _, rfl, rfl, .inr ⟨5, _, rfl, rfl, rfl, rfl⟩⟩, trivial⟩, Xd ⟨rfl, trivial⟩⟩
  ·obtain rfl : R = ((.mk 2 n 0 [] []), a2, e2) := by rw [hG]; simp [YF, he]
   repeat first | refine X0 ?_ | (refine JR ?_; (repeat first | refine Z1 ?_ | refine Z0 ?_ | refine Z01 ?_ | refine ZB ?_ | refine ZC ?_ | refine ZL ?_ | refine Zl ?_ | refine Zv ?_ | refine Zw (γ := 100) ?_ | refine Zw (γ := 101) ?_ | refine Zy ?_ | refine Zx ?_ | refine Zq ?_ | refine Zo ?_ | refine Z9 (hcon := hk) ?_ | refine Z9 (hcon := hn) ?_); refine JD ?_) | refine JT ?_ | refine JF ?_ | refine X4 ?_ | refine X2 ?_
   exact X1 ⟨_, XI 100 (cs := [ai 2, ai n, ai 0, .d (.v (.string (X5 []))), ani]) (cs' := [ai 2, ai n, ai 0, .d (.v (.string (X5 []))), .d (.sl 5 [])]) rfl ⟨AVal.le_refl _, AVal.le_refl _, AVal.le_refl _, AVal.le_refl _, AVal.le_nil 5, trivial⟩ rfl, ⟨⟨100, 0, _, rfl, rfl, .inr ⟨5, _, rfl, rfl, rfl, rfl⟩⟩, trivial⟩, Xd ⟨rfl, trivial⟩⟩
 by_cases h5 : k = 5
 ·subst h5
  rw [show ((5 : Nat) : Int) = 5 from rfl] at hk hG
  have hn := X2K b (a + 1) 0 hb
  rw [if_pos rfl, if_pos rfl] at hn
  rw [show Y8 gl gp b (a + 1) 5 = (.mk 5 (Xq b (a + 1)).1 0 [] [], (Xq b (a + 1)).2.1, (Xq b (a + 1)).2.2) by simp [Y8]] at hG
  generalize Xq b (a + 1) = u at *
  obtain ⟨n, a2, e2⟩ := u
  simp only at hn hG
  by_cases he : e2 = 0
  ·subst he
   have hval := X0g (.mk 5 n 0 [] [])
   simp only [Xv] at hval
   cases hv : X7 8 (.mk 5 n 0 [] []) with
   | false =>
    rw [hv] at hval
    obtain rfl : R = ((.mk 5 n 0 [] []), a2, 2) := by rw [hG]; simp [YF, hv]
    repeat first | refine X0 ?_ | (refine JR ?_; (repeat first | refine Z1 ?_ | refine Z0 ?_ | refine Z01 ?_ | refine ZB ?_ | refine ZC ?_ | refine ZL ?_ | refine Zl ?_ | refine Zv ?_ | refine Zu ?_ | refine Zw (γ := 100) ?_ | refine Zw (γ := 101) ?_ | refine Zy ?_ | refine Zx ?_ | refine Zn ?_ | refine Z9 (hcon := hk) ?_ | refine Z9 (hcon := hn) ?_ | refine Z9 (hcon := hval) ?_); refine JD ?_) | refine JT ?_ | refine JF ?_ | refine X4 ?_ | refine X2 ?_
    exact X1 ⟨_, XI 100 (cs := [ai 5, ai n, ai 0, .d (.v (.string (X5 []))), ani]) (cs' := [ai 5, ai n, ai 0, .d (.v (.string (X5 []))), .d (.sl 5 [])]) rfl ⟨AVal.le_refl _, AVal.le_refl _, AVal.le_refl _, AVal.le_refl _, AVal.le_nil 5, trivial⟩ rfl, ⟨⟨100, 0, _, rfl, rfl, .inr ⟨5, _, rfl, rfl, rfl, rfl⟩⟩, trivial⟩, Xd ⟨rfl, trivial⟩⟩
   | true =>
    rw [hv] at hval
    obtain rfl : R = ((.mk 5 n 0 [] []), a2, 0) := by rw [hG]; simp [YF, hv]
    repeat first | refine X0 ?_ | (refine JR ?_; (repeat first | refine Z1 ?_ | refine Z0 ?_ | refine Z01 ?_ | refine ZB ?_ | refine ZC ?_ | refine ZL ?_ | refine Zl ?_ | refine Zv ?_ | refine Zu ?_ | refine Zw (γ := 100) ?_ | refine Zw (γ := 101) ?_ | refine Zy ?_ | refine Zx ?_ | refine Zn ?_ | refine Z9 (hcon := hk) ?_ | refine Z9 (hcon := hn) ?_ | refine Z9 (hcon := hval) ?_); refine JD ?_) | refine JT ?_ | refine JF ?_ | refine X4 ?_ | refine X2 ?_
    exact X1 ⟨_, XI 100 (cs := [ai 5, ai n, ai 0, .d (.v (.string (X5 []))), ani]) (cs' := [ai 5, ai n, ai 0, .d (.v (.string (X5 []))), .d (.sl 5 [])]) rfl ⟨AVal.le_refl _, AVal.le_refl _, AVal.le_refl _, AVal.le_refl _, AVal.le_nil 5, trivial⟩ rfl, ⟨⟨100, 0, _, rfl, rfl, .inr ⟨5, _, rfl, rfl, rfl, rfl⟩⟩, trivial⟩, Xd ⟨rfl, trivial⟩⟩
  ·obtain rfl : R = ((.mk 5 n 0 [] []), a2, e2) := by rw [hG]; simp [YF, he]
   repeat first | refine X0 ?_ | (refine JR ?_; (repeat first | refine Z1 ?_ | refine Z0 ?_ | refine Z01 ?_ | refine ZB ?_ | refine ZC ?_ | refine ZL ?_ | refine Zl ?_ | refine Zv ?_ | refine Zw (γ := 100) ?_ | refine Zw (γ := 101) ?_ | refine Zy ?_ | refine Zx ?_ | refine Zq ?_ | refine Zo ?_ | refine Z9 (hcon := hk) ?_ | refine Z9 (hcon := hn) ?_); refine JD ?_) | refine JT ?_ | refine JF ?_ | refine X4 ?_ | refine X2 ?_
   exact X1 ⟨_, XI 100 (cs := [ai 5, ai n, ai 0, .d (.v (.string (X5 []))), ani]) (cs' := [ai 5, ai n, ai 0, .d (.v (.string (X5 []))), .d (.sl 5 [])]) rfl ⟨AVal.le_refl _, AVal.le_refl _, AVal.le_refl _, AVal.le_refl _, AVal.le_nil 5, trivial⟩ rfl, ⟨⟨100, 0, _, rfl, rfl, .inr ⟨5, _, rfl, rfl, rfl, rfl⟩⟩, trivial⟩, Xd ⟨rfl, trivial⟩⟩
 by_cases h6 : k = 6
 ·subst h6
  rw [show ((6 : Nat) : Int) = 6 from rfl] at hk hG
  have hn := X2K b (a + 1) 0 hb
  rw [if_pos rfl, if_pos rfl] at hn
  rw [show Y8 gl gp b (a + 1) 6 = (.mk 6 (Xq b (a + 1)).1 0 [] [], (Xq b (a + 1)).2.1, (Xq b (a + 1)).2.2) by simp [Y8]] at hG
  generalize Xq b (a + 1) = u at *
  obtain ⟨n, a2, e2⟩ := u
  simp only at hn hG
  by_cases he : e2 = 0
  ·subst he
   have hval := X0g (.mk 6 n 0 [] [])
   simp only [Xv] at hval
   cases hv : X7 8 (.mk 6 n 0 [] []) with
   | false =>
    rw [hv] at hval
    obtain rfl : R = ((.mk 6 n 0 [] []), a2, 2) := by rw [hG]; simp [YF, hv]
    repeat first | refine X0 ?_ | (refine JR ?_; (repeat first | refine Z1 ?_ | refine Z0 ?_ | refine Z01 ?_ | refine ZB ?_ | refine ZC ?_ | refine ZL ?_ | refine Zl ?_ | refine Zv ?_ | refine Zu ?_ | refine Zw (γ := 100) ?_ | refine Zw (γ := 101) ?_ | refine Zy ?_ | refine Zx ?_ | refine Zn ?_ | refine Z9 (hcon := hk) ?_ | refine Z9 (hcon := hn) ?_ | refine Z9 (hcon := hval) ?_); refine JD ?_) | refine JT ?_ | refine JF ?_ | refine X4 ?_ | refine X2 ?_
    exact X1 ⟨_, XI 100 (cs := [ai 6, ai n, ai 0, .d (.v (.string (X5 []))), ani]) (cs' := [ai 6, ai n, ai 0, .d (.v (.string (X5 []))), .d (.sl 5 [])]) rfl ⟨AVal.le_refl _, AVal.le_refl _, AVal.le_refl _, AVal.le_refl _, AVal.le_nil 5, trivial⟩ rfl, ⟨⟨100, 0, _, rfl, rfl, .inr ⟨5, _, rfl, rfl, rfl, rfl⟩⟩, trivial⟩, Xd ⟨rfl, trivial⟩⟩
   | true =>
    rw [hv] at hval
    obtain rfl : R = ((.mk 6 n 0 [] []), a2, 0) := by rw [hG]; simp [YF, hv]
    repeat first | refine X0 ?_ | (refine JR ?_; (repeat first | refine Z1 ?_ | refine Z0 ?_ | refine Z01 ?_ | refine ZB ?_ | refine ZC ?_ | refine ZL ?_ | refine Zl ?_ | refine Zv ?_ | refine Zu ?_ | refine Zw (γ := 100) ?_ | refine Zw (γ := 101) ?_ | refine Zy ?_ | refine Zx ?_ | refine Zn ?_ | refine Z9 (hcon := hk) ?_ | refine Z9 (hcon := hn) ?_ | refine Z9 (hcon := hval) ?_); refine JD ?_) | refine JT ?_ | refine JF ?_ | refine X4 ?_ | refine X2 ?_
    exact X1 ⟨_, XI 100 (cs := [ai 6, ai n, ai 0, .d (.v (.string (X5 []))), ani]) (cs' := [ai 6, ai n, ai 0, .d (.v (.string (X5 []))), .d (.sl 5 [])]) rfl ⟨AVal.le_refl _, AVal.le_refl _, AVal.le_refl _, AVal.le_refl _, AVal.le_nil 5, trivial⟩ rfl, ⟨⟨100, 0, _, rfl, rfl, .inr ⟨5, _, rfl, rfl, rfl, rfl⟩⟩, trivial⟩, Xd ⟨rfl, trivial⟩⟩
  ·obtain rfl : R = ((.mk 6 n 0 [] []), a2, e2) := by rw [hG]; simp [YF, he]
   repeat first | refine X0 ?_ | (refine JR ?_; (repeat first | refine Z1 ?_ | refine Z0 ?_ | refine Z01 ?_ | refine ZB ?_ | refine ZC ?_ | refine ZL ?_ | refine Zl ?_ | refine Zv ?_ | refine Zw (γ := 100) ?_ | refine Zw (γ := 101) ?_ | refine Zy ?_ | refine Zx ?_ | refine Zq ?_ | refine Zo ?_ | refine Z9 (hcon := hk) ?_ | refine Z9 (hcon := hn) ?_); refine JD ?_) | refine JT ?_ | refine JF ?_ | refine X4 ?_ | refine X2 ?_
   exact X1 ⟨_, XI 100 (cs := [ai 6, ai n, ai 0, .d (.v (.string (X5 []))), ani]) (cs' := [ai 6, ai n, ai 0, .d (.v (.string (X5 []))), .d (.sl 5 [])]) rfl ⟨AVal.le_refl _, AVal.le_refl _, AVal.le_refl _, AVal.le_refl _, AVal.le_nil 5, trivial⟩ rfl, ⟨⟨100, 0, _, rfl, rfl, .inr ⟨5, _, rfl, rfl, rfl, rfl⟩⟩, trivial⟩, Xd ⟨rfl, trivial⟩⟩
 by_cases h3 : k = 3
 ·subst h3
  rw [show ((3 : Nat) : Int) = 3 from rfl] at hk hG
  have hn := X2K b (a + 1) 0 hb
  rw [if_pos rfl, if_pos rfl] at hn
  have hz := @XfC b (a + 1)
  have hc : Y8 gl gp b (a + 1) 3 = if (Xq b (a + 1)).2.2 ≠ 0 then (.mk 3 0 0 [] [], (Xq b (a + 1)).2.1, (Xq b (a + 1)).2.2) else (.mk 3 (Xq b (a + 1)).1 (Xq b (Xq b (a + 1)).2.1).1 [] [], (Xq b (Xq b (a + 1)).2.1).2.1, (Xq b (Xq b (a + 1)).2.1).2.2) := by simp [Y8]
  generalize Xq b (a + 1) = u at *
  obtain ⟨n, a2, e2⟩ := u
  simp only at hn hz hc
  have hn2 := X2K b a2 e2 hb
  by_cases he2 : e2 = 0
  ·subst he2
   rw [if_pos rfl, if_pos rfl] at hn2
   rw [if_neg (by simp)] at hc
   rw [hc] at hG
   generalize Xq b a2 = u at *
   obtain ⟨d, a3, e3⟩ := u
   simp only at hn2 hG
   by_cases he : e3 = 0
   ·subst he
    have hval := X0g (.mk 3 n d [] [])
    simp only [Xv] at hval
    cases hv : X7 8 (.mk 3 n d [] []) with
    | false =>
     rw [hv] at hval
     obtain rfl : R = ((.mk 3 n d [] []), a3, 2) := by rw [hG]; simp [YF, hv]
     repeat first | refine X0 ?_ | (refine JR ?_; (repeat first | refine Z1 ?_ | refine Z0 ?_ | refine Z01 ?_ | refine ZB ?_ | refine ZC ?_ | refine ZL ?_ | refine Zl ?_ | refine Zv ?_ | refine Zu ?_ | refine Zw (γ := 100) ?_ | refine Zw (γ := 101) ?_ | refine Zy ?_ | refine Zx ?_ | refine Zn ?_ | refine Z9 (hcon := hk) ?_ | refine Z9 (hcon := hn) ?_ | refine Z9 (hcon := hn2) ?_ | refine Z9 (hcon := hval) ?_); refine JD ?_) | refine JT ?_ | refine JF ?_ | refine X4 ?_ | refine X2 ?_
     exact X1 ⟨_, XI 100 (cs := [ai 3, ai n, ai d, .d (.v (.string (X5 []))), ani]) (cs' := [ai 3, ai n, ai d, .d (.v (.string (X5 []))), .d (.sl 5 [])]) rfl ⟨AVal.le_refl _, AVal.le_refl _, AVal.le_refl _, AVal.le_refl _, AVal.le_nil 5, trivial⟩ rfl, ⟨⟨100, 0, _, rfl, rfl, .inr ⟨5, _, rfl, rfl, rfl, rfl⟩⟩, trivial⟩, Xd ⟨rfl, trivial⟩⟩
    | true =>
     rw [hv] at hval
     obtain rfl : R = ((.mk 3 n d [] []), a3, 0) := by rw [hG]; simp [YF, hv]
     repeat first | refine X0 ?_ | (refine JR ?_; (repeat first | refine Z1 ?_ | refine Z0 ?_ | refine Z01 ?_ | refine ZB ?_ | refine ZC ?_ | refine ZL ?_ | refine Zl ?_ | refine Zv ?_ | refine Zu ?_ | refine Zw (γ := 100) ?_ | refine Zw (γ := 101) ?_ | refine Zy ?_ | refine Zx ?_ | refine Zn ?_ | refine Z9 (hcon := hk) ?_ | refine Z9 (hcon := hn) ?_ | refine Z9 (hcon := hn2) ?_ | refine Z9 (hcon := hval) ?_); refine JD ?_) | refine JT ?_ | refine JF ?_ | refine X4 ?_ | refine X2 ?_
     exact X1 ⟨_, XI 100 (cs := [ai 3, ai n, ai d, .d (.v (.string (X5 []))), ani]) (cs' := [ai 3, ai n, ai d, .d (.v (.string (X5 []))), .d (.sl 5 [])]) rfl ⟨AVal.le_refl _, AVal.le_refl _, AVal.le_refl _, AVal.le_refl _, AVal.le_nil 5, trivial⟩ rfl, ⟨⟨100, 0, _, rfl, rfl, .inr ⟨5, _, rfl, rfl, rfl, rfl⟩⟩, trivial⟩, Xd ⟨rfl, trivial⟩⟩
   ·obtain rfl : R = ((.mk 3 n d [] []), a3, e3) := by rw [hG]; simp [YF, he]
    repeat first | refine X0 ?_ | (refine JR ?_; (repeat first | refine Z1 ?_ | refine Z0 ?_ | refine Z01 ?_ | refine ZB ?_ | refine ZC ?_ | refine ZL ?_ | refine Zl ?_ | refine Zv ?_ | refine Zw (γ := 100) ?_ | refine Zw (γ := 101) ?_ | refine Zy ?_ | refine Zx ?_ | refine Zq ?_ | refine Zo ?_ | refine Z9 (hcon := hk) ?_ | refine Z9 (hcon := hn) ?_ | refine Z9 (hcon := hn2) ?_); refine JD ?_) | refine JT ?_ | refine JF ?_ | refine X4 ?_ | refine X2 ?_
    exact X1 ⟨_, XI 100 (cs := [ai 3, ai n, ai d, .d (.v (.string (X5 []))), ani]) (cs' := [ai 3, ai n, ai d, .d (.v (.string (X5 []))), .d (.sl 5 [])]) rfl ⟨AVal.le_refl _, AVal.le_refl _, AVal.le_refl _, AVal.le_refl _, AVal.le_nil 5, trivial⟩ rfl, ⟨⟨100, 0, _, rfl, rfl, .inr ⟨5, _, rfl, rfl, rfl, rfl⟩⟩, trivial⟩, Xd ⟨rfl, trivial⟩⟩
  ·rw [if_neg he2, if_neg he2] at hn2
   rw [if_pos he2] at hc
   rw [hc] at hG
   obtain rfl := hz he2
   obtain rfl : R = (.mk 3 0 0 [] [], a2, e2) := by rw [hG]; simp [YF, he2]
   repeat first | refine X0 ?_ | (refine JR ?_; (repeat first | refine Z1 ?_ | refine Z0 ?_ | refine Z01 ?_ | refine ZB ?_ | refine ZC ?_ | refine ZL ?_ | refine Zl ?_ | refine Zv ?_ | refine Zw (γ := 100) ?_ | refine Zw (γ := 101) ?_ | refine Zy ?_ | refine Zx ?_ | refine Zq ?_ | refine Zo ?_ | refine Z9 (hcon := hk) ?_ | refine Z9 (hcon := hn) ?_ | refine Z9 (hcon := hn2) ?_); refine JD ?_) | refine JT ?_ | refine JF ?_ | refine X4 ?_ | refine X2 ?_
   exact X1 ⟨_, XI 100 (cs := [ai 3, ai 0, ai 0, .d (.v (.string (X5 []))), ani]) (cs' := [ai 3, ai 0, ai 0, .d (.v (.string (X5 []))), .d (.sl 5 [])]) rfl ⟨AVal.le_refl _, AVal.le_refl _, AVal.le_refl _, AVal.le_refl _, AVal.le_nil 5, trivial⟩ rfl, ⟨⟨100, 0, _, rfl, rfl, .inr ⟨5, _, rfl, rfl, rfl, rfl⟩⟩, trivial⟩, Xd ⟨rfl, trivial⟩⟩
 by_cases h4 : k = 4
 ·subst h4
  rw [show ((4 : Nat) : Int) = 4 from rfl] at hk hG
  have hn := X5P b (a + 1) 100 hb
  rw [show Y8 gl gp b (a + 1) 4 = (.mk 4 0 0 (Y9 b (a + 1) 100).1 [], (Y9 b (a + 1) 100).2.1, (Y9 b (a + 1) 100).2.2) by simp [Y8]] at hG
  generalize Y9 b (a + 1) 100 = u at *
  obtain ⟨s, a2, e2⟩ := u
  simp only at hn hG
  by_cases he : e2 = 0
  ·subst he
   have hval := X0g (.mk 4 0 0 s [])
   simp only [Xv] at hval
   cases hv : X7 8 (.mk 4 0 0 s []) with
   | false =>
    rw [hv] at hval
    obtain rfl : R = ((.mk 4 0 0 s []), a2, 2) := by rw [hG]; simp [YF, hv]
    repeat first | refine X0 ?_ | (refine JR ?_; (repeat first | refine Z1 ?_ | refine Z0 ?_ | refine Z01 ?_ | refine ZB ?_ | refine ZC ?_ | refine ZL ?_ | refine Zl ?_ | refine Zv ?_ | refine Zu ?_ | refine Zw (γ := 100) ?_ | refine Zw (γ := 101) ?_ | refine Zy ?_ | refine Zx ?_ | refine ZF ?_ | refine Zn ?_ | refine Z9 (hcon := hk) ?_ | refine Z9 (hcon := hn) ?_ | refine Z9 (hcon := hval) ?_); refine JD ?_) | refine JT ?_ | refine JF ?_ | refine X4 ?_ | refine X2 ?_
    exact X1 ⟨_, XI 100 (cs := [ai 4, ai 0, ai 0, .d (.v (.string (X5 s))), ani]) (cs' := [ai 4, ai 0, ai 0, .d (.v (.string (X5 s))), .d (.sl 5 [])]) rfl ⟨AVal.le_refl _, AVal.le_refl _, AVal.le_refl _, AVal.le_refl _, AVal.le_nil 5, trivial⟩ rfl, ⟨⟨100, 0, _, rfl, rfl, .inr ⟨5, _, rfl, rfl, rfl, rfl⟩⟩, trivial⟩, Xd ⟨rfl, trivial⟩⟩
   | true =>
    rw [hv] at hval
    obtain rfl : R = ((.mk 4 0 0 s []), a2, 0) := by rw [hG]; simp [YF, hv]
    repeat first | refine X0 ?_ | (refine JR ?_; (repeat first | refine Z1 ?_ | refine Z0 ?_ | refine Z01 ?_ | refine ZB ?_ | refine ZC ?_ | refine ZL ?_ | refine Zl ?_ | refine Zv ?_ | refine Zu ?_ | refine Zw (γ := 100) ?_ | refine Zw (γ := 101) ?_ | refine Zy ?_ | refine Zx ?_ | refine ZF ?_ | refine Zn ?_ | refine Z9 (hcon := hk) ?_ | refine Z9 (hcon := hn) ?_ | refine Z9 (hcon := hval) ?_); refine JD ?_) | refine JT ?_ | refine JF ?_ | refine X4 ?_ | refine X2 ?_
    exact X1 ⟨_, XI 100 (cs := [ai 4, ai 0, ai 0, .d (.v (.string (X5 s))), ani]) (cs' := [ai 4, ai 0, ai 0, .d (.v (.string (X5 s))), .d (.sl 5 [])]) rfl ⟨AVal.le_refl _, AVal.le_refl _, AVal.le_refl _, AVal.le_refl _, AVal.le_nil 5, trivial⟩ rfl, ⟨⟨100, 0, _, rfl, rfl, .inr ⟨5, _, rfl, rfl, rfl, rfl⟩⟩, trivial⟩, Xd ⟨rfl, trivial⟩⟩
  ·obtain rfl : R = ((.mk 4 0 0 s []), a2, e2) := by rw [hG]; simp [YF, he]
   repeat first | refine X0 ?_ | (refine JR ?_; (repeat first | refine Z1 ?_ | refine Z0 ?_ | refine Z01 ?_ | refine ZB ?_ | refine ZC ?_ | refine ZL ?_ | refine Zl ?_ | refine Zv ?_ | refine Zw (γ := 100) ?_ | refine Zw (γ := 101) ?_ | refine Zy ?_ | refine Zx ?_ | refine ZF ?_ | refine Zq ?_ | refine Zo ?_ | refine Z9 (hcon := hk) ?_ | refine Z9 (hcon := hn) ?_); refine JD ?_) | refine JT ?_ | refine JF ?_ | refine X4 ?_ | refine X2 ?_
   exact X1 ⟨_, XI 100 (cs := [ai 4, ai 0, ai 0, .d (.v (.string (X5 s))), ani]) (cs' := [ai 4, ai 0, ai 0, .d (.v (.string (X5 s))), .d (.sl 5 [])]) rfl ⟨AVal.le_refl _, AVal.le_refl _, AVal.le_refl _, AVal.le_refl _, AVal.le_nil 5, trivial⟩ rfl, ⟨⟨100, 0, _, rfl, rfl, .inr ⟨5, _, rfl, rfl, rfl, rfl⟩⟩, trivial⟩, Xd ⟨rfl, trivial⟩⟩
 omega
end Go.Fw
namespace Go.Fw
open Go Go.Proofs
set_option maxRecDepth 100000
set_option linter.unusedVariables false
set_option linter.unusedSimpArgs false
def rkI (b : List UInt8) (a e limit : Int) : Int × Int × Int := if e ≠ 0 then (0, a, e) else rkS b a.toNat 0 limit
def rnS (b : List UInt8) (a e : Int) : Int × Int × Int := if e ≠ 0 then (0, a, e) else Xe b a
def riS (b : List UInt8) (a e : Int) : Int × Int × Int := if e ≠ 0 then (0, a, e) else Xq b a
def rsS (b : List UInt8) (a e : Int) : List UInt8 × Int × Int := if e ≠ 0 then ([], a, e) else Y9 b a 20
def rvS (b : List UInt8) (a e : Int) : Val × Int × Int := if e ≠ 0 then (zV, a, e) else Yf b a
theorem XdY (b : List UInt8) (a e limit : Int) (hb : b.length ≤ 281474976710656) (ha : e = 0 → 0 ≤ a ∧ a ≤ b.length) : Con Tryz.prog 167 [(0, oRd b a e)] [.ptr 0 0, ai limit] [(0, oRd b (rkI b a e limit).2.1 (rkI b a e limit).2.2)] (ai (rkI b a e limit).1) := by
 by_cases h : e = 0
 ·subst h
  obtain ⟨m, rfl⟩ : ∃ m : Nat, a = m := ⟨a.toNat, by have := ha rfl; omega⟩
  have := ha rfl
  have hk := Xcd b m 0 limit hb (by omega)
  rw [show rkI b m 0 limit = rkS b m 0 limit by unfold rkI; simp]
  exact hk
 ·unfold rkI
  rw [if_pos h]
  refine X9 (xs := [ai 0]) Tryz.func167 rfl Tryz.ntmps167 rfl rfl rfl (fun E => ?_)
  refine X0 ?_; refine JR ?_; refine Z0 ?_; refine JD ?_; refine X0 ?_; refine X4 ?_; refine X0 ?_; refine JR ?_; refine Z1 ?_; refine Z01 ?_; refine ZB ?_; refine ZC ?_; refine Zv ?_; refine Z0 ?_
  refine JD ?_; refine JT ?_; refine X2 ?_; refine X0 ?_; refine JR ?_; refine Z0 ?_; refine JD ?_
  exact X1 ⟨_, St.le_refl _, ⟨rfl, trivial⟩, Xd ⟨rfl, trivial⟩⟩
theorem X4w (b : List UInt8) (a e : Int) (hb : b.length ≤ 281474976710656) : Con Tryz.prog 168 [(0, oRd b a e)] [.ptr 0 0] [(0, oRd b (rsS b a e).2.1 (rsS b a e).2.2)] (XD (rsS b a e).1) := by
 refine X9 (xs := [XD (rsS b a e).1]) Tryz.func168 rfl Tryz.ntmps168 rfl rfl rfl (fun E => ?_)
 have hu := X5P b a 20 hb
 unfold rsS
 generalize Y9 b a 20 = u at *
 obtain ⟨u1, u2, u3⟩ := u
 obtain ⟨r, hr⟩ : ∃ r, r = (if e ≠ 0 then (([] : List UInt8), a, e) else (u1, u2, u3)) := ⟨_, rfl⟩
 rw [← hr]
 refine X0 ?_; refine JR ?_; refine Z0 ?_; refine JD ?_; refine X0 ?_; refine JR ?_; refine Z0 ?_; refine JD ?_; refine X0 ?_; refine X0 ?_; refine JR ?_; refine Z1 ?_; refine Z01 ?_; refine ZB ?_
 refine ZC ?_; refine Zl ?_; refine JD ?_; refine X0L rfl (fun hq => ?_) (fun hq => ?_); refine X0 ?_; refine JR ?_; refine Z1 ?_; refine Z01 ?_; refine ZB ?_; refine ZC ?_; refine Z0 ?_; refine JD ?_
 refine JR ?_; refine Z1 ?_; refine Z1 ?_; refine Z1 ?_; refine Z01 ?_; refine ZB ?_; refine ZC ?_; refine Z1 ?_; refine Z9 (hcon := hu) ?_; refine Z1 ?_; refine ZF ?_; refine ZF ?_; refine ZF ?_; refine Z0 ?_
 refine Z01 ?_; refine ZB ?_; refine Zy ?_; refine Z01 ?_; refine ZB ?_; refine Zy ?_; refine JD ?_; refine X0 ?_; refine JR ?_; refine Z1 ?_; refine Z0 ?_; refine JD ?_
 (simp [*] at hr; subst hr; exact X1 ⟨_, St.le_refl _, ⟨rfl, trivial⟩, Xd ⟨rfl, trivial⟩⟩); refine X2 ?_; refine X0 ?_; refine JR ?_; refine Z1 ?_; refine Z0 ?_; refine JD ?_
 (simp [*] at hr; subst hr; exact X1 ⟨_, St.le_refl _, ⟨rfl, trivial⟩, Xd ⟨rfl, trivial⟩⟩)
end Go.Fw
namespace Go.Fw
open Go Go.Proofs
set_option maxRecDepth 100000
set_option linter.unusedVariables false
set_option linter.unusedSimpArgs false
theorem X9v (b : List UInt8) (a m : Nat) (want : Int) (hw : want = 5 ∨ want = 6) (gl gp : Nat → Int → Val × Int × Int) : Ud gl gp m b a want = X2I b a want := by
 unfold X2I Ud
 split
 ·rfl
 simp only
 have hc : ∀ gl gp gl' gp' (k : Int), (k = 5 ∨ k = 6) → Y8 gl gp b (a + 1) k = Y8 gl' gp' b (a + 1) k := by
  intro _ _ _ _ k hk
  unfold Y8
  rw [if_pos (by omega), if_pos (by omega)]
 by_cases h : ((((b[(a : Int).toNat]?).getD 0).toNat : Nat) : Int) = want
 ·rw [if_neg (c := 8 < _ ∨ _) (by omega), if_neg (c := 8 < _ ∨ _) (by omega), hc gl gp noG noG _ (by omega)]
 ·rw [if_pos (by omega), if_pos (by omega)]
theorem X8X (b : List UInt8) (a m : Nat) (want : Int) (hm : m ≤ 8) (ha : a ≤ b.length) (hb : b.length ≤ 281474976710656) (hw : want = 5 ∨ want = 6) : X0b b a (8 - m) want (X2I b a want) := by
 rw [← X9v b a m want hw noG noG]
 exact X7m b m a want noG noG hm ha hb (fun i q _ => X2w i q) (fun i q _ => X2w i q) (by omega) (by omega) (by omega)
theorem X8z (b : List UInt8) (hb : b.length ≤ 281474976710656) : ∀ (m a : Nat), m ≤ 8 → a ≤ b.length → X0b b a (8 - m) 0 (V5 b m a)
 | 0, a, hm, ha => by
  rw [X0q]
  exact X7m b 0 a 0 (VZ b 0) (Uu b) hm ha hb (fun i q _ => X2w i q) (fun i q h => X2B i q h) (fun _ h => absurd rfl h) (fun _ i q h => X8X b q 0 _ hm h hb (by omega)) (fun h => absurd rfl h)
 | m + 1, a, hm, ha => by
  rw [X0q]
  refine X7m b (m + 1) a 0 (VZ b (m + 1)) (Uu b) hm ha hb (fun i q h => X5l m q h) (fun i q h => X2B i q h) (fun _ _ i q h => ?_) (fun _ i q h => X8X b q (m + 1) _ hm h hb (by omega)) (fun h => absurd rfl h)
  have := X8z b hb m q (by omega) h
  rw [show (8 : Int) - ((m + 1 : Nat) : Int) + 1 = 8 - (m : Int) by omega]
  exact this
theorem Xcb (b : List UInt8) (hb : b.length ≤ 281474976710656) (a : Nat) (ha : a ≤ b.length) (r : Val × Int × Int) (hr : V5 b 8 a = r) :
  Con Tryz.prog 213 [(101, oRd b a 0)] [.ptr 101 0, ai 0, ai 0] [(101, oRd b r.2.1 r.2.2)] (Xv r.1) := by
 have h := UO 0 101 (X8z b hb 8 a (by omega) ha)
 rw [hr] at h
 obtain ⟨⟨k, n, d, s, l⟩, x, y⟩ := r
 exact h
theorem Xdx (b : List UInt8) (hb : b.length ≤ 281474976710656) (a : Int) : Con Tryz.prog 174 [] [.d (Xa b), ai a] [] (.tup [Xv (Yf b a).1, ai (Yf b a).2.1, ai (Yf b a).2.2]) := by
 refine X9 (xs := [Xv (Yf b a).1, ai (Yf b a).2.1, ai (Yf b a).2.2]) Tryz.func174 rfl Tryz.ntmps174 rfl rfl rfl (fun E => ?_)
 by_cases h1 : a < 0
 ·rw [show Yf b a = (zV, 0, 1) by unfold Yf; rw [if_pos (.inl h1)]]
  refine X0 ?_; refine JR ?_; refine Zw (γ := 100) ?_; refine Z0 ?_; refine Z0 ?_; refine JD ?_; refine X0 ?_; refine X0 ?_; refine JR ?_; refine Z1 ?_; refine Z8 ?_; refine Z1 ?_; refine Zo ?_; refine Zo ?_
  refine Zo ?_; refine Zo ?_; refine Zn ?_; refine JD ?_; refine JT ?_; refine X0 ?_; refine JR ?_; refine Zx ?_; refine Zy ?_; refine Z0 ?_; refine Z0 ?_; refine JD ?_
  exact X1 ⟨_, XI 100 (cs := [ai 0, ai 0, ai 0, .d (.v (.string (X5 []))), ani]) (cs' := [ai 0, ai 0, ai 0, .d (.v (.string (X5 []))), .d (.sl 5 [])]) rfl ⟨AVal.le_refl _, AVal.le_refl _, AVal.le_refl _, AVal.le_refl _, AVal.le_nil 5, trivial⟩ rfl, ⟨⟨100, 0, _, rfl, rfl, .inr ⟨5, _, rfl, rfl, rfl, rfl⟩⟩, rfl, rfl, trivial⟩, X3 _⟩
 by_cases h2 : (b.length : Int) < a
 ·rw [show Yf b a = (zV, 0, 1) by unfold Yf; rw [if_pos (.inr h2)]]
  refine X0 ?_; refine JR ?_; refine Zw (γ := 100) ?_; refine Z0 ?_; refine Z0 ?_; refine JD ?_; refine X0 ?_; refine X0 ?_; refine JR ?_; refine Z1 ?_; refine Z8 ?_; refine Z1 ?_; refine Z1 ?_; refine Z1 ?_
  refine Zd ?_; refine Zs ?_; refine Zq ?_; refine JD ?_; refine JT ?_; refine X0 ?_; refine JR ?_; refine Zx ?_; refine Zy ?_; refine Z0 ?_; refine Z0 ?_; refine JD ?_
  exact X1 ⟨_, XI 100 (cs := [ai 0, ai 0, ai 0, .d (.v (.string (X5 []))), ani]) (cs' := [ai 0, ai 0, ai 0, .d (.v (.string (X5 []))), .d (.sl 5 [])]) rfl ⟨AVal.le_refl _, AVal.le_refl _, AVal.le_refl _, AVal.le_refl _, AVal.le_nil 5, trivial⟩ rfl, ⟨⟨100, 0, _, rfl, rfl, .inr ⟨5, _, rfl, rfl, rfl, rfl⟩⟩, rfl, rfl, trivial⟩, X3 _⟩
 obtain ⟨q, rfl⟩ : ∃ q : Nat, a = q := ⟨a.toNat, by omega⟩
 have hq : q ≤ b.length := by omega
 have hv : Yf b q = if (V5 b 8 q).2.2 ≠ 0 then (zV, 0, (V5 b 8 q).2.2) else V5 b 8 q := by unfold Yf; rw [if_neg (by omega)]
 have hcon := Xcb b hb q hq _ rfl
 rw [hv]
 clear hv
 generalize V5 b 8 q = r at *
 obtain ⟨⟨k, n, d, s, l⟩, x, y⟩ := r
 simp only [Xv] at hcon
 by_cases h3 : y = 0
 ·subst h3
  rw [if_neg (by simp)]
  repeat first | refine X0 ?_ | (refine JR ?_; (repeat first | refine Z1 ?_ | refine Z0 ?_ | refine Z01 ?_ | refine ZB ?_ | refine ZC ?_ | refine ZL ?_ | refine Zd ?_ | refine Z8 ?_ | refine Zs ?_ | refine Zv ?_ | refine Zw (γ := 100) ?_ | refine Zw (γ := 102) ?_ | refine ZA (γ := 101) ?_ | refine Zy ?_ | refine Zx ?_ | refine Zq ?_ | refine Z9 (hcon := hcon) ?_); refine JD ?_) | refine JF ?_ | refine X2 ?_
  exact X1 ⟨_, St.le_refl _, ⟨⟨100, 0, _, rfl, rfl, .inr ⟨5, _, rfl, rfl, rfl, rfl⟩⟩, rfl, rfl, trivial⟩, X3 _⟩
 ·rw [if_pos h3]
  repeat first | refine X0 ?_ | (refine JR ?_; (repeat first | refine Z1 ?_ | refine Z0 ?_ | refine Z01 ?_ | refine ZB ?_ | refine ZC ?_ | refine Zd ?_ | refine Z8 ?_ | refine Zs ?_ | refine Zv ?_ | refine Zw (γ := 100) ?_ | refine Zw (γ := 102) ?_ | refine ZA (γ := 101) ?_ | refine Zy ?_ | refine Zx ?_ | refine Zq ?_ | refine Z9 (hcon := hcon) ?_); refine JD ?_) | refine JT ?_ | refine JF ?_ | refine X2 ?_
  exact X1 ⟨_, XI 100 (cs := [ai 0, ai 0, ai 0, .d (.v (.string (X5 []))), ani]) (cs' := [ai 0, ai 0, ai 0, .d (.v (.string (X5 []))), .d (.sl 5 [])]) rfl ⟨AVal.le_refl _, AVal.le_refl _, AVal.le_refl _, AVal.le_refl _, AVal.le_nil 5, trivial⟩ rfl, ⟨⟨100, 0, _, rfl, rfl, .inr ⟨5, _, rfl, rfl, rfl, rfl⟩⟩, rfl, rfl, trivial⟩, X3 _⟩
end Go.Fw
namespace Go.Fw
open Go Go.Proofs
set_option maxRecDepth 100000
set_option linter.unusedVariables false
set_option linter.unusedSimpArgs false
theorem XhT {b : List UInt8} {a e : Int} (h : e ≠ 0) : rsS b a e = ([], a, e) := if_pos h
theorem X7a {b : List UInt8} {a e : Int} (h : e ≠ 0) : riS b a e = (0, a, e) := if_pos h
theorem XhC {b : List UInt8} {a : Int} : rvS b a 0 = Yf b a := if_neg (by simp)
end Go.Fw
namespace Go.Fw
open Go Go.Proofs
set_option maxRecDepth 100000
set_option linter.unusedVariables false
set_option linter.unusedSimpArgs false
def U5 (b : List UInt8) (a e : Int) : Rul × Int × Int :=
 let k := rkI b a e 7
 let n := rsS b k.2.1 k.2.2
 let y := rsS b n.2.1 n.2.2
 let s := rsS b y.2.1 y.2.2
 let d := rsS b s.2.1 s.2.2
 let i := riS b d.2.1 d.2.2
 (⟨k.1, i.1, n.1, y.1, s.1, d.1⟩, i.2.1, i.2.2)
theorem X4q {b : List UInt8} {a : Int} : riS b a 0 = Xq b a := if_neg (by simp)
theorem Xfs (b : List UInt8) (a e : Int) (hb : b.length ≤ 281474976710656) (ha : e = 0 → 0 ≤ a ∧ a ≤ b.length) : Con Tryz.prog 112 [(0, oRd b a e)] [.ptr 0 0] [(0, oRd b (U5 b a e).2.1 (U5 b a e).2.2)] (XW (U5 b a e).1) := by
 refine X9 (xs := [XW (U5 b a e).1]) Tryz.func112 rfl Tryz.ntmps112 rfl rfl rfl (fun E => ?_)
 have hk := XdY b a e 7 hb ha
 unfold U5
 generalize rkI b a e 7 = k at *
 obtain ⟨kd, a1, e1⟩ := k
 simp only at hk ⊢
 have h1 := X4w b a1 e1 hb
 generalize rsS b a1 e1 = u1 at *
 obtain ⟨s1, a2, e2⟩ := u1
 simp only at h1 ⊢
 have h2 := X4w b a2 e2 hb
 generalize rsS b a2 e2 = u2 at *
 obtain ⟨s2, a3, e3⟩ := u2
 simp only at h2 ⊢
 have h3 := X4w b a3 e3 hb
 generalize rsS b a3 e3 = u3 at *
 obtain ⟨s3, a4, e4⟩ := u3
 simp only at h3 ⊢
 have h4 := X4w b a4 e4 hb
 generalize rsS b a4 e4 = u4 at *
 obtain ⟨s4, a5, e5⟩ := u4
 simp only [XW] at h4 ⊢
 refine X0 ?_; refine JR ?_; refine Zw (γ := 100) ?_; refine JD ?_; refine X0 ?_; refine JR ?_; refine Z1 ?_; refine Z9 (hcon := hk) ?_; refine Zx ?_; refine Zw (γ := 101) ?_; refine Zy ?_; refine JD ?_
 refine X0 ?_; refine X0 ?_; refine JR ?_; refine ZB ?_; refine ZB ?_; refine ZB ?_; refine ZB ?_; refine Z03 (γ := 102) ?_; refine Z04 ?_; refine Z1 ?_; refine JD ?_; refine X4 ?_
 refine Xy (ι := Nat) (fun i => i ≤ 4) (fun i => ⟨52, [(0, .ptr 0 0), (2, .ptr 100 0), (3, .ptr 101 0), (14, .bsl 102 4), (15, ai 4), (16, ai i)], match i with
   | 0 => [(0, oRd b a1 e1), (100, .box [ai 0, ai 0, XD [], XD [], XD [], XD []]), (101, .box [ai kd, ai 0, XD [], XD [], XD [], XD []]), (102, .box [.ptr 101 2, .ptr 101 3, .ptr 101 4, .ptr 101 5])]
   | 1 => [(0, oRd b a2 e2), (100, .box [ai 0, ai 0, XD [], XD [], XD [], XD []]), (101, .box [ai kd, ai 0, XD s1, XD [], XD [], XD []]), (102, .box [.ptr 101 2, .ptr 101 3, .ptr 101 4, .ptr 101 5])]
   | 2 => [(0, oRd b a3 e3), (100, .box [ai 0, ai 0, XD [], XD [], XD [], XD []]), (101, .box [ai kd, ai 0, XD s1, XD s2, XD [], XD []]), (102, .box [.ptr 101 2, .ptr 101 3, .ptr 101 4, .ptr 101 5])]
   | 3 => [(0, oRd b a4 e4), (100, .box [ai 0, ai 0, XD [], XD [], XD [], XD []]), (101, .box [ai kd, ai 0, XD s1, XD s2, XD s3, XD []]), (102, .box [.ptr 101 2, .ptr 101 3, .ptr 101 4, .ptr 101 5])]
   | _ => [(0, oRd b a5 e5), (100, .box [ai 0, ai 0, XD [], XD [], XD [], XD []]), (101, .box [ai kd, ai 0, XD s1, XD s2, XD s3, XD s4]), (102, .box [.ptr 101 2, .ptr 101 3, .ptr 101 4, .ptr 101 5])]⟩) (fun i => 4 - i) 0 (by omega)
  (X8 rfl ⟨JL, JL, JL, JL, JL, JL, trivial⟩ ⟨rfl, rfl, rfl, rfl, trivial⟩) ?_
 intro i hi
 match i, hi with
 | 0, _ =>
  refine X0 ?_; refine JR ?_; refine Z8 ?_; refine JD ?_; refine X0 ?_; refine JT ?_; refine X2 ?_; refine X0 ?_; refine X4 ?_; refine X0 ?_; refine JR ?_; refine Z05 ?_; refine ZC ?_
  refine Z0 ?_; refine JD ?_; refine JR ?_; refine Z1 ?_; refine Z1 ?_; refine Z9 (hcon := h1) ?_; refine Z01 ?_; refine Zy ?_; refine JD ?_; refine JR ?_; refine Zb ?_; refine Z1 ?_; refine JD ?_
  exact ⟨1, by omega, by omega, X8 rfl ⟨JL, JL, JL, JL, JL, JL, trivial⟩ ⟨rfl, rfl, rfl, rfl, trivial⟩⟩
 | 1, _ =>
  refine X0 ?_; refine JR ?_; refine Z8 ?_; refine JD ?_; refine X0 ?_; refine JT ?_; refine X2 ?_; refine X0 ?_; refine X4 ?_; refine X0 ?_; refine JR ?_; refine Z05 ?_; refine ZC ?_
  refine Z0 ?_; refine JD ?_; refine JR ?_; refine Z1 ?_; refine Z1 ?_; refine Z9 (hcon := h2) ?_; refine Z01 ?_; refine Zy ?_; refine JD ?_; refine JR ?_; refine Zb ?_; refine Z1 ?_; refine JD ?_
  exact ⟨2, by omega, by omega, X8 rfl ⟨JL, JL, JL, JL, JL, JL, trivial⟩ ⟨rfl, rfl, rfl, rfl, trivial⟩⟩
 | 2, _ =>
  refine X0 ?_; refine JR ?_; refine Z8 ?_; refine JD ?_; refine X0 ?_; refine JT ?_; refine X2 ?_; refine X0 ?_; refine X4 ?_; refine X0 ?_; refine JR ?_; refine Z05 ?_; refine ZC ?_
  refine Z0 ?_; refine JD ?_; refine JR ?_; refine Z1 ?_; refine Z1 ?_; refine Z9 (hcon := h3) ?_; refine Z01 ?_; refine Zy ?_; refine JD ?_; refine JR ?_; refine Zb ?_; refine Z1 ?_; refine JD ?_
  exact ⟨3, by omega, by omega, X8 rfl ⟨JL, JL, JL, JL, JL, JL, trivial⟩ ⟨rfl, rfl, rfl, rfl, trivial⟩⟩
 | 3, _ =>
  refine X0 ?_; refine JR ?_; refine Z8 ?_; refine JD ?_; refine X0 ?_; refine JT ?_; refine X2 ?_; refine X0 ?_; refine X4 ?_; refine X0 ?_; refine JR ?_; refine Z05 ?_; refine ZC ?_
  refine Z0 ?_; refine JD ?_; refine JR ?_; refine Z1 ?_; refine Z1 ?_; refine Z9 (hcon := h4) ?_; refine Z01 ?_; refine Zy ?_; refine JD ?_; refine JR ?_; refine Zb ?_; refine Z1 ?_; refine JD ?_
  exact ⟨4, by omega, by omega, X8 rfl ⟨JL, JL, JL, JL, JL, JL, trivial⟩ ⟨rfl, rfl, rfl, rfl, trivial⟩⟩
 | 4, _ =>
  by_cases he : e5 = 0
  ·subst he
   have hi := X7O b a5 hb
   rw [X4q]
   generalize Xq b a5 = u5 at *
   obtain ⟨n, a6, e6⟩ := u5
   repeat first | refine X0 ?_ | (refine JR ?_; (repeat first | refine Z1 ?_ | refine Z0 ?_ | refine Z01 ?_ | refine ZB ?_ | refine ZC ?_ | refine ZL ?_ | refine Z8 ?_ | refine Zl ?_ | refine Zy ?_ | refine ZF ?_ | refine Z9 (hcon := hi) ?_); refine JD ?_) | refine JT ?_ | refine JF ?_ | refine Xj ?_
   exact X1 ⟨_, St.le_refl _, ⟨⟨100, 0, _, rfl, rfl, .inr ⟨6, _, rfl, rfl, rfl, rfl⟩⟩, trivial⟩, Xd ⟨rfl, trivial⟩⟩
  ·rw [X7a he]
   refine X0 ?_; refine JR ?_; refine Z8 ?_; refine JD ?_; refine X0 ?_; refine JF ?_; refine Xj ?_; refine X0 ?_; refine X0 ?_; refine JR ?_; refine Z1 ?_; refine Z01 ?_; refine ZB ?_
   refine ZC ?_; refine Zl ?_; refine JD ?_; refine JF ?_; refine X2 ?_; refine X0 ?_; refine JR ?_; refine ZL ?_; refine Zy ?_; refine JD ?_
   exact X1 ⟨_, St.le_refl _, ⟨⟨100, 0, _, rfl, rfl, .inr ⟨6, _, rfl, rfl, rfl, rfl⟩⟩, trivial⟩, Xd ⟨rfl, trivial⟩⟩
end Go.Fw
namespace Go.Fw
open Go Go.Proofs
set_option maxRecDepth 100000
set_option linter.unusedVariables false
set_option linter.unusedSimpArgs false
theorem VV {n : Int} (h : 0 ≤ n ∧ n ≤ 9223372036854775807) : (Xc n).length ≤ 10 := by
 rw [X1o h.1]
 exact X0I (by omega)
theorem Xfq {r : Rul} (h : YW r = 0) : (UA r).length ≤ 200 := by
 obtain ⟨h1, ⟨l1, l2, l3, l4⟩, h3⟩ := X29 h
 have := Ug l1
 have := Ug l2
 have := Ug l3
 have := Ug l4
 have := X21 h1
 unfold UA
 simp only [List.length_cons, List.length_append]
 omega
end Go.Fw
namespace Go.Fw
open Go
set_option linter.unusedVariables false
def X12 (b : List UInt8) (g : Int → Val × Int × Int) (x : Val) : Prop :=
 ∀ front back : List UInt8, front ++ XA x ++ back = b → g front.length = (x, (front.length : Int) + (XA x).length, 0)
theorem X4D : ∀ (l r : List Val), XU (l ++ r) = XU l ++ XU r
 | [], r => rfl
 | v :: l, r => by simp only [List.cons_append, XU, X4D l r, List.append_assoc]
theorem X97 {g : Nat → Int → Val × Int × Int} {b front back : List UInt8} {l : List Val} (hb : front ++ XU l ++ back = b) (hg : ∀ (j : Nat) (x : Val), l[j]? = some x → X12 b (g j) x) :
  ∀ j, j ≤ l.length → XC g front.length j = (l.take j, (front.length : Int) + (XU (l.take j)).length, 0)
 | 0, _ => by simp [XC, XU]
 | j + 1, hj => by
  have ih := X97 hb hg j (by omega)
  obtain ⟨x, hx⟩ := Xu (l := l) (k := j) (by omega)
  have hsp : l = l.take j ++ x :: l.drop (j + 1) := by
   rw [← (List.getElem?_eq_some_iff.1 hx).2, ← List.drop_eq_getElem_cons, List.take_append_drop]
  have hbk := hg j x hx (front ++ XU (l.take j)) (XU (l.drop (j + 1)) ++ back) (by
   rw [← hb]
   conv => rhs; rw [hsp, X4D, XU]
   simp only [List.append_assoc])
  rw [X0x (by rw [ih]), ih]
  simp only
  rw [List.length_append, Int.natCast_add] at hbk
  rw [hbk]
  have ht : l.take (j + 1) = l.take j ++ [x] := by rw [List.take_add_one, hx]; rfl
  rw [ht, X4D]
  simp only [XU, List.append_nil, List.length_append, Int.natCast_add]
  rw [Int.add_assoc]
theorem Xcu {k : Int} (h : 0 ≤ k ∧ k ≤ 8) : (((UInt8.ofNat k.toNat).toNat : Nat) : Int) = k := by
 rw [UL (by omega)]; omega
theorem X8S {m : Nat} {k n d : Int} {s : List UInt8} {l : List Val} (h : X7 m (.mk k n d s l) = true) : 0 ≤ k ∧ k ≤ 8 := by
 rw [X7] at h
 by_cases h0 : k = 0
 ·omega
 by_cases h1 : k = 1
 ·omega
 by_cases h2 : k = 2
 ·omega
 by_cases h3 : k = 3
 ·omega
 by_cases h4 : k = 4
 ·omega
 by_cases h5 : k = 5 ∨ k = 6
 ·omega
 by_cases h7 : k = 7
 ·omega
 by_cases h8 : k = 8
 ·omega
 simp [h0, h1, h2, h3, h4, h5, h7, h8] at h
theorem Xdl {m : Nat} {k n d : Int} {s : List UInt8} {l : List Val} (hv : X7 m (.mk k n d s l) = true) {b front back : List UInt8} {gl gp : Nat → Int → Val × Int × Int}
  (hb : front ++ XA (.mk k n d s l) ++ back = b) (hgl : k = 8 → ∀ (j : Nat) (x : Val), l[j]? = some x → X12 b (gl j) x) (hgp : k = 7 → ∀ (j : Nat) (x : Val), l[j]? = some x → X12 b (gp j) x) :
  Y8 gl gp b ((front.length : Int) + 1) k = (.mk k n d s l, (front.length : Int) + (XA (.mk k n d s l)).length, 0) := by
 have hk := X8S hv
 rw [XA] at hb ⊢
 have hfl : ((front.length : Int) + 1) = ((front ++ [UInt8.ofNat k.toNat]).length : Nat) := by simp
 rw [hfl]
 have hb' : ∀ w, front ++ UInt8.ofNat k.toNat :: w ++ back = (front ++ [UInt8.ofNat k.toNat]) ++ w ++ back := fun w => by simp
 rw [hb'] at hb
 have hlen : ∀ w : List UInt8, ((front.length : Int) + ((UInt8.ofNat k.toNat :: w).length : Nat)) = (((front ++ [UInt8.ofNat k.toNat]).length : Nat) : Int) + w.length := fun w => by simp; omega
 rw [hlen]
 generalize front ++ [UInt8.ofNat k.toNat] = F at *
 clear hfl hb' hlen
 rw [X7] at hv
 unfold Y8
 by_cases h1 : k = 1 ∨ k = 2 ∨ k = 5 ∨ k = 6
 ·rw [if_pos h1] at hb ⊢
  have hz : d = 0 ∧ s = [] ∧ l = [] ∧ -9223372036854775808 ≤ n ∧ n ≤ 9223372036854775807 := by
   rcases h1 with rfl | rfl | rfl | rfl <;> simp at hv <;> refine ⟨hv.1.1.1, hv.1.1.2, hv.1.2, ?_⟩ <;> omega
  obtain ⟨rfl, rfl, rfl, hn⟩ := hz
  have := X4d hn F back
  rw [hb] at this
  rw [if_pos h1, this]
 rw [if_neg h1] at hb ⊢
 rw [if_neg h1]
 by_cases h3 : k = 3
 ·subst h3
  rw [if_pos rfl] at hb ⊢
  rw [if_pos rfl]
  have hz : (s = [] ∧ l = []) ∧ (-9223372036854775808 ≤ n ∧ n ≤ 9223372036854775807) ∧ -9223372036854775808 ≤ d ∧ d ≤ 9223372036854775807 := by simp [V6] at hv; exact ⟨⟨hv.1.1, hv.1.2⟩, by omega, by omega⟩
  obtain ⟨⟨rfl, rfl⟩, hn, hd⟩ := hz
  have e1 := X4d hn F (XP d ++ back)
  have e2 := X4d hd (F ++ XP n) back
  rw [show F ++ XP n ++ (XP d ++ back) = b by rw [← hb]; simp] at e1
  rw [show F ++ XP n ++ XP d ++ back = b by rw [← hb]; simp, List.length_append, Int.natCast_add] at e2
  rw [e1]
  simp only
  rw [if_neg (by simp), e2]
  simp only [List.length_append, Int.natCast_add, Int.add_assoc]
 rw [if_neg h3] at hb ⊢
 rw [if_neg h3]
 by_cases h4 : k = 4
 ·subst h4
  rw [if_pos rfl] at hb ⊢
  rw [if_pos rfl]
  have hz : n = 0 ∧ d = 0 ∧ l = [] ∧ s.length ≤ 100 := by simp at hv; exact ⟨hv.2.1.1, hv.1.1, hv.1.2, hv.2.1.2⟩
  obtain ⟨rfl, rfl, rfl, hs⟩ := hz
  have := Xb5 (s := s) (most := 100) (by omega) (by omega) F back
  rw [hb] at this
  rw [this]
 rw [if_neg h4] at hb ⊢
 rw [if_neg h4]
 by_cases h7 : k = 7 ∨ k = 8
 ·rw [if_pos h7] at hb ⊢
  rw [if_pos h7]
  have hz : n = 0 ∧ d = 0 ∧ s = [] ∧ Ul k l.length = false ∧ l.length ≤ 64 := by
   rcases h7 with rfl | rfl
   ·simp at hv
    exact ⟨hv.2.1.1, hv.1.1, hv.1.2, by simp [Ul]; omega, by omega⟩
   ·simp at hv
    exact ⟨hv.2.1.1, hv.1.1, hv.1.2, by simp [Ul]; omega, by omega⟩
  obtain ⟨rfl, rfl, rfl, hcb, hl⟩ := hz
  have e1 := X4K (n := l.length) ⟨by omega, by omega⟩ F (XU l ++ back)
  rw [show F ++ Xc l.length ++ (XU l ++ back) = b by rw [← hb]; simp] at e1
  rw [e1]
  simp only
  rw [if_neg (by simp), hcb, if_neg (by simp), Int.toNat_natCast]
  have hall : ∀ (j : Nat) (x : Val), l[j]? = some x → X12 b ((if k = 8 then gl else gp) j) x := by
   intro j x hx
   by_cases h8 : k = 8
   ·rw [if_pos h8]; exact hgl h8 j x hx
   ·rw [if_neg h8]; exact hgp (by omega) j x hx
  have e2 := X97 (g := if k = 8 then gl else gp) (b := b) (front := F ++ Xc l.length) (back := back) (l := l) (by rw [← hb]; simp) hall l.length (Nat.le_refl _)
  rw [List.take_length, List.length_append, Int.natCast_add] at e2
  rw [e2]
  simp only [List.length_append, Int.natCast_add, Int.add_assoc]
 rw [if_neg h7] at hb ⊢
 rw [if_neg h7]
 have h0 : k = 0 := by omega
 subst h0
 simp at hv
 obtain ⟨⟨⟨rfl, rfl⟩, rfl⟩, rfl⟩ := hv
 simp
theorem X7T {m : Nat} {k n d : Int} {s : List UInt8} {l : List Val} (hv : X7 m (.mk k n d s l) = true) (hm : m ≤ 8) {want : Int} (hw : want = 0 ∨ want = k) {b front back : List UInt8} {gl gp : Nat → Int → Val × Int × Int}
  (hb : front ++ XA (.mk k n d s l) ++ back = b) (hgl : k = 8 → ∀ (j : Nat) (x : Val), l[j]? = some x → X12 b (gl j) x) (hgp : k = 7 → ∀ (j : Nat) (x : Val), l[j]? = some x → X12 b (gp j) x) :
  Ud gl gp m b front.length want = (.mk k n d s l, (front.length : Int) + (XA (.mk k n d s l)).length, 0) := by
 have hk := X8S hv
 have hc := Xdl hv hb hgl hgp
 have hv8 := X6P _ m 8 hm hv
 have hget : b[front.length]? = some (UInt8.ofNat k.toNat) := by rw [← hb, XA]; simp
 have hlt : front.length < b.length := (List.getElem?_eq_some_iff.1 hget).1
 have hm8 : k = 8 → m ≠ 0 := by
  rintro rfl rfl
  have := (X83 hv).2.1
  omega
 unfold Ud
 rw [if_neg (by omega), Int.toNat_natCast, hget, Option.getD_some]
 simp only
 rw [Xcu hk, if_neg (by omega), hc]
 simp only
 rw [if_neg (fun h => by rw [hv8] at h; exact absurd h.2 (by decide))]
theorem Xf3 {b : List UInt8} {i : Nat} {x : Val} (hv : X7 0 x = true) (hk : x.kind = 5 + (i % 2 : Nat)) : X12 b (Uu b i) x := by
 obtain ⟨k, n, d, s, l⟩ := x
 simp only [Val.kind] at hk
 intro front back hb
 unfold Uu X2I
 exact X7T hv (by omega) (.inr hk.symm) hb (fun h => by omega) (fun h => by omega)
theorem X9C : ∀ {l : List Val} {i j : Nat} {x : Val}, Uc i l = true → l[j]? = some x → x.kind = 5 + ((i + j) % 2 : Nat) ∧ X7 0 x = true
 | [], _, _, _, _, h => by simp at h
 | v :: r, i, 0, x, hp, h => by
  rw [Uc, Bool.and_eq_true, Bool.and_eq_true] at hp
  simp at h
  subst h
  exact ⟨of_decide_eq_true hp.1.1, hp.1.2⟩
 | v :: r, i, j + 1, x, hp, h => by
  rw [Uc, Bool.and_eq_true, Bool.and_eq_true] at hp
  have := X9C hp.2 (j := j) (x := x) (by simpa using h)
  rwa [show i + 1 + j = i + (j + 1) by omega] at this
theorem Xgm {m : Nat} {n d : Int} {s : List UInt8} {l : List Val} (h : X7 m (.mk 7 n d s l) = true) : Uc 0 l = true := by
 rw [X7] at h
 simp at h
 exact h.2.2
theorem Xbp {b : List UInt8} : ∀ (v : Val) (m : Nat), X7 m v = true → m ≤ 8 → X12 b (V5 b m) v
 | .mk k n d s l, m, hv, hm => by
  intro front back hb
  rw [X0q]
  refine X7T hv hm (.inl rfl) hb (fun h8 j x hx => ?_) (fun h7 j x hx => ?_)
  ·subst h8
   obtain ⟨_, hm1, hl⟩ := X83 hv
   cases m with
   | zero => omega
   | succ m' => exact Xbp x m' (X5Z hl (List.mem_of_getElem? hx)) (by omega)
  ·subst h7
   have hp := X9C (Xgm hv) hx
   rw [Nat.zero_add] at hp
   exact Xf3 hp.2 hp.1
termination_by v => SizeOf.sizeOf v
decreasing_by
 have h1 := List.sizeOf_lt_of_mem (List.mem_of_getElem? hx)
 simp only [Val.mk.sizeOf_spec]
 omega
theorem XcM {v : Val} (hv : X7 8 v = true) (front back : List UInt8) : Yf (front ++ Ys v ++ back) front.length = (v, (front.length : Int) + (Ys v).length, 0) := by
 rw [show Ys v = XA v by unfold Ys; rw [hv]; rfl]
 have h := Xbp (b := front ++ XA v ++ back) v 8 hv (by omega) front back rfl
 unfold Yf
 rw [if_neg (by simp; omega), h]
 rfl
end Go.Fw

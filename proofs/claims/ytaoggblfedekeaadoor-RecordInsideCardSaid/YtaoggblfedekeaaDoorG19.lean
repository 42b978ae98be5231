/- Reading values: value, all. -/
import Derived.Test.YtaoggblfedekeaaDoorG08
import Derived.Test.YtaoggblfedekeaaDoorG18
import Derived.Test.YtaoggblfedekeaaDoorG16
import Derived.Test.YtaoggblfedekeaaDoorG07
set_option maxHeartbeats 16000000
namespace Go.Fw
open Go Go.Proofs
set_option maxRecDepth 100000
set_option linter.unusedVariables false
set_option linter.unusedSimpArgs false
theorem X3l (b : List UInt8) (m a : Nat) (want : Int) (gl gp : Nat → Int → Val × Int × Int) (hm : m ≤ 8) (ha : a ≤ b.length) (hb : b.length ≤ 281474976710656)
  (hgl : ∀ i q : Nat, q ≤ b.length → YG b (gl i q).2) (hgp : ∀ i q : Nat, q ≤ b.length → YG b (gp i q).2)
  (hl : want = 0 → m ≠ 0 → ∀ i q : Nat, q ≤ b.length → UK b q (8 - m + 1) 0 (gl i q)) (hp : want = 0 → ∀ i q : Nat, q ≤ b.length → UK b q (8 - m) (5 + (i % 2 : Nat)) (gp i q)) (hw : want ≠ 0 → want = 5 ∨ want = 6) :
  UK b a (8 - m) want (Yt gl gp m b a want) := by
 have hk := X7M b a m want hm ha hb
 by_cases hbad : (YO b a m want).2.2 = 0
 case neg =>
  rw [X93 hbad]
  refine Xb (xs := [Xh zV]) Tryd.func52 rfl Tryd.ntmps52 rfl rfl rfl (fun E => ?_)
  generalize YO b a m want = u at *
  refine X0 ?_; refine JR ?_; refine Zr (γ := 100) ?_; refine JD ?_; refine X0 ?_; refine JR ?_; refine Z1 ?_; refine Z1 ?_; refine Z1 ?_; refine Z8 (hcon := hk) ?_; refine Zt ?_; refine Zr (γ := 101) ?_
  refine Zu ?_; refine JD ?_; refine X0 ?_; refine X0 ?_; refine JR ?_; refine Z1 ?_; refine ZZ ?_; refine Zy ?_; refine Zz ?_; refine Zq ?_; refine JD ?_; refine JT ?_; refine X0 ?_; refine JR ?_
  refine Zt ?_; refine Zu ?_; refine JD ?_
  exact X1 ⟨_, XA 100 (cs := [ai 0, ai 0, ai 0, .d (.v (.string (X4 []))), ani]) (cs' := [ai 0, ai 0, ai 0, .d (.v (.string (X4 []))), .d (.sl 5 [])]) rfl ⟨AVal.le_refl _, AVal.le_refl _, AVal.le_refl _, AVal.le_refl _, AVal.le_nil 5, trivial⟩ rfl, ⟨⟨100, 0, _, rfl, rfl, .inr ⟨5, _, rfl, rfl, rfl, rfl⟩⟩, trivial⟩, Xc ⟨rfl, trivial⟩⟩
 obtain ⟨k, hkk, hlt, hk8, hkm, hkw, hG⟩ := X7E ha hbad
 rw [hkk] at hk
 clear hbad hkk
 replace hG := hG gl gp
 generalize hR : Yt gl gp m b a want = R at *
 simp only at hk
 by_cases h8 : k = 8
 ·subst h8
  have hw0 : want = 0 := Classical.byContradiction fun h => by
   have h1 := hkw h
   rcases hw h with h2 | h2 <;> omega
  exact X9q b m a want gl gp R hm hlt hb hgl (hl hw0 (hkm rfl)) hk hG
 by_cases h7 : k = 7
 ·subst h7
  have hw0 : want = 0 := Classical.byContradiction fun h => by
   have h1 := hkw h
   rcases hw h with h2 | h2 <;> omega
  exact X7z b m a want gl gp R hm hlt hb hgp (hp hw0) hk hG
 refine Xb (xs := [Xh R.1]) Tryd.func52 rfl Tryd.ntmps52 rfl rfl rfl (fun E => ?_)
 by_cases h0 : k = 0
 ·subst h0
  rw [show ((0 : Nat) : Int) = 0 from rfl] at hk hG
  rw [show XW gl gp b (a + 1) 0 = (.mk 0 0 0 [] [], (a : Int) + 1, 0) by simp [XW]] at hG
  have hval := Ur (.mk 0 0 0 [] [])
  simp only [Xh] at hval
  have hv : X6 8 (.mk 0 0 0 [] []) = true := by rw [X6]; simp
  rw [hv] at hval
  obtain rfl : R = (.mk 0 0 0 [] [], (a : Int) + 1, 0) := by rw [hG]; simp [XY, hv]
  repeat first | refine X0 ?_ | (refine JR ?_; (repeat first | refine Z1 ?_ | refine Z0 ?_ | refine ZZ ?_ | refine Zy ?_ | refine Zz ?_ | refine ZK ?_ | refine Zs ?_ | refine Zq ?_ | refine Zp ?_ | refine Zr (γ := 100) ?_ | refine Zr (γ := 101) ?_ | refine Zu ?_ | refine Zt ?_ | refine Zi ?_ | refine Z8 (hcon := hk) ?_ | refine Z8 (hcon := hval) ?_); refine JD ?_) | refine JF ?_ | refine X5 ?_ | refine X3 ?_
  exact X1 ⟨_, XA 100 (cs := [ai 0, ai 0, ai 0, .d (.v (.string (X4 []))), ani]) (cs' := [ai 0, ai 0, ai 0, .d (.v (.string (X4 []))), .d (.sl 5 [])]) rfl ⟨AVal.le_refl _, AVal.le_refl _, AVal.le_refl _, AVal.le_refl _, AVal.le_nil 5, trivial⟩ rfl, ⟨⟨100, 0, _, rfl, rfl, .inr ⟨5, _, rfl, rfl, rfl, rfl⟩⟩, trivial⟩, Xc ⟨rfl, trivial⟩⟩
 by_cases h1 : k = 1
 ·subst h1
  rw [show ((1 : Nat) : Int) = 1 from rfl] at hk hG
  have hn := X0j b (a + 1) 0 hb
  rw [if_pos rfl, if_pos rfl] at hn
  rw [show XW gl gp b (a + 1) 1 = (.mk 1 (Xn b (a + 1)).1 0 [] [], (Xn b (a + 1)).2.1, (Xn b (a + 1)).2.2) by simp [XW]] at hG
  generalize Xn b (a + 1) = u at *
  obtain ⟨n, a2, e2⟩ := u
  simp only at hn hG
  by_cases he : e2 = 0
  ·subst he
   have hval := Ur (.mk 1 n 0 [] [])
   simp only [Xh] at hval
   cases hv : X6 8 (.mk 1 n 0 [] []) with
   | false =>
    rw [hv] at hval
    obtain rfl : R = ((.mk 1 n 0 [] []), a2, 2) := by rw [hG]; simp [XY, hv]
    repeat first | refine X0 ?_ | (refine JR ?_; (repeat first | refine Z1 ?_ | refine Z0 ?_ | refine ZZ ?_ | refine Zy ?_ | refine Zz ?_ | refine ZK ?_ | refine Zs ?_ | refine Zq ?_ | refine Zp ?_ | refine Zr (γ := 100) ?_ | refine Zr (γ := 101) ?_ | refine Zu ?_ | refine Zt ?_ | refine Zi ?_ | refine Z8 (hcon := hk) ?_ | refine Z8 (hcon := hn) ?_ | refine Z8 (hcon := hval) ?_); refine JD ?_) | refine JT ?_ | refine JF ?_ | refine X5 ?_ | refine X3 ?_
    exact X1 ⟨_, XA 100 (cs := [ai 1, ai n, ai 0, .d (.v (.string (X4 []))), ani]) (cs' := [ai 1, ai n, ai 0, .d (.v (.string (X4 []))), .d (.sl 5 [])]) rfl ⟨AVal.le_refl _, AVal.le_refl _, AVal.le_refl _, AVal.le_refl _, AVal.le_nil 5, trivial⟩ rfl, ⟨⟨100, 0, _, rfl, rfl, .inr ⟨5, _, rfl, rfl, rfl, rfl⟩⟩, trivial⟩, Xc ⟨rfl, trivial⟩⟩
   | true =>
    rw [hv] at hval
    obtain rfl : R = ((.mk 1 n 0 [] []), a2, 0) := by rw [hG]; simp [XY, hv]
    repeat first | refine X0 ?_ | (refine JR ?_; (repeat first | refine Z1 ?_ | refine Z0 ?_ | refine ZZ ?_ | refine Zy ?_ | refine Zz ?_ | refine ZK ?_ | refine Zs ?_ | refine Zq ?_ | refine Zp ?_ | refine Zr (γ := 100) ?_ | refine Zr (γ := 101) ?_ | refine Zu ?_ | refine Zt ?_ | refine Zi ?_ | refine Z8 (hcon := hk) ?_ | refine Z8 (hcon := hn) ?_ | refine Z8 (hcon := hval) ?_); refine JD ?_) | refine JT ?_ | refine JF ?_ | refine X5 ?_ | refine X3 ?_
    exact X1 ⟨_, XA 100 (cs := [ai 1, ai n, ai 0, .d (.v (.string (X4 []))), ani]) (cs' := [ai 1, ai n, ai 0, .d (.v (.string (X4 []))), .d (.sl 5 [])]) rfl ⟨AVal.le_refl _, AVal.le_refl _, AVal.le_refl _, AVal.le_refl _, AVal.le_nil 5, trivial⟩ rfl, ⟨⟨100, 0, _, rfl, rfl, .inr ⟨5, _, rfl, rfl, rfl, rfl⟩⟩, trivial⟩, Xc ⟨rfl, trivial⟩⟩
  ·obtain rfl : R = ((.mk 1 n 0 [] []), a2, e2) := by rw [hG]; simp [XY, he]
   repeat first | refine X0 ?_ | (refine JR ?_; (repeat first | refine Z1 ?_ | refine Z0 ?_ | refine ZZ ?_ | refine Zy ?_ | refine Zz ?_ | refine ZK ?_ | refine Zs ?_ | refine Zq ?_ | refine Zr (γ := 100) ?_ | refine Zr (γ := 101) ?_ | refine Zu ?_ | refine Zt ?_ | refine Zl ?_ | refine Zj ?_ | refine Z8 (hcon := hk) ?_ | refine Z8 (hcon := hn) ?_); refine JD ?_) | refine JT ?_ | refine JF ?_ | refine X5 ?_ | refine X3 ?_
   exact X1 ⟨_, XA 100 (cs := [ai 1, ai n, ai 0, .d (.v (.string (X4 []))), ani]) (cs' := [ai 1, ai n, ai 0, .d (.v (.string (X4 []))), .d (.sl 5 [])]) rfl ⟨AVal.le_refl _, AVal.le_refl _, AVal.le_refl _, AVal.le_refl _, AVal.le_nil 5, trivial⟩ rfl, ⟨⟨100, 0, _, rfl, rfl, .inr ⟨5, _, rfl, rfl, rfl, rfl⟩⟩, trivial⟩, Xc ⟨rfl, trivial⟩⟩
 by_cases h2 : k = 2
 ·subst h2
  rw [show ((2 : Nat) : Int) = 2 from rfl] at hk hG
  have hn := X0j b (a + 1) 0 hb
  rw [if_pos rfl, if_pos rfl] at hn
  rw [show XW gl gp b (a + 1) 2 = (.mk 2 (Xn b (a + 1)).1 0 [] [], (Xn b (a + 1)).2.1, (Xn b (a + 1)).2.2) by simp [XW]] at hG
  generalize Xn b (a + 1) = u at *
  obtain ⟨n, a2, e2⟩ := u
  simp only at hn hG
  by_cases he : e2 = 0
  ·subst he
   have hval := Ur (.mk 2 n 0 [] [])
   simp only [Xh] at hval
   cases hv : X6 8 (.mk 2 n 0 [] []) with
   | false =>
    rw [hv] at hval
    obtain rfl : R = ((.mk 2 n 0 [] []), a2, 2) := by rw [hG]; simp [XY, hv]
    repeat first | refine X0 ?_ | (refine JR ?_; (repeat first | refine Z1 ?_ | refine Z0 ?_ | refine ZZ ?_ | refine Zy ?_ | refine Zz ?_ | refine ZK ?_ | refine Zs ?_ | refine Zq ?_ | refine Zp ?_ | refine Zr (γ := 100) ?_ | refine Zr (γ := 101) ?_ | refine Zu ?_ | refine Zt ?_ | refine Zi ?_ | refine Z8 (hcon := hk) ?_ | refine Z8 (hcon := hn) ?_ | refine Z8 (hcon := hval) ?_); refine JD ?_) | refine JT ?_ | refine JF ?_ | refine X5 ?_ | refine X3 ?_
    exact X1 ⟨_, XA 100 (cs := [ai 2, ai n, ai 0, .d (.v (.string (X4 []))), ani]) (cs' := [ai 2, ai n, ai 0, .d (.v (.string (X4 []))), .d (.sl 5 [])]) rfl ⟨AVal.le_refl _, AVal.le_refl _, AVal.le_refl _, AVal.le_refl _, AVal.le_nil 5, trivial⟩ rfl, ⟨⟨100, 0, _, rfl, rfl, .inr ⟨5, _, rfl, rfl, rfl, rfl⟩⟩, trivial⟩, Xc ⟨rfl, trivial⟩⟩
   | true =>
    rw [hv] at hval
    obtain rfl : R = ((.mk 2 n 0 [] []), a2, 0) := by rw [hG]; simp [XY, hv]
    repeat first | refine X0 ?_ | (refine JR ?_; (repeat first | refine Z1 ?_ | refine Z0 ?_ | refine ZZ ?_ | refine Zy ?_ | refine Zz ?_ | refine ZK ?_ | refine Zs ?_ | refine Zq ?_ | refine Zp ?_ | refine Zr (γ := 100) ?_ | refine Zr (γ := 101) ?_ | refine Zu ?_ | refine Zt ?_ | refine Zi ?_ | refine Z8 (hcon := hk) ?_ | refine Z8 (hcon := hn) ?_ | refine Z8 (hcon := hval) ?_); refine JD ?_) | refine JT ?_ | refine JF ?_ | refine X5 ?_ | refine X3 ?_
    exact X1 ⟨_, XA 100 (cs := [ai 2, ai n, ai 0, .d (.v (.string (X4 []))), ani]) (cs' := [ai 2, ai n, ai 0, .d (.v (.string (X4 []))), .d (.sl 5 [])]) rfl ⟨AVal.le_refl _, AVal.le_refl _, AVal.le_refl _, AVal.le_refl _, AVal.le_nil 5, trivial⟩ rfl, ⟨⟨100, 0, _, rfl, rfl, .inr ⟨5, _, rfl, rfl, rfl, rfl⟩⟩, trivial⟩, Xc ⟨rfl, trivial⟩⟩
  ·obtain rfl : R = ((.mk 2 n 0 [] []), a2, e2) := by rw [hG]; simp [XY, he]
   repeat first | refine X0 ?_ | (refine JR ?_; (repeat first | refine Z1 ?_ | refine Z0 ?_ | refine ZZ ?_ | refine Zy ?_ | refine Zz ?_ | refine ZK ?_ | refine Zs ?_ | refine Zq ?_ | refine Zr (γ := 100) ?_ | refine Zr (γ := 101) ?_ | refine Zu ?_ | refine Zt ?_ | refine Zl ?_ | refine Zj ?_ | refine Z8 (hcon := hk) ?_ | refine Z8 (hcon := hn) ?_); refine JD ?_) | refine JT ?_ | refine JF ?_ | refine X5 ?_ | refine X3 ?_
   exact X1 ⟨_, XA 100 (cs := [ai 2, ai n, ai 0, .d (.v (.string (X4 []))), ani]) (cs' := [ai 2, ai n, ai 0, .d (.v (.string (X4 []))), .d (.sl 5 [])]) rfl ⟨AVal.le_refl _, AVal.le_refl _, AVal.le_refl _, AVal.le_refl _, AVal.le_nil 5, trivial⟩ rfl, ⟨⟨100, 0, _, rfl, rfl, .inr ⟨5, _, rfl, rfl, rfl, rfl⟩⟩, trivial⟩, Xc ⟨rfl, trivial⟩⟩
 by_cases h5 : k = 5
 ·subst h5
  rw [show ((5 : Nat) : Int) = 5 from rfl] at hk hG
  have hn := X0j b (a + 1) 0 hb
  rw [if_pos rfl, if_pos rfl] at hn
  rw [show XW gl gp b (a + 1) 5 = (.mk 5 (Xn b (a + 1)).1 0 [] [], (Xn b (a + 1)).2.1, (Xn b (a + 1)).2.2) by simp [XW]] at hG
  generalize Xn b (a + 1) = u at *
  obtain ⟨n, a2, e2⟩ := u
  simp only at hn hG
  by_cases he : e2 = 0
  ·subst he
   have hval := Ur (.mk 5 n 0 [] [])
   simp only [Xh] at hval
   cases hv : X6 8 (.mk 5 n 0 [] []) with
   | false =>
    rw [hv] at hval
    obtain rfl : R = ((.mk 5 n 0 [] []), a2, 2) := by rw [hG]; simp [XY, hv]
    repeat first | refine X0 ?_ | (refine JR ?_; (repeat first | refine Z1 ?_ | refine Z0 ?_ | refine ZZ ?_ | refine Zy ?_ | refine Zz ?_ | refine ZK ?_ | refine Zs ?_ | refine Zq ?_ | refine Zp ?_ | refine Zr (γ := 100) ?_ | refine Zr (γ := 101) ?_ | refine Zu ?_ | refine Zt ?_ | refine Zi ?_ | refine Z8 (hcon := hk) ?_ | refine Z8 (hcon := hn) ?_ | refine Z8 (hcon := hval) ?_); refine JD ?_) | refine JT ?_ | refine JF ?_ | refine X5 ?_ | refine X3 ?_
    exact X1 ⟨_, XA 100 (cs := [ai 5, ai n, ai 0, .d (.v (.string (X4 []))), ani]) (cs' := [ai 5, ai n, ai 0, .d (.v (.string (X4 []))), .d (.sl 5 [])]) rfl ⟨AVal.le_refl _, AVal.le_refl _, AVal.le_refl _, AVal.le_refl _, AVal.le_nil 5, trivial⟩ rfl, ⟨⟨100, 0, _, rfl, rfl, .inr ⟨5, _, rfl, rfl, rfl, rfl⟩⟩, trivial⟩, Xc ⟨rfl, trivial⟩⟩
   | true =>
    rw [hv] at hval
    obtain rfl : R = ((.mk 5 n 0 [] []), a2, 0) := by rw [hG]; simp [XY, hv]
    repeat first | refine X0 ?_ | (refine JR ?_; (repeat first | refine Z1 ?_ | refine Z0 ?_ | refine ZZ ?_ | refine Zy ?_ | refine Zz ?_ | refine ZK ?_ | refine Zs ?_ | refine Zq ?_ | refine Zp ?_ | refine Zr (γ := 100) ?_ | refine Zr (γ := 101) ?_ | refine Zu ?_ | refine Zt ?_ | refine Zi ?_ | refine Z8 (hcon := hk) ?_ | refine Z8 (hcon := hn) ?_ | refine Z8 (hcon := hval) ?_); refine JD ?_) | refine JT ?_ | refine JF ?_ | refine X5 ?_ | refine X3 ?_
    exact X1 ⟨_, XA 100 (cs := [ai 5, ai n, ai 0, .d (.v (.string (X4 []))), ani]) (cs' := [ai 5, ai n, ai 0, .d (.v (.string (X4 []))), .d (.sl 5 [])]) rfl ⟨AVal.le_refl _, AVal.le_refl _, AVal.le_refl _, AVal.le_refl _, AVal.le_nil 5, trivial⟩ rfl, ⟨⟨100, 0, _, rfl, rfl, .inr ⟨5, _, rfl, rfl, rfl, rfl⟩⟩, trivial⟩, Xc ⟨rfl, trivial⟩⟩
  ·obtain rfl : R = ((.mk 5 n 0 [] []), a2, e2) := by rw [hG]; simp [XY, he]
   repeat first | refine X0 ?_ | (refine JR ?_; (repeat first | refine Z1 ?_ | refine Z0 ?_ | refine ZZ ?_ | refine Zy ?_ | refine Zz ?_ | refine ZK ?_ | refine Zs ?_ | refine Zq ?_ | refine Zr (γ := 100) ?_ | refine Zr (γ := 101) ?_ | refine Zu ?_ | refine Zt ?_ | refine Zl ?_ | refine Zj ?_ | refine Z8 (hcon := hk) ?_ | refine Z8 (hcon := hn) ?_); refine JD ?_) | refine JT ?_ | refine JF ?_ | refine X5 ?_ | refine X3 ?_
   exact X1 ⟨_, XA 100 (cs := [ai 5, ai n, ai 0, .d (.v (.string (X4 []))), ani]) (cs' := [ai 5, ai n, ai 0, .d (.v (.string (X4 []))), .d (.sl 5 [])]) rfl ⟨AVal.le_refl _, AVal.le_refl _, AVal.le_refl _, AVal.le_refl _, AVal.le_nil 5, trivial⟩ rfl, ⟨⟨100, 0, _, rfl, rfl, .inr ⟨5, _, rfl, rfl, rfl, rfl⟩⟩, trivial⟩, Xc ⟨rfl, trivial⟩⟩
 by_cases h6 : k = 6
 ·subst h6
  rw [show ((6 : Nat) : Int) = 6 from rfl] at hk hG
  have hn := X0j b (a + 1) 0 hb
  rw [if_pos rfl, if_pos rfl] at hn
  rw [show XW gl gp b (a + 1) 6 = (.mk 6 (Xn b (a + 1)).1 0 [] [], (Xn b (a + 1)).2.1, (Xn b (a + 1)).2.2) by simp [XW]] at hG
  generalize Xn b (a + 1) = u at *
  obtain ⟨n, a2, e2⟩ := u
  simp only at hn hG
  by_cases he : e2 = 0
  ·subst he
   have hval := Ur (.mk 6 n 0 [] [])
   simp only [Xh] at hval
   cases hv : X6 8 (.mk 6 n 0 [] []) with
   | false =>
    rw [hv] at hval
    obtain rfl : R = ((.mk 6 n 0 [] []), a2, 2) := by rw [hG]; simp [XY, hv]
    repeat first | refine X0 ?_ | (refine JR ?_; (repeat first | refine Z1 ?_ | refine Z0 ?_ | refine ZZ ?_ | refine Zy ?_ | refine Zz ?_ | refine ZK ?_ | refine Zs ?_ | refine Zq ?_ | refine Zp ?_ | refine Zr (γ := 100) ?_ | refine Zr (γ := 101) ?_ | refine Zu ?_ | refine Zt ?_ | refine Zi ?_ | refine Z8 (hcon := hk) ?_ | refine Z8 (hcon := hn) ?_ | refine Z8 (hcon := hval) ?_); refine JD ?_) | refine JT ?_ | refine JF ?_ | refine X5 ?_ | refine X3 ?_
    exact X1 ⟨_, XA 100 (cs := [ai 6, ai n, ai 0, .d (.v (.string (X4 []))), ani]) (cs' := [ai 6, ai n, ai 0, .d (.v (.string (X4 []))), .d (.sl 5 [])]) rfl ⟨AVal.le_refl _, AVal.le_refl _, AVal.le_refl _, AVal.le_refl _, AVal.le_nil 5, trivial⟩ rfl, ⟨⟨100, 0, _, rfl, rfl, .inr ⟨5, _, rfl, rfl, rfl, rfl⟩⟩, trivial⟩, Xc ⟨rfl, trivial⟩⟩
   | true =>
    rw [hv] at hval
    obtain rfl : R = ((.mk 6 n 0 [] []), a2, 0) := by rw [hG]; simp [XY, hv]
    repeat first | refine X0 ?_ | (refine JR ?_; (repeat first | refine Z1 ?_ | refine Z0 ?_ | refine ZZ ?_ | refine Zy ?_ | refine Zz ?_ | refine ZK ?_ | refine Zs ?_ | refine Zq ?_ | refine Zp ?_ | refine Zr (γ := 100) ?_ | refine Zr (γ := 101) ?_ | refine Zu ?_ | refine Zt ?_ | refine Zi ?_ | refine Z8 (hcon := hk) ?_ | refine Z8 (hcon := hn) ?_ | refine Z8 (hcon := hval) ?_); refine JD ?_) | refine JT ?_ | refine JF ?_ | refine X5 ?_ | refine X3 ?_
    exact X1 ⟨_, XA 100 (cs := [ai 6, ai n, ai 0, .d (.v (.string (X4 []))), ani]) (cs' := [ai 6, ai n, ai 0, .d (.v (.string (X4 []))), .d (.sl 5 [])]) rfl ⟨AVal.le_refl _, AVal.le_refl _, AVal.le_refl _, AVal.le_refl _, AVal.le_nil 5, trivial⟩ rfl, ⟨⟨100, 0, _, rfl, rfl, .inr ⟨5, _, rfl, rfl, rfl, rfl⟩⟩, trivial⟩, Xc ⟨rfl, trivial⟩⟩
  ·obtain rfl : R = ((.mk 6 n 0 [] []), a2, e2) := by rw [hG]; simp [XY, he]
   repeat first | refine X0 ?_ | (refine JR ?_; (repeat first | refine Z1 ?_ | refine Z0 ?_ | refine ZZ ?_ | refine Zy ?_ | refine Zz ?_ | refine ZK ?_ | refine Zs ?_ | refine Zq ?_ | refine Zr (γ := 100) ?_ | refine Zr (γ := 101) ?_ | refine Zu ?_ | refine Zt ?_ | refine Zl ?_ | refine Zj ?_ | refine Z8 (hcon := hk) ?_ | refine Z8 (hcon := hn) ?_); refine JD ?_) | refine JT ?_ | refine JF ?_ | refine X5 ?_ | refine X3 ?_
   exact X1 ⟨_, XA 100 (cs := [ai 6, ai n, ai 0, .d (.v (.string (X4 []))), ani]) (cs' := [ai 6, ai n, ai 0, .d (.v (.string (X4 []))), .d (.sl 5 [])]) rfl ⟨AVal.le_refl _, AVal.le_refl _, AVal.le_refl _, AVal.le_refl _, AVal.le_nil 5, trivial⟩ rfl, ⟨⟨100, 0, _, rfl, rfl, .inr ⟨5, _, rfl, rfl, rfl, rfl⟩⟩, trivial⟩, Xc ⟨rfl, trivial⟩⟩
 by_cases h3 : k = 3
 ·subst h3
  rw [show ((3 : Nat) : Int) = 3 from rfl] at hk hG
  have hn := X0j b (a + 1) 0 hb
  rw [if_pos rfl, if_pos rfl] at hn
  have hz := @Xaj b (a + 1)
  have hc : XW gl gp b (a + 1) 3 = if (Xn b (a + 1)).2.2 ≠ 0 then (.mk 3 0 0 [] [], (Xn b (a + 1)).2.1, (Xn b (a + 1)).2.2) else (.mk 3 (Xn b (a + 1)).1 (Xn b (Xn b (a + 1)).2.1).1 [] [], (Xn b (Xn b (a + 1)).2.1).2.1, (Xn b (Xn b (a + 1)).2.1).2.2) := by simp [XW]
  generalize Xn b (a + 1) = u at *
  obtain ⟨n, a2, e2⟩ := u
  simp only at hn hz hc
  have hn2 := X0j b a2 e2 hb
  by_cases he2 : e2 = 0
  ·subst he2
   rw [if_pos rfl, if_pos rfl] at hn2
   rw [if_neg (by simp)] at hc
   rw [hc] at hG
   generalize Xn b a2 = u at *
   obtain ⟨d, a3, e3⟩ := u
   simp only at hn2 hG
   by_cases he : e3 = 0
   ·subst he
    have hval := Ur (.mk 3 n d [] [])
    simp only [Xh] at hval
    cases hv : X6 8 (.mk 3 n d [] []) with
    | false =>
     rw [hv] at hval
     obtain rfl : R = ((.mk 3 n d [] []), a3, 2) := by rw [hG]; simp [XY, hv]
     repeat first | refine X0 ?_ | (refine JR ?_; (repeat first | refine Z1 ?_ | refine Z0 ?_ | refine ZZ ?_ | refine Zy ?_ | refine Zz ?_ | refine ZK ?_ | refine Zs ?_ | refine Zq ?_ | refine Zp ?_ | refine Zr (γ := 100) ?_ | refine Zr (γ := 101) ?_ | refine Zu ?_ | refine Zt ?_ | refine Zi ?_ | refine Z8 (hcon := hk) ?_ | refine Z8 (hcon := hn) ?_ | refine Z8 (hcon := hn2) ?_ | refine Z8 (hcon := hval) ?_); refine JD ?_) | refine JT ?_ | refine JF ?_ | refine X5 ?_ | refine X3 ?_
     exact X1 ⟨_, XA 100 (cs := [ai 3, ai n, ai d, .d (.v (.string (X4 []))), ani]) (cs' := [ai 3, ai n, ai d, .d (.v (.string (X4 []))), .d (.sl 5 [])]) rfl ⟨AVal.le_refl _, AVal.le_refl _, AVal.le_refl _, AVal.le_refl _, AVal.le_nil 5, trivial⟩ rfl, ⟨⟨100, 0, _, rfl, rfl, .inr ⟨5, _, rfl, rfl, rfl, rfl⟩⟩, trivial⟩, Xc ⟨rfl, trivial⟩⟩
    | true =>
     rw [hv] at hval
     obtain rfl : R = ((.mk 3 n d [] []), a3, 0) := by rw [hG]; simp [XY, hv]
     repeat first | refine X0 ?_ | (refine JR ?_; (repeat first | refine Z1 ?_ | refine Z0 ?_ | refine ZZ ?_ | refine Zy ?_ | refine Zz ?_ | refine ZK ?_ | refine Zs ?_ | refine Zq ?_ | refine Zp ?_ | refine Zr (γ := 100) ?_ | refine Zr (γ := 101) ?_ | refine Zu ?_ | refine Zt ?_ | refine Zi ?_ | refine Z8 (hcon := hk) ?_ | refine Z8 (hcon := hn) ?_ | refine Z8 (hcon := hn2) ?_ | refine Z8 (hcon := hval) ?_); refine JD ?_) | refine JT ?_ | refine JF ?_ | refine X5 ?_ | refine X3 ?_
     exact X1 ⟨_, XA 100 (cs := [ai 3, ai n, ai d, .d (.v (.string (X4 []))), ani]) (cs' := [ai 3, ai n, ai d, .d (.v (.string (X4 []))), .d (.sl 5 [])]) rfl ⟨AVal.le_refl _, AVal.le_refl _, AVal.le_refl _, AVal.le_refl _, AVal.le_nil 5, trivial⟩ rfl, ⟨⟨100, 0, _, rfl, rfl, .inr ⟨5, _, rfl, rfl, rfl, rfl⟩⟩, trivial⟩, Xc ⟨rfl, trivial⟩⟩
   ·obtain rfl : R = ((.mk 3 n d [] []), a3, e3) := by rw [hG]; simp [XY, he]
    repeat first | refine X0 ?_ | (refine JR ?_; (repeat first | refine Z1 ?_ | refine Z0 ?_ | refine ZZ ?_ | refine Zy ?_ | refine Zz ?_ | refine ZK ?_ | refine Zs ?_ | refine Zq ?_ | refine Zr (γ := 100) ?_ | refine Zr (γ := 101) ?_ | refine Zu ?_ | refine Zt ?_ | refine Zl ?_ | refine Zj ?_ | refine Z8 (hcon := hk) ?_ | refine Z8 (hcon := hn) ?_ | refine Z8 (hcon := hn2) ?_); refine JD ?_) | refine JT ?_ | refine JF ?_ | refine X5 ?_ | refine X3 ?_
    exact X1 ⟨_, XA 100 (cs := [ai 3, ai n, ai d, .d (.v (.string (X4 []))), ani]) (cs' := [ai 3, ai n, ai d, .d (.v (.string (X4 []))), .d (.sl 5 [])]) rfl ⟨AVal.le_refl _, AVal.le_refl _, AVal.le_refl _, AVal.le_refl _, AVal.le_nil 5, trivial⟩ rfl, ⟨⟨100, 0, _, rfl, rfl, .inr ⟨5, _, rfl, rfl, rfl, rfl⟩⟩, trivial⟩, Xc ⟨rfl, trivial⟩⟩
  ·rw [if_neg he2, if_neg he2] at hn2
   rw [if_pos he2] at hc
   rw [hc] at hG
   obtain rfl := hz he2
   obtain rfl : R = (.mk 3 0 0 [] [], a2, e2) := by rw [hG]; simp [XY, he2]
   repeat first | refine X0 ?_ | (refine JR ?_; (repeat first | refine Z1 ?_ | refine Z0 ?_ | refine ZZ ?_ | refine Zy ?_ | refine Zz ?_ | refine ZK ?_ | refine Zs ?_ | refine Zq ?_ | refine Zr (γ := 100) ?_ | refine Zr (γ := 101) ?_ | refine Zu ?_ | refine Zt ?_ | refine Zl ?_ | refine Zj ?_ | refine Z8 (hcon := hk) ?_ | refine Z8 (hcon := hn) ?_ | refine Z8 (hcon := hn2) ?_); refine JD ?_) | refine JT ?_ | refine JF ?_ | refine X5 ?_ | refine X3 ?_
   exact X1 ⟨_, XA 100 (cs := [ai 3, ai 0, ai 0, .d (.v (.string (X4 []))), ani]) (cs' := [ai 3, ai 0, ai 0, .d (.v (.string (X4 []))), .d (.sl 5 [])]) rfl ⟨AVal.le_refl _, AVal.le_refl _, AVal.le_refl _, AVal.le_refl _, AVal.le_nil 5, trivial⟩ rfl, ⟨⟨100, 0, _, rfl, rfl, .inr ⟨5, _, rfl, rfl, rfl, rfl⟩⟩, trivial⟩, Xc ⟨rfl, trivial⟩⟩
 by_cases h4 : k = 4
 ·subst h4
  rw [show ((4 : Nat) : Int) = 4 from rfl] at hk hG
  have hn := X4O b (a + 1) 100 hb
  rw [show XW gl gp b (a + 1) 4 = (.mk 4 0 0 (Ye b (a + 1) 100).1 [], (Ye b (a + 1) 100).2.1, (Ye b (a + 1) 100).2.2) by simp [XW]] at hG
  generalize Ye b (a + 1) 100 = u at *
  obtain ⟨s, a2, e2⟩ := u
  simp only at hn hG
  by_cases he : e2 = 0
  ·subst he
   have hval := Ur (.mk 4 0 0 s [])
   simp only [Xh] at hval
   cases hv : X6 8 (.mk 4 0 0 s []) with
   | false =>
    rw [hv] at hval
    obtain rfl : R = ((.mk 4 0 0 s []), a2, 2) := by rw [hG]; simp [XY, hv]
    repeat first | refine X0 ?_ | (refine JR ?_; (repeat first | refine Z1 ?_ | refine Z0 ?_ | refine ZZ ?_ | refine Zy ?_ | refine Zz ?_ | refine ZK ?_ | refine Zs ?_ | refine Zq ?_ | refine Zp ?_ | refine Zr (γ := 100) ?_ | refine Zr (γ := 101) ?_ | refine Zu ?_ | refine Zt ?_ | refine ZC ?_ | refine Zi ?_ | refine Z8 (hcon := hk) ?_ | refine Z8 (hcon := hn) ?_ | refine Z8 (hcon := hval) ?_); refine JD ?_) | refine JT ?_ | refine JF ?_ | refine X5 ?_ | refine X3 ?_
    exact X1 ⟨_, XA 100 (cs := [ai 4, ai 0, ai 0, .d (.v (.string (X4 s))), ani]) (cs' := [ai 4, ai 0, ai 0, .d (.v (.string (X4 s))), .d (.sl 5 [])]) rfl ⟨AVal.le_refl _, AVal.le_refl _, AVal.le_refl _, AVal.le_refl _, AVal.le_nil 5, trivial⟩ rfl, ⟨⟨100, 0, _, rfl, rfl, .inr ⟨5, _, rfl, rfl, rfl, rfl⟩⟩, trivial⟩, Xc ⟨rfl, trivial⟩⟩
   | true =>
    rw [hv] at hval
    obtain rfl : R = ((.mk 4 0 0 s []), a2, 0) := by rw [hG]; simp [XY, hv]
    repeat first | refine X0 ?_ | (refine JR ?_; (repeat first | refine Z1 ?_ | refine Z0 ?_ | refine ZZ ?_ | refine Zy ?_ | refine Zz ?_ | refine ZK ?_ | refine Zs ?_ | refine Zq ?_ | refine Zp ?_ | refine Zr (γ := 100) ?_ | refine Zr (γ := 101) ?_ | refine Zu ?_ | refine Zt ?_ | refine ZC ?_ | refine Zi ?_ | refine Z8 (hcon := hk) ?_ | refine Z8 (hcon := hn) ?_ | refine Z8 (hcon := hval) ?_); refine JD ?_) | refine JT ?_ | refine JF ?_ | refine X5 ?_ | refine X3 ?_
    exact X1 ⟨_, XA 100 (cs := [ai 4, ai 0, ai 0, .d (.v (.string (X4 s))), ani]) (cs' := [ai 4, ai 0, ai 0, .d (.v (.string (X4 s))), .d (.sl 5 [])]) rfl ⟨AVal.le_refl _, AVal.le_refl _, AVal.le_refl _, AVal.le_refl _, AVal.le_nil 5, trivial⟩ rfl, ⟨⟨100, 0, _, rfl, rfl, .inr ⟨5, _, rfl, rfl, rfl, rfl⟩⟩, trivial⟩, Xc ⟨rfl, trivial⟩⟩
  ·obtain rfl : R = ((.mk 4 0 0 s []), a2, e2) := by rw [hG]; simp [XY, he]
   repeat first | refine X0 ?_ | (refine JR ?_; (repeat first | refine Z1 ?_ | refine Z0 ?_ | refine ZZ ?_ | refine Zy ?_ | refine Zz ?_ | refine ZK ?_ | refine Zs ?_ | refine Zq ?_ | refine Zr (γ := 100) ?_ | refine Zr (γ := 101) ?_ | refine Zu ?_ | refine Zt ?_ | refine ZC ?_ | refine Zl ?_ | refine Zj ?_ | refine Z8 (hcon := hk) ?_ | refine Z8 (hcon := hn) ?_); refine JD ?_) | refine JT ?_ | refine JF ?_ | refine X5 ?_ | refine X3 ?_
   exact X1 ⟨_, XA 100 (cs := [ai 4, ai 0, ai 0, .d (.v (.string (X4 s))), ani]) (cs' := [ai 4, ai 0, ai 0, .d (.v (.string (X4 s))), .d (.sl 5 [])]) rfl ⟨AVal.le_refl _, AVal.le_refl _, AVal.le_refl _, AVal.le_refl _, AVal.le_nil 5, trivial⟩ rfl, ⟨⟨100, 0, _, rfl, rfl, .inr ⟨5, _, rfl, rfl, rfl, rfl⟩⟩, trivial⟩, Xc ⟨rfl, trivial⟩⟩
 omega
end Go.Fw
namespace Go.Fw
open Go Go.Proofs
set_option maxRecDepth 100000
set_option linter.unusedVariables false
set_option linter.unusedSimpArgs false
def rkI (b : List UInt8) (a e limit : Int) : Int × Int × Int := if e ≠ 0 then (0, a, e) else rkS b a.toNat 0 limit
def rnS (b : List UInt8) (a e : Int) : Int × Int × Int := if e ≠ 0 then (0, a, e) else Xf b a
def riS (b : List UInt8) (a e : Int) : Int × Int × Int := if e ≠ 0 then (0, a, e) else Xn b a
def rsS (b : List UInt8) (a e : Int) : List UInt8 × Int × Int := if e ≠ 0 then ([], a, e) else Ye b a 20
def rvS (b : List UInt8) (a e : Int) : Val × Int × Int := if e ≠ 0 then (zV, a, e) else Yl b a
theorem X2v (b : List UInt8) (a e limit : Int) (hb : b.length ≤ 281474976710656) (ha : e = 0 → 0 ≤ a ∧ a ≤ b.length) : Con Tryd.prog 14 [(0, oRd b a e)] [.ptr 0 0, ai limit] [(0, oRd b (rkI b a e limit).2.1 (rkI b a e limit).2.2)] (ai (rkI b a e limit).1) := by
 by_cases h : e = 0
 ·subst h
  obtain ⟨m, rfl⟩ : ∃ m : Nat, a = m := ⟨a.toNat, by have := ha rfl; omega⟩
  have := ha rfl
  have hk := X8A b m 0 limit hb (by omega)
  rw [show rkI b m 0 limit = rkS b m 0 limit by unfold rkI; simp]
  exact hk
 ·unfold rkI
  rw [if_pos h]
  refine Xb (xs := [ai 0]) Tryd.func14 rfl Tryd.ntmps14 rfl rfl rfl (fun E => ?_)
  refine X0 ?_; refine JR ?_; refine Z0 ?_; refine JD ?_; refine X0 ?_; refine X5 ?_; refine X0 ?_; refine JR ?_; refine Z1 ?_; refine ZZ ?_; refine Zy ?_; refine Zz ?_; refine Zq ?_; refine Z0 ?_
  refine JD ?_; refine JT ?_; refine X3 ?_; refine X0 ?_; refine JR ?_; refine Z0 ?_; refine JD ?_
  exact X1 ⟨_, St.le_refl _, ⟨rfl, trivial⟩, Xc ⟨rfl, trivial⟩⟩
theorem X18 (b : List UInt8) (a e : Int) (hb : b.length ≤ 281474976710656) : Con Tryd.prog 15 [(0, oRd b a e)] [.ptr 0 0] [(0, oRd b (rnS b a e).2.1 (rnS b a e).2.2)] (ai (rnS b a e).1) := by
 have h := X6N b a e hb
 unfold rnS
 by_cases he : e = 0
 ·rw [if_pos he, if_pos he] at h
  rw [if_neg (by simpa using he)]
  exact h
 ·rw [if_neg he, if_neg he] at h
  rw [if_pos he]
  exact h
theorem VM (b : List UInt8) (a e : Int) (hb : b.length ≤ 281474976710656) : Con Tryd.prog 29 [(0, oRd b a e)] [.ptr 0 0] [(0, oRd b (rsS b a e).2.1 (rsS b a e).2.2)] (X8 (rsS b a e).1) := by
 refine Xb (xs := [X8 (rsS b a e).1]) Tryd.func29 rfl Tryd.ntmps29 rfl rfl rfl (fun E => ?_)
 have hu := X4O b a 20 hb
 unfold rsS
 generalize Ye b a 20 = u at *
 obtain ⟨u1, u2, u3⟩ := u
 obtain ⟨r, hr⟩ : ∃ r, r = (if e ≠ 0 then (([] : List UInt8), a, e) else (u1, u2, u3)) := ⟨_, rfl⟩
 rw [← hr]
 refine X0 ?_; refine JR ?_; refine Z0 ?_; refine JD ?_; refine X0 ?_; refine JR ?_; refine Z0 ?_; refine JD ?_; refine X0 ?_; refine X0 ?_; refine JR ?_; refine Z1 ?_; refine ZZ ?_; refine Zy ?_
 refine Zz ?_; refine Zs ?_; refine JD ?_; refine Vj rfl (fun hq => ?_) (fun hq => ?_); refine X0 ?_; refine JR ?_; refine Z1 ?_; refine ZZ ?_; refine Zy ?_; refine Zz ?_; refine Z0 ?_; refine JD ?_
 refine JR ?_; refine Z1 ?_; refine Z1 ?_; refine Z1 ?_; refine ZZ ?_; refine Zy ?_; refine Zz ?_; refine Z1 ?_; refine Z8 (hcon := hu) ?_; refine Z1 ?_; refine ZC ?_; refine ZC ?_; refine ZC ?_; refine Z0 ?_
 refine ZZ ?_; refine Zy ?_; refine Zu ?_; refine ZZ ?_; refine Zy ?_; refine Zu ?_; refine JD ?_; refine X0 ?_; refine JR ?_; refine Z1 ?_; refine Z0 ?_; refine JD ?_
 (simp [*] at hr; subst hr; exact X1 ⟨_, St.le_refl _, ⟨rfl, trivial⟩, Xc ⟨rfl, trivial⟩⟩); refine X3 ?_; refine X0 ?_; refine JR ?_; refine Z1 ?_; refine Z0 ?_; refine JD ?_
 (simp [*] at hr; subst hr; exact X1 ⟨_, St.le_refl _, ⟨rfl, trivial⟩, Xc ⟨rfl, trivial⟩⟩)
end Go.Fw
namespace Go.Fw
open Go Go.Proofs
set_option maxRecDepth 100000
set_option linter.unusedVariables false
set_option linter.unusedSimpArgs false
theorem X9K (b : List UInt8) (a m : Nat) (want : Int) (hw : want = 5 ∨ want = 6) (gl gp : Nat → Int → Val × Int × Int) : Yt gl gp m b a want = X04 b a want := by
 unfold X04 Yt
 split
 ·rfl
 simp only
 have hc : ∀ gl gp gl' gp' (k : Int), (k = 5 ∨ k = 6) → XW gl gp b (a + 1) k = XW gl' gp' b (a + 1) k := by
  intro _ _ _ _ k hk
  unfold XW
  rw [if_pos (by omega), if_pos (by omega)]
 by_cases h : ((((b[(a : Int).toNat]?).getD 0).toNat : Nat) : Int) = want
 ·rw [if_neg (c := 8 < _ ∨ _) (by omega), if_neg (c := 8 < _ ∨ _) (by omega), hc gl gp noG noG _ (by omega)]
 ·rw [if_pos (by omega), if_pos (by omega)]
theorem X5p (b : List UInt8) (a m : Nat) (want : Int) (hm : m ≤ 8) (ha : a ≤ b.length) (hb : b.length ≤ 281474976710656) (hw : want = 5 ∨ want = 6) : UK b a (8 - m) want (X04 b a want) := by
 rw [← X9K b a m want hw noG noG]
 exact X3l b m a want noG noG hm ha hb (fun i q _ => X0c i q) (fun i q _ => X0c i q) (by omega) (by omega) (by omega)
theorem X5e (b : List UInt8) (hb : b.length ≤ 281474976710656) : ∀ (m a : Nat), m ≤ 8 → a ≤ b.length → UK b a (8 - m) 0 (Uo b m a)
 | 0, a, hm, ha => by
  rw [Vz]
  exact X3l b 0 a 0 (X0F b 0) (UI b) hm ha hb (fun i q _ => X0c i q) (fun i q h => X1z i q h) (fun _ h => absurd rfl h) (fun _ i q h => X5p b q 0 _ hm h hb (by omega)) (fun h => absurd rfl h)
 | m + 1, a, hm, ha => by
  rw [Vz]
  refine X3l b (m + 1) a 0 (X0F b (m + 1)) (UI b) hm ha hb (fun i q h => X3Q m q h) (fun i q h => X1z i q h) (fun _ _ i q h => ?_) (fun _ i q h => X5p b q (m + 1) _ hm h hb (by omega)) (fun h => absurd rfl h)
  have := X5e b hb m q (by omega) h
  rw [show (8 : Int) - ((m + 1 : Nat) : Int) + 1 = 8 - (m : Int) by omega]
  exact this
theorem X9a (b : List UInt8) (hb : b.length ≤ 281474976710656) (a : Nat) (ha : a ≤ b.length) (r : Val × Int × Int) (hr : Uo b 8 a = r) :
  Con Tryd.prog 52 [(101, oRd b a 0)] [.ptr 101 0, ai 0, ai 0] [(101, oRd b r.2.1 r.2.2)] (Xh r.1) := by
 have h := X0B 0 101 (X5e b hb 8 a (by omega) ha)
 rw [hr] at h
 obtain ⟨⟨k, n, d, s, l⟩, x, y⟩ := r
 exact h
theorem X6Y (b : List UInt8) (hb : b.length ≤ 281474976710656) (a : Int) : Con Tryd.prog 30 [] [.d (Xv b), ai a] [] (.tup [Xh (Yl b a).1, ai (Yl b a).2.1, ai (Yl b a).2.2]) := by
 refine Xb (xs := [Xh (Yl b a).1, ai (Yl b a).2.1, ai (Yl b a).2.2]) Tryd.func30 rfl Tryd.ntmps30 rfl rfl rfl (fun E => ?_)
 by_cases h1 : a < 0
 ·rw [show Yl b a = (zV, 0, 1) by unfold Yl; rw [if_pos (.inl h1)]]
  refine X0 ?_; refine JR ?_; refine Zr (γ := 100) ?_; refine Z0 ?_; refine Z0 ?_; refine JD ?_; refine X0 ?_; refine X0 ?_; refine JR ?_; refine Z1 ?_; refine Z7 ?_; refine Z1 ?_; refine Zj ?_; refine Zj ?_
  refine Zj ?_; refine Zj ?_; refine Zi ?_; refine JD ?_; refine JT ?_; refine X0 ?_; refine JR ?_; refine Zt ?_; refine Zu ?_; refine Z0 ?_; refine Z0 ?_; refine JD ?_
  exact X1 ⟨_, XA 100 (cs := [ai 0, ai 0, ai 0, .d (.v (.string (X4 []))), ani]) (cs' := [ai 0, ai 0, ai 0, .d (.v (.string (X4 []))), .d (.sl 5 [])]) rfl ⟨AVal.le_refl _, AVal.le_refl _, AVal.le_refl _, AVal.le_refl _, AVal.le_nil 5, trivial⟩ rfl, ⟨⟨100, 0, _, rfl, rfl, .inr ⟨5, _, rfl, rfl, rfl, rfl⟩⟩, rfl, rfl, trivial⟩, X2 _⟩
 by_cases h2 : (b.length : Int) < a
 ·rw [show Yl b a = (zV, 0, 1) by unfold Yl; rw [if_pos (.inr h2)]]
  refine X0 ?_; refine JR ?_; refine Zr (γ := 100) ?_; refine Z0 ?_; refine Z0 ?_; refine JD ?_; refine X0 ?_; refine X0 ?_; refine JR ?_; refine Z1 ?_; refine Z7 ?_; refine Z1 ?_; refine Z1 ?_; refine Z1 ?_
  refine Zb ?_; refine Zn ?_; refine Zl ?_; refine JD ?_; refine JT ?_; refine X0 ?_; refine JR ?_; refine Zt ?_; refine Zu ?_; refine Z0 ?_; refine Z0 ?_; refine JD ?_
  exact X1 ⟨_, XA 100 (cs := [ai 0, ai 0, ai 0, .d (.v (.string (X4 []))), ani]) (cs' := [ai 0, ai 0, ai 0, .d (.v (.string (X4 []))), .d (.sl 5 [])]) rfl ⟨AVal.le_refl _, AVal.le_refl _, AVal.le_refl _, AVal.le_refl _, AVal.le_nil 5, trivial⟩ rfl, ⟨⟨100, 0, _, rfl, rfl, .inr ⟨5, _, rfl, rfl, rfl, rfl⟩⟩, rfl, rfl, trivial⟩, X2 _⟩
 obtain ⟨q, rfl⟩ : ∃ q : Nat, a = q := ⟨a.toNat, by omega⟩
 have hq : q ≤ b.length := by omega
 have hv : Yl b q = if (Uo b 8 q).2.2 ≠ 0 then (zV, 0, (Uo b 8 q).2.2) else Uo b 8 q := by unfold Yl; rw [if_neg (by omega)]
 have hcon := X9a b hb q hq _ rfl
 rw [hv]
 clear hv
 generalize Uo b 8 q = r at *
 obtain ⟨⟨k, n, d, s, l⟩, x, y⟩ := r
 simp only [Xh] at hcon
 by_cases h3 : y = 0
 ·subst h3
  rw [if_neg (by simp)]
  repeat first | refine X0 ?_ | (refine JR ?_; (repeat first | refine Z1 ?_ | refine Z0 ?_ | refine ZZ ?_ | refine Zy ?_ | refine Zz ?_ | refine ZK ?_ | refine Zb ?_ | refine Z7 ?_ | refine Zn ?_ | refine Zq ?_ | refine Zr (γ := 100) ?_ | refine Zr (γ := 102) ?_ | refine Zx (γ := 101) ?_ | refine Zu ?_ | refine Zt ?_ | refine Zl ?_ | refine Z8 (hcon := hcon) ?_); refine JD ?_) | refine JF ?_ | refine X3 ?_
  exact X1 ⟨_, St.le_refl _, ⟨⟨100, 0, _, rfl, rfl, .inr ⟨5, _, rfl, rfl, rfl, rfl⟩⟩, rfl, rfl, trivial⟩, X2 _⟩
 ·rw [if_pos h3]
  repeat first | refine X0 ?_ | (refine JR ?_; (repeat first | refine Z1 ?_ | refine Z0 ?_ | refine ZZ ?_ | refine Zy ?_ | refine Zz ?_ | refine Zb ?_ | refine Z7 ?_ | refine Zn ?_ | refine Zq ?_ | refine Zr (γ := 100) ?_ | refine Zr (γ := 102) ?_ | refine Zx (γ := 101) ?_ | refine Zu ?_ | refine Zt ?_ | refine Zl ?_ | refine Z8 (hcon := hcon) ?_); refine JD ?_) | refine JT ?_ | refine JF ?_ | refine X3 ?_
  exact X1 ⟨_, XA 100 (cs := [ai 0, ai 0, ai 0, .d (.v (.string (X4 []))), ani]) (cs' := [ai 0, ai 0, ai 0, .d (.v (.string (X4 []))), .d (.sl 5 [])]) rfl ⟨AVal.le_refl _, AVal.le_refl _, AVal.le_refl _, AVal.le_refl _, AVal.le_nil 5, trivial⟩ rfl, ⟨⟨100, 0, _, rfl, rfl, .inr ⟨5, _, rfl, rfl, rfl, rfl⟩⟩, rfl, rfl, trivial⟩, X2 _⟩
end Go.Fw
namespace Go.Fw
open Go Go.Proofs
set_option maxRecDepth 100000
set_option linter.unusedVariables false
set_option linter.unusedSimpArgs false
def XO (b : List UInt8) (a e : Int) : Chg × Int × Int :=
 let k := rkI b a e 8
 let i := rnS b k.2.1 k.2.2
 let f := if k.1 = 6 then rnS b i.2.1 i.2.2 else (0, i.2.1, i.2.2)
 let t := if k.1 = 6 then rnS b f.2.1 f.2.2 else (0, f.2.1, f.2.2)
 let s := if XT k.1 = true then rsS b t.2.1 t.2.2 else ([], t.2.1, t.2.2)
 let v := if XP k.1 = true then rvS b s.2.1 s.2.2 else (zV, s.2.1, s.2.2)
 (⟨k.1, i.1, f.1, t.1, s.1, v.1⟩, v.2.1, v.2.2)
theorem X9k (b : List UInt8) (a e limit : Int) : ((rkI b a e limit).1 = 0 ∧ (rkI b a e limit).2.2 ≠ 0) ∨ (1 ≤ (rkI b a e limit).1 ∧ (rkI b a e limit).1 ≤ limit ∧ (rkI b a e limit).2.2 = 0) := by
 unfold rkI
 by_cases h : e = 0
 ·subst h
  rw [if_neg (by simp)]
  unfold rkS
  rw [if_neg (by simp)]
  split
  ·exact .inl ⟨rfl, by simp⟩
  ·split
   ·exact .inl ⟨rfl, by simp⟩
   ·exact .inr ⟨by simp only; omega, by simp only; omega, rfl⟩
 ·rw [if_pos h]
  exact .inl ⟨rfl, h⟩
theorem X25 {b : List UInt8} {a e : Int} (h : e ≠ 0) : rnS b a e = (0, a, e) := if_pos h
theorem X6j {b : List UInt8} {a e : Int} (h : e ≠ 0) : rsS b a e = ([], a, e) := if_pos h
theorem X6n {b : List UInt8} {a e : Int} (h : e ≠ 0) : riS b a e = (0, a, e) := if_pos h
theorem X4k {b : List UInt8} {a e : Int} (h : e ≠ 0) : rvS b a e = (zV, a, e) := if_pos h
theorem X24 {b : List UInt8} {a : Int} : rvS b a 0 = Yl b a := if_neg (by simp)
theorem Xa4 (b : List UInt8) (a e : Int) (hb : b.length ≤ 281474976710656) (ha : e = 0 → 0 ≤ a ∧ a ≤ b.length) : Con Tryd.prog 16 [(0, oRd b a e)] [.ptr 0 0] [(0, oRd b (XO b a e).2.1 (XO b a e).2.2)] (Xy (XO b a e).1) := by
 refine Xb (xs := [Xy (XO b a e).1]) Tryd.func16 rfl Tryd.ntmps16 rfl rfl rfl (fun E => ?_)
 have hk := X2v b a e 8 hb ha
 have hop := X9k b a e 8
 unfold XO
 generalize rkI b a e 8 = k at *
 obtain ⟨op, a1, e1⟩ := k
 simp only at hk hop ⊢
 have hf := X5W op
 by_cases h0 : op = 0
 ·subst h0
  have he : e1 ≠ 0 := by omega
  have hi := X18 b a1 e1 hb
  have hs := VM b a1 e1 hb
  rw [X25 he] at hi ⊢
  rw [X6j he] at hs
  simp only [if_neg (show ¬ (0 : Int) = 6 by omega), if_neg (show ¬ XT 0 = true by decide), if_neg (show ¬ XP 0 = true by decide)]
  simp only [Xy] at *
  repeat first | refine X0 ?_ | (refine JR ?_; (repeat first | refine Z1 ?_ | refine Z0 ?_ | refine ZZ ?_ | refine Zy ?_ | refine Zz ?_ | refine ZK ?_ | refine Zs ?_ | refine Zr (γ := 100) ?_ | refine Zr (γ := 101) ?_ | refine Zu ?_ | refine Zt ?_ | refine ZC ?_ | refine Zi ?_ | refine Z8 (hcon := hk) ?_ | refine Z8 (hcon := hf) ?_ | refine Z8 (hcon := hi) ?_ | refine Z8 (hcon := hs) ?_); refine JD ?_) | refine JT ?_ | refine JF ?_ | refine X3 ?_
  exact X1 ⟨_, XA 100 (cs' := [ai 0, ai 0, ai 0, ai 0, X8 [], ai 0, ai 0, ai 0, X8 [], .d (.sl 5 [])]) rfl JM rfl, ⟨⟨100, 0, _, rfl, rfl, .inr ⟨10, _, rfl, rfl, rfl, rfl⟩⟩, trivial⟩, Xc ⟨rfl, trivial⟩⟩
 have hop : 1 ≤ op ∧ op ≤ 8 ∧ e1 = 0 := by omega
 obtain ⟨o1, o2, rfl⟩ := hop
 have hi := X18 b a1 0 hb
 generalize rnS b a1 0 = i at *
 obtain ⟨id, a2, e2⟩ := i
 simp only at hi ⊢
 by_cases h6 : op = 6
 ·subst h6
  simp only [if_true, if_pos (show XT 6 = true by decide), if_neg (show ¬ XP 6 = true by decide)]
  have hs := X18 b a2 e2 hb
  generalize rnS b a2 e2 = f at *
  obtain ⟨src, a3, e3⟩ := f
  simp only at hs ⊢
  have hd := X18 b a3 e3 hb
  generalize rnS b a3 e3 = t at *
  obtain ⟨dst, a4, e4⟩ := t
  simp only at hd ⊢
  have hn := VM b a4 e4 hb
  generalize rsS b a4 e4 = s at *
  obtain ⟨name, a5, e5⟩ := s
  simp only [Xy] at *
  repeat first | refine X0 ?_ | (refine JR ?_; (repeat first | refine Z1 ?_ | refine Z0 ?_ | refine Zy ?_ | refine Zz ?_ | refine ZK ?_ | refine Zr (γ := 100) ?_ | refine Zr (γ := 101) ?_ | refine Zu ?_ | refine Zt ?_ | refine ZC ?_ | refine Zl ?_ | refine Zj ?_ | refine Z8 (hcon := hk) ?_ | refine Z8 (hcon := hf) ?_ | refine Z8 (hcon := hi) ?_ | refine Z8 (hcon := hs) ?_ | refine Z8 (hcon := hd) ?_ | refine Z8 (hcon := hn) ?_); refine JD ?_) | refine JT ?_ | refine JF ?_ | refine X3 ?_
  exact X1 ⟨_, XA 100 (cs' := [ai 6, ai id, ai src, ai dst, X8 name, ai 0, ai 0, ai 0, X8 [], .d (.sl 5 [])]) rfl JM rfl, ⟨⟨100, 0, _, rfl, rfl, .inr ⟨10, _, rfl, rfl, rfl, rfl⟩⟩, trivial⟩, Xc ⟨rfl, trivial⟩⟩
 simp only [if_neg h6]
 by_cases hn : XT op = true
 case neg =>
  have hv : ¬ XP op = true := by revert hn; unfold XT XP; simp; omega
  simp only [if_neg hn, if_neg hv]
  have hu : op = 1 ∨ op = 2 ∨ op = 7 := by revert hn; unfold XT; simp; omega
  rcases hu with rfl | rfl | rfl
  ·simp only [Xy] at *
   repeat first | refine X0 ?_ | (refine JR ?_; (repeat first | refine Z1 ?_ | refine Z0 ?_ | refine Zy ?_ | refine Zz ?_ | refine ZK ?_ | refine Zr (γ := 100) ?_ | refine Zr (γ := 101) ?_ | refine Zu ?_ | refine Zt ?_ | refine ZC ?_ | refine Zl ?_ | refine Zj ?_ | refine Z8 (hcon := hk) ?_ | refine Z8 (hcon := hf) ?_ | refine Z8 (hcon := hi) ?_); refine JD ?_) | refine JF ?_ | refine X3 ?_
   exact X1 ⟨_, XA 100 (cs' := [ai _, ai id, ai 0, ai 0, X8 [], ai 0, ai 0, ai 0, X8 [], .d (.sl 5 [])]) rfl JM rfl, ⟨⟨100, 0, _, rfl, rfl, .inr ⟨10, _, rfl, rfl, rfl, rfl⟩⟩, trivial⟩, Xc ⟨rfl, trivial⟩⟩
  ·simp only [Xy] at *
   repeat first | refine X0 ?_ | (refine JR ?_; (repeat first | refine Z1 ?_ | refine Z0 ?_ | refine Zy ?_ | refine Zz ?_ | refine ZK ?_ | refine Zr (γ := 100) ?_ | refine Zr (γ := 101) ?_ | refine Zu ?_ | refine Zt ?_ | refine ZC ?_ | refine Zl ?_ | refine Zj ?_ | refine Z8 (hcon := hk) ?_ | refine Z8 (hcon := hf) ?_ | refine Z8 (hcon := hi) ?_); refine JD ?_) | refine JF ?_ | refine X3 ?_
   exact X1 ⟨_, XA 100 (cs' := [ai _, ai id, ai 0, ai 0, X8 [], ai 0, ai 0, ai 0, X8 [], .d (.sl 5 [])]) rfl JM rfl, ⟨⟨100, 0, _, rfl, rfl, .inr ⟨10, _, rfl, rfl, rfl, rfl⟩⟩, trivial⟩, Xc ⟨rfl, trivial⟩⟩
  ·simp only [Xy] at *
   repeat first | refine X0 ?_ | (refine JR ?_; (repeat first | refine Z1 ?_ | refine Z0 ?_ | refine Zy ?_ | refine Zz ?_ | refine ZK ?_ | refine Zr (γ := 100) ?_ | refine Zr (γ := 101) ?_ | refine Zu ?_ | refine Zt ?_ | refine ZC ?_ | refine Zl ?_ | refine Zj ?_ | refine Z8 (hcon := hk) ?_ | refine Z8 (hcon := hf) ?_ | refine Z8 (hcon := hi) ?_); refine JD ?_) | refine JF ?_ | refine X3 ?_
   exact X1 ⟨_, XA 100 (cs' := [ai _, ai id, ai 0, ai 0, X8 [], ai 0, ai 0, ai 0, X8 [], .d (.sl 5 [])]) rfl JM rfl, ⟨⟨100, 0, _, rfl, rfl, .inr ⟨10, _, rfl, rfl, rfl, rfl⟩⟩, trivial⟩, Xc ⟨rfl, trivial⟩⟩
 simp only [if_pos hn]
 have hs := VM b a2 e2 hb
 generalize rsS b a2 e2 = s at *
 obtain ⟨name, a3, e3⟩ := s
 simp only at hs ⊢
 by_cases hv : XP op = true
 case neg =>
  simp only [if_neg hv]
  have hu : op = 3 ∨ op = 4 := by revert hn hv; unfold XT XP; simp; omega
  rcases hu with rfl | rfl
  ·simp only [Xy] at *
   repeat first | refine X0 ?_ | (refine JR ?_; (repeat first | refine Z1 ?_ | refine Z0 ?_ | refine Zy ?_ | refine Zz ?_ | refine ZK ?_ | refine Zr (γ := 100) ?_ | refine Zr (γ := 101) ?_ | refine Zu ?_ | refine Zt ?_ | refine ZC ?_ | refine Zl ?_ | refine Zj ?_ | refine Z8 (hcon := hk) ?_ | refine Z8 (hcon := hf) ?_ | refine Z8 (hcon := hi) ?_ | refine Z8 (hcon := hs) ?_); refine JD ?_) | refine JT ?_ | refine JF ?_ | refine X3 ?_
   exact X1 ⟨_, XA 100 (cs' := [ai _, ai id, ai 0, ai 0, X8 name, ai 0, ai 0, ai 0, X8 [], .d (.sl 5 [])]) rfl JM rfl, ⟨⟨100, 0, _, rfl, rfl, .inr ⟨10, _, rfl, rfl, rfl, rfl⟩⟩, trivial⟩, Xc ⟨rfl, trivial⟩⟩
  ·simp only [Xy] at *
   repeat first | refine X0 ?_ | (refine JR ?_; (repeat first | refine Z1 ?_ | refine Z0 ?_ | refine Zy ?_ | refine Zz ?_ | refine ZK ?_ | refine Zr (γ := 100) ?_ | refine Zr (γ := 101) ?_ | refine Zu ?_ | refine Zt ?_ | refine ZC ?_ | refine Zl ?_ | refine Zj ?_ | refine Z8 (hcon := hk) ?_ | refine Z8 (hcon := hf) ?_ | refine Z8 (hcon := hi) ?_ | refine Z8 (hcon := hs) ?_); refine JD ?_) | refine JT ?_ | refine JF ?_ | refine X3 ?_
   exact X1 ⟨_, XA 100 (cs' := [ai _, ai id, ai 0, ai 0, X8 name, ai 0, ai 0, ai 0, X8 [], .d (.sl 5 [])]) rfl JM rfl, ⟨⟨100, 0, _, rfl, rfl, .inr ⟨10, _, rfl, rfl, rfl, rfl⟩⟩, trivial⟩, Xc ⟨rfl, trivial⟩⟩
 simp only [if_pos hv]
 have hu : op = 5 ∨ op = 8 := by revert hv; unfold XP; simp
 by_cases he : e3 = 0
 ·subst he
  rw [X24]
  have hr := X6Y b hb a3
  generalize Yl b a3 = v at *
  obtain ⟨⟨vk, vn, vd, vs, vl⟩, a4, e4⟩ := v
  rcases hu with rfl | rfl
  ·simp only [Xy, Xh] at *
   repeat first | refine X0 ?_ | (refine JR ?_; (repeat first | refine Z1 ?_ | refine Z0 ?_ | refine ZZ ?_ | refine Zy ?_ | refine Zz ?_ | refine ZK ?_ | refine Zs ?_ | refine Zr (γ := 100) ?_ | refine Zr (γ := 101) ?_ | refine Zu ?_ | refine Zt ?_ | refine ZC ?_ | refine Zi ?_ | refine Z8 (hcon := hk) ?_ | refine Z8 (hcon := hf) ?_ | refine Z8 (hcon := hi) ?_ | refine Z8 (hcon := hs) ?_ | refine Z8 (hcon := hr) ?_); refine JD ?_) | refine JT ?_ | refine JF ?_ | refine X3 ?_
   exact X1 ⟨_, St.le_refl _, ⟨⟨100, 0, _, rfl, rfl, .inr ⟨10, _, rfl, rfl, rfl, rfl⟩⟩, trivial⟩, Xc ⟨rfl, trivial⟩⟩
  ·simp only [Xy, Xh] at *
   repeat first | refine X0 ?_ | (refine JR ?_; (repeat first | refine Z1 ?_ | refine Z0 ?_ | refine ZZ ?_ | refine Zy ?_ | refine Zz ?_ | refine ZK ?_ | refine Zs ?_ | refine Zr (γ := 100) ?_ | refine Zr (γ := 101) ?_ | refine Zu ?_ | refine Zt ?_ | refine ZC ?_ | refine Zi ?_ | refine Z8 (hcon := hk) ?_ | refine Z8 (hcon := hf) ?_ | refine Z8 (hcon := hi) ?_ | refine Z8 (hcon := hs) ?_ | refine Z8 (hcon := hr) ?_); refine JD ?_) | refine JT ?_ | refine JF ?_ | refine X3 ?_
   exact X1 ⟨_, St.le_refl _, ⟨⟨100, 0, _, rfl, rfl, .inr ⟨10, _, rfl, rfl, rfl, rfl⟩⟩, trivial⟩, Xc ⟨rfl, trivial⟩⟩
 ·rw [X4k he]
  rcases hu with rfl | rfl
  ·simp only [Xy] at *
   repeat first | refine X0 ?_ | (refine JR ?_; (repeat first | refine Z1 ?_ | refine Z0 ?_ | refine ZZ ?_ | refine Zy ?_ | refine Zz ?_ | refine ZK ?_ | refine Zs ?_ | refine Zr (γ := 100) ?_ | refine Zr (γ := 101) ?_ | refine Zu ?_ | refine Zt ?_ | refine ZC ?_ | refine Zi ?_ | refine Z8 (hcon := hk) ?_ | refine Z8 (hcon := hf) ?_ | refine Z8 (hcon := hi) ?_ | refine Z8 (hcon := hs) ?_); refine JD ?_) | refine JT ?_ | refine JF ?_ | refine X3 ?_
   exact X1 ⟨_, XA 100 (cs' := [ai _, ai id, ai 0, ai 0, X8 name, ai 0, ai 0, ai 0, X8 [], .d (.sl 5 [])]) rfl JM rfl, ⟨⟨100, 0, _, rfl, rfl, .inr ⟨10, _, rfl, rfl, rfl, rfl⟩⟩, trivial⟩, Xc ⟨rfl, trivial⟩⟩
  ·simp only [Xy] at *
   repeat first | refine X0 ?_ | (refine JR ?_; (repeat first | refine Z1 ?_ | refine Z0 ?_ | refine ZZ ?_ | refine Zy ?_ | refine Zz ?_ | refine ZK ?_ | refine Zs ?_ | refine Zr (γ := 100) ?_ | refine Zr (γ := 101) ?_ | refine Zu ?_ | refine Zt ?_ | refine ZC ?_ | refine Zi ?_ | refine Z8 (hcon := hk) ?_ | refine Z8 (hcon := hf) ?_ | refine Z8 (hcon := hi) ?_ | refine Z8 (hcon := hs) ?_); refine JD ?_) | refine JT ?_ | refine JF ?_ | refine X3 ?_
   exact X1 ⟨_, XA 100 (cs' := [ai _, ai id, ai 0, ai 0, X8 name, ai 0, ai 0, ai 0, X8 [], .d (.sl 5 [])]) rfl JM rfl, ⟨⟨100, 0, _, rfl, rfl, .inr ⟨10, _, rfl, rfl, rfl, rfl⟩⟩, trivial⟩, Xc ⟨rfl, trivial⟩⟩
end Go.Fw
namespace Go.Fw
open Go Go.Proofs
set_option maxRecDepth 100000
set_option linter.unusedVariables false
set_option linter.unusedSimpArgs false
def Yb (b : List UInt8) (a e : Int) : Rul × Int × Int :=
 let k := rkI b a e 7
 let n := rsS b k.2.1 k.2.2
 let y := rsS b n.2.1 n.2.2
 let s := rsS b y.2.1 y.2.2
 let d := rsS b s.2.1 s.2.2
 let i := riS b d.2.1 d.2.2
 (⟨k.1, i.1, n.1, y.1, s.1, d.1⟩, i.2.1, i.2.2)
theorem X35 {b : List UInt8} {a : Int} : riS b a 0 = Xn b a := if_neg (by simp)
theorem X6P (b : List UInt8) (a e : Int) (hb : b.length ≤ 281474976710656) (ha : e = 0 → 0 ≤ a ∧ a ≤ b.length) : Con Tryd.prog 17 [(0, oRd b a e)] [.ptr 0 0] [(0, oRd b (Yb b a e).2.1 (Yb b a e).2.2)] (Y3 (Yb b a e).1) := by
 refine Xb (xs := [Y3 (Yb b a e).1]) Tryd.func17 rfl Tryd.ntmps17 rfl rfl rfl (fun E => ?_)
 have hk := X2v b a e 7 hb ha
 unfold Yb
 generalize rkI b a e 7 = k at *
 obtain ⟨kd, a1, e1⟩ := k
 simp only at hk ⊢
 have h1 := VM b a1 e1 hb
 generalize rsS b a1 e1 = u1 at *
 obtain ⟨s1, a2, e2⟩ := u1
 simp only at h1 ⊢
 have h2 := VM b a2 e2 hb
 generalize rsS b a2 e2 = u2 at *
 obtain ⟨s2, a3, e3⟩ := u2
 simp only at h2 ⊢
 have h3 := VM b a3 e3 hb
 generalize rsS b a3 e3 = u3 at *
 obtain ⟨s3, a4, e4⟩ := u3
 simp only at h3 ⊢
 have h4 := VM b a4 e4 hb
 generalize rsS b a4 e4 = u4 at *
 obtain ⟨s4, a5, e5⟩ := u4
 simp only [Y3] at h4 ⊢
 refine X0 ?_; refine JR ?_; refine Zr (γ := 100) ?_; refine JD ?_; refine X0 ?_; refine JR ?_; refine Z1 ?_; refine Z8 (hcon := hk) ?_; refine Zt ?_; refine Zr (γ := 101) ?_; refine Zu ?_; refine JD ?_
 refine X0 ?_; refine X0 ?_; refine JR ?_; refine Zy ?_; refine Zy ?_; refine Zy ?_; refine Zy ?_; refine Z02 (γ := 102) ?_; refine Z03 ?_; refine Z1 ?_; refine JD ?_; refine X5 ?_
 refine XR (ι := Nat) (fun i => i ≤ 4) (fun i => ⟨52, [(0, .ptr 0 0), (2, .ptr 100 0), (3, .ptr 101 0), (14, .bsl 102 4), (15, ai 4), (16, ai i)], match i with
   | 0 => [(0, oRd b a1 e1), (100, .box [ai 0, ai 0, X8 [], X8 [], X8 [], X8 []]), (101, .box [ai kd, ai 0, X8 [], X8 [], X8 [], X8 []]), (102, .box [.ptr 101 2, .ptr 101 3, .ptr 101 4, .ptr 101 5])]
   | 1 => [(0, oRd b a2 e2), (100, .box [ai 0, ai 0, X8 [], X8 [], X8 [], X8 []]), (101, .box [ai kd, ai 0, X8 s1, X8 [], X8 [], X8 []]), (102, .box [.ptr 101 2, .ptr 101 3, .ptr 101 4, .ptr 101 5])]
   | 2 => [(0, oRd b a3 e3), (100, .box [ai 0, ai 0, X8 [], X8 [], X8 [], X8 []]), (101, .box [ai kd, ai 0, X8 s1, X8 s2, X8 [], X8 []]), (102, .box [.ptr 101 2, .ptr 101 3, .ptr 101 4, .ptr 101 5])]
   | 3 => [(0, oRd b a4 e4), (100, .box [ai 0, ai 0, X8 [], X8 [], X8 [], X8 []]), (101, .box [ai kd, ai 0, X8 s1, X8 s2, X8 s3, X8 []]), (102, .box [.ptr 101 2, .ptr 101 3, .ptr 101 4, .ptr 101 5])]
   | _ => [(0, oRd b a5 e5), (100, .box [ai 0, ai 0, X8 [], X8 [], X8 [], X8 []]), (101, .box [ai kd, ai 0, X8 s1, X8 s2, X8 s3, X8 s4]), (102, .box [.ptr 101 2, .ptr 101 3, .ptr 101 4, .ptr 101 5])]⟩) (fun i => 4 - i) 0 (by omega)
  (Xg rfl ⟨JL, JL, JL, JL, JL, JL, trivial⟩ ⟨rfl, rfl, rfl, rfl, trivial⟩) ?_
 intro i hi
 match i, hi with
 | 0, _ =>
  refine X0 ?_; refine JR ?_; refine Z7 ?_; refine JD ?_; refine X0 ?_; refine JT ?_; refine X3 ?_; refine X0 ?_; refine X5 ?_; refine X0 ?_; refine JR ?_; refine Z04 ?_; refine Zz ?_
  refine Z0 ?_; refine JD ?_; refine JR ?_; refine Z1 ?_; refine Z1 ?_; refine Z8 (hcon := h1) ?_; refine ZZ ?_; refine Zu ?_; refine JD ?_; refine JR ?_; refine Zc ?_; refine Z1 ?_; refine JD ?_
  exact ⟨1, by omega, by omega, Xg rfl ⟨JL, JL, JL, JL, JL, JL, trivial⟩ ⟨rfl, rfl, rfl, rfl, trivial⟩⟩
 | 1, _ =>
  refine X0 ?_; refine JR ?_; refine Z7 ?_; refine JD ?_; refine X0 ?_; refine JT ?_; refine X3 ?_; refine X0 ?_; refine X5 ?_; refine X0 ?_; refine JR ?_; refine Z04 ?_; refine Zz ?_
  refine Z0 ?_; refine JD ?_; refine JR ?_; refine Z1 ?_; refine Z1 ?_; refine Z8 (hcon := h2) ?_; refine ZZ ?_; refine Zu ?_; refine JD ?_; refine JR ?_; refine Zc ?_; refine Z1 ?_; refine JD ?_
  exact ⟨2, by omega, by omega, Xg rfl ⟨JL, JL, JL, JL, JL, JL, trivial⟩ ⟨rfl, rfl, rfl, rfl, trivial⟩⟩
 | 2, _ =>
  refine X0 ?_; refine JR ?_; refine Z7 ?_; refine JD ?_; refine X0 ?_; refine JT ?_; refine X3 ?_; refine X0 ?_; refine X5 ?_; refine X0 ?_; refine JR ?_; refine Z04 ?_; refine Zz ?_
  refine Z0 ?_; refine JD ?_; refine JR ?_; refine Z1 ?_; refine Z1 ?_; refine Z8 (hcon := h3) ?_; refine ZZ ?_; refine Zu ?_; refine JD ?_; refine JR ?_; refine Zc ?_; refine Z1 ?_; refine JD ?_
  exact ⟨3, by omega, by omega, Xg rfl ⟨JL, JL, JL, JL, JL, JL, trivial⟩ ⟨rfl, rfl, rfl, rfl, trivial⟩⟩
 | 3, _ =>
  refine X0 ?_; refine JR ?_; refine Z7 ?_; refine JD ?_; refine X0 ?_; refine JT ?_; refine X3 ?_; refine X0 ?_; refine X5 ?_; refine X0 ?_; refine JR ?_; refine Z04 ?_; refine Zz ?_
  refine Z0 ?_; refine JD ?_; refine JR ?_; refine Z1 ?_; refine Z1 ?_; refine Z8 (hcon := h4) ?_; refine ZZ ?_; refine Zu ?_; refine JD ?_; refine JR ?_; refine Zc ?_; refine Z1 ?_; refine JD ?_
  exact ⟨4, by omega, by omega, Xg rfl ⟨JL, JL, JL, JL, JL, JL, trivial⟩ ⟨rfl, rfl, rfl, rfl, trivial⟩⟩
 | 4, _ =>
  by_cases he : e5 = 0
  ·subst he
   have hi := X3B b a5 hb
   rw [X35]
   generalize Xn b a5 = u5 at *
   obtain ⟨n, a6, e6⟩ := u5
   repeat first | refine X0 ?_ | (refine JR ?_; (repeat first | refine Z1 ?_ | refine Z0 ?_ | refine ZZ ?_ | refine Zy ?_ | refine Zz ?_ | refine ZK ?_ | refine Z7 ?_ | refine Zs ?_ | refine Zu ?_ | refine ZC ?_ | refine Z8 (hcon := hi) ?_); refine JD ?_) | refine JT ?_ | refine JF ?_ | refine Xt ?_
   exact X1 ⟨_, St.le_refl _, ⟨⟨100, 0, _, rfl, rfl, .inr ⟨6, _, rfl, rfl, rfl, rfl⟩⟩, trivial⟩, Xc ⟨rfl, trivial⟩⟩
  ·rw [X6n he]
   refine X0 ?_; refine JR ?_; refine Z7 ?_; refine JD ?_; refine X0 ?_; refine JF ?_; refine Xt ?_; refine X0 ?_; refine X0 ?_; refine JR ?_; refine Z1 ?_; refine ZZ ?_; refine Zy ?_; refine Zz ?_
   refine Zs ?_; refine JD ?_; refine JF ?_; refine X3 ?_; refine X0 ?_; refine JR ?_; refine ZK ?_; refine Zu ?_; refine JD ?_
   exact X1 ⟨_, St.le_refl _, ⟨⟨100, 0, _, rfl, rfl, .inr ⟨6, _, rfl, rfl, rfl, rfl⟩⟩, trivial⟩, Xc ⟨rfl, trivial⟩⟩
def roS (b : List UInt8) (a e : Int) : Bool × Int × Int :=
 if e ≠ 0 then (false, a, e) else if (b.length : Int) ≤ a then (false, a, 3) else
  if 1 < ((b[a.toNat]?).getD 0).toNat then (false, a, 2) else (decide ((((b[a.toNat]?).getD 0).toNat : Int) = 1), a + 1, 0)
theorem X98 (b : List UInt8) (a e : Int) (hb : b.length ≤ 281474976710656) (ha : e = 0 → 0 ≤ a ∧ a ≤ b.length) : Con Tryd.prog 18 [(0, oRd b a e)] [.ptr 0 0] [(0, oRd b (roS b a e).2.1 (roS b a e).2.2)] (ab (roS b a e).1) := by
 refine Xb (xs := [ab (roS b a e).1]) Tryd.func18 rfl Tryd.ntmps18 rfl rfl rfl (fun E => ?_)
 have hlm : (b.map Xa).length = b.length := by simp
 unfold roS
 by_cases he : e = 0
 case neg =>
  rw [if_pos he]
  refine X0 ?_; refine JR ?_; refine Z0 ?_; refine JD ?_; refine X0 ?_; refine X5 ?_; refine X0 ?_; refine JR ?_; refine Z1 ?_; refine ZZ ?_; refine Zy ?_; refine Zz ?_; refine Zq ?_; refine Z0 ?_
  refine JD ?_; refine JT ?_; refine X3 ?_; refine X0 ?_; refine JR ?_; refine Z0 ?_; refine JD ?_
  exact X1 ⟨_, St.le_refl _, ⟨rfl, trivial⟩, Xc ⟨rfl, trivial⟩⟩
 subst he
 obtain ⟨m, rfl⟩ : ∃ m : Nat, a = m := ⟨a.toNat, by have := ha rfl; omega⟩
 rw [if_neg (by simp), Int.toNat_natCast]
 by_cases h1 : (b.length : Int) ≤ m
 ·rw [if_pos h1]
  have h1' : ((b.map Xa).length : Int) ≤ m := by omega
  repeat first | refine X0 ?_ | (refine JR ?_; (repeat first | refine Z1 ?_ | refine Z0 ?_ | refine ZZ ?_ | refine Zy ?_ | refine Zz ?_ | refine Zb ?_ | refine Z2 ?_ | refine Zq ?_ | refine Zu ?_); refine JD ?_) | refine JT ?_ | refine JF ?_ | refine X5 ?_
  exact X1 ⟨_, St.le_refl _, ⟨rfl, trivial⟩, Xc ⟨rfl, trivial⟩⟩
 rw [if_neg h1]
 have h1' : ¬ ((b.map Xa).length : Int) ≤ m := by omega
 obtain ⟨c, hc⟩ := XX (l := b) (k := m) (by omega)
 have hxm : (b.map Xa)[m]? = some (Xa c) := Ua hc
 rw [hc, Option.getD_some]
 by_cases h2 : 1 < c.toNat
 ·rw [if_pos h2]
  repeat first | refine X0 ?_ | (refine JR ?_; (repeat first | refine Z1 ?_ | refine Z0 ?_ | refine ZZ ?_ | refine Zy ?_ | refine Zz ?_ | refine ZJ ?_ | refine Zb ?_ | refine Zn ?_ | refine Z2 ?_ | refine Zq ?_ | refine Zu ?_ | refine ZH ?_); refine JD ?_) | refine JT ?_ | refine JF ?_ | refine X5 ?_
  exact X1 ⟨_, St.le_refl _, ⟨rfl, trivial⟩, Xc ⟨rfl, trivial⟩⟩
 rw [if_neg h2]
 repeat first | refine X0 ?_ | (refine JR ?_; (repeat first | refine Z4 (op := .sub) (r' := nj m) (u := .int .i64 ((m : Int) + 1)) (v := .int .i64 1) ?_ (hr' := by exact congrArg (Value.int .i64) (show ((m : Int) + 1 - 1) = (m : Int) by omega)) (hr := by exact VY (by unfold Uz; omega)) | refine Z1 ?_ | refine Z0 ?_ | refine ZZ ?_ | refine Zy ?_ | refine Zz ?_ | refine ZJ ?_ | refine Zb ?_ | refine Zn ?_ | refine Z2 ?_ | refine Zs ?_ | refine Zq ?_ | refine Zc ?_ | refine Zu ?_ | refine ZH ?_); refine JD ?_) | refine JF ?_ | refine X5 ?_
 exact X1 ⟨_, St.le_refl _, ⟨rfl, trivial⟩, Xc ⟨rfl, trivial⟩⟩
end Go.Fw

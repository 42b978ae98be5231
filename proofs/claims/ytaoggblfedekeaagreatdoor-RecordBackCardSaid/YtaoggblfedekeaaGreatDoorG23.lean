/- Reading values: by recursion, and codec.Value. -/
import Derived.Test.YtaoggblfedekeaaGreatDoorG08
import Derived.Test.YtaoggblfedekeaaGreatDoorG22
import Derived.Test.YtaoggblfedekeaaGreatDoorG21
set_option maxHeartbeats 16000000
namespace Go.Fw
open Go Go.Proofs
set_option maxRecDepth 100000
set_option linter.unusedVariables false
set_option linter.unusedSimpArgs false
theorem X6B (b : List UInt8) (a m : Nat) (want : Int) (hw : want = 5 ∨ want = 6) (gl gp : Nat → Int → Val × Int × Int) : Yw gl gp m b a want = X0Z b a want := by
 unfold X0Z Yw
 split
 ·rfl
 simp only
 have hc : ∀ gl gp gl' gp' (k : Int), (k = 5 ∨ k = 6) → XS gl gp b (a + 1) k = XS gl' gp' b (a + 1) k := by
  intro _ _ _ _ k hk
  unfold XS
  rw [if_pos (by omega), if_pos (by omega)]
 by_cases h : ((((b[(a : Int).toNat]?).getD 0).toNat : Nat) : Int) = want
 ·rw [if_neg (c := 8 < _ ∨ _) (by omega), if_neg (c := 8 < _ ∨ _) (by omega), hc gl gp noG noG _ (by omega)]
 ·rw [if_pos (by omega), if_pos (by omega)]
theorem X4x (b : List UInt8) (a m : Nat) (want : Int) (hm : m ≤ 8) (ha : a ≤ b.length) (hb : b.length ≤ 281474976710656) (hw : want = 5 ∨ want = 6) : V2 b a (8 - m) want (X0Z b a want) := by
 rw [← X6B b a m want hw noG noG]
 exact X2N b m a want noG noG hm ha hb (fun i q _ => X0E i q) (fun i q _ => X0E i q) (by omega) (by omega) (by omega)
theorem X4K (b : List UInt8) (hb : b.length ≤ 281474976710656) : ∀ (m a : Nat), m ≤ 8 → a ≤ b.length → V2 b a (8 - m) 0 (U9 b m a)
 | 0, a, hm, ha => by
  rw [Va]
  exact X2N b 0 a 0 (UW b 0) (YM b) hm ha hb (fun i q _ => X0E i q) (fun i q h => X0C i q h) (fun _ h => absurd rfl h) (fun _ i q h => X4x b q 0 _ hm h hb (by omega)) (fun h => absurd rfl h)
 | m + 1, a, hm, ha => by
  rw [Va]
  refine X2N b (m + 1) a 0 (UW b (m + 1)) (YM b) hm ha hb (fun i q h => X3s m q h) (fun i q h => X0C i q h) (fun _ _ i q h => ?_) (fun _ i q h => X4x b q (m + 1) _ hm h hb (by omega)) (fun h => absurd rfl h)
  have := X4K b hb m q (by omega) h
  rw [show (8 : Int) - ((m + 1 : Nat) : Int) + 1 = 8 - (m : Int) by omega]
  exact this
theorem Xa2 (b : List UInt8) (hb : b.length ≤ 281474976710656) (a : Nat) (ha : a ≤ b.length) (r : Val × Int × Int) (hr : U9 b 8 a = r) :
  Con Tryz.prog 96 [(101, oRd b a 0)] [.ptr 101 0, ai 0, ai 0] [(101, oRd b r.2.1 r.2.2)] (Xb r.1) := by
 have h := X0J 0 101 (X4K b hb 8 a (by omega) ha)
 rw [hr] at h
 obtain ⟨⟨k, n, d, s, l⟩, x, y⟩ := r
 exact h
theorem Xco (b : List UInt8) (hb : b.length ≤ 281474976710656) (a : Int) : Con Tryz.prog 76 [] [.d (Xh b), ai a] [] (.tup [Xb (Y5 b a).1, ai (Y5 b a).2.1, ai (Y5 b a).2.2]) := by
 refine X8 (xs := [Xb (Y5 b a).1, ai (Y5 b a).2.1, ai (Y5 b a).2.2]) Tryz.func76 rfl Tryz.ntmps76 rfl rfl rfl (fun E => ?_)
 by_cases h1 : a < 0
 ·rw [show Y5 b a = (zV, 0, 1) by unfold Y5; rw [if_pos (.inl h1)]]
  refine X0 ?_; refine JR ?_; refine Zt (γ := 100) ?_; refine Z0 ?_; refine Z0 ?_; refine JD ?_; refine X0 ?_; refine X0 ?_; refine JR ?_; refine Z1 ?_; refine Z8 ?_; refine Z1 ?_; refine Zl ?_; refine Zl ?_
  refine Zl ?_; refine Zl ?_; refine Zk ?_; refine JD ?_; refine JT ?_; refine X0 ?_; refine JR ?_; refine Zv ?_; refine Zw ?_; refine Z0 ?_; refine Z0 ?_; refine JD ?_
  exact X1 ⟨_, Xm 100 (cs := [ai 0, ai 0, ai 0, .d (.v (.string (X4 []))), ani]) (cs' := [ai 0, ai 0, ai 0, .d (.v (.string (X4 []))), .d (.sl 5 [])]) rfl ⟨AVal.le_refl _, AVal.le_refl _, AVal.le_refl _, AVal.le_refl _, AVal.le_nil 5, trivial⟩ rfl, ⟨⟨100, 0, _, rfl, rfl, .inr ⟨5, _, rfl, rfl, rfl, rfl⟩⟩, rfl, rfl, trivial⟩, X2 _⟩
 by_cases h2 : (b.length : Int) < a
 ·rw [show Y5 b a = (zV, 0, 1) by unfold Y5; rw [if_pos (.inr h2)]]
  refine X0 ?_; refine JR ?_; refine Zt (γ := 100) ?_; refine Z0 ?_; refine Z0 ?_; refine JD ?_; refine X0 ?_; refine X0 ?_; refine JR ?_; refine Z1 ?_; refine Z8 ?_; refine Z1 ?_; refine Z1 ?_; refine Z1 ?_
  refine Zd ?_; refine Zp ?_; refine Zn ?_; refine JD ?_; refine JT ?_; refine X0 ?_; refine JR ?_; refine Zv ?_; refine Zw ?_; refine Z0 ?_; refine Z0 ?_; refine JD ?_
  exact X1 ⟨_, Xm 100 (cs := [ai 0, ai 0, ai 0, .d (.v (.string (X4 []))), ani]) (cs' := [ai 0, ai 0, ai 0, .d (.v (.string (X4 []))), .d (.sl 5 [])]) rfl ⟨AVal.le_refl _, AVal.le_refl _, AVal.le_refl _, AVal.le_refl _, AVal.le_nil 5, trivial⟩ rfl, ⟨⟨100, 0, _, rfl, rfl, .inr ⟨5, _, rfl, rfl, rfl, rfl⟩⟩, rfl, rfl, trivial⟩, X2 _⟩
 obtain ⟨q, rfl⟩ : ∃ q : Nat, a = q := ⟨a.toNat, by omega⟩
 have hq : q ≤ b.length := by omega
 have hv : Y5 b q = if (U9 b 8 q).2.2 ≠ 0 then (zV, 0, (U9 b 8 q).2.2) else U9 b 8 q := by unfold Y5; rw [if_neg (by omega)]
 have hcon := Xa2 b hb q hq _ rfl
 rw [hv]
 clear hv
 generalize U9 b 8 q = r at *
 obtain ⟨⟨k, n, d, s, l⟩, x, y⟩ := r
 simp only [Xb] at hcon
 by_cases h3 : y = 0
 ·subst h3
  rw [if_neg (by simp)]
  repeat first | refine X0 ?_ | (refine JR ?_; (repeat first | refine Z1 ?_ | refine Z0 ?_ | refine Z00 ?_ | refine Zz ?_ | refine ZA ?_ | refine ZL ?_ | refine Zd ?_ | refine Z8 ?_ | refine Zp ?_ | refine Zs ?_ | refine Zt (γ := 100) ?_ | refine Zt (γ := 102) ?_ | refine Zy (γ := 101) ?_ | refine Zw ?_ | refine Zv ?_ | refine Zn ?_ | refine Z9 (hcon := hcon) ?_); refine JD ?_) | refine JF ?_ | refine X3 ?_
  exact X1 ⟨_, St.le_refl _, ⟨⟨100, 0, _, rfl, rfl, .inr ⟨5, _, rfl, rfl, rfl, rfl⟩⟩, rfl, rfl, trivial⟩, X2 _⟩
 ·rw [if_pos h3]
  repeat first | refine X0 ?_ | (refine JR ?_; (repeat first | refine Z1 ?_ | refine Z0 ?_ | refine Z00 ?_ | refine Zz ?_ | refine ZA ?_ | refine Zd ?_ | refine Z8 ?_ | refine Zp ?_ | refine Zs ?_ | refine Zt (γ := 100) ?_ | refine Zt (γ := 102) ?_ | refine Zy (γ := 101) ?_ | refine Zw ?_ | refine Zv ?_ | refine Zn ?_ | refine Z9 (hcon := hcon) ?_); refine JD ?_) | refine JT ?_ | refine JF ?_ | refine X3 ?_
  exact X1 ⟨_, Xm 100 (cs := [ai 0, ai 0, ai 0, .d (.v (.string (X4 []))), ani]) (cs' := [ai 0, ai 0, ai 0, .d (.v (.string (X4 []))), .d (.sl 5 [])]) rfl ⟨AVal.le_refl _, AVal.le_refl _, AVal.le_refl _, AVal.le_refl _, AVal.le_nil 5, trivial⟩ rfl, ⟨⟨100, 0, _, rfl, rfl, .inr ⟨5, _, rfl, rfl, rfl, rfl⟩⟩, rfl, rfl, trivial⟩, X2 _⟩
end Go.Fw
namespace Go.Fw
open Go Go.Proofs
set_option maxRecDepth 100000
set_option linter.unusedVariables false
set_option linter.unusedSimpArgs false
def XO (b : List UInt8) (a e : Int) : Chg × Int × Int :=
 let k := rkI b a e 8
 let i := rnS b k.2.1 k.2.2
 let f := if k.1 = 6 then rnS b i.2.1 i.2.2 else (0, i.2.1, i.2.2)
 let t := if k.1 = 6 then rnS b f.2.1 f.2.2 else (0, f.2.1, f.2.2)
 let s := if XC k.1 = true then rsS b t.2.1 t.2.2 else ([], t.2.1, t.2.2)
 let v := if Xz k.1 = true then rvS b s.2.1 s.2.2 else (zV, s.2.1, s.2.2)
 (⟨k.1, i.1, f.1, t.1, s.1, v.1⟩, v.2.1, v.2.2)
theorem Xc4 (b : List UInt8) (a e limit : Int) : ((rkI b a e limit).1 = 0 ∧ (rkI b a e limit).2.2 ≠ 0) ∨ (1 ≤ (rkI b a e limit).1 ∧ (rkI b a e limit).1 ≤ limit ∧ (rkI b a e limit).2.2 = 0) := by
 unfold rkI
 by_cases h : e = 0
 ·subst h
  rw [if_neg (by simp)]
  unfold rkS
  rw [if_neg (by simp)]
  split
  ·exact .inl ⟨rfl, by simp⟩
  ·split
   ·exact .inl ⟨rfl, by simp⟩
   ·exact .inr ⟨by simp only; omega, by simp only; omega, rfl⟩
 ·rw [if_pos h]
  exact .inl ⟨rfl, h⟩
theorem X3Y {b : List UInt8} {a e : Int} (h : e ≠ 0) : rnS b a e = (0, a, e) := if_pos h
theorem X6b {b : List UInt8} {a e : Int} (h : e ≠ 0) : rsS b a e = ([], a, e) := if_pos h
theorem X3F {b : List UInt8} {a e : Int} (h : e ≠ 0) : riS b a e = (0, a, e) := if_pos h
theorem X6R {b : List UInt8} {a e : Int} (h : e ≠ 0) : rvS b a e = (zV, a, e) := if_pos h
theorem X3P {b : List UInt8} {a : Int} : rvS b a 0 = Y5 b a := if_neg (by simp)
theorem Xbi (b : List UInt8) (a e : Int) (hb : b.length ≤ 281474976710656) (ha : e = 0 → 0 ≤ a ∧ a ≤ b.length) : Con Tryz.prog 42 [(0, oRd b a e)] [.ptr 0 0] [(0, oRd b (XO b a e).2.1 (XO b a e).2.2)] (Xy (XO b a e).1) := by
 refine X8 (xs := [Xy (XO b a e).1]) Tryz.func42 rfl Tryz.ntmps42 rfl rfl rfl (fun E => ?_)
 have hk := X38 b a e 8 hb ha
 have hop := Xc4 b a e 8
 unfold XO
 generalize rkI b a e 8 = k at *
 obtain ⟨op, a1, e1⟩ := k
 simp only at hk hop ⊢
 have hf := X79 op
 by_cases h0 : op = 0
 ·subst h0
  have he : e1 ≠ 0 := by omega
  have hi := X1r b a1 e1 hb
  have hs := X0o b a1 e1 hb
  rw [X3Y he] at hi ⊢
  rw [X6b he] at hs
  simp only [if_neg (show ¬ (0 : Int) = 6 by omega), if_neg (show ¬ XC 0 = true by decide), if_neg (show ¬ Xz 0 = true by decide)]
  simp only [Xy] at *
  repeat first | refine X0 ?_ | (refine JR ?_; (repeat first | refine Z1 ?_ | refine Z0 ?_ | refine Z00 ?_ | refine Zz ?_ | refine ZA ?_ | refine ZL ?_ | refine Zu ?_ | refine Zt (γ := 100) ?_ | refine Zt (γ := 101) ?_ | refine Zw ?_ | refine Zv ?_ | refine ZD ?_ | refine Zk ?_ | refine Z9 (hcon := hk) ?_ | refine Z9 (hcon := hf) ?_ | refine Z9 (hcon := hi) ?_ | refine Z9 (hcon := hs) ?_); refine JD ?_) | refine JT ?_ | refine JF ?_ | refine X3 ?_
  exact X1 ⟨_, Xm 100 (cs' := [ai 0, ai 0, ai 0, ai 0, X7 [], ai 0, ai 0, ai 0, X7 [], .d (.sl 5 [])]) rfl JM rfl, ⟨⟨100, 0, _, rfl, rfl, .inr ⟨10, _, rfl, rfl, rfl, rfl⟩⟩, trivial⟩, Xi ⟨rfl, trivial⟩⟩
 have hop : 1 ≤ op ∧ op ≤ 8 ∧ e1 = 0 := by omega
 obtain ⟨o1, o2, rfl⟩ := hop
 have hi := X1r b a1 0 hb
 generalize rnS b a1 0 = i at *
 obtain ⟨id, a2, e2⟩ := i
 simp only at hi ⊢
 by_cases h6 : op = 6
 ·subst h6
  simp only [if_true, if_pos (show XC 6 = true by decide), if_neg (show ¬ Xz 6 = true by decide)]
  have hs := X1r b a2 e2 hb
  generalize rnS b a2 e2 = f at *
  obtain ⟨src, a3, e3⟩ := f
  simp only at hs ⊢
  have hd := X1r b a3 e3 hb
  generalize rnS b a3 e3 = t at *
  obtain ⟨dst, a4, e4⟩ := t
  simp only at hd ⊢
  have hn := X0o b a4 e4 hb
  generalize rsS b a4 e4 = s at *
  obtain ⟨name, a5, e5⟩ := s
  simp only [Xy] at *
  repeat first | refine X0 ?_ | (refine JR ?_; (repeat first | refine Z1 ?_ | refine Z0 ?_ | refine Zz ?_ | refine ZA ?_ | refine ZL ?_ | refine Zt (γ := 100) ?_ | refine Zt (γ := 101) ?_ | refine Zw ?_ | refine Zv ?_ | refine ZD ?_ | refine Zn ?_ | refine Zl ?_ | refine Z9 (hcon := hk) ?_ | refine Z9 (hcon := hf) ?_ | refine Z9 (hcon := hi) ?_ | refine Z9 (hcon := hs) ?_ | refine Z9 (hcon := hd) ?_ | refine Z9 (hcon := hn) ?_); refine JD ?_) | refine JT ?_ | refine JF ?_ | refine X3 ?_
  exact X1 ⟨_, Xm 100 (cs' := [ai 6, ai id, ai src, ai dst, X7 name, ai 0, ai 0, ai 0, X7 [], .d (.sl 5 [])]) rfl JM rfl, ⟨⟨100, 0, _, rfl, rfl, .inr ⟨10, _, rfl, rfl, rfl, rfl⟩⟩, trivial⟩, Xi ⟨rfl, trivial⟩⟩
 simp only [if_neg h6]
 by_cases hn : XC op = true
 case neg =>
  have hv : ¬ Xz op = true := by revert hn; unfold XC Xz; simp; omega
  simp only [if_neg hn, if_neg hv]
  have hu : op = 1 ∨ op = 2 ∨ op = 7 := by revert hn; unfold XC; simp; omega
  rcases hu with rfl | rfl | rfl
  ·simp only [Xy] at *
   repeat first | refine X0 ?_ | (refine JR ?_; (repeat first | refine Z1 ?_ | refine Z0 ?_ | refine Zz ?_ | refine ZA ?_ | refine ZL ?_ | refine Zt (γ := 100) ?_ | refine Zt (γ := 101) ?_ | refine Zw ?_ | refine Zv ?_ | refine ZD ?_ | refine Zn ?_ | refine Zl ?_ | refine Z9 (hcon := hk) ?_ | refine Z9 (hcon := hf) ?_ | refine Z9 (hcon := hi) ?_); refine JD ?_) | refine JF ?_ | refine X3 ?_
   exact X1 ⟨_, Xm 100 (cs' := [ai _, ai id, ai 0, ai 0, X7 [], ai 0, ai 0, ai 0, X7 [], .d (.sl 5 [])]) rfl JM rfl, ⟨⟨100, 0, _, rfl, rfl, .inr ⟨10, _, rfl, rfl, rfl, rfl⟩⟩, trivial⟩, Xi ⟨rfl, trivial⟩⟩
  ·simp only [Xy] at *
   repeat first | refine X0 ?_ | (refine JR ?_; (repeat first | refine Z1 ?_ | refine Z0 ?_ | refine Zz ?_ | refine ZA ?_ | refine ZL ?_ | refine Zt (γ := 100) ?_ | refine Zt (γ := 101) ?_ | refine Zw ?_ | refine Zv ?_ | refine ZD ?_ | refine Zn ?_ | refine Zl ?_ | refine Z9 (hcon := hk) ?_ | refine Z9 (hcon := hf) ?_ | refine Z9 (hcon := hi) ?_); refine JD ?_) | refine JF ?_ | refine X3 ?_
   exact X1 ⟨_, Xm 100 (cs' := [ai _, ai id, ai 0, ai 0, X7 [], ai 0, ai 0, ai 0, X7 [], .d (.sl 5 [])]) rfl JM rfl, ⟨⟨100, 0, _, rfl, rfl, .inr ⟨10, _, rfl, rfl, rfl, rfl⟩⟩, trivial⟩, Xi ⟨rfl, trivial⟩⟩
  ·simp only [Xy] at *
   repeat first | refine X0 ?_ | (refine JR ?_; (repeat first | refine Z1 ?_ | refine Z0 ?_ | refine Zz ?_ | refine ZA ?_ | refine ZL ?_ | refine Zt (γ := 100) ?_ | refine Zt (γ := 101) ?_ | refine Zw ?_ | refine Zv ?_ | refine ZD ?_ | refine Zn ?_ | refine Zl ?_ | refine Z9 (hcon := hk) ?_ | refine Z9 (hcon := hf) ?_ | refine Z9 (hcon := hi) ?_); refine JD ?_) | refine JF ?_ | refine X3 ?_
   exact X1 ⟨_, Xm 100 (cs' := [ai _, ai id, ai 0, ai 0, X7 [], ai 0, ai 0, ai 0, X7 [], .d (.sl 5 [])]) rfl JM rfl, ⟨⟨100, 0, _, rfl, rfl, .inr ⟨10, _, rfl, rfl, rfl, rfl⟩⟩, trivial⟩, Xi ⟨rfl, trivial⟩⟩
 simp only [if_pos hn]
 have hs := X0o b a2 e2 hb
 generalize rsS b a2 e2 = s at *
 obtain ⟨name, a3, e3⟩ := s
 simp only at hs ⊢
 by_cases hv : Xz op = true
 case neg =>
  simp only [if_neg hv]
  have hu : op = 3 ∨ op = 4 := by revert hn hv; unfold XC Xz; simp; omega
  rcases hu with rfl | rfl
  ·simp only [Xy] at *
   repeat first | refine X0 ?_ | (refine JR ?_; (repeat first | refine Z1 ?_ | refine Z0 ?_ | refine Zz ?_ | refine ZA ?_ | refine ZL ?_ | refine Zt (γ := 100) ?_ | refine Zt (γ := 101) ?_ | refine Zw ?_ | refine Zv ?_ | refine ZD ?_ | refine Zn ?_ | refine Zl ?_ | refine Z9 (hcon := hk) ?_ | refine Z9 (hcon := hf) ?_ | refine Z9 (hcon := hi) ?_ | refine Z9 (hcon := hs) ?_); refine JD ?_) | refine JT ?_ | refine JF ?_ | refine X3 ?_
   exact X1 ⟨_, Xm 100 (cs' := [ai _, ai id, ai 0, ai 0, X7 name, ai 0, ai 0, ai 0, X7 [], .d (.sl 5 [])]) rfl JM rfl, ⟨⟨100, 0, _, rfl, rfl, .inr ⟨10, _, rfl, rfl, rfl, rfl⟩⟩, trivial⟩, Xi ⟨rfl, trivial⟩⟩
  ·simp only [Xy] at *
   repeat first | refine X0 ?_ | (refine JR ?_; (repeat first | refine Z1 ?_ | refine Z0 ?_ | refine Zz ?_ | refine ZA ?_ | refine ZL ?_ | refine Zt (γ := 100) ?_ | refine Zt (γ := 101) ?_ | refine Zw ?_ | refine Zv ?_ | refine ZD ?_ | refine Zn ?_ | refine Zl ?_ | refine Z9 (hcon := hk) ?_ | refine Z9 (hcon := hf) ?_ | refine Z9 (hcon := hi) ?_ | refine Z9 (hcon := hs) ?_); refine JD ?_) | refine JT ?_ | refine JF ?_ | refine X3 ?_
   exact X1 ⟨_, Xm 100 (cs' := [ai _, ai id, ai 0, ai 0, X7 name, ai 0, ai 0, ai 0, X7 [], .d (.sl 5 [])]) rfl JM rfl, ⟨⟨100, 0, _, rfl, rfl, .inr ⟨10, _, rfl, rfl, rfl, rfl⟩⟩, trivial⟩, Xi ⟨rfl, trivial⟩⟩
 simp only [if_pos hv]
 have hu : op = 5 ∨ op = 8 := by revert hv; unfold Xz; simp
 by_cases he : e3 = 0
 ·subst he
  rw [X3P]
  have hr := Xco b hb a3
  generalize Y5 b a3 = v at *
  obtain ⟨⟨vk, vn, vd, vs, vl⟩, a4, e4⟩ := v
  rcases hu with rfl | rfl
  ·simp only [Xy, Xb] at *
   repeat first | refine X0 ?_ | (refine JR ?_; (repeat first | refine Z1 ?_ | refine Z0 ?_ | refine Z00 ?_ | refine Zz ?_ | refine ZA ?_ | refine ZL ?_ | refine Zu ?_ | refine Zt (γ := 100) ?_ | refine Zt (γ := 101) ?_ | refine Zw ?_ | refine Zv ?_ | refine ZD ?_ | refine Zk ?_ | refine Z9 (hcon := hk) ?_ | refine Z9 (hcon := hf) ?_ | refine Z9 (hcon := hi) ?_ | refine Z9 (hcon := hs) ?_ | refine Z9 (hcon := hr) ?_); refine JD ?_) | refine JT ?_ | refine JF ?_ | refine X3 ?_
   exact X1 ⟨_, St.le_refl _, ⟨⟨100, 0, _, rfl, rfl, .inr ⟨10, _, rfl, rfl, rfl, rfl⟩⟩, trivial⟩, Xi ⟨rfl, trivial⟩⟩
  ·simp only [Xy, Xb] at *
   repeat first | refine X0 ?_ | (refine JR ?_; (repeat first | refine Z1 ?_ | refine Z0 ?_ | refine Z00 ?_ | refine Zz ?_ | refine ZA ?_ | refine ZL ?_ | refine Zu ?_ | refine Zt (γ := 100) ?_ | refine Zt (γ := 101) ?_ | refine Zw ?_ | refine Zv ?_ | refine ZD ?_ | refine Zk ?_ | refine Z9 (hcon := hk) ?_ | refine Z9 (hcon := hf) ?_ | refine Z9 (hcon := hi) ?_ | refine Z9 (hcon := hs) ?_ | refine Z9 (hcon := hr) ?_); refine JD ?_) | refine JT ?_ | refine JF ?_ | refine X3 ?_
   exact X1 ⟨_, St.le_refl _, ⟨⟨100, 0, _, rfl, rfl, .inr ⟨10, _, rfl, rfl, rfl, rfl⟩⟩, trivial⟩, Xi ⟨rfl, trivial⟩⟩
 ·rw [X6R he]
  rcases hu with rfl | rfl
  ·simp only [Xy] at *
   repeat first | refine X0 ?_ | (refine JR ?_; (repeat first | refine Z1 ?_ | refine Z0 ?_ | refine Z00 ?_ | refine Zz ?_ | refine ZA ?_ | refine ZL ?_ | refine Zu ?_ | refine Zt (γ := 100) ?_ | refine Zt (γ := 101) ?_ | refine Zw ?_ | refine Zv ?_ | refine ZD ?_ | refine Zk ?_ | refine Z9 (hcon := hk) ?_ | refine Z9 (hcon := hf) ?_ | refine Z9 (hcon := hi) ?_ | refine Z9 (hcon := hs) ?_); refine JD ?_) | refine JT ?_ | refine JF ?_ | refine X3 ?_
   exact X1 ⟨_, Xm 100 (cs' := [ai _, ai id, ai 0, ai 0, X7 name, ai 0, ai 0, ai 0, X7 [], .d (.sl 5 [])]) rfl JM rfl, ⟨⟨100, 0, _, rfl, rfl, .inr ⟨10, _, rfl, rfl, rfl, rfl⟩⟩, trivial⟩, Xi ⟨rfl, trivial⟩⟩
  ·simp only [Xy] at *
   repeat first | refine X0 ?_ | (refine JR ?_; (repeat first | refine Z1 ?_ | refine Z0 ?_ | refine Z00 ?_ | refine Zz ?_ | refine ZA ?_ | refine ZL ?_ | refine Zu ?_ | refine Zt (γ := 100) ?_ | refine Zt (γ := 101) ?_ | refine Zw ?_ | refine Zv ?_ | refine ZD ?_ | refine Zk ?_ | refine Z9 (hcon := hk) ?_ | refine Z9 (hcon := hf) ?_ | refine Z9 (hcon := hi) ?_ | refine Z9 (hcon := hs) ?_); refine JD ?_) | refine JT ?_ | refine JF ?_ | refine X3 ?_
   exact X1 ⟨_, Xm 100 (cs' := [ai _, ai id, ai 0, ai 0, X7 name, ai 0, ai 0, ai 0, X7 [], .d (.sl 5 [])]) rfl JM rfl, ⟨⟨100, 0, _, rfl, rfl, .inr ⟨10, _, rfl, rfl, rfl, rfl⟩⟩, trivial⟩, Xi ⟨rfl, trivial⟩⟩
end Go.Fw
namespace Go.Fw
open Go Go.Proofs
set_option maxRecDepth 100000
set_option linter.unusedVariables false
set_option linter.unusedSimpArgs false
def Y6 (b : List UInt8) (a e : Int) : Rul × Int × Int :=
 let k := rkI b a e 7
 let n := rsS b k.2.1 k.2.2
 let y := rsS b n.2.1 n.2.2
 let s := rsS b y.2.1 y.2.2
 let d := rsS b s.2.1 s.2.2
 let i := riS b d.2.1 d.2.2
 (⟨k.1, i.1, n.1, y.1, s.1, d.1⟩, i.2.1, i.2.2)
theorem X2p {b : List UInt8} {a : Int} : riS b a 0 = Xl b a := if_neg (by simp)
theorem X8g (b : List UInt8) (a e : Int) (hb : b.length ≤ 281474976710656) (ha : e = 0 → 0 ≤ a ∧ a ≤ b.length) : Con Tryz.prog 43 [(0, oRd b a e)] [.ptr 0 0] [(0, oRd b (Y6 b a e).2.1 (Y6 b a e).2.2)] (XY (Y6 b a e).1) := by
 refine X8 (xs := [XY (Y6 b a e).1]) Tryz.func43 rfl Tryz.ntmps43 rfl rfl rfl (fun E => ?_)
 have hk := X38 b a e 7 hb ha
 unfold Y6
 generalize rkI b a e 7 = k at *
 obtain ⟨kd, a1, e1⟩ := k
 simp only at hk ⊢
 have h1 := X0o b a1 e1 hb
 generalize rsS b a1 e1 = u1 at *
 obtain ⟨s1, a2, e2⟩ := u1
 simp only at h1 ⊢
 have h2 := X0o b a2 e2 hb
 generalize rsS b a2 e2 = u2 at *
 obtain ⟨s2, a3, e3⟩ := u2
 simp only at h2 ⊢
 have h3 := X0o b a3 e3 hb
 generalize rsS b a3 e3 = u3 at *
 obtain ⟨s3, a4, e4⟩ := u3
 simp only at h3 ⊢
 have h4 := X0o b a4 e4 hb
 generalize rsS b a4 e4 = u4 at *
 obtain ⟨s4, a5, e5⟩ := u4
 simp only [XY] at h4 ⊢
 refine X0 ?_; refine JR ?_; refine Zt (γ := 100) ?_; refine JD ?_; refine X0 ?_; refine JR ?_; refine Z1 ?_; refine Z9 (hcon := hk) ?_; refine Zv ?_; refine Zt (γ := 101) ?_; refine Zw ?_; refine JD ?_
 refine X0 ?_; refine X0 ?_; refine JR ?_; refine Zz ?_; refine Zz ?_; refine Zz ?_; refine Zz ?_; refine Z03 (γ := 102) ?_; refine Z04 ?_; refine Z1 ?_; refine JD ?_; refine X5 ?_
 refine XR (ι := Nat) (fun i => i ≤ 4) (fun i => ⟨52, [(0, .ptr 0 0), (2, .ptr 100 0), (3, .ptr 101 0), (14, .bsl 102 4), (15, ai 4), (16, ai i)], match i with
   | 0 => [(0, oRd b a1 e1), (100, .box [ai 0, ai 0, X7 [], X7 [], X7 [], X7 []]), (101, .box [ai kd, ai 0, X7 [], X7 [], X7 [], X7 []]), (102, .box [.ptr 101 2, .ptr 101 3, .ptr 101 4, .ptr 101 5])]
   | 1 => [(0, oRd b a2 e2), (100, .box [ai 0, ai 0, X7 [], X7 [], X7 [], X7 []]), (101, .box [ai kd, ai 0, X7 s1, X7 [], X7 [], X7 []]), (102, .box [.ptr 101 2, .ptr 101 3, .ptr 101 4, .ptr 101 5])]
   | 2 => [(0, oRd b a3 e3), (100, .box [ai 0, ai 0, X7 [], X7 [], X7 [], X7 []]), (101, .box [ai kd, ai 0, X7 s1, X7 s2, X7 [], X7 []]), (102, .box [.ptr 101 2, .ptr 101 3, .ptr 101 4, .ptr 101 5])]
   | 3 => [(0, oRd b a4 e4), (100, .box [ai 0, ai 0, X7 [], X7 [], X7 [], X7 []]), (101, .box [ai kd, ai 0, X7 s1, X7 s2, X7 s3, X7 []]), (102, .box [.ptr 101 2, .ptr 101 3, .ptr 101 4, .ptr 101 5])]
   | _ => [(0, oRd b a5 e5), (100, .box [ai 0, ai 0, X7 [], X7 [], X7 [], X7 []]), (101, .box [ai kd, ai 0, X7 s1, X7 s2, X7 s3, X7 s4]), (102, .box [.ptr 101 2, .ptr 101 3, .ptr 101 4, .ptr 101 5])]⟩) (fun i => 4 - i) 0 (by omega)
  (Xc rfl ⟨JL, JL, JL, JL, JL, JL, trivial⟩ ⟨rfl, rfl, rfl, rfl, trivial⟩) ?_
 intro i hi
 match i, hi with
 | 0, _ =>
  refine X0 ?_; refine JR ?_; refine Z8 ?_; refine JD ?_; refine X0 ?_; refine JT ?_; refine X3 ?_; refine X0 ?_; refine X5 ?_; refine X0 ?_; refine JR ?_; refine Z05 ?_; refine ZA ?_
  refine Z0 ?_; refine JD ?_; refine JR ?_; refine Z1 ?_; refine Z1 ?_; refine Z9 (hcon := h1) ?_; refine Z00 ?_; refine Zw ?_; refine JD ?_; refine JR ?_; refine Zb ?_; refine Z1 ?_; refine JD ?_
  exact ⟨1, by omega, by omega, Xc rfl ⟨JL, JL, JL, JL, JL, JL, trivial⟩ ⟨rfl, rfl, rfl, rfl, trivial⟩⟩
 | 1, _ =>
  refine X0 ?_; refine JR ?_; refine Z8 ?_; refine JD ?_; refine X0 ?_; refine JT ?_; refine X3 ?_; refine X0 ?_; refine X5 ?_; refine X0 ?_; refine JR ?_; refine Z05 ?_; refine ZA ?_
  refine Z0 ?_; refine JD ?_; refine JR ?_; refine Z1 ?_; refine Z1 ?_; refine Z9 (hcon := h2) ?_; refine Z00 ?_; refine Zw ?_; refine JD ?_; refine JR ?_; refine Zb ?_; refine Z1 ?_; refine JD ?_
  exact ⟨2, by omega, by omega, Xc rfl ⟨JL, JL, JL, JL, JL, JL, trivial⟩ ⟨rfl, rfl, rfl, rfl, trivial⟩⟩
 | 2, _ =>
  refine X0 ?_; refine JR ?_; refine Z8 ?_; refine JD ?_; refine X0 ?_; refine JT ?_; refine X3 ?_; refine X0 ?_; refine X5 ?_; refine X0 ?_; refine JR ?_; refine Z05 ?_; refine ZA ?_
  refine Z0 ?_; refine JD ?_; refine JR ?_; refine Z1 ?_; refine Z1 ?_; refine Z9 (hcon := h3) ?_; refine Z00 ?_; refine Zw ?_; refine JD ?_; refine JR ?_; refine Zb ?_; refine Z1 ?_; refine JD ?_
  exact ⟨3, by omega, by omega, Xc rfl ⟨JL, JL, JL, JL, JL, JL, trivial⟩ ⟨rfl, rfl, rfl, rfl, trivial⟩⟩
 | 3, _ =>
  refine X0 ?_; refine JR ?_; refine Z8 ?_; refine JD ?_; refine X0 ?_; refine JT ?_; refine X3 ?_; refine X0 ?_; refine X5 ?_; refine X0 ?_; refine JR ?_; refine Z05 ?_; refine ZA ?_
  refine Z0 ?_; refine JD ?_; refine JR ?_; refine Z1 ?_; refine Z1 ?_; refine Z9 (hcon := h4) ?_; refine Z00 ?_; refine Zw ?_; refine JD ?_; refine JR ?_; refine Zb ?_; refine Z1 ?_; refine JD ?_
  exact ⟨4, by omega, by omega, Xc rfl ⟨JL, JL, JL, JL, JL, JL, trivial⟩ ⟨rfl, rfl, rfl, rfl, trivial⟩⟩
 | 4, _ =>
  by_cases he : e5 = 0
  ·subst he
   have hi := X4G b a5 hb
   rw [X2p]
   generalize Xl b a5 = u5 at *
   obtain ⟨n, a6, e6⟩ := u5
   repeat first | refine X0 ?_ | (refine JR ?_; (repeat first | refine Z1 ?_ | refine Z0 ?_ | refine Z00 ?_ | refine Zz ?_ | refine ZA ?_ | refine ZL ?_ | refine Z8 ?_ | refine Zu ?_ | refine Zw ?_ | refine ZD ?_ | refine Z9 (hcon := hi) ?_); refine JD ?_) | refine JT ?_ | refine JF ?_ | refine Xv ?_
   exact X1 ⟨_, St.le_refl _, ⟨⟨100, 0, _, rfl, rfl, .inr ⟨6, _, rfl, rfl, rfl, rfl⟩⟩, trivial⟩, Xi ⟨rfl, trivial⟩⟩
  ·rw [X3F he]
   refine X0 ?_; refine JR ?_; refine Z8 ?_; refine JD ?_; refine X0 ?_; refine JF ?_; refine Xv ?_; refine X0 ?_; refine X0 ?_; refine JR ?_; refine Z1 ?_; refine Z00 ?_; refine Zz ?_
   refine ZA ?_; refine Zu ?_; refine JD ?_; refine JF ?_; refine X3 ?_; refine X0 ?_; refine JR ?_; refine ZL ?_; refine Zw ?_; refine JD ?_
   exact X1 ⟨_, St.le_refl _, ⟨⟨100, 0, _, rfl, rfl, .inr ⟨6, _, rfl, rfl, rfl, rfl⟩⟩, trivial⟩, Xi ⟨rfl, trivial⟩⟩
def roS (b : List UInt8) (a e : Int) : Bool × Int × Int :=
 if e ≠ 0 then (false, a, e) else if (b.length : Int) ≤ a then (false, a, 3) else
  if 1 < ((b[a.toNat]?).getD 0).toNat then (false, a, 2) else (decide ((((b[a.toNat]?).getD 0).toNat : Int) = 1), a + 1, 0)
theorem X8h (b : List UInt8) (a e : Int) (hb : b.length ≤ 281474976710656) (ha : e = 0 → 0 ≤ a ∧ a ≤ b.length) : Con Tryz.prog 44 [(0, oRd b a e)] [.ptr 0 0] [(0, oRd b (roS b a e).2.1 (roS b a e).2.2)] (ab (roS b a e).1) := by
 refine X8 (xs := [ab (roS b a e).1]) Tryz.func44 rfl Tryz.ntmps44 rfl rfl rfl (fun E => ?_)
 have hlm : (b.map Xa).length = b.length := by simp
 unfold roS
 by_cases he : e = 0
 case neg =>
  rw [if_pos he]
  refine X0 ?_; refine JR ?_; refine Z0 ?_; refine JD ?_; refine X0 ?_; refine X5 ?_; refine X0 ?_; refine JR ?_; refine Z1 ?_; refine Z00 ?_; refine Zz ?_; refine ZA ?_; refine Zs ?_; refine Z0 ?_
  refine JD ?_; refine JT ?_; refine X3 ?_; refine X0 ?_; refine JR ?_; refine Z0 ?_; refine JD ?_
  exact X1 ⟨_, St.le_refl _, ⟨rfl, trivial⟩, Xi ⟨rfl, trivial⟩⟩
 subst he
 obtain ⟨m, rfl⟩ : ∃ m : Nat, a = m := ⟨a.toNat, by have := ha rfl; omega⟩
 rw [if_neg (by simp), Int.toNat_natCast]
 by_cases h1 : (b.length : Int) ≤ m
 ·rw [if_pos h1]
  have h1' : ((b.map Xa).length : Int) ≤ m := by omega
  repeat first | refine X0 ?_ | (refine JR ?_; (repeat first | refine Z1 ?_ | refine Z0 ?_ | refine Z00 ?_ | refine Zz ?_ | refine ZA ?_ | refine Zd ?_ | refine Z2 ?_ | refine Zs ?_ | refine Zw ?_); refine JD ?_) | refine JT ?_ | refine JF ?_ | refine X5 ?_
  exact X1 ⟨_, St.le_refl _, ⟨rfl, trivial⟩, Xi ⟨rfl, trivial⟩⟩
 rw [if_neg h1]
 have h1' : ¬ ((b.map Xa).length : Int) ≤ m := by omega
 obtain ⟨c, hc⟩ := XT (l := b) (k := m) (by omega)
 have hxm : (b.map Xa)[m]? = some (Xa c) := YR hc
 rw [hc, Option.getD_some]
 by_cases h2 : 1 < c.toNat
 ·rw [if_pos h2]
  repeat first | refine X0 ?_ | (refine JR ?_; (repeat first | refine Z1 ?_ | refine Z0 ?_ | refine Z00 ?_ | refine Zz ?_ | refine ZA ?_ | refine ZK ?_ | refine Zd ?_ | refine Zp ?_ | refine Z2 ?_ | refine Zs ?_ | refine Zw ?_ | refine ZI ?_); refine JD ?_) | refine JT ?_ | refine JF ?_ | refine X5 ?_
  exact X1 ⟨_, St.le_refl _, ⟨rfl, trivial⟩, Xi ⟨rfl, trivial⟩⟩
 rw [if_neg h2]
 repeat first | refine X0 ?_ | (refine JR ?_; (repeat first | refine Z4 (op := .sub) (r' := nj m) (u := .int .i64 ((m : Int) + 1)) (v := .int .i64 1) ?_ (hr' := by exact congrArg (Value.int .i64) (show ((m : Int) + 1 - 1) = (m : Int) by omega)) (hr := by exact Vw (by unfold Uw; omega)) | refine Z1 ?_ | refine Z0 ?_ | refine Z00 ?_ | refine Zz ?_ | refine ZA ?_ | refine ZK ?_ | refine Zd ?_ | refine Zp ?_ | refine Z2 ?_ | refine Zu ?_ | refine Zs ?_ | refine Zb ?_ | refine Zw ?_ | refine ZI ?_); refine JD ?_) | refine JF ?_ | refine X5 ?_
 exact X1 ⟨_, St.le_refl _, ⟨rfl, trivial⟩, Xi ⟨rfl, trivial⟩⟩
end Go.Fw
namespace Go.Fw
open Go Go.Proofs
set_option maxRecDepth 100000
set_option linter.unusedVariables false
set_option linter.unusedSimpArgs false
theorem Vk : Vx Tryz.prog 28 = some [.i .i64, .i .i64, .s, .s, .s, .s] := by kernel_rfl
def XZ : Rcd → AVal
 | ⟨kd, ts, l, ⟨k, n, name, key, src, dst⟩, off⟩ => .agg [ai kd, ai ts, .d (.sl 10 (l.map Xx)), ai k, ai n, X7 name, X7 key, X7 src, X7 dst, ab off]
def UE (r : Rcd) : Prop := r.changes.length ≤ 9223372036854775807 ∧ ∀ c ∈ r.changes, X05 c
theorem X7Q (s : List UInt8) : (X4 s).data.toList = s := by simp [X4]
theorem eqZ (k n : Int) (name key src dst : List UInt8) : Ua [.int .i64 k, .int .i64 n, .string (X4 name), .string (X4 key), .string (X4 src), .string (X4 dst)] [.int .i64 0, .int .i64 0, .string (X4 []), .string (X4 []), .string (X4 []), .string (X4 [])] = Vu ⟨k, n, name, key, src, dst⟩ := by
 unfold Vu
 simp only [Ua, Vb, X7Q, Bool.and_true]
 by_cases h1 : k = 0 <;> by_cases h2 : n = 0 <;> by_cases h3 : name = [] <;> by_cases h4 : key = [] <;> by_cases h5 : src = [] <;> by_cases h6 : dst = [] <;> simp [*]
theorem X4t {l : List Chg} {i : Nat} {x : Chg} (h : l[i]? = some x) : UD (l.drop i) = if Y8 x ≠ 0 then Y8 x else UD (l.drop (i + 1)) := by
 rw [List.drop_eq_getElem_cons (List.getElem?_eq_some_iff.1 h).1, (List.getElem?_eq_some_iff.1 h).2, UD]
theorem X3W (r : Rcd) (hok : UE r) : Con Tryz.prog 14 [] [XZ r] [] (ai (Yj r)) := by
 obtain ⟨kd, ts, l, ⟨k, n, name, key, src, dst⟩, off⟩ := r
 obtain ⟨hlen, hch⟩ := hok
 simp only at hlen hch
 have hlm : (l.map Xx).length = l.length := by simp
 refine X8 (xs := [ai (Yj ⟨kd, ts, l, ⟨k, n, name, key, src, dst⟩, off⟩)]) Tryz.func14 rfl Tryz.ntmps14 rfl rfl rfl (fun E => ?_)
 have hz := eqZ k n name key src dst
 have hr := X3N ⟨k, n, name, key, src, dst⟩
 unfold Yj
 simp only [XZ, XY] at hr ⊢
 generalize Vu ⟨k, n, name, key, src, dst⟩ = z at *
 generalize YS ⟨k, n, name, key, src, dst⟩ = re at *
 by_cases h1 : ¬ (1 ≤ kd ∧ kd ≤ 3 ∧ 0 ≤ ts ∧ ts ≤ 1000000000000000)
 ·rw [if_pos h1]
  refine X0 ?_; refine JR ?_; refine Zy (γ := 100) ?_; refine Z0 ?_; refine JD ?_; refine X0 ?_; refine X0 ?_; refine JR ?_; refine Zz ?_; refine ZA ?_; refine Z8 ?_; refine Z1 ?_
  refine XE rfl rfl (fun hq => ?_) (fun hq => ?_); refine Zl ?_; refine Zl ?_; refine Zl ?_; refine Zk ?_; refine Z1 ?_; refine Zl ?_; refine Zl ?_; refine Zl ?_; refine Zk ?_; refine Z1 ?_; refine Zl ?_; refine Zl ?_
  refine Zl ?_; refine Zk ?_; refine JD ?_; refine JT ?_; refine X0 ?_; refine JR ?_; refine Z0 ?_; refine JD ?_; exact X1 ⟨_, St.le_refl _, ⟨rfl, trivial⟩, X2 _⟩; refine Zz ?_; refine ZA ?_; refine Zp ?_
  refine Zn ?_; refine Z1 ?_; refine XE rfl rfl (fun hq => ?_) (fun hq => ?_); refine Zl ?_; refine Zl ?_; refine Zl ?_; refine Zk ?_; refine Z1 ?_; refine Zl ?_; refine Zl ?_; refine Zl ?_; refine Zk ?_; refine JD ?_
  refine JT ?_; refine X0 ?_; refine JR ?_; refine Z0 ?_; refine JD ?_; exact X1 ⟨_, St.le_refl _, ⟨rfl, trivial⟩, X2 _⟩; refine Zz ?_; refine ZA ?_; refine Z8 ?_; refine Zn ?_; refine Z1 ?_
  refine XE rfl rfl (fun hq => ?_) (fun hq => ?_); refine Zl ?_; refine Zl ?_; refine Zl ?_; refine Zk ?_; refine JD ?_; refine JT ?_; refine X0 ?_; refine JR ?_; refine Z0 ?_; refine JD ?_
  exact X1 ⟨_, St.le_refl _, ⟨rfl, trivial⟩, X2 _⟩; refine Zz ?_; refine ZA ?_; refine Zp ?_; refine Zn ?_; refine JD ?_; refine JT ?_; refine X0 ?_; refine JR ?_; refine Z0 ?_; refine JD ?_
  exact X1 ⟨_, St.le_refl _, ⟨rfl, trivial⟩, X2 _⟩
 rw [if_neg h1]
 by_cases h2 : (kd ≠ 1 ∧ 0 < l.length) ∨ (kd ≠ 2 ∧ (off = true ∨ z = false))
 ·rw [if_pos h2]
  refine X0 ?_; refine JR ?_; refine Zy (γ := 100) ?_; refine Z0 ?_; refine JD ?_; refine X0 ?_; refine X0 ?_; refine JR ?_; refine Zz ?_; refine ZA ?_; refine Z8 ?_; refine Z1 ?_; refine Zz ?_; refine ZA ?_
  refine Zp ?_; refine Zn ?_; refine Z1 ?_; refine Zz ?_; refine ZA ?_; refine Z8 ?_; refine Zn ?_; refine Z1 ?_; refine Zz ?_; refine ZA ?_; refine Zp ?_; refine Zn ?_; refine JD ?_; refine JF ?_; refine X3 ?_
  refine X0 ?_; refine X0 ?_; refine JR ?_; refine Zz ?_; refine ZA ?_; refine Zs ?_; refine Z1 ?_; refine XE rfl rfl (fun hq => ?_) (fun hq => ?_); refine Zz ?_; refine ZA ?_; refine Zd ?_; refine Zp ?_
  refine Zk ?_; refine Z1 ?_; refine XE rfl rfl (fun hq => ?_) (fun hq => ?_); refine Zl ?_; refine Zl ?_; refine Zl ?_; refine Zl ?_; refine Zm ?_; refine Zm ?_; refine Zm ?_; refine Zm ?_; refine Zm ?_; refine Zm ?_
  refine Zm ?_; refine Zm ?_; refine Zl ?_; refine Zk ?_; refine JD ?_; refine JT ?_; refine X0 ?_; refine JR ?_; refine Z0 ?_; refine JD ?_; exact X1 ⟨_, St.le_refl _, ⟨rfl, trivial⟩, X2 _⟩; refine Zz ?_
  refine ZA ?_; refine Zs ?_; refine Z1 ?_; refine Zz ?_; refine ZA ?_; refine Z1 ?_; refine X0t rfl rfl (fun hq => ?_) (fun hq => ?_); refine Zl ?_; refine Zl ?_; refine Zl ?_; refine Zl ?_; refine Zk ?_
  refine Zk ?_; refine Zn ?_; refine JD ?_; refine JT ?_; refine X0 ?_; refine JR ?_; refine Z0 ?_; refine JD ?_; exact X1 ⟨_, St.le_refl _, ⟨rfl, trivial⟩, X2 _⟩; refine Zz ?_; refine ZL ?_; refine Zv ?_
  refine Z06 (us := [.int .i64 k, .int .i64 n, .string (X4 name), .string (X4 key), .string (X4 src), .string (X4 dst)]) (vs := [.int .i64 0, .int .i64 0, .string (X4 []), .string (X4 []), .string (X4 []), .string (X4 [])]) (r := z) ?_ (hk := by exact Vk) (hr := by exact hz)
  refine Zn ?_; refine Zk ?_; refine Zn ?_; refine JD ?_; refine XF rfl (fun hq => ?_) (fun hq => ?_); refine X0 ?_; refine JR ?_; refine Z0 ?_; refine JD ?_
  exact X1 ⟨_, St.le_refl _, ⟨rfl, trivial⟩, X2 _⟩; refine X3 ?_; refine X0 ?_; refine X0 ?_; refine JR ?_; refine Zz ?_; refine ZA ?_; refine Zu ?_; refine JD ?_; refine JF ?_
  refine X3 ?_; refine X0 ?_; refine X0 ?_; refine JR ?_; refine Zz ?_; refine ZA ?_; refine Zd ?_; refine Z1 ?_; refine JD ?_; refine X5 ?_; (exfalso; clear hr hz; simp_all <;> omega); refine Zl ?_
  refine Zl ?_; refine Zl ?_; refine Zl ?_; refine Zn ?_; refine Z1 ?_; refine Zz ?_; refine ZA ?_; refine Zs ?_; refine Z1 ?_; refine Zz ?_; refine ZA ?_; refine Z1 ?_
  refine X0t rfl rfl (fun hq => ?_) (fun hq => ?_); refine Zl ?_; refine Zl ?_; refine Zl ?_; refine Zl ?_; refine Zk ?_; refine Zk ?_; refine Zn ?_; refine JD ?_; refine JT ?_; refine X0 ?_; refine JR ?_
  refine Z0 ?_; refine JD ?_; exact X1 ⟨_, St.le_refl _, ⟨rfl, trivial⟩, X2 _⟩; refine Zz ?_; refine ZL ?_; refine Zv ?_
  refine Z06 (us := [.int .i64 k, .int .i64 n, .string (X4 name), .string (X4 key), .string (X4 src), .string (X4 dst)]) (vs := [.int .i64 0, .int .i64 0, .string (X4 []), .string (X4 []), .string (X4 []), .string (X4 [])]) (r := z) ?_ (hk := by exact Vk) (hr := by exact hz)
  refine Zn ?_; refine Zk ?_; refine Zn ?_; refine JD ?_; refine XF rfl (fun hq => ?_) (fun hq => ?_); refine X0 ?_; refine JR ?_; refine Z0 ?_; refine JD ?_
  exact X1 ⟨_, St.le_refl _, ⟨rfl, trivial⟩, X2 _⟩; refine X3 ?_; refine X0 ?_; refine X0 ?_; refine JR ?_; refine Zz ?_; refine ZA ?_; refine Zu ?_; refine JD ?_; refine JF ?_
  refine X3 ?_; refine X0 ?_; refine X0 ?_; refine JR ?_; refine Zz ?_; refine ZA ?_; refine Zd ?_; refine Z1 ?_; refine JD ?_; refine X5 ?_; (exfalso; clear hr hz; simp_all <;> omega)
 rw [if_neg h2]
 by_cases h3 : kd = 2
 ·subst h3
  rw [if_pos rfl]
  have h4 : ¬ 0 < l.length := by omega
  repeat first | refine X0 ?_ | (refine JR ?_; (repeat first | refine Z1 ?_ | refine Z0 ?_ | refine Zz ?_ | refine ZA ?_ | refine ZL ?_ | refine Zd ?_ | refine Z8 ?_ | refine Zp ?_ | refine Zu ?_ | refine Zs ?_ | refine Zy (γ := 100) ?_ | refine Zk ?_ | refine Zn ?_ | refine Zl ?_ | refine Zm ?_ | refine Z9 (hcon := hr) ?_); refine JD ?_) | refine JT ?_ | refine JF ?_ | refine X3 ?_
  exact X1 ⟨_, St.le_refl _, ⟨rfl, trivial⟩, X2 _⟩
 rw [if_neg h3]
 have hoz : off = false ∧ z = true := by cases off <;> cases z <;> simp_all
 obtain ⟨ho, hz1⟩ := hoz
 have hk : kd = 1 ∨ (kd = 3 ∧ ¬ 0 < l.length) := by omega
 rcases hk with hk1 | ⟨hk1, hn0⟩
 case inr =>
  obtain rfl : l = [] := List.eq_nil_of_length_eq_zero (by omega)
  clear h2 hlm hch hlen
  repeat first | refine X0 ?_ | (refine JR ?_; (repeat first | refine Z06 (us := [.int .i64 k, .int .i64 n, .string (X4 name), .string (X4 key), .string (X4 src), .string (X4 dst)]) (vs := [.int .i64 0, .int .i64 0, .string (X4 []), .string (X4 []), .string (X4 []), .string (X4 [])]) (r := z) ?_ (hk := by exact Vk) (hr := by exact hz) | refine Z1 ?_ | refine Z0 ?_ | refine Zz ?_ | refine ZA ?_ | refine ZL ?_ | refine Zd ?_ | refine Z8 ?_ | refine Zp ?_ | refine Zu ?_ | refine Zs ?_ | refine Zy (γ := 100) ?_ | refine Zv ?_ | refine Zk ?_ | refine Zn ?_); refine JD ?_) | refine JF ?_ | refine X5 ?_ | refine X3 ?_
  refine XR (ι := Nat) (fun i => i = 0) (fun i => ⟨71, [(1, .ptr 100 0), (55, .d (.sl 10 [])), (56, ai 0), (57, ai i)], [(100, .box [ai kd, ai ts, .d (.sl 10 []), ai k, ai n, X7 name, X7 key, X7 src, X7 dst, ab off])]⟩) (fun i => 0) 0 rfl
   (Xc rfl JM ⟨rfl, trivial⟩) ?_
  rintro i rfl
  refine X0 ?_; refine JR ?_; refine Z8 ?_; refine JD ?_; refine X0 ?_; refine JF ?_; refine Xv ?_; refine X0 ?_; refine X0 ?_; refine JR ?_; refine Zz ?_; refine ZA ?_; refine Zd ?_; refine Zp ?_
  refine JD ?_; refine JF ?_; refine X3 ?_; refine X0 ?_; refine JR ?_; refine Z0 ?_; refine JD ?_
  exact X1 ⟨_, St.le_refl _, ⟨rfl, trivial⟩, X2 _⟩
 generalize hG : UD l = G
 repeat first | refine X0 ?_ | (refine JR ?_; (repeat first | refine Z06 (us := [.int .i64 k, .int .i64 n, .string (X4 name), .string (X4 key), .string (X4 src), .string (X4 dst)]) (vs := [.int .i64 0, .int .i64 0, .string (X4 []), .string (X4 []), .string (X4 []), .string (X4 [])]) (r := z) ?_ (hk := by exact Vk) (hr := by exact hz) | refine Z1 ?_ | refine Z0 ?_ | refine Zz ?_ | refine ZA ?_ | refine ZL ?_ | refine Zd ?_ | refine Z8 ?_ | refine Zp ?_ | refine Zu ?_ | refine Zs ?_ | refine Zy (γ := 100) ?_ | refine Zv ?_ | refine Zk ?_ | refine Zn ?_ | refine Zl ?_); refine JD ?_) | refine JF ?_ | refine X5 ?_ | refine X3 ?_
 refine XR (ι := Nat) (fun i => i ≤ l.length ∧ UD (l.drop i) = G) (fun i => ⟨71, [(1, .ptr 100 0), (55, .d (.sl 10 (l.map Xx))), (56, ai (l.map Xx).length), (57, ai i)], [(100, .box [ai kd, ai ts, .d (.sl 10 (l.map Xx)), ai k, ai n, X7 name, X7 key, X7 src, X7 dst, ab off])]⟩) (fun i => l.length - i) 0 ⟨by omega, hG⟩
  (Xc rfl JM ⟨rfl, trivial⟩) ?_
 rintro i ⟨hi, hg⟩
 by_cases hil : i < l.length
 case neg =>
  obtain rfl : i = l.length := by omega
  rw [List.drop_length, UD] at hg
  subst hg
  rw [if_neg (by simp)]
  have hn : ¬ ((l.length : Nat) : Int) < (l.map Xx).length := by omega
  by_cases hb : 1000 < l.length
  ·rw [if_pos hb]
   refine X0 ?_; refine JR ?_; refine Z8 ?_; refine JD ?_; refine X0 ?_; refine JF ?_; refine Xv ?_; refine X0 ?_; refine X0 ?_; refine JR ?_; refine Zz ?_; refine ZA ?_; refine Zd ?_; refine Zp ?_
   refine JD ?_; refine JT ?_; refine X0 ?_; refine JR ?_; refine Z0 ?_; refine JD ?_
   exact X1 ⟨_, St.le_refl _, ⟨rfl, trivial⟩, X2 _⟩
  ·rw [if_neg hb]
   refine X0 ?_; refine JR ?_; refine Z8 ?_; refine JD ?_; refine X0 ?_; refine JF ?_; refine Xv ?_; refine X0 ?_; refine X0 ?_; refine JR ?_; refine Zz ?_; refine ZA ?_; refine Zd ?_; refine Zp ?_
   refine JD ?_; refine JF ?_; refine X3 ?_; refine X0 ?_; refine JR ?_; refine Z0 ?_; refine JD ?_
   exact X1 ⟨_, St.le_refl _, ⟨rfl, trivial⟩, X2 _⟩
 have hn : (i : Int) < (l.map Xx).length := by omega
 obtain ⟨x, hx⟩ := XT (l := l) hil
 have hxc : (l.map Xx)[i]? = some (Xx x) := YR hx
 have hxo := hch x (List.mem_of_getElem? hx)
 have hcall := X44 x
 rw [X4t hx] at hg
 generalize Y8 x = e at *
 obtain ⟨op, id, xsrc, xdst, xname, ⟨xk, xn, xd, xs, xl⟩⟩ := x
 simp only [Xy, Xx] at hcall hxc
 by_cases he : e = 0
 ·subst he
  rw [if_neg (by simp)] at hg
  refine X0 ?_; refine JR ?_; refine Z8 ?_; refine JD ?_; refine X0 ?_; refine JT ?_; refine X3 ?_; refine X0 ?_; refine X5 ?_; refine X0 ?_; refine JR ?_; refine ZI ?_; refine ZJ ?_
  refine Zt (γ := 101) ?_; refine Zw ?_; refine JD ?_; refine X0 ?_; refine JR ?_; refine ZL ?_; refine Z9 (hcon := hcall) ?_; refine Z0 ?_; refine JD ?_; refine X0 ?_; refine JR ?_; refine Z1 ?_; refine Zs ?_
  refine JD ?_; refine JF ?_; refine X3 ?_; refine JR ?_; refine Zb ?_; refine Z1 ?_; refine JD ?_
  exact ⟨i + 1, ⟨by omega, hg⟩, by omega, Xc rfl JM ⟨rfl, trivial⟩⟩
 ·rw [if_pos he] at hg
  subst hg
  rw [if_pos he]
  refine X0 ?_; refine JR ?_; refine Z8 ?_; refine JD ?_; refine X0 ?_; refine JT ?_; refine X3 ?_; refine X0 ?_; refine X5 ?_; refine X0 ?_; refine JR ?_; refine ZI ?_; refine ZJ ?_
  refine Zt (γ := 101) ?_; refine Zw ?_; refine JD ?_; refine X0 ?_; refine JR ?_; refine ZL ?_; refine Z9 (hcon := hcall) ?_; refine Z0 ?_; refine JD ?_; refine X0 ?_; refine JR ?_; refine Z1 ?_; refine Zs ?_
  refine JD ?_; refine JT ?_; refine X0 ?_; refine JR ?_; refine Z1 ?_; refine Z0 ?_; refine JD ?_
  exact X1 ⟨_, St.le_refl _, ⟨rfl, trivial⟩, X2 _⟩
theorem X1C (r : Rcd) (hok : UE r) : Con Tryz.prog 15 [] [XZ r] [] (ai (Yj r)) := by
 obtain ⟨kd, ts, l, ⟨k, n, name, key, src, dst⟩, off⟩ := r
 obtain ⟨hlen, hch⟩ := hok
 simp only at hlen hch
 have hlm : (l.map Xx).length = l.length := by simp
 refine X8 (xs := [ai (Yj ⟨kd, ts, l, ⟨k, n, name, key, src, dst⟩, off⟩)]) Tryz.func15 rfl Tryz.ntmps15 rfl rfl rfl (fun E => ?_)
 have hz := eqZ k n name key src dst
 have hr := X2L ⟨k, n, name, key, src, dst⟩
 unfold Yj
 simp only [XZ, XY] at hr ⊢
 generalize Vu ⟨k, n, name, key, src, dst⟩ = z at *
 generalize YS ⟨k, n, name, key, src, dst⟩ = re at *
 by_cases h1 : ¬ (1 ≤ kd ∧ kd ≤ 3 ∧ 0 ≤ ts ∧ ts ≤ 1000000000000000)
 ·rw [if_pos h1]
  refine X0 ?_; refine JR ?_; refine Zy (γ := 100) ?_; refine Z0 ?_; refine JD ?_; refine X0 ?_; refine X0 ?_; refine JR ?_; refine Zz ?_; refine ZA ?_; refine Z8 ?_; refine Z1 ?_
  refine XE rfl rfl (fun hq => ?_) (fun hq => ?_); refine Zl ?_; refine Zl ?_; refine Zl ?_; refine Zk ?_; refine Z1 ?_; refine Zl ?_; refine Zl ?_; refine Zl ?_; refine Zk ?_; refine Z1 ?_; refine Zl ?_; refine Zl ?_
  refine Zl ?_; refine Zk ?_; refine JD ?_; refine JT ?_; refine X0 ?_; refine JR ?_; refine Z0 ?_; refine JD ?_; exact X1 ⟨_, St.le_refl _, ⟨rfl, trivial⟩, X2 _⟩; refine Zz ?_; refine ZA ?_; refine Zp ?_
  refine Zn ?_; refine Z1 ?_; refine XE rfl rfl (fun hq => ?_) (fun hq => ?_); refine Zl ?_; refine Zl ?_; refine Zl ?_; refine Zk ?_; refine Z1 ?_; refine Zl ?_; refine Zl ?_; refine Zl ?_; refine Zk ?_; refine JD ?_
  refine JT ?_; refine X0 ?_; refine JR ?_; refine Z0 ?_; refine JD ?_; exact X1 ⟨_, St.le_refl _, ⟨rfl, trivial⟩, X2 _⟩; refine Zz ?_; refine ZA ?_; refine Z8 ?_; refine Zn ?_; refine Z1 ?_
  refine XE rfl rfl (fun hq => ?_) (fun hq => ?_); refine Zl ?_; refine Zl ?_; refine Zl ?_; refine Zk ?_; refine JD ?_; refine JT ?_; refine X0 ?_; refine JR ?_; refine Z0 ?_; refine JD ?_
  exact X1 ⟨_, St.le_refl _, ⟨rfl, trivial⟩, X2 _⟩; refine Zz ?_; refine ZA ?_; refine Zp ?_; refine Zn ?_; refine JD ?_; refine JT ?_; refine X0 ?_; refine JR ?_; refine Z0 ?_; refine JD ?_
  exact X1 ⟨_, St.le_refl _, ⟨rfl, trivial⟩, X2 _⟩
 rw [if_neg h1]
 by_cases h2 : (kd ≠ 1 ∧ 0 < l.length) ∨ (kd ≠ 2 ∧ (off = true ∨ z = false))
 ·rw [if_pos h2]
  refine X0 ?_; refine JR ?_; refine Zy (γ := 100) ?_; refine Z0 ?_; refine JD ?_; refine X0 ?_; refine X0 ?_; refine JR ?_; refine Zz ?_; refine ZA ?_; refine Z8 ?_; refine Z1 ?_; refine Zz ?_; refine ZA ?_
  refine Zp ?_; refine Zn ?_; refine Z1 ?_; refine Zz ?_; refine ZA ?_; refine Z8 ?_; refine Zn ?_; refine Z1 ?_; refine Zz ?_; refine ZA ?_; refine Zp ?_; refine Zn ?_; refine JD ?_; refine JF ?_; refine X3 ?_
  refine X0 ?_; refine X0 ?_; refine JR ?_; refine Zz ?_; refine ZA ?_; refine Zs ?_; refine Z1 ?_; refine XE rfl rfl (fun hq => ?_) (fun hq => ?_); refine Zz ?_; refine ZA ?_; refine Zd ?_; refine Zp ?_
  refine Zk ?_; refine Z1 ?_; refine XE rfl rfl (fun hq => ?_) (fun hq => ?_); refine Zl ?_; refine Zl ?_; refine Zl ?_; refine Zl ?_; refine Zm ?_; refine Zm ?_; refine Zm ?_; refine Zm ?_; refine Zm ?_; refine Zm ?_
  refine Zm ?_; refine Zm ?_; refine Zl ?_; refine Zk ?_; refine JD ?_; refine JT ?_; refine X0 ?_; refine JR ?_; refine Z0 ?_; refine JD ?_; exact X1 ⟨_, St.le_refl _, ⟨rfl, trivial⟩, X2 _⟩; refine Zz ?_
  refine ZA ?_; refine Zs ?_; refine Z1 ?_; refine Zz ?_; refine ZL ?_; refine Zv ?_
  refine Z06 (us := [.int .i64 k, .int .i64 n, .string (X4 name), .string (X4 key), .string (X4 src), .string (X4 dst)]) (vs := [.int .i64 0, .int .i64 0, .string (X4 []), .string (X4 []), .string (X4 []), .string (X4 [])]) (r := z) ?_ (hk := by exact Vk) (hr := by exact hz)
  refine Z1 ?_; refine XU rfl rfl (fun hq => ?_) (fun hq => ?_); refine Zz ?_; refine ZA ?_; refine Zn ?_; refine Zk ?_; refine Zn ?_; refine JD ?_; refine X0u rfl (fun hq => ?_) (fun hq => ?_)
  refine X0 ?_; refine JR ?_; refine Z0 ?_; refine JD ?_; exact X1 ⟨_, St.le_refl _, ⟨rfl, trivial⟩, X2 _⟩; refine X3 ?_; refine X0 ?_; refine X0 ?_; refine JR ?_; refine Zz ?_; refine ZA ?_
  refine Zu ?_; refine JD ?_; refine JF ?_; refine X3 ?_; refine X0 ?_; refine X0 ?_; refine JR ?_; refine Z0 ?_; refine JD ?_; refine X5 ?_; (exfalso; clear hr hz; simp_all <;> omega); refine Zl ?_
  refine Zl ?_; refine Zk ?_; refine Zk ?_; refine Zn ?_; refine JD ?_; refine JT ?_; refine X0 ?_; refine JR ?_; refine Z0 ?_; refine JD ?_; exact X1 ⟨_, St.le_refl _, ⟨rfl, trivial⟩, X2 _⟩; refine Zl ?_
  refine Zl ?_; refine Zl ?_; refine Zl ?_; refine Zn ?_; refine Z1 ?_; refine Zz ?_; refine ZA ?_; refine Zs ?_; refine Z1 ?_; refine Zz ?_; refine ZL ?_; refine Zv ?_
  refine Z06 (us := [.int .i64 k, .int .i64 n, .string (X4 name), .string (X4 key), .string (X4 src), .string (X4 dst)]) (vs := [.int .i64 0, .int .i64 0, .string (X4 []), .string (X4 []), .string (X4 []), .string (X4 [])]) (r := z) ?_ (hk := by exact Vk) (hr := by exact hz)
  refine Z1 ?_; refine XU rfl rfl (fun hq => ?_) (fun hq => ?_); refine Zz ?_; refine ZA ?_; refine Zn ?_; refine Zk ?_; refine Zn ?_; refine JD ?_; refine X0u rfl (fun hq => ?_) (fun hq => ?_)
  refine X0 ?_; refine JR ?_; refine Z0 ?_; refine JD ?_; exact X1 ⟨_, St.le_refl _, ⟨rfl, trivial⟩, X2 _⟩; refine X3 ?_; refine X0 ?_; refine X0 ?_; refine JR ?_; refine Zz ?_; refine ZA ?_
  refine Zu ?_; refine JD ?_; refine JF ?_; refine X3 ?_; refine X0 ?_; refine X0 ?_; refine JR ?_; refine Z0 ?_; refine JD ?_; refine X5 ?_; (exfalso; clear hr hz; simp_all <;> omega); refine Zl ?_
  refine Zl ?_; refine Zk ?_; refine Zk ?_; refine Zn ?_; refine JD ?_; refine JT ?_; refine X0 ?_; refine JR ?_; refine Z0 ?_; refine JD ?_; exact X1 ⟨_, St.le_refl _, ⟨rfl, trivial⟩, X2 _⟩
 rw [if_neg h2]
 by_cases h3 : kd = 2
 ·subst h3
  rw [if_pos rfl]
  have h4 : ¬ 0 < l.length := by omega
  repeat first | refine X0 ?_ | (refine JR ?_; (repeat first | refine Z1 ?_ | refine Z0 ?_ | refine Zz ?_ | refine ZA ?_ | refine ZL ?_ | refine Zd ?_ | refine Z8 ?_ | refine Zp ?_ | refine Zu ?_ | refine Zs ?_ | refine Zy (γ := 100) ?_ | refine Zk ?_ | refine Zn ?_ | refine Zl ?_ | refine Zm ?_ | refine Z9 (hcon := hr) ?_); refine JD ?_) | refine JT ?_ | refine JF ?_ | refine X3 ?_
  exact X1 ⟨_, St.le_refl _, ⟨rfl, trivial⟩, X2 _⟩
 rw [if_neg h3]
 have hoz : off = false ∧ z = true := by cases off <;> cases z <;> simp_all
 obtain ⟨ho, hz1⟩ := hoz
 have hk : kd = 1 ∨ (kd = 3 ∧ ¬ 0 < l.length) := by omega
 rcases hk with hk1 | ⟨hk1, hn0⟩
 case inr =>
  obtain rfl : l = [] := List.eq_nil_of_length_eq_zero (by omega)
  clear h2 hlm hch hlen
  repeat first | refine X0 ?_ | (refine JR ?_; (repeat first | refine Z06 (us := [.int .i64 k, .int .i64 n, .string (X4 name), .string (X4 key), .string (X4 src), .string (X4 dst)]) (vs := [.int .i64 0, .int .i64 0, .string (X4 []), .string (X4 []), .string (X4 []), .string (X4 [])]) (r := z) ?_ (hk := by exact Vk) (hr := by exact hz) | refine Z1 ?_ | refine Z0 ?_ | refine Zz ?_ | refine ZA ?_ | refine ZL ?_ | refine Zd ?_ | refine Z8 ?_ | refine Zp ?_ | refine Zu ?_ | refine Zs ?_ | refine Zy (γ := 100) ?_ | refine Zv ?_ | refine Zk ?_ | refine Zn ?_); refine JD ?_) | refine JF ?_ | refine X5 ?_ | refine X3 ?_
  refine XR (ι := Nat) (fun i => i = 0) (fun i => ⟨73, [(1, .ptr 100 0), (3, ai i)], [(100, .box [ai kd, ai ts, .d (.sl 10 []), ai k, ai n, X7 name, X7 key, X7 src, X7 dst, ab off])]⟩) (fun i => 0) 0 rfl
   (Xc rfl JM ⟨rfl, trivial⟩) ?_
  rintro i rfl
  refine X0 ?_; refine X0 ?_; refine JR ?_; refine Z1 ?_; refine Zz ?_; refine ZA ?_; refine Zd ?_; refine Z8 ?_; refine JD ?_; refine JF ?_; refine Xv ?_; refine X0 ?_; refine X0 ?_; refine JR ?_
  refine Zz ?_; refine ZA ?_; refine Zd ?_; refine Zp ?_; refine JD ?_; refine JF ?_; refine X3 ?_; refine X0 ?_; refine JR ?_; refine Z0 ?_; refine JD ?_
  exact X1 ⟨_, St.le_refl _, ⟨rfl, trivial⟩, X2 _⟩
 generalize hG : UD l = G
 repeat first | refine X0 ?_ | (refine JR ?_; (repeat first | refine Z06 (us := [.int .i64 k, .int .i64 n, .string (X4 name), .string (X4 key), .string (X4 src), .string (X4 dst)]) (vs := [.int .i64 0, .int .i64 0, .string (X4 []), .string (X4 []), .string (X4 []), .string (X4 [])]) (r := z) ?_ (hk := by exact Vk) (hr := by exact hz) | refine Z1 ?_ | refine Z0 ?_ | refine Zz ?_ | refine ZA ?_ | refine ZL ?_ | refine Z8 ?_ | refine Zp ?_ | refine Zu ?_ | refine Zs ?_ | refine Zy (γ := 100) ?_ | refine Zv ?_ | refine Zk ?_ | refine Zn ?_ | refine Zl ?_); refine JD ?_) | refine JF ?_ | refine X5 ?_ | refine X3 ?_
 refine XR (ι := Nat) (fun i => i ≤ l.length ∧ UD (l.drop i) = G) (fun i => ⟨73, [(1, .ptr 100 0), (3, ai i)], [(100, .box [ai kd, ai ts, .d (.sl 10 (l.map Xx)), ai k, ai n, X7 name, X7 key, X7 src, X7 dst, ab off])]⟩) (fun i => l.length - i) 0 ⟨by omega, hG⟩
  (Xc rfl JM ⟨rfl, trivial⟩) ?_
 rintro i ⟨hi, hg⟩
 by_cases hil : i < l.length
 case neg =>
  obtain rfl : i = l.length := by omega
  rw [List.drop_length, UD] at hg
  subst hg
  rw [if_neg (by simp)]
  have hn : ¬ ((l.length : Nat) : Int) < (l.map Xx).length := by omega
  by_cases hb : 1000 < l.length
  ·rw [if_pos hb]
   refine X0 ?_; refine X0 ?_; refine JR ?_; refine Z1 ?_; refine Zz ?_; refine ZA ?_; refine Zd ?_; refine Z8 ?_; refine JD ?_; refine JF ?_; refine Xv ?_; refine X0 ?_; refine X0 ?_; refine JR ?_
   refine Zz ?_; refine ZA ?_; refine Zd ?_; refine Zp ?_; refine JD ?_; refine JT ?_; refine X0 ?_; refine JR ?_; refine Z0 ?_; refine JD ?_
   exact X1 ⟨_, St.le_refl _, ⟨rfl, trivial⟩, X2 _⟩
  ·rw [if_neg hb]
   refine X0 ?_; refine X0 ?_; refine JR ?_; refine Z1 ?_; refine Zz ?_; refine ZA ?_; refine Zd ?_; refine Z8 ?_; refine JD ?_; refine JF ?_; refine Xv ?_; refine X0 ?_; refine X0 ?_; refine JR ?_
   refine Zz ?_; refine ZA ?_; refine Zd ?_; refine Zp ?_; refine JD ?_; refine JF ?_; refine X3 ?_; refine X0 ?_; refine JR ?_; refine Z0 ?_; refine JD ?_
   exact X1 ⟨_, St.le_refl _, ⟨rfl, trivial⟩, X2 _⟩
 have hn : (i : Int) < (l.map Xx).length := by omega
 obtain ⟨x, hx⟩ := XT (l := l) hil
 have hxc : (l.map Xx)[i]? = some (Xx x) := YR hx
 have hxo := hch x (List.mem_of_getElem? hx)
 have hcall := X2I x hxo.2
 rw [X4t hx] at hg
 generalize Y8 x = e at *
 obtain ⟨op, id, xsrc, xdst, xname, ⟨xk, xn, xd, xs, xl⟩⟩ := x
 simp only [Xy, Xx] at hcall hxc
 by_cases he : e = 0
 ·subst he
  rw [if_neg (by simp)] at hg
  refine X0 ?_; refine X0 ?_; refine JR ?_; refine Z1 ?_; refine Zz ?_; refine ZA ?_; refine Zd ?_; refine Z8 ?_; refine JD ?_; refine JT ?_; refine X3 ?_; refine X0 ?_; refine X5 ?_
  refine X0 ?_; refine JR ?_; refine Zz ?_; refine ZA ?_; refine Z1 ?_; refine ZI ?_; refine ZJ ?_; refine Z9 (hcon := hcall) ?_; refine Z0 ?_; refine JD ?_; refine X0 ?_; refine JR ?_; refine Z1 ?_; refine Zs ?_
  refine JD ?_; refine JF ?_; refine X3 ?_; refine JR ?_; refine Z1 ?_; refine Zb ?_; refine Z0 ?_; refine JD ?_
  exact ⟨i + 1, ⟨by omega, hg⟩, by omega, Xc rfl JM ⟨rfl, trivial⟩⟩
 ·rw [if_pos he] at hg
  subst hg
  rw [if_pos he]
  refine X0 ?_; refine X0 ?_; refine JR ?_; refine Z1 ?_; refine Zz ?_; refine ZA ?_; refine Zd ?_; refine Z8 ?_; refine JD ?_; refine JT ?_; refine X3 ?_; refine X0 ?_; refine X5 ?_
  refine X0 ?_; refine JR ?_; refine Zz ?_; refine ZA ?_; refine Z1 ?_; refine ZI ?_; refine ZJ ?_; refine Z9 (hcon := hcall) ?_; refine Z0 ?_; refine JD ?_; refine X0 ?_; refine JR ?_; refine Z1 ?_; refine Zs ?_
  refine JD ?_; refine JT ?_; refine X0 ?_; refine JR ?_; refine Z1 ?_; refine Z0 ?_; refine JD ?_
  exact X1 ⟨_, St.le_refl _, ⟨rfl, trivial⟩, X2 _⟩
end Go.Fw

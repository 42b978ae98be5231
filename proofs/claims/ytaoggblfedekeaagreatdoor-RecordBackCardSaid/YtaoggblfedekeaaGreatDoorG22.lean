/- Reading values: value. -/
import Derived.Test.YtaoggblfedekeaaGreatDoorG08
import Derived.Test.YtaoggblfedekeaaGreatDoorG21
import Derived.Test.YtaoggblfedekeaaGreatDoorG18
import Derived.Test.YtaoggblfedekeaaGreatDoorG07
set_option maxHeartbeats 16000000
namespace Go.Fw
open Go Go.Proofs
set_option maxRecDepth 100000
set_option linter.unusedVariables false
set_option linter.unusedSimpArgs false
def V2 (b : List UInt8) (a : Nat) (nest want : Int) (r : Val × Int × Int) : Prop :=
 Con Tryz.prog 96 [(0, oRd b a 0)] [.ptr 0 0, ai nest, ai want] [(0, oRd b r.2.1 r.2.2)] (Xb r.1)
def Ya (c : Val × Int × Int) : Val × Int × Int := if c.2.2 = 0 ∧ X6 8 c.1 = false then (c.1, c.2.1, 2) else c
theorem X2z (l : List Val) (k n d : Int) (s : List UInt8) (q : List Val) : Xs l ++ [[.v (.int .i64 k), .v (.int .i64 n), .v (.int .i64 d), .v (.string (X4 s)), .sl 5 (Xs q)]] = Xs (l ++ [.mk k n d s q]) := by
 rw [VQ l, VQ (l ++ _), List.map_append, List.map_cons, List.map_nil, YP]
theorem X9m {b : List UInt8} {a m : Nat} {want : Int} (h : (U3 b a m want).2.2 ≠ 0) (gl gp : Nat → Int → Val × Int × Int) : Yw gl gp m b a want = (zV, (U3 b a m want).2.1, (U3 b a m want).2.2) := by
 unfold U3 at *
 unfold Yw
 by_cases ha : a = b.length
 ·rw [if_pos ha] at *; rw [if_pos (by omega)]
 ·rw [if_neg ha] at *
  rw [if_neg (by omega), Int.toNat_natCast]
  simp only at *
  split
  ·rfl
  ·rename_i h2; rw [if_neg h2] at h; simp at h
theorem X8S {b : List UInt8} {a m : Nat} {want : Int} (ha : a ≤ b.length) (h : (U3 b a m want).2.2 = 0) :
  ∃ k : Nat, U3 b a m want = ((k : Int), (a : Int) + 1, 0) ∧ a < b.length ∧ k ≤ 8 ∧ (k = 8 → m ≠ 0) ∧ (want ≠ 0 → (k : Int) = want) ∧ ∀ gl gp, Yw gl gp m b a want = Ya (XS gl gp b (a + 1) k) := by
 unfold U3 at *
 by_cases ha' : a = b.length
 ·rw [if_pos ha'] at h; simp at h
 rw [if_neg ha'] at *
 simp only at *
 split at h
 ·simp at h
 rename_i h2
 refine ⟨_, by rw [if_neg h2], by omega, by omega, fun h3 h4 => h2 (.inr (.inl ⟨by omega, h4⟩)), fun h3 => Classical.byContradiction fun h4 => h2 (.inr (.inr ⟨h3, h4⟩)), fun gl gp => ?_⟩
 unfold Yw
 rw [if_neg (by omega), Int.toNat_natCast]
 simp only
 rw [if_neg h2]
 rfl
theorem X9a (b : List UInt8) (m a : Nat) (want : Int) (gl gp : Nat → Int → Val × Int × Int) (R : Val × Int × Int) (hm : m ≤ 8) (ha : a < b.length) (hb : b.length ≤ 281474976710656)
  (hge : ∀ i q : Nat, q ≤ b.length → YI b (gl i q).2) (hg : ∀ i q : Nat, q ≤ b.length → V2 b q (8 - m + 1) 0 (gl i q))
  (hk : Con Tryz.prog 120 [(0, oRd b a 0)] [.ptr 0 0, ai (8 - m), ai want] [(0, oRd b ((a : Int) + 1) 0)] (ai 8)) (hG : R = Ya (XS gl gp b (a + 1) 8)) : V2 b a (8 - m) want R := by
 refine X8 (xs := [Xb R.1]) Tryz.func96 rfl Tryz.ntmps96 rfl rfl rfl (fun E => ?_)
 ·have hc := XaS b (a + 1) 0 hb
  have hcz : XS gl gp b (a + 1) 8 = if Yz 8 (Xg b (a + 1)) ≠ 0 then (.mk 8 0 0 [] [], (Xg b (a + 1)).2.1, Yz 8 (Xg b (a + 1))) else
    (.mk 8 0 0 [] (Xq gl (Xg b (a + 1)).2.1 (Xg b (a + 1)).1.toNat).1, (Xq gl (Xg b (a + 1)).2.1 (Xg b (a + 1)).1.toNat).2.1, (Xq gl (Xg b (a + 1)).2.1 (Xg b (a + 1)).1.toNat).2.2) := by
   simp only [XS, Yz]
   by_cases e1 : (Xg b (a + 1)).2.2 = 0
   ·by_cases e2 : YC 8 (Xg b (a + 1)).1 = true <;> simp [e1, e2]
   ·simp [e1]
  have hue := VJ b (a + 1)
  obtain ⟨N, hN⟩ := X13 b (a + 1)
  have hNb : Yz 8 (Xg b (a + 1)) = 0 → (Xg b (a + 1)).2.2 = 0 ∧ N ≤ 64 := by
   unfold Yz
   rw [hN]
   split
   ·intro h; contradiction
   ·rename_i h1
    split
    ·intro h; simp at h
    ·rename_i h2
     refine fun _ => ⟨Classical.not_not.1 h1, ?_⟩
     simp [YC] at h2
     omega
  generalize Yz 8 (Xg b (a + 1)) = ce at *
  generalize Xg b (a + 1) = u at *
  obtain ⟨n, a2, e2⟩ := u
  simp only at hN
  subst hN
  simp only [Int.toNat_natCast] at hc hcz hue hNb
  by_cases hce : ce = 0
  case neg =>
   rw [if_pos hce] at hcz
   rw [hcz] at hG
   obtain rfl : R = (.mk 8 0 0 [] [], a2, ce) := by rw [hG]; simp [Ya, hce]
   repeat first | refine X0 ?_ | (refine JR ?_; (repeat first | refine Z1 ?_ | refine Z0 ?_ | refine Z00 ?_ | refine Zz ?_ | refine ZA ?_ | refine Zu ?_ | refine Zs ?_ | refine Zt (γ := 100) ?_ | refine Zt (γ := 101) ?_ | refine Zw ?_ | refine Zv ?_ | refine Z9 (hcon := hk) ?_ | refine Z9 (hcon := hc) ?_); refine JD ?_) | refine JT ?_ | refine JF ?_ | refine X5 ?_ | refine X3 ?_
   refine XR (fun _ : Unit => True) (fun _ => ⟨135, [(0, .ptr 0 0), (1, ai (8 - m)), (2, ai want), (6, .ptr 100 0), (7, .ptr 101 0), (11, ai N), (12, ai 0)], [(0, oRd b a2 ce), (100, .box [ai 0, ai 0, ai 0, .d (.v (.string (X4 []))), ani]), (101, .box [ai 8, ai 0, ai 0, .d (.v (.string (X4 []))), ani])]⟩) (fun _ => 0) () trivial
    (Xc rfl ⟨JL, JL, JL, JL, JL, JL, JL, trivial⟩ ⟨rfl, rfl, rfl, trivial⟩) ?_
   intro _ _
   by_cases h0N : 0 < N
   ·refine X0 ?_; refine X0 ?_; refine JR ?_; refine Z1 ?_; refine Z1 ?_; refine Z8 ?_; refine Z1 ?_; refine Z1 ?_; refine Z00 ?_; refine Zz ?_; refine ZA ?_; refine Zu ?_; refine Zk ?_; refine JD ?_; refine JF ?_
    refine Xv ?_; refine X0 ?_; refine X0 ?_; refine JR ?_; refine Z1 ?_; refine Z00 ?_; refine Zz ?_; refine ZA ?_; refine Zu ?_; refine Z1 ?_; refine Zl ?_; refine Zl ?_; refine Zl ?_; refine Zn ?_
    refine JD ?_; refine JF ?_; refine X3 ?_; refine X0 ?_; refine JR ?_; refine ZL ?_; refine Zw ?_; refine JD ?_
    exact X1 ⟨_, Xm 100 (cs := [ai 8, ai 0, ai 0, .d (.v (.string (X4 []))), ani]) (cs' := [ai 8, ai 0, ai 0, .d (.v (.string (X4 []))), .d (.sl 5 [])]) rfl ⟨AVal.le_refl _, AVal.le_refl _, AVal.le_refl _, AVal.le_refl _, AVal.le_nil 5, trivial⟩ rfl, ⟨⟨100, 0, _, rfl, rfl, .inr ⟨5, _, rfl, rfl, rfl, rfl⟩⟩, trivial⟩, Xi ⟨rfl, trivial⟩⟩
   ·refine X0 ?_; refine X0 ?_; refine JR ?_; refine Z1 ?_; refine Z1 ?_; refine Z8 ?_; refine Z1 ?_; refine Zl ?_; refine Zl ?_; refine Zl ?_; refine Zl ?_; refine Zl ?_; refine Zn ?_; refine JD ?_; refine JF ?_
    refine Xv ?_; refine X0 ?_; refine X0 ?_; refine JR ?_; refine Z1 ?_; refine Z00 ?_; refine Zz ?_; refine ZA ?_; refine Zu ?_; refine Z1 ?_; refine Zl ?_; refine Zl ?_; refine Zl ?_; refine Zn ?_
    refine JD ?_; refine JF ?_; refine X3 ?_; refine X0 ?_; refine JR ?_; refine ZL ?_; refine Zw ?_; refine JD ?_
    exact X1 ⟨_, Xm 100 (cs := [ai 8, ai 0, ai 0, .d (.v (.string (X4 []))), ani]) (cs' := [ai 8, ai 0, ai 0, .d (.v (.string (X4 []))), .d (.sl 5 [])]) rfl ⟨AVal.le_refl _, AVal.le_refl _, AVal.le_refl _, AVal.le_refl _, AVal.le_nil 5, trivial⟩ rfl, ⟨⟨100, 0, _, rfl, rfl, .inr ⟨5, _, rfl, rfl, rfl, rfl⟩⟩, trivial⟩, Xi ⟨rfl, trivial⟩⟩
  subst hce
  obtain ⟨he2, hN⟩ := hNb rfl
  subst he2
  rw [if_neg (by simp)] at hcz
  rw [hcz] at hG
  clear hcz
  have h00 := hue rfl
  simp only at h00
  clear hue
  repeat first | refine X0 ?_ | (refine JR ?_; (repeat first | refine Z1 ?_ | refine Z0 ?_ | refine Z00 ?_ | refine Zz ?_ | refine ZA ?_ | refine Zu ?_ | refine Zs ?_ | refine Zt (γ := 100) ?_ | refine Zt (γ := 101) ?_ | refine Zw ?_ | refine Zv ?_ | refine Z9 (hcon := hk) ?_ | refine Z9 (hcon := hc) ?_); refine JD ?_) | refine JT ?_ | refine JF ?_ | refine X5 ?_ | refine X3 ?_
  refine Xu (X10 101 4 121 5 (cs := [ai 8, ai 0, ai 0, .d (.v (.string (X4 []))), ani]) rfl rfl rfl rfl rfl) ?_
  refine XR (fun i : Nat => i ≤ N ∧ (Xq gl a2 i).1.length = i) (fun i => ⟨135, [(0, .ptr 0 0), (1, ai (8 - m)), (2, ai want), (6, .ptr 100 0), (7, .ptr 101 0), (11, ai N), (12, ai i)], [(0, oRd b (Xq gl a2 i).2.1 (Xq gl a2 i).2.2), (100, .box [ai 0, ai 0, ai 0, .d (.v (.string (X4 []))), ani]), (101, .box [ai 8, ai 0, ai 0, .d (.v (.string (X4 []))), .own 121 (Xq gl a2 i).1.length]), (121, .row 5 (Xs (Xq gl a2 i).1))]⟩) (fun i => N - i) 0 ⟨by omega, rfl⟩
   (Xc rfl ⟨JL, JL, JL, JL, JL, JL, JL, trivial⟩ ⟨rfl, rfl, rfl, rfl, trivial⟩) ?_
  intro i hi
  obtain ⟨hi, hil⟩ := hi
  have hlen := U2 (Xq gl a2 i).1
  by_cases hpe : (Xq gl a2 i).2.2 = 0
  case neg =>
   have hst := Vz hpe N hi
   rw [hst] at hG
   generalize Xq gl a2 i = p at *
   obtain ⟨l, pa, pe⟩ := p
   simp only at hpe hil hG hlen hst
   clear hst
   obtain rfl : R = (.mk 8 0 0 [] l, pa, pe) := by rw [hG]; simp [Ya, hpe]
   refine Xu (Y1 121 rfl) ?_
   refine Xu (UT 101 4 121 (cs := [ai 8, ai 0, ai 0, .d (.v (.string (X4 []))), .own 121 l.length]) (sz := 5) (xs := Xs l) rfl rfl rfl hlen.symm) ?_
   by_cases hiN : i < N
   ·refine X0 ?_; refine X0 ?_; refine JR ?_; refine Z1 ?_; refine Z1 ?_; refine Z8 ?_; refine Z1 ?_; refine Z1 ?_; refine Z00 ?_; refine Zz ?_; refine ZA ?_; refine Zu ?_; refine Zk ?_; refine JD ?_; refine JF ?_
    refine Xv ?_; refine X0 ?_; refine X0 ?_; refine JR ?_; refine Z1 ?_; refine Z00 ?_; refine Zz ?_; refine ZA ?_; refine Zu ?_; refine Z1 ?_; refine Zl ?_; refine Zl ?_; refine Zl ?_; refine Zn ?_
    refine JD ?_; refine JF ?_; refine X3 ?_; refine X0 ?_; refine JR ?_; refine ZL ?_; refine Zw ?_; refine JD ?_
    exact X1 ⟨_, St.le_refl _, ⟨⟨100, 0, _, rfl, rfl, .inr ⟨5, _, rfl, rfl, rfl, rfl⟩⟩, trivial⟩, Xi ⟨rfl, trivial⟩⟩
   ·refine X0 ?_; refine X0 ?_; refine JR ?_; refine Z1 ?_; refine Z1 ?_; refine Z8 ?_; refine Z1 ?_; refine Zl ?_; refine Zl ?_; refine Zl ?_; refine Zl ?_; refine Zl ?_; refine Zn ?_; refine JD ?_; refine JF ?_
    refine Xv ?_; refine X0 ?_; refine X0 ?_; refine JR ?_; refine Z1 ?_; refine Z00 ?_; refine Zz ?_; refine ZA ?_; refine Zu ?_; refine Z1 ?_; refine Zl ?_; refine Zl ?_; refine Zl ?_; refine Zn ?_
    refine JD ?_; refine JF ?_; refine X3 ?_; refine X0 ?_; refine JR ?_; refine ZL ?_; refine Zw ?_; refine JD ?_
    exact X1 ⟨_, St.le_refl _, ⟨⟨100, 0, _, rfl, rfl, .inr ⟨5, _, rfl, rfl, rfl, rfl⟩⟩, trivial⟩, Xi ⟨rfl, trivial⟩⟩
  by_cases hiN : i < N
  case neg =>
   obtain rfl : i = N := by omega
   generalize Xq gl a2 i = p at *
   obtain ⟨l, pa, pe⟩ := p
   simp only at hpe hil hG hlen
   subst hpe
   have hval := UF (.mk 8 0 0 [] l)
   simp only [Xb] at hval
   refine Xu (Y1 121 rfl) ?_
   refine Xu (UT 101 4 121 (cs := [ai 8, ai 0, ai 0, .d (.v (.string (X4 []))), .own 121 l.length]) (sz := 5) (xs := Xs l) rfl rfl rfl hlen.symm) ?_
   cases hv : X6 8 (.mk 8 0 0 [] l) with
   | false =>
    rw [hv] at hval
    obtain rfl : R = (.mk 8 0 0 [] l, pa, 2) := by rw [hG]; simp [Ya, hv]
    refine X0 ?_; refine X0 ?_; refine JR ?_; refine Z1 ?_; refine Z1 ?_; refine Z8 ?_; refine Z1 ?_; refine Zl ?_; refine Zl ?_; refine Zl ?_; refine Zl ?_; refine Zl ?_; refine Zn ?_; refine JD ?_; refine JF ?_
    refine Xv ?_; refine X0 ?_; refine X0 ?_; refine JR ?_; refine Z1 ?_; refine Z00 ?_; refine Zz ?_; refine ZA ?_; refine Zu ?_; refine Z1 ?_; refine ZL ?_; refine Z9 (hcon := hval) ?_; refine Zr ?_
    refine Zk ?_; refine JD ?_; refine JT ?_; refine JR ?_; refine Z1 ?_; refine Z00 ?_; refine Zz ?_; refine Zw ?_; refine JD ?_; refine X0 ?_; refine JR ?_; refine ZL ?_; refine Zw ?_; refine JD ?_
    exact X1 ⟨_, St.le_refl _, ⟨⟨100, 0, _, rfl, rfl, .inr ⟨5, _, rfl, rfl, rfl, rfl⟩⟩, trivial⟩, Xi ⟨rfl, trivial⟩⟩
   | true =>
    rw [hv] at hval
    obtain rfl : R = (.mk 8 0 0 [] l, pa, 0) := by rw [hG]; simp [Ya, hv]
    refine X0 ?_; refine X0 ?_; refine JR ?_; refine Z1 ?_; refine Z1 ?_; refine Z8 ?_; refine Z1 ?_; refine Zl ?_; refine Zl ?_; refine Zl ?_; refine Zl ?_; refine Zl ?_; refine Zn ?_; refine JD ?_; refine JF ?_
    refine Xv ?_; refine X0 ?_; refine X0 ?_; refine JR ?_; refine Z1 ?_; refine Z00 ?_; refine Zz ?_; refine ZA ?_; refine Zu ?_; refine Z1 ?_; refine ZL ?_; refine Z9 (hcon := hval) ?_; refine Zr ?_
    refine Zk ?_; refine JD ?_; refine JF ?_; refine X3 ?_; refine X0 ?_; refine JR ?_; refine ZL ?_; refine Zw ?_; refine JD ?_
    exact X1 ⟨_, St.le_refl _, ⟨⟨100, 0, _, rfl, rfl, .inr ⟨5, _, rfl, rfl, rfl, rfl⟩⟩, trivial⟩, Xi ⟨rfl, trivial⟩⟩
  obtain ⟨q, hq1, hq2⟩ := X0p hge h00 i hpe
  have hcall := hg i q hq2
  unfold V2 at hcall
  have hsucc := Vg hpe
  have hsl := X24 hpe
  rw [hq1] at hsucc
  generalize gl i q = r at hcall hsucc
  generalize Xq gl a2 i = p at *
  obtain ⟨l, pa, pe⟩ := p
  obtain ⟨x, xa, xe⟩ := r
  simp only at hq1 hpe hil hsucc hlen hcall
  subst hq1 hpe
  obtain ⟨xk, xn, xd, xs, xl⟩ := x
  simp only [Xb] at hcall
  skip
  refine X0 ?_; refine X0 ?_; refine JR ?_; refine Z1 ?_; refine Z1 ?_; refine Z8 ?_; refine Z1 ?_; refine Z1 ?_; refine Z00 ?_; refine Zz ?_; refine ZA ?_; refine Zu ?_; refine Zk ?_; refine JD ?_; refine JT ?_
  refine X3 ?_; refine X0 ?_; refine X5 ?_; refine JR ?_; refine Zz ?_; refine ZA ?_; refine Z1 ?_; refine Z1 ?_; refine Zb ?_; refine Z9 (hcon := hcall) ?_; refine Z5 ?_; refine Z6 ?_; refine Zz ?_
  refine Zw ?_; refine JD ?_; refine JR ?_; refine Z1 ?_; refine Zb ?_; refine Z0 ?_; refine JD ?_
  refine ⟨i + 1, ⟨by omega, hsl⟩, by omega, ?_⟩
  dsimp only
  rw [hsucc]
  refine Xc rfl ⟨JL, JL, JL, JL, JL, JL, JL, trivial⟩ ⟨rfl, rfl, ?_, ?_, trivial⟩
  ·refine Eq.trans (b := AObj.box ([ai 8, ai 0, ai 0, .d (.v (.string (X4 []))), .own 121 _])) rfl ?_
   congr 6; simp [hlen]
  ·exact congrArg (AObj.row 5) (X2z l xk xn xd xs xl)
end Go.Fw
namespace Go.Fw
open Go Go.Proofs
set_option maxRecDepth 100000
set_option linter.unusedVariables false
set_option linter.unusedSimpArgs false
theorem XaD (b : List UInt8) (m a : Nat) (want : Int) (gl gp : Nat → Int → Val × Int × Int) (R : Val × Int × Int) (hm : m ≤ 8) (ha : a < b.length) (hb : b.length ≤ 281474976710656)
  (hge : ∀ i q : Nat, q ≤ b.length → YI b (gp i q).2) (hg : ∀ i q : Nat, q ≤ b.length → V2 b q (8 - m) (5 + (i % 2 : Nat)) (gp i q))
  (hk : Con Tryz.prog 120 [(0, oRd b a 0)] [.ptr 0 0, ai (8 - m), ai want] [(0, oRd b ((a : Int) + 1) 0)] (ai 7)) (hG : R = Ya (XS gl gp b (a + 1) 7)) : V2 b a (8 - m) want R := by
 refine X8 (xs := [Xb R.1]) Tryz.func96 rfl Tryz.ntmps96 rfl rfl rfl (fun E => ?_)
 ·have hc := XbR b (a + 1) 0 hb
  have hcz : XS gl gp b (a + 1) 7 = if Yz 7 (Xg b (a + 1)) ≠ 0 then (.mk 7 0 0 [] [], (Xg b (a + 1)).2.1, Yz 7 (Xg b (a + 1))) else
    (.mk 7 0 0 [] (Xq gp (Xg b (a + 1)).2.1 (Xg b (a + 1)).1.toNat).1, (Xq gp (Xg b (a + 1)).2.1 (Xg b (a + 1)).1.toNat).2.1, (Xq gp (Xg b (a + 1)).2.1 (Xg b (a + 1)).1.toNat).2.2) := by
   simp only [XS, Yz]
   by_cases e1 : (Xg b (a + 1)).2.2 = 0
   ·by_cases e2 : YC 7 (Xg b (a + 1)).1 = true <;> simp [e1, e2]
   ·simp [e1]
  have hue := VJ b (a + 1)
  obtain ⟨N, hN⟩ := X13 b (a + 1)
  have hNb : Yz 7 (Xg b (a + 1)) = 0 → (Xg b (a + 1)).2.2 = 0 ∧ N ≤ 64 := by
   unfold Yz
   rw [hN]
   split
   ·intro h; contradiction
   ·rename_i h1
    split
    ·intro h; simp at h
    ·rename_i h2
     refine fun _ => ⟨Classical.not_not.1 h1, ?_⟩
     simp [YC] at h2
     omega
  generalize Yz 7 (Xg b (a + 1)) = ce at *
  generalize Xg b (a + 1) = u at *
  obtain ⟨n, a2, e2⟩ := u
  simp only at hN
  subst hN
  simp only [Int.toNat_natCast] at hc hcz hue hNb
  by_cases hce : ce = 0
  case neg =>
   rw [if_pos hce] at hcz
   rw [hcz] at hG
   obtain rfl : R = (.mk 7 0 0 [] [], a2, ce) := by rw [hG]; simp [Ya, hce]
   repeat first | refine X0 ?_ | (refine JR ?_; (repeat first | refine Z1 ?_ | refine Z0 ?_ | refine Z00 ?_ | refine Zz ?_ | refine ZA ?_ | refine Zu ?_ | refine Zs ?_ | refine Zt (γ := 100) ?_ | refine Zt (γ := 101) ?_ | refine Zw ?_ | refine Zv ?_ | refine Z9 (hcon := hk) ?_ | refine Z9 (hcon := hc) ?_); refine JD ?_) | refine JT ?_ | refine JF ?_ | refine X5 ?_ | refine X3 ?_
   refine XR (fun _ : Unit => True) (fun _ => ⟨135, [(0, .ptr 0 0), (1, ai (8 - m)), (2, ai want), (6, .ptr 100 0), (7, .ptr 101 0), (13, ai N), (14, ai 0)], [(0, oRd b a2 ce), (100, .box [ai 0, ai 0, ai 0, .d (.v (.string (X4 []))), ani]), (101, .box [ai 7, ai 0, ai 0, .d (.v (.string (X4 []))), ani])]⟩) (fun _ => 0) () trivial
    (Xc rfl ⟨JL, JL, JL, JL, JL, JL, JL, trivial⟩ ⟨rfl, rfl, rfl, trivial⟩) ?_
   intro _ _
   by_cases h0N : 0 < N
   ·refine X0 ?_; refine X0 ?_; refine JR ?_; refine Z1 ?_; refine Z1 ?_; refine Z8 ?_; refine Z1 ?_; refine Z1 ?_; refine Z00 ?_; refine Zz ?_; refine ZA ?_; refine Zu ?_; refine Zk ?_; refine JD ?_; refine JF ?_
    refine Xv ?_; refine X0 ?_; refine X0 ?_; refine JR ?_; refine Z1 ?_; refine Z00 ?_; refine Zz ?_; refine ZA ?_; refine Zu ?_; refine Z1 ?_; refine Zl ?_; refine Zl ?_; refine Zl ?_; refine Zn ?_
    refine JD ?_; refine JF ?_; refine X3 ?_; refine X0 ?_; refine JR ?_; refine ZL ?_; refine Zw ?_; refine JD ?_
    exact X1 ⟨_, Xm 100 (cs := [ai 7, ai 0, ai 0, .d (.v (.string (X4 []))), ani]) (cs' := [ai 7, ai 0, ai 0, .d (.v (.string (X4 []))), .d (.sl 5 [])]) rfl ⟨AVal.le_refl _, AVal.le_refl _, AVal.le_refl _, AVal.le_refl _, AVal.le_nil 5, trivial⟩ rfl, ⟨⟨100, 0, _, rfl, rfl, .inr ⟨5, _, rfl, rfl, rfl, rfl⟩⟩, trivial⟩, Xi ⟨rfl, trivial⟩⟩
   ·refine X0 ?_; refine X0 ?_; refine JR ?_; refine Z1 ?_; refine Z1 ?_; refine Z8 ?_; refine Z1 ?_; refine Zl ?_; refine Zl ?_; refine Zl ?_; refine Zl ?_; refine Zl ?_; refine Zn ?_; refine JD ?_; refine JF ?_
    refine Xv ?_; refine X0 ?_; refine X0 ?_; refine JR ?_; refine Z1 ?_; refine Z00 ?_; refine Zz ?_; refine ZA ?_; refine Zu ?_; refine Z1 ?_; refine Zl ?_; refine Zl ?_; refine Zl ?_; refine Zn ?_
    refine JD ?_; refine JF ?_; refine X3 ?_; refine X0 ?_; refine JR ?_; refine ZL ?_; refine Zw ?_; refine JD ?_
    exact X1 ⟨_, Xm 100 (cs := [ai 7, ai 0, ai 0, .d (.v (.string (X4 []))), ani]) (cs' := [ai 7, ai 0, ai 0, .d (.v (.string (X4 []))), .d (.sl 5 [])]) rfl ⟨AVal.le_refl _, AVal.le_refl _, AVal.le_refl _, AVal.le_refl _, AVal.le_nil 5, trivial⟩ rfl, ⟨⟨100, 0, _, rfl, rfl, .inr ⟨5, _, rfl, rfl, rfl, rfl⟩⟩, trivial⟩, Xi ⟨rfl, trivial⟩⟩
  subst hce
  obtain ⟨he2, hN⟩ := hNb rfl
  subst he2
  rw [if_neg (by simp)] at hcz
  rw [hcz] at hG
  clear hcz
  have h00 := hue rfl
  simp only at h00
  clear hue
  repeat first | refine X0 ?_ | (refine JR ?_; (repeat first | refine Z1 ?_ | refine Z0 ?_ | refine Z00 ?_ | refine Zz ?_ | refine ZA ?_ | refine Zu ?_ | refine Zs ?_ | refine Zt (γ := 100) ?_ | refine Zt (γ := 101) ?_ | refine Zw ?_ | refine Zv ?_ | refine Z9 (hcon := hk) ?_ | refine Z9 (hcon := hc) ?_); refine JD ?_) | refine JT ?_ | refine JF ?_ | refine X5 ?_ | refine X3 ?_
  refine Xu (X10 101 4 121 5 (cs := [ai 7, ai 0, ai 0, .d (.v (.string (X4 []))), ani]) rfl rfl rfl rfl rfl) ?_
  refine XR (fun i : Nat => i ≤ N ∧ (Xq gp a2 i).1.length = i) (fun i => ⟨135, [(0, .ptr 0 0), (1, ai (8 - m)), (2, ai want), (6, .ptr 100 0), (7, .ptr 101 0), (13, ai N), (14, ai i)], [(0, oRd b (Xq gp a2 i).2.1 (Xq gp a2 i).2.2), (100, .box [ai 0, ai 0, ai 0, .d (.v (.string (X4 []))), ani]), (101, .box [ai 7, ai 0, ai 0, .d (.v (.string (X4 []))), .own 121 (Xq gp a2 i).1.length]), (121, .row 5 (Xs (Xq gp a2 i).1))]⟩) (fun i => N - i) 0 ⟨by omega, rfl⟩
   (Xc rfl ⟨JL, JL, JL, JL, JL, JL, JL, trivial⟩ ⟨rfl, rfl, rfl, rfl, trivial⟩) ?_
  intro i hi
  obtain ⟨hi, hil⟩ := hi
  have hlen := U2 (Xq gp a2 i).1
  by_cases hpe : (Xq gp a2 i).2.2 = 0
  case neg =>
   have hst := Vz hpe N hi
   rw [hst] at hG
   generalize Xq gp a2 i = p at *
   obtain ⟨l, pa, pe⟩ := p
   simp only at hpe hil hG hlen hst
   clear hst
   obtain rfl : R = (.mk 7 0 0 [] l, pa, pe) := by rw [hG]; simp [Ya, hpe]
   refine Xu (Y1 121 rfl) ?_
   refine Xu (UT 101 4 121 (cs := [ai 7, ai 0, ai 0, .d (.v (.string (X4 []))), .own 121 l.length]) (sz := 5) (xs := Xs l) rfl rfl rfl hlen.symm) ?_
   by_cases hiN : i < N
   ·refine X0 ?_; refine X0 ?_; refine JR ?_; refine Z1 ?_; refine Z1 ?_; refine Z8 ?_; refine Z1 ?_; refine Z1 ?_; refine Z00 ?_; refine Zz ?_; refine ZA ?_; refine Zu ?_; refine Zk ?_; refine JD ?_; refine JF ?_
    refine Xv ?_; refine X0 ?_; refine X0 ?_; refine JR ?_; refine Z1 ?_; refine Z00 ?_; refine Zz ?_; refine ZA ?_; refine Zu ?_; refine Z1 ?_; refine Zl ?_; refine Zl ?_; refine Zl ?_; refine Zn ?_
    refine JD ?_; refine JF ?_; refine X3 ?_; refine X0 ?_; refine JR ?_; refine ZL ?_; refine Zw ?_; refine JD ?_
    exact X1 ⟨_, St.le_refl _, ⟨⟨100, 0, _, rfl, rfl, .inr ⟨5, _, rfl, rfl, rfl, rfl⟩⟩, trivial⟩, Xi ⟨rfl, trivial⟩⟩
   ·refine X0 ?_; refine X0 ?_; refine JR ?_; refine Z1 ?_; refine Z1 ?_; refine Z8 ?_; refine Z1 ?_; refine Zl ?_; refine Zl ?_; refine Zl ?_; refine Zl ?_; refine Zl ?_; refine Zn ?_; refine JD ?_; refine JF ?_
    refine Xv ?_; refine X0 ?_; refine X0 ?_; refine JR ?_; refine Z1 ?_; refine Z00 ?_; refine Zz ?_; refine ZA ?_; refine Zu ?_; refine Z1 ?_; refine Zl ?_; refine Zl ?_; refine Zl ?_; refine Zn ?_
    refine JD ?_; refine JF ?_; refine X3 ?_; refine X0 ?_; refine JR ?_; refine ZL ?_; refine Zw ?_; refine JD ?_
    exact X1 ⟨_, St.le_refl _, ⟨⟨100, 0, _, rfl, rfl, .inr ⟨5, _, rfl, rfl, rfl, rfl⟩⟩, trivial⟩, Xi ⟨rfl, trivial⟩⟩
  by_cases hiN : i < N
  case neg =>
   obtain rfl : i = N := by omega
   generalize Xq gp a2 i = p at *
   obtain ⟨l, pa, pe⟩ := p
   simp only at hpe hil hG hlen
   subst hpe
   have hval := UF (.mk 7 0 0 [] l)
   simp only [Xb] at hval
   refine Xu (Y1 121 rfl) ?_
   refine Xu (UT 101 4 121 (cs := [ai 7, ai 0, ai 0, .d (.v (.string (X4 []))), .own 121 l.length]) (sz := 5) (xs := Xs l) rfl rfl rfl hlen.symm) ?_
   cases hv : X6 8 (.mk 7 0 0 [] l) with
   | false =>
    rw [hv] at hval
    obtain rfl : R = (.mk 7 0 0 [] l, pa, 2) := by rw [hG]; simp [Ya, hv]
    refine X0 ?_; refine X0 ?_; refine JR ?_; refine Z1 ?_; refine Z1 ?_; refine Z8 ?_; refine Z1 ?_; refine Zl ?_; refine Zl ?_; refine Zl ?_; refine Zl ?_; refine Zl ?_; refine Zn ?_; refine JD ?_; refine JF ?_
    refine Xv ?_; refine X0 ?_; refine X0 ?_; refine JR ?_; refine Z1 ?_; refine Z00 ?_; refine Zz ?_; refine ZA ?_; refine Zu ?_; refine Z1 ?_; refine ZL ?_; refine Z9 (hcon := hval) ?_; refine Zr ?_
    refine Zk ?_; refine JD ?_; refine JT ?_; refine JR ?_; refine Z1 ?_; refine Z00 ?_; refine Zz ?_; refine Zw ?_; refine JD ?_; refine X0 ?_; refine JR ?_; refine ZL ?_; refine Zw ?_; refine JD ?_
    exact X1 ⟨_, St.le_refl _, ⟨⟨100, 0, _, rfl, rfl, .inr ⟨5, _, rfl, rfl, rfl, rfl⟩⟩, trivial⟩, Xi ⟨rfl, trivial⟩⟩
   | true =>
    rw [hv] at hval
    obtain rfl : R = (.mk 7 0 0 [] l, pa, 0) := by rw [hG]; simp [Ya, hv]
    refine X0 ?_; refine X0 ?_; refine JR ?_; refine Z1 ?_; refine Z1 ?_; refine Z8 ?_; refine Z1 ?_; refine Zl ?_; refine Zl ?_; refine Zl ?_; refine Zl ?_; refine Zl ?_; refine Zn ?_; refine JD ?_; refine JF ?_
    refine Xv ?_; refine X0 ?_; refine X0 ?_; refine JR ?_; refine Z1 ?_; refine Z00 ?_; refine Zz ?_; refine ZA ?_; refine Zu ?_; refine Z1 ?_; refine ZL ?_; refine Z9 (hcon := hval) ?_; refine Zr ?_
    refine Zk ?_; refine JD ?_; refine JF ?_; refine X3 ?_; refine X0 ?_; refine JR ?_; refine ZL ?_; refine Zw ?_; refine JD ?_
    exact X1 ⟨_, St.le_refl _, ⟨⟨100, 0, _, rfl, rfl, .inr ⟨5, _, rfl, rfl, rfl, rfl⟩⟩, trivial⟩, Xi ⟨rfl, trivial⟩⟩
  obtain ⟨q, hq1, hq2⟩ := X0p hge h00 i hpe
  have hcall := hg i q hq2
  unfold V2 at hcall
  have hsucc := Vg hpe
  have hsl := X24 hpe
  rw [hq1] at hsucc
  generalize gp i q = r at hcall hsucc
  generalize Xq gp a2 i = p at *
  obtain ⟨l, pa, pe⟩ := p
  obtain ⟨x, xa, xe⟩ := r
  simp only at hq1 hpe hil hsucc hlen hcall
  subst hq1 hpe
  obtain ⟨xk, xn, xd, xs, xl⟩ := x
  simp only [Xb] at hcall
  have hi2 : ((i : Int) % 2) = ((i % 2 : Nat) : Int) := by omega
  refine X0 ?_; refine X0 ?_; refine JR ?_; refine Z1 ?_; refine Z1 ?_; refine Z8 ?_; refine Z1 ?_; refine Z1 ?_; refine Z00 ?_; refine Zz ?_; refine ZA ?_; refine Zu ?_; refine Zk ?_; refine JD ?_; refine JT ?_
  refine X3 ?_; refine X0 ?_; refine X5 ?_; refine JR ?_; refine Zz ?_; refine ZA ?_; refine Z1 ?_; refine Z1 ?_; refine Z1 ?_
  refine Z02 (op := .rem) (r' := .int .i64 ((i % 2 : Nat) : Int)) (u := .int .i64 i) (v := .int .i64 2) ?_ (hr' := by exact congrArg (Value.int .i64) hi2); refine Zb ?_; refine Z9 (hcon := hcall) ?_; refine Z5 ?_
  refine Z6 ?_; refine Zz ?_; refine Zw ?_; refine JD ?_; refine JR ?_; refine Z1 ?_; refine Zb ?_; refine Z0 ?_; refine JD ?_
  refine ⟨i + 1, ⟨by omega, hsl⟩, by omega, ?_⟩
  dsimp only
  rw [hsucc]
  refine Xc rfl ⟨JL, JL, JL, JL, JL, JL, JL, trivial⟩ ⟨rfl, rfl, ?_, ?_, trivial⟩
  ·refine Eq.trans (b := AObj.box ([ai 7, ai 0, ai 0, .d (.v (.string (X4 []))), .own 121 _])) rfl ?_
   congr 6; simp [hlen]
  ·exact congrArg (AObj.row 5) (X2z l xk xn xd xs xl)
end Go.Fw
namespace Go.Fw
open Go Go.Proofs
set_option maxRecDepth 100000
set_option linter.unusedVariables false
set_option linter.unusedSimpArgs false
theorem X2N (b : List UInt8) (m a : Nat) (want : Int) (gl gp : Nat → Int → Val × Int × Int) (hm : m ≤ 8) (ha : a ≤ b.length) (hb : b.length ≤ 281474976710656)
  (hgl : ∀ i q : Nat, q ≤ b.length → YI b (gl i q).2) (hgp : ∀ i q : Nat, q ≤ b.length → YI b (gp i q).2)
  (hl : want = 0 → m ≠ 0 → ∀ i q : Nat, q ≤ b.length → V2 b q (8 - m + 1) 0 (gl i q)) (hp : want = 0 → ∀ i q : Nat, q ≤ b.length → V2 b q (8 - m) (5 + (i % 2 : Nat)) (gp i q)) (hw : want ≠ 0 → want = 5 ∨ want = 6) :
  V2 b a (8 - m) want (Yw gl gp m b a want) := by
 have hk := X9S b a m want hm ha hb
 by_cases hbad : (U3 b a m want).2.2 = 0
 case neg =>
  rw [X9m hbad]
  refine X8 (xs := [Xb zV]) Tryz.func96 rfl Tryz.ntmps96 rfl rfl rfl (fun E => ?_)
  generalize U3 b a m want = u at *
  refine X0 ?_; refine JR ?_; refine Zt (γ := 100) ?_; refine JD ?_; refine X0 ?_; refine JR ?_; refine Z1 ?_; refine Z1 ?_; refine Z1 ?_; refine Z9 (hcon := hk) ?_; refine Zv ?_; refine Zt (γ := 101) ?_
  refine Zw ?_; refine JD ?_; refine X0 ?_; refine X0 ?_; refine JR ?_; refine Z1 ?_; refine Z00 ?_; refine Zz ?_; refine ZA ?_; refine Zs ?_; refine JD ?_; refine JT ?_; refine X0 ?_; refine JR ?_
  refine Zv ?_; refine Zw ?_; refine JD ?_
  exact X1 ⟨_, Xm 100 (cs := [ai 0, ai 0, ai 0, .d (.v (.string (X4 []))), ani]) (cs' := [ai 0, ai 0, ai 0, .d (.v (.string (X4 []))), .d (.sl 5 [])]) rfl ⟨AVal.le_refl _, AVal.le_refl _, AVal.le_refl _, AVal.le_refl _, AVal.le_nil 5, trivial⟩ rfl, ⟨⟨100, 0, _, rfl, rfl, .inr ⟨5, _, rfl, rfl, rfl, rfl⟩⟩, trivial⟩, Xi ⟨rfl, trivial⟩⟩
 obtain ⟨k, hkk, hlt, hk8, hkm, hkw, hG⟩ := X8S ha hbad
 rw [hkk] at hk
 clear hbad hkk
 replace hG := hG gl gp
 generalize hR : Yw gl gp m b a want = R at *
 simp only at hk
 by_cases h8 : k = 8
 ·subst h8
  have hw0 : want = 0 := Classical.byContradiction fun h => by
   have h1 := hkw h
   rcases hw h with h2 | h2 <;> omega
  exact X9a b m a want gl gp R hm hlt hb hgl (hl hw0 (hkm rfl)) hk hG
 by_cases h7 : k = 7
 ·subst h7
  have hw0 : want = 0 := Classical.byContradiction fun h => by
   have h1 := hkw h
   rcases hw h with h2 | h2 <;> omega
  exact XaD b m a want gl gp R hm hlt hb hgp (hp hw0) hk hG
 refine X8 (xs := [Xb R.1]) Tryz.func96 rfl Tryz.ntmps96 rfl rfl rfl (fun E => ?_)
 by_cases h0 : k = 0
 ·subst h0
  rw [show ((0 : Nat) : Int) = 0 from rfl] at hk hG
  rw [show XS gl gp b (a + 1) 0 = (.mk 0 0 0 [] [], (a : Int) + 1, 0) by simp [XS]] at hG
  have hval := UF (.mk 0 0 0 [] [])
  simp only [Xb] at hval
  have hv : X6 8 (.mk 0 0 0 [] []) = true := by rw [X6]; simp
  rw [hv] at hval
  obtain rfl : R = (.mk 0 0 0 [] [], (a : Int) + 1, 0) := by rw [hG]; simp [Ya, hv]
  repeat first | refine X0 ?_ | (refine JR ?_; (repeat first | refine Z1 ?_ | refine Z0 ?_ | refine Z00 ?_ | refine Zz ?_ | refine ZA ?_ | refine ZL ?_ | refine Zu ?_ | refine Zs ?_ | refine Zr ?_ | refine Zt (γ := 100) ?_ | refine Zt (γ := 101) ?_ | refine Zw ?_ | refine Zv ?_ | refine Zk ?_ | refine Z9 (hcon := hk) ?_ | refine Z9 (hcon := hval) ?_); refine JD ?_) | refine JF ?_ | refine X5 ?_ | refine X3 ?_
  exact X1 ⟨_, Xm 100 (cs := [ai 0, ai 0, ai 0, .d (.v (.string (X4 []))), ani]) (cs' := [ai 0, ai 0, ai 0, .d (.v (.string (X4 []))), .d (.sl 5 [])]) rfl ⟨AVal.le_refl _, AVal.le_refl _, AVal.le_refl _, AVal.le_refl _, AVal.le_nil 5, trivial⟩ rfl, ⟨⟨100, 0, _, rfl, rfl, .inr ⟨5, _, rfl, rfl, rfl, rfl⟩⟩, trivial⟩, Xi ⟨rfl, trivial⟩⟩
 by_cases h1 : k = 1
 ·subst h1
  rw [show ((1 : Nat) : Int) = 1 from rfl] at hk hG
  have hn := X0X b (a + 1) 0 hb
  rw [if_pos rfl, if_pos rfl] at hn
  rw [show XS gl gp b (a + 1) 1 = (.mk 1 (Xl b (a + 1)).1 0 [] [], (Xl b (a + 1)).2.1, (Xl b (a + 1)).2.2) by simp [XS]] at hG
  generalize Xl b (a + 1) = u at *
  obtain ⟨n, a2, e2⟩ := u
  simp only at hn hG
  by_cases he : e2 = 0
  ·subst he
   have hval := UF (.mk 1 n 0 [] [])
   simp only [Xb] at hval
   cases hv : X6 8 (.mk 1 n 0 [] []) with
   | false =>
    rw [hv] at hval
    obtain rfl : R = ((.mk 1 n 0 [] []), a2, 2) := by rw [hG]; simp [Ya, hv]
    repeat first | refine X0 ?_ | (refine JR ?_; (repeat first | refine Z1 ?_ | refine Z0 ?_ | refine Z00 ?_ | refine Zz ?_ | refine ZA ?_ | refine ZL ?_ | refine Zu ?_ | refine Zs ?_ | refine Zr ?_ | refine Zt (γ := 100) ?_ | refine Zt (γ := 101) ?_ | refine Zw ?_ | refine Zv ?_ | refine Zk ?_ | refine Z9 (hcon := hk) ?_ | refine Z9 (hcon := hn) ?_ | refine Z9 (hcon := hval) ?_); refine JD ?_) | refine JT ?_ | refine JF ?_ | refine X5 ?_ | refine X3 ?_
    exact X1 ⟨_, Xm 100 (cs := [ai 1, ai n, ai 0, .d (.v (.string (X4 []))), ani]) (cs' := [ai 1, ai n, ai 0, .d (.v (.string (X4 []))), .d (.sl 5 [])]) rfl ⟨AVal.le_refl _, AVal.le_refl _, AVal.le_refl _, AVal.le_refl _, AVal.le_nil 5, trivial⟩ rfl, ⟨⟨100, 0, _, rfl, rfl, .inr ⟨5, _, rfl, rfl, rfl, rfl⟩⟩, trivial⟩, Xi ⟨rfl, trivial⟩⟩
   | true =>
    rw [hv] at hval
    obtain rfl : R = ((.mk 1 n 0 [] []), a2, 0) := by rw [hG]; simp [Ya, hv]
    repeat first | refine X0 ?_ | (refine JR ?_; (repeat first | refine Z1 ?_ | refine Z0 ?_ | refine Z00 ?_ | refine Zz ?_ | refine ZA ?_ | refine ZL ?_ | refine Zu ?_ | refine Zs ?_ | refine Zr ?_ | refine Zt (γ := 100) ?_ | refine Zt (γ := 101) ?_ | refine Zw ?_ | refine Zv ?_ | refine Zk ?_ | refine Z9 (hcon := hk) ?_ | refine Z9 (hcon := hn) ?_ | refine Z9 (hcon := hval) ?_); refine JD ?_) | refine JT ?_ | refine JF ?_ | refine X5 ?_ | refine X3 ?_
    exact X1 ⟨_, Xm 100 (cs := [ai 1, ai n, ai 0, .d (.v (.string (X4 []))), ani]) (cs' := [ai 1, ai n, ai 0, .d (.v (.string (X4 []))), .d (.sl 5 [])]) rfl ⟨AVal.le_refl _, AVal.le_refl _, AVal.le_refl _, AVal.le_refl _, AVal.le_nil 5, trivial⟩ rfl, ⟨⟨100, 0, _, rfl, rfl, .inr ⟨5, _, rfl, rfl, rfl, rfl⟩⟩, trivial⟩, Xi ⟨rfl, trivial⟩⟩
  ·obtain rfl : R = ((.mk 1 n 0 [] []), a2, e2) := by rw [hG]; simp [Ya, he]
   repeat first | refine X0 ?_ | (refine JR ?_; (repeat first | refine Z1 ?_ | refine Z0 ?_ | refine Z00 ?_ | refine Zz ?_ | refine ZA ?_ | refine ZL ?_ | refine Zu ?_ | refine Zs ?_ | refine Zt (γ := 100) ?_ | refine Zt (γ := 101) ?_ | refine Zw ?_ | refine Zv ?_ | refine Zn ?_ | refine Zl ?_ | refine Z9 (hcon := hk) ?_ | refine Z9 (hcon := hn) ?_); refine JD ?_) | refine JT ?_ | refine JF ?_ | refine X5 ?_ | refine X3 ?_
   exact X1 ⟨_, Xm 100 (cs := [ai 1, ai n, ai 0, .d (.v (.string (X4 []))), ani]) (cs' := [ai 1, ai n, ai 0, .d (.v (.string (X4 []))), .d (.sl 5 [])]) rfl ⟨AVal.le_refl _, AVal.le_refl _, AVal.le_refl _, AVal.le_refl _, AVal.le_nil 5, trivial⟩ rfl, ⟨⟨100, 0, _, rfl, rfl, .inr ⟨5, _, rfl, rfl, rfl, rfl⟩⟩, trivial⟩, Xi ⟨rfl, trivial⟩⟩
 by_cases h2 : k = 2
 ·subst h2
  rw [show ((2 : Nat) : Int) = 2 from rfl] at hk hG
  have hn := X0X b (a + 1) 0 hb
  rw [if_pos rfl, if_pos rfl] at hn
  rw [show XS gl gp b (a + 1) 2 = (.mk 2 (Xl b (a + 1)).1 0 [] [], (Xl b (a + 1)).2.1, (Xl b (a + 1)).2.2) by simp [XS]] at hG
  generalize Xl b (a + 1) = u at *
  obtain ⟨n, a2, e2⟩ := u
  simp only at hn hG
  by_cases he : e2 = 0
  ·subst he
   have hval := UF (.mk 2 n 0 [] [])
   simp only [Xb] at hval
   cases hv : X6 8 (.mk 2 n 0 [] []) with
   | false =>
    rw [hv] at hval
    obtain rfl : R = ((.mk 2 n 0 [] []), a2, 2) := by rw [hG]; simp [Ya, hv]
    repeat first | refine X0 ?_ | (refine JR ?_; (repeat first | refine Z1 ?_ | refine Z0 ?_ | refine Z00 ?_ | refine Zz ?_ | refine ZA ?_ | refine ZL ?_ | refine Zu ?_ | refine Zs ?_ | refine Zr ?_ | refine Zt (γ := 100) ?_ | refine Zt (γ := 101) ?_ | refine Zw ?_ | refine Zv ?_ | refine Zk ?_ | refine Z9 (hcon := hk) ?_ | refine Z9 (hcon := hn) ?_ | refine Z9 (hcon := hval) ?_); refine JD ?_) | refine JT ?_ | refine JF ?_ | refine X5 ?_ | refine X3 ?_
    exact X1 ⟨_, Xm 100 (cs := [ai 2, ai n, ai 0, .d (.v (.string (X4 []))), ani]) (cs' := [ai 2, ai n, ai 0, .d (.v (.string (X4 []))), .d (.sl 5 [])]) rfl ⟨AVal.le_refl _, AVal.le_refl _, AVal.le_refl _, AVal.le_refl _, AVal.le_nil 5, trivial⟩ rfl, ⟨⟨100, 0, _, rfl, rfl, .inr ⟨5, _, rfl, rfl, rfl, rfl⟩⟩, trivial⟩, Xi ⟨rfl, trivial⟩⟩
   | true =>
    rw [hv] at hval
    obtain rfl : R = ((.mk 2 n 0 [] []), a2, 0) := by rw [hG]; simp [Ya, hv]
    repeat first | refine X0 ?_ | (refine JR ?_; (repeat first | refine Z1 ?_ | refine Z0 ?_ | refine Z00 ?_ | refine Zz ?_ | refine ZA ?_ | refine ZL ?_ | refine Zu ?_ | refine Zs ?_ | refine Zr ?_ | refine Zt (γ := 100) ?_ | refine Zt (γ := 101) ?_ | refine Zw ?_ | refine Zv ?_ | refine Zk ?_ | refine Z9 (hcon := hk) ?_ | refine Z9 (hcon := hn) ?_ | refine Z9 (hcon := hval) ?_); refine JD ?_) | refine JT ?_ | refine JF ?_ | refine X5 ?_ | refine X3 ?_
    exact X1 ⟨_, Xm 100 (cs := [ai 2, ai n, ai 0, .d (.v (.string (X4 []))), ani]) (cs' := [ai 2, ai n, ai 0, .d (.v (.string (X4 []))), .d (.sl 5 [])]) rfl ⟨AVal.le_refl _, AVal.le_refl _, AVal.le_refl _, AVal.le_refl _, AVal.le_nil 5, trivial⟩ rfl, ⟨⟨100, 0, _, rfl, rfl, .inr ⟨5, _, rfl, rfl, rfl, rfl⟩⟩, trivial⟩, Xi ⟨rfl, trivial⟩⟩
  ·obtain rfl : R = ((.mk 2 n 0 [] []), a2, e2) := by rw [hG]; simp [Ya, he]
   repeat first | refine X0 ?_ | (refine JR ?_; (repeat first | refine Z1 ?_ | refine Z0 ?_ | refine Z00 ?_ | refine Zz ?_ | refine ZA ?_ | refine ZL ?_ | refine Zu ?_ | refine Zs ?_ | refine Zt (γ := 100) ?_ | refine Zt (γ := 101) ?_ | refine Zw ?_ | refine Zv ?_ | refine Zn ?_ | refine Zl ?_ | refine Z9 (hcon := hk) ?_ | refine Z9 (hcon := hn) ?_); refine JD ?_) | refine JT ?_ | refine JF ?_ | refine X5 ?_ | refine X3 ?_
   exact X1 ⟨_, Xm 100 (cs := [ai 2, ai n, ai 0, .d (.v (.string (X4 []))), ani]) (cs' := [ai 2, ai n, ai 0, .d (.v (.string (X4 []))), .d (.sl 5 [])]) rfl ⟨AVal.le_refl _, AVal.le_refl _, AVal.le_refl _, AVal.le_refl _, AVal.le_nil 5, trivial⟩ rfl, ⟨⟨100, 0, _, rfl, rfl, .inr ⟨5, _, rfl, rfl, rfl, rfl⟩⟩, trivial⟩, Xi ⟨rfl, trivial⟩⟩
 by_cases h5 : k = 5
 ·subst h5
  rw [show ((5 : Nat) : Int) = 5 from rfl] at hk hG
  have hn := X0X b (a + 1) 0 hb
  rw [if_pos rfl, if_pos rfl] at hn
  rw [show XS gl gp b (a + 1) 5 = (.mk 5 (Xl b (a + 1)).1 0 [] [], (Xl b (a + 1)).2.1, (Xl b (a + 1)).2.2) by simp [XS]] at hG
  generalize Xl b (a + 1) = u at *
  obtain ⟨n, a2, e2⟩ := u
  simp only at hn hG
  by_cases he : e2 = 0
  ·subst he
   have hval := UF (.mk 5 n 0 [] [])
   simp only [Xb] at hval
   cases hv : X6 8 (.mk 5 n 0 [] []) with
   | false =>
    rw [hv] at hval
    obtain rfl : R = ((.mk 5 n 0 [] []), a2, 2) := by rw [hG]; simp [Ya, hv]
    repeat first | refine X0 ?_ | (refine JR ?_; (repeat first | refine Z1 ?_ | refine Z0 ?_ | refine Z00 ?_ | refine Zz ?_ | refine ZA ?_ | refine ZL ?_ | refine Zu ?_ | refine Zs ?_ | refine Zr ?_ | refine Zt (γ := 100) ?_ | refine Zt (γ := 101) ?_ | refine Zw ?_ | refine Zv ?_ | refine Zk ?_ | refine Z9 (hcon := hk) ?_ | refine Z9 (hcon := hn) ?_ | refine Z9 (hcon := hval) ?_); refine JD ?_) | refine JT ?_ | refine JF ?_ | refine X5 ?_ | refine X3 ?_
    exact X1 ⟨_, Xm 100 (cs := [ai 5, ai n, ai 0, .d (.v (.string (X4 []))), ani]) (cs' := [ai 5, ai n, ai 0, .d (.v (.string (X4 []))), .d (.sl 5 [])]) rfl ⟨AVal.le_refl _, AVal.le_refl _, AVal.le_refl _, AVal.le_refl _, AVal.le_nil 5, trivial⟩ rfl, ⟨⟨100, 0, _, rfl, rfl, .inr ⟨5, _, rfl, rfl, rfl, rfl⟩⟩, trivial⟩, Xi ⟨rfl, trivial⟩⟩
   | true =>
    rw [hv] at hval
    obtain rfl : R = ((.mk 5 n 0 [] []), a2, 0) := by rw [hG]; simp [Ya, hv]
    repeat first | refine X0 ?_ | (refine JR ?_; (repeat first | refine Z1 ?_ | refine Z0 ?_ | refine Z00 ?_ | refine Zz ?_ | refine ZA ?_ | refine ZL ?_ | refine Zu ?_ | refine Zs ?_ | refine Zr ?_ | refine Zt (γ := 100) ?_ | refine Zt (γ := 101) ?_ | refine Zw ?_ | refine Zv ?_ | refine Zk ?_ | refine Z9 (hcon := hk) ?_ | refine Z9 (hcon := hn) ?_ | refine Z9 (hcon := hval) ?_); refine JD ?_) | refine JT ?_ | refine JF ?_ | refine X5 ?_ | refine X3 ?_
    exact X1 ⟨_, Xm 100 (cs := [ai 5, ai n, ai 0, .d (.v (.string (X4 []))), ani]) (cs' := [ai 5, ai n, ai 0, .d (.v (.string (X4 []))), .d (.sl 5 [])]) rfl ⟨AVal.le_refl _, AVal.le_refl _, AVal.le_refl _, AVal.le_refl _, AVal.le_nil 5, trivial⟩ rfl, ⟨⟨100, 0, _, rfl, rfl, .inr ⟨5, _, rfl, rfl, rfl, rfl⟩⟩, trivial⟩, Xi ⟨rfl, trivial⟩⟩
  ·obtain rfl : R = ((.mk 5 n 0 [] []), a2, e2) := by rw [hG]; simp [Ya, he]
   repeat first | refine X0 ?_ | (refine JR ?_; (repeat first | refine Z1 ?_ | refine Z0 ?_ | refine Z00 ?_ | refine Zz ?_ | refine ZA ?_ | refine ZL ?_ | refine Zu ?_ | refine Zs ?_ | refine Zt (γ := 100) ?_ | refine Zt (γ := 101) ?_ | refine Zw ?_ | refine Zv ?_ | refine Zn ?_ | refine Zl ?_ | refine Z9 (hcon := hk) ?_ | refine Z9 (hcon := hn) ?_); refine JD ?_) | refine JT ?_ | refine JF ?_ | refine X5 ?_ | refine X3 ?_
   exact X1 ⟨_, Xm 100 (cs := [ai 5, ai n, ai 0, .d (.v (.string (X4 []))), ani]) (cs' := [ai 5, ai n, ai 0, .d (.v (.string (X4 []))), .d (.sl 5 [])]) rfl ⟨AVal.le_refl _, AVal.le_refl _, AVal.le_refl _, AVal.le_refl _, AVal.le_nil 5, trivial⟩ rfl, ⟨⟨100, 0, _, rfl, rfl, .inr ⟨5, _, rfl, rfl, rfl, rfl⟩⟩, trivial⟩, Xi ⟨rfl, trivial⟩⟩
 by_cases h6 : k = 6
 ·subst h6
  rw [show ((6 : Nat) : Int) = 6 from rfl] at hk hG
  have hn := X0X b (a + 1) 0 hb
  rw [if_pos rfl, if_pos rfl] at hn
  rw [show XS gl gp b (a + 1) 6 = (.mk 6 (Xl b (a + 1)).1 0 [] [], (Xl b (a + 1)).2.1, (Xl b (a + 1)).2.2) by simp [XS]] at hG
  generalize Xl b (a + 1) = u at *
  obtain ⟨n, a2, e2⟩ := u
  simp only at hn hG
  by_cases he : e2 = 0
  ·subst he
   have hval := UF (.mk 6 n 0 [] [])
   simp only [Xb] at hval
   cases hv : X6 8 (.mk 6 n 0 [] []) with
   | false =>
    rw [hv] at hval
    obtain rfl : R = ((.mk 6 n 0 [] []), a2, 2) := by rw [hG]; simp [Ya, hv]
    repeat first | refine X0 ?_ | (refine JR ?_; (repeat first | refine Z1 ?_ | refine Z0 ?_ | refine Z00 ?_ | refine Zz ?_ | refine ZA ?_ | refine ZL ?_ | refine Zu ?_ | refine Zs ?_ | refine Zr ?_ | refine Zt (γ := 100) ?_ | refine Zt (γ := 101) ?_ | refine Zw ?_ | refine Zv ?_ | refine Zk ?_ | refine Z9 (hcon := hk) ?_ | refine Z9 (hcon := hn) ?_ | refine Z9 (hcon := hval) ?_); refine JD ?_) | refine JT ?_ | refine JF ?_ | refine X5 ?_ | refine X3 ?_
    exact X1 ⟨_, Xm 100 (cs := [ai 6, ai n, ai 0, .d (.v (.string (X4 []))), ani]) (cs' := [ai 6, ai n, ai 0, .d (.v (.string (X4 []))), .d (.sl 5 [])]) rfl ⟨AVal.le_refl _, AVal.le_refl _, AVal.le_refl _, AVal.le_refl _, AVal.le_nil 5, trivial⟩ rfl, ⟨⟨100, 0, _, rfl, rfl, .inr ⟨5, _, rfl, rfl, rfl, rfl⟩⟩, trivial⟩, Xi ⟨rfl, trivial⟩⟩
   | true =>
    rw [hv] at hval
    obtain rfl : R = ((.mk 6 n 0 [] []), a2, 0) := by rw [hG]; simp [Ya, hv]
    repeat first | refine X0 ?_ | (refine JR ?_; (repeat first | refine Z1 ?_ | refine Z0 ?_ | refine Z00 ?_ | refine Zz ?_ | refine ZA ?_ | refine ZL ?_ | refine Zu ?_ | refine Zs ?_ | refine Zr ?_ | refine Zt (γ := 100) ?_ | refine Zt (γ := 101) ?_ | refine Zw ?_ | refine Zv ?_ | refine Zk ?_ | refine Z9 (hcon := hk) ?_ | refine Z9 (hcon := hn) ?_ | refine Z9 (hcon := hval) ?_); refine JD ?_) | refine JT ?_ | refine JF ?_ | refine X5 ?_ | refine X3 ?_
    exact X1 ⟨_, Xm 100 (cs := [ai 6, ai n, ai 0, .d (.v (.string (X4 []))), ani]) (cs' := [ai 6, ai n, ai 0, .d (.v (.string (X4 []))), .d (.sl 5 [])]) rfl ⟨AVal.le_refl _, AVal.le_refl _, AVal.le_refl _, AVal.le_refl _, AVal.le_nil 5, trivial⟩ rfl, ⟨⟨100, 0, _, rfl, rfl, .inr ⟨5, _, rfl, rfl, rfl, rfl⟩⟩, trivial⟩, Xi ⟨rfl, trivial⟩⟩
  ·obtain rfl : R = ((.mk 6 n 0 [] []), a2, e2) := by rw [hG]; simp [Ya, he]
   repeat first | refine X0 ?_ | (refine JR ?_; (repeat first | refine Z1 ?_ | refine Z0 ?_ | refine Z00 ?_ | refine Zz ?_ | refine ZA ?_ | refine ZL ?_ | refine Zu ?_ | refine Zs ?_ | refine Zt (γ := 100) ?_ | refine Zt (γ := 101) ?_ | refine Zw ?_ | refine Zv ?_ | refine Zn ?_ | refine Zl ?_ | refine Z9 (hcon := hk) ?_ | refine Z9 (hcon := hn) ?_); refine JD ?_) | refine JT ?_ | refine JF ?_ | refine X5 ?_ | refine X3 ?_
   exact X1 ⟨_, Xm 100 (cs := [ai 6, ai n, ai 0, .d (.v (.string (X4 []))), ani]) (cs' := [ai 6, ai n, ai 0, .d (.v (.string (X4 []))), .d (.sl 5 [])]) rfl ⟨AVal.le_refl _, AVal.le_refl _, AVal.le_refl _, AVal.le_refl _, AVal.le_nil 5, trivial⟩ rfl, ⟨⟨100, 0, _, rfl, rfl, .inr ⟨5, _, rfl, rfl, rfl, rfl⟩⟩, trivial⟩, Xi ⟨rfl, trivial⟩⟩
 by_cases h3 : k = 3
 ·subst h3
  rw [show ((3 : Nat) : Int) = 3 from rfl] at hk hG
  have hn := X0X b (a + 1) 0 hb
  rw [if_pos rfl, if_pos rfl] at hn
  have hz := @X84 b (a + 1)
  have hc : XS gl gp b (a + 1) 3 = if (Xl b (a + 1)).2.2 ≠ 0 then (.mk 3 0 0 [] [], (Xl b (a + 1)).2.1, (Xl b (a + 1)).2.2) else (.mk 3 (Xl b (a + 1)).1 (Xl b (Xl b (a + 1)).2.1).1 [] [], (Xl b (Xl b (a + 1)).2.1).2.1, (Xl b (Xl b (a + 1)).2.1).2.2) := by simp [XS]
  generalize Xl b (a + 1) = u at *
  obtain ⟨n, a2, e2⟩ := u
  simp only at hn hz hc
  have hn2 := X0X b a2 e2 hb
  by_cases he2 : e2 = 0
  ·subst he2
   rw [if_pos rfl, if_pos rfl] at hn2
   rw [if_neg (by simp)] at hc
   rw [hc] at hG
   generalize Xl b a2 = u at *
   obtain ⟨d, a3, e3⟩ := u
   simp only at hn2 hG
   by_cases he : e3 = 0
   ·subst he
    have hval := UF (.mk 3 n d [] [])
    simp only [Xb] at hval
    cases hv : X6 8 (.mk 3 n d [] []) with
    | false =>
     rw [hv] at hval
     obtain rfl : R = ((.mk 3 n d [] []), a3, 2) := by rw [hG]; simp [Ya, hv]
     repeat first | refine X0 ?_ | (refine JR ?_; (repeat first | refine Z1 ?_ | refine Z0 ?_ | refine Z00 ?_ | refine Zz ?_ | refine ZA ?_ | refine ZL ?_ | refine Zu ?_ | refine Zs ?_ | refine Zr ?_ | refine Zt (γ := 100) ?_ | refine Zt (γ := 101) ?_ | refine Zw ?_ | refine Zv ?_ | refine Zk ?_ | refine Z9 (hcon := hk) ?_ | refine Z9 (hcon := hn) ?_ | refine Z9 (hcon := hn2) ?_ | refine Z9 (hcon := hval) ?_); refine JD ?_) | refine JT ?_ | refine JF ?_ | refine X5 ?_ | refine X3 ?_
     exact X1 ⟨_, Xm 100 (cs := [ai 3, ai n, ai d, .d (.v (.string (X4 []))), ani]) (cs' := [ai 3, ai n, ai d, .d (.v (.string (X4 []))), .d (.sl 5 [])]) rfl ⟨AVal.le_refl _, AVal.le_refl _, AVal.le_refl _, AVal.le_refl _, AVal.le_nil 5, trivial⟩ rfl, ⟨⟨100, 0, _, rfl, rfl, .inr ⟨5, _, rfl, rfl, rfl, rfl⟩⟩, trivial⟩, Xi ⟨rfl, trivial⟩⟩
    | true =>
     rw [hv] at hval
     obtain rfl : R = ((.mk 3 n d [] []), a3, 0) := by rw [hG]; simp [Ya, hv]
     repeat first | refine X0 ?_ | (refine JR ?_; (repeat first | refine Z1 ?_ | refine Z0 ?_ | refine Z00 ?_ | refine Zz ?_ | refine ZA ?_ | refine ZL ?_ | refine Zu ?_ | refine Zs ?_ | refine Zr ?_ | refine Zt (γ := 100) ?_ | refine Zt (γ := 101) ?_ | refine Zw ?_ | refine Zv ?_ | refine Zk ?_ | refine Z9 (hcon := hk) ?_ | refine Z9 (hcon := hn) ?_ | refine Z9 (hcon := hn2) ?_ | refine Z9 (hcon := hval) ?_); refine JD ?_) | refine JT ?_ | refine JF ?_ | refine X5 ?_ | refine X3 ?_
     exact X1 ⟨_, Xm 100 (cs := [ai 3, ai n, ai d, .d (.v (.string (X4 []))), ani]) (cs' := [ai 3, ai n, ai d, .d (.v (.string (X4 []))), .d (.sl 5 [])]) rfl ⟨AVal.le_refl _, AVal.le_refl _, AVal.le_refl _, AVal.le_refl _, AVal.le_nil 5, trivial⟩ rfl, ⟨⟨100, 0, _, rfl, rfl, .inr ⟨5, _, rfl, rfl, rfl, rfl⟩⟩, trivial⟩, Xi ⟨rfl, trivial⟩⟩
   ·obtain rfl : R = ((.mk 3 n d [] []), a3, e3) := by rw [hG]; simp [Ya, he]
    repeat first | refine X0 ?_ | (refine JR ?_; (repeat first | refine Z1 ?_ | refine Z0 ?_ | refine Z00 ?_ | refine Zz ?_ | refine ZA ?_ | refine ZL ?_ | refine Zu ?_ | refine Zs ?_ | refine Zt (γ := 100) ?_ | refine Zt (γ := 101) ?_ | refine Zw ?_ | refine Zv ?_ | refine Zn ?_ | refine Zl ?_ | refine Z9 (hcon := hk) ?_ | refine Z9 (hcon := hn) ?_ | refine Z9 (hcon := hn2) ?_); refine JD ?_) | refine JT ?_ | refine JF ?_ | refine X5 ?_ | refine X3 ?_
    exact X1 ⟨_, Xm 100 (cs := [ai 3, ai n, ai d, .d (.v (.string (X4 []))), ani]) (cs' := [ai 3, ai n, ai d, .d (.v (.string (X4 []))), .d (.sl 5 [])]) rfl ⟨AVal.le_refl _, AVal.le_refl _, AVal.le_refl _, AVal.le_refl _, AVal.le_nil 5, trivial⟩ rfl, ⟨⟨100, 0, _, rfl, rfl, .inr ⟨5, _, rfl, rfl, rfl, rfl⟩⟩, trivial⟩, Xi ⟨rfl, trivial⟩⟩
  ·rw [if_neg he2, if_neg he2] at hn2
   rw [if_pos he2] at hc
   rw [hc] at hG
   obtain rfl := hz he2
   obtain rfl : R = (.mk 3 0 0 [] [], a2, e2) := by rw [hG]; simp [Ya, he2]
   repeat first | refine X0 ?_ | (refine JR ?_; (repeat first | refine Z1 ?_ | refine Z0 ?_ | refine Z00 ?_ | refine Zz ?_ | refine ZA ?_ | refine ZL ?_ | refine Zu ?_ | refine Zs ?_ | refine Zt (γ := 100) ?_ | refine Zt (γ := 101) ?_ | refine Zw ?_ | refine Zv ?_ | refine Zn ?_ | refine Zl ?_ | refine Z9 (hcon := hk) ?_ | refine Z9 (hcon := hn) ?_ | refine Z9 (hcon := hn2) ?_); refine JD ?_) | refine JT ?_ | refine JF ?_ | refine X5 ?_ | refine X3 ?_
   exact X1 ⟨_, Xm 100 (cs := [ai 3, ai 0, ai 0, .d (.v (.string (X4 []))), ani]) (cs' := [ai 3, ai 0, ai 0, .d (.v (.string (X4 []))), .d (.sl 5 [])]) rfl ⟨AVal.le_refl _, AVal.le_refl _, AVal.le_refl _, AVal.le_refl _, AVal.le_nil 5, trivial⟩ rfl, ⟨⟨100, 0, _, rfl, rfl, .inr ⟨5, _, rfl, rfl, rfl, rfl⟩⟩, trivial⟩, Xi ⟨rfl, trivial⟩⟩
 by_cases h4 : k = 4
 ·subst h4
  rw [show ((4 : Nat) : Int) = 4 from rfl] at hk hG
  have hn := X5u b (a + 1) 100 hb
  rw [show XS gl gp b (a + 1) 4 = (.mk 4 0 0 (Y3 b (a + 1) 100).1 [], (Y3 b (a + 1) 100).2.1, (Y3 b (a + 1) 100).2.2) by simp [XS]] at hG
  generalize Y3 b (a + 1) 100 = u at *
  obtain ⟨s, a2, e2⟩ := u
  simp only at hn hG
  by_cases he : e2 = 0
  ·subst he
   have hval := UF (.mk 4 0 0 s [])
   simp only [Xb] at hval
   cases hv : X6 8 (.mk 4 0 0 s []) with
   | false =>
    rw [hv] at hval
    obtain rfl : R = ((.mk 4 0 0 s []), a2, 2) := by rw [hG]; simp [Ya, hv]
    repeat first | refine X0 ?_ | (refine JR ?_; (repeat first | refine Z1 ?_ | refine Z0 ?_ | refine Z00 ?_ | refine Zz ?_ | refine ZA ?_ | refine ZL ?_ | refine Zu ?_ | refine Zs ?_ | refine Zr ?_ | refine Zt (γ := 100) ?_ | refine Zt (γ := 101) ?_ | refine Zw ?_ | refine Zv ?_ | refine ZD ?_ | refine Zk ?_ | refine Z9 (hcon := hk) ?_ | refine Z9 (hcon := hn) ?_ | refine Z9 (hcon := hval) ?_); refine JD ?_) | refine JT ?_ | refine JF ?_ | refine X5 ?_ | refine X3 ?_
    exact X1 ⟨_, Xm 100 (cs := [ai 4, ai 0, ai 0, .d (.v (.string (X4 s))), ani]) (cs' := [ai 4, ai 0, ai 0, .d (.v (.string (X4 s))), .d (.sl 5 [])]) rfl ⟨AVal.le_refl _, AVal.le_refl _, AVal.le_refl _, AVal.le_refl _, AVal.le_nil 5, trivial⟩ rfl, ⟨⟨100, 0, _, rfl, rfl, .inr ⟨5, _, rfl, rfl, rfl, rfl⟩⟩, trivial⟩, Xi ⟨rfl, trivial⟩⟩
   | true =>
    rw [hv] at hval
    obtain rfl : R = ((.mk 4 0 0 s []), a2, 0) := by rw [hG]; simp [Ya, hv]
    repeat first | refine X0 ?_ | (refine JR ?_; (repeat first | refine Z1 ?_ | refine Z0 ?_ | refine Z00 ?_ | refine Zz ?_ | refine ZA ?_ | refine ZL ?_ | refine Zu ?_ | refine Zs ?_ | refine Zr ?_ | refine Zt (γ := 100) ?_ | refine Zt (γ := 101) ?_ | refine Zw ?_ | refine Zv ?_ | refine ZD ?_ | refine Zk ?_ | refine Z9 (hcon := hk) ?_ | refine Z9 (hcon := hn) ?_ | refine Z9 (hcon := hval) ?_); refine JD ?_) | refine JT ?_ | refine JF ?_ | refine X5 ?_ | refine X3 ?_
    exact X1 ⟨_, Xm 100 (cs := [ai 4, ai 0, ai 0, .d (.v (.string (X4 s))), ani]) (cs' := [ai 4, ai 0, ai 0, .d (.v (.string (X4 s))), .d (.sl 5 [])]) rfl ⟨AVal.le_refl _, AVal.le_refl _, AVal.le_refl _, AVal.le_refl _, AVal.le_nil 5, trivial⟩ rfl, ⟨⟨100, 0, _, rfl, rfl, .inr ⟨5, _, rfl, rfl, rfl, rfl⟩⟩, trivial⟩, Xi ⟨rfl, trivial⟩⟩
  ·obtain rfl : R = ((.mk 4 0 0 s []), a2, e2) := by rw [hG]; simp [Ya, he]
   repeat first | refine X0 ?_ | (refine JR ?_; (repeat first | refine Z1 ?_ | refine Z0 ?_ | refine Z00 ?_ | refine Zz ?_ | refine ZA ?_ | refine ZL ?_ | refine Zu ?_ | refine Zs ?_ | refine Zt (γ := 100) ?_ | refine Zt (γ := 101) ?_ | refine Zw ?_ | refine Zv ?_ | refine ZD ?_ | refine Zn ?_ | refine Zl ?_ | refine Z9 (hcon := hk) ?_ | refine Z9 (hcon := hn) ?_); refine JD ?_) | refine JT ?_ | refine JF ?_ | refine X5 ?_ | refine X3 ?_
   exact X1 ⟨_, Xm 100 (cs := [ai 4, ai 0, ai 0, .d (.v (.string (X4 s))), ani]) (cs' := [ai 4, ai 0, ai 0, .d (.v (.string (X4 s))), .d (.sl 5 [])]) rfl ⟨AVal.le_refl _, AVal.le_refl _, AVal.le_refl _, AVal.le_refl _, AVal.le_nil 5, trivial⟩ rfl, ⟨⟨100, 0, _, rfl, rfl, .inr ⟨5, _, rfl, rfl, rfl, rfl⟩⟩, trivial⟩, Xi ⟨rfl, trivial⟩⟩
 omega
end Go.Fw
namespace Go.Fw
open Go Go.Proofs
set_option maxRecDepth 100000
set_option linter.unusedVariables false
set_option linter.unusedSimpArgs false
def rkI (b : List UInt8) (a e limit : Int) : Int × Int × Int := if e ≠ 0 then (0, a, e) else rkS b a.toNat 0 limit
def rnS (b : List UInt8) (a e : Int) : Int × Int × Int := if e ≠ 0 then (0, a, e) else Xg b a
def riS (b : List UInt8) (a e : Int) : Int × Int × Int := if e ≠ 0 then (0, a, e) else Xl b a
def rsS (b : List UInt8) (a e : Int) : List UInt8 × Int × Int := if e ≠ 0 then ([], a, e) else Y3 b a 20
def rvS (b : List UInt8) (a e : Int) : Val × Int × Int := if e ≠ 0 then (zV, a, e) else Y5 b a
theorem X38 (b : List UInt8) (a e limit : Int) (hb : b.length ≤ 281474976710656) (ha : e = 0 → 0 ≤ a ∧ a ≤ b.length) : Con Tryz.prog 40 [(0, oRd b a e)] [.ptr 0 0, ai limit] [(0, oRd b (rkI b a e limit).2.1 (rkI b a e limit).2.2)] (ai (rkI b a e limit).1) := by
 by_cases h : e = 0
 ·subst h
  obtain ⟨m, rfl⟩ : ∃ m : Nat, a = m := ⟨a.toNat, by have := ha rfl; omega⟩
  have := ha rfl
  have hk := X9g b m 0 limit hb (by omega)
  rw [show rkI b m 0 limit = rkS b m 0 limit by unfold rkI; simp]
  exact hk
 ·unfold rkI
  rw [if_pos h]
  refine X8 (xs := [ai 0]) Tryz.func40 rfl Tryz.ntmps40 rfl rfl rfl (fun E => ?_)
  refine X0 ?_; refine JR ?_; refine Z0 ?_; refine JD ?_; refine X0 ?_; refine X5 ?_; refine X0 ?_; refine JR ?_; refine Z1 ?_; refine Z00 ?_; refine Zz ?_; refine ZA ?_; refine Zs ?_; refine Z0 ?_
  refine JD ?_; refine JT ?_; refine X3 ?_; refine X0 ?_; refine JR ?_; refine Z0 ?_; refine JD ?_
  exact X1 ⟨_, St.le_refl _, ⟨rfl, trivial⟩, Xi ⟨rfl, trivial⟩⟩
theorem X1r (b : List UInt8) (a e : Int) (hb : b.length ≤ 281474976710656) : Con Tryz.prog 41 [(0, oRd b a e)] [.ptr 0 0] [(0, oRd b (rnS b a e).2.1 (rnS b a e).2.2)] (ai (rnS b a e).1) := by
 have h := XaV b a e hb
 unfold rnS
 by_cases he : e = 0
 ·rw [if_pos he, if_pos he] at h
  rw [if_neg (by simpa using he)]
  exact h
 ·rw [if_neg he, if_neg he] at h
  rw [if_pos he]
  exact h
theorem X0o (b : List UInt8) (a e : Int) (hb : b.length ≤ 281474976710656) : Con Tryz.prog 75 [(0, oRd b a e)] [.ptr 0 0] [(0, oRd b (rsS b a e).2.1 (rsS b a e).2.2)] (X7 (rsS b a e).1) := by
 refine X8 (xs := [X7 (rsS b a e).1]) Tryz.func75 rfl Tryz.ntmps75 rfl rfl rfl (fun E => ?_)
 have hu := X5u b a 20 hb
 unfold rsS
 generalize Y3 b a 20 = u at *
 obtain ⟨u1, u2, u3⟩ := u
 obtain ⟨r, hr⟩ : ∃ r, r = (if e ≠ 0 then (([] : List UInt8), a, e) else (u1, u2, u3)) := ⟨_, rfl⟩
 rw [← hr]
 refine X0 ?_; refine JR ?_; refine Z0 ?_; refine JD ?_; refine X0 ?_; refine JR ?_; refine Z0 ?_; refine JD ?_; refine X0 ?_; refine X0 ?_; refine JR ?_; refine Z1 ?_; refine Z00 ?_; refine Zz ?_
 refine ZA ?_; refine Zu ?_; refine JD ?_; refine Uy rfl (fun hq => ?_) (fun hq => ?_); refine X0 ?_; refine JR ?_; refine Z1 ?_; refine Z00 ?_; refine Zz ?_; refine ZA ?_; refine Z0 ?_; refine JD ?_
 refine JR ?_; refine Z1 ?_; refine Z1 ?_; refine Z1 ?_; refine Z00 ?_; refine Zz ?_; refine ZA ?_; refine Z1 ?_; refine Z9 (hcon := hu) ?_; refine Z1 ?_; refine ZD ?_; refine ZD ?_; refine ZD ?_; refine Z0 ?_
 refine Z00 ?_; refine Zz ?_; refine Zw ?_; refine Z00 ?_; refine Zz ?_; refine Zw ?_; refine JD ?_; refine X0 ?_; refine JR ?_; refine Z1 ?_; refine Z0 ?_; refine JD ?_
 (simp [*] at hr; subst hr; exact X1 ⟨_, St.le_refl _, ⟨rfl, trivial⟩, Xi ⟨rfl, trivial⟩⟩); refine X3 ?_; refine X0 ?_; refine JR ?_; refine Z1 ?_; refine Z0 ?_; refine JD ?_
 (simp [*] at hr; subst hr; exact X1 ⟨_, St.le_refl _, ⟨rfl, trivial⟩, Xi ⟨rfl, trivial⟩⟩)
end Go.Fw

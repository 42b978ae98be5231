/- Reading values by the reference: nested. -/
import Derived.Test.YtpfldfkhgplcgaaGreatDoorK38
set_option maxHeartbeats 16000000
namespace Go.Fw
open Go Go.Proofs
set_option maxRecDepth 100000
set_option linter.unusedVariables false
set_option linter.unusedSimpArgs false
theorem X6J (b : List UInt8) (m a : Nat) (want path : Int) (gl gp : Nat → Int → Val × Int × Int) (R : Val × Int × Int) (hm : m ≤ 8) (ha : a ≤ b.length) (hb : b.length ≤ 281474976710656)
  (hcont : a < b.length → ∀ k : Nat, k ≤ 8 → (k = 8 → m ≠ 0) → (want ≠ 0 → (k : Int) = want) → X5r b ((a : Int) + 1) k (8 - m) (YI gl gp b ((a : Int) + 1) k))
  (hok : ∀ k : Int, (YI gl gp b ((a : Int) + 1) k).2.2 = 0 → Yd (YI gl gp b ((a : Int) + 1) k).1)
  (hp : (path = -1 ∧ want = 0) ∨ ∃ i : Nat, path = i ∧ want = 5 + (i % 2 : Nat)) (hR : R = VK (U9 gl gp m b a want)) : X1S b a (8 - m) path R := by
 refine Xb (xs := [Xi R.1, ai R.2.1, ai R.2.2]) Tryz.func179 rfl Tryz.ntmps179 rfl rfl rfl (fun E => ?_)
 rw [Xfe, Int.toNat_natCast] at hR
 by_cases h1 : a = b.length
 ·rw [if_pos (by omega)] at hR
  subst hR
  have hai : (a : Int) = b.length := by omega
  refine Qia ?_; refine Qya ?_; refine QNb ?_; refine QQa ?_; refine Qr ?_; refine Qjb ?_; refine Zd ?_; refine Zl ?_; exact QHd
 rw [if_neg (by omega)] at hR
 have hai : ¬ (a : Int) = b.length := by omega
 obtain ⟨c, hc⟩ := Xv (l := b) (k := a) (by omega)
 rw [hc, Option.getD_some] at hR
 by_cases hg : ((c.toNat : Nat) : Int) ≤ 8 ∧ (c.toNat = 8 → m ≠ 0) ∧ (want ≠ 0 → ((c.toNat : Nat) : Int) = want)
 case neg =>
  rw [if_pos (by omega)] at hR
  subst hR
  by_cases h8 : 8 < ((c.toNat : Nat) : Int)
  ·repeat first | refine X0 ?_ | (refine JR ?_; (repeat first | refine Z1 ?_ | refine Z0 ?_ | refine Zk ?_ | refine Zd ?_ | refine Z8 ?_ | refine Zs ?_ | refine Zl ?_ | refine Zw (γ := 100) ?_ | refine Zy ?_ | refine Zx ?_ | refine Zn ?_ | refine Zq ?_ | refine Zj ?_ | refine ZY ?_ | refine Zo ?_ | refine Zp ?_); refine JD ?_) | refine JT ?_ | refine JF ?_ | refine X4 ?_
   exact QGd
  by_cases hk8 : ((c.toNat : Nat) : Int) = 8 ∧ (8 : Int) - m ≥ 8
  ·obtain ⟨hk1, hk2⟩ := hk8
   repeat first | refine X0 ?_ | (refine JR ?_; (repeat first | refine Z1 ?_ | refine Z0 ?_ | refine Zk ?_ | refine Zd ?_ | refine Z8 ?_ | refine Zs ?_ | refine Z2 ?_ | refine Zl ?_ | refine Zw (γ := 100) ?_ | refine Zy ?_ | refine Zx ?_ | refine Zn ?_ | refine Zq ?_ | refine Zj ?_ | refine ZY ?_ | refine Zo ?_ | refine Zp ?_); refine JD ?_) | refine JT ?_ | refine JF ?_ | refine X4 ?_
   exact QGd
  rcases hp with ⟨rfl, rfl⟩ | ⟨i, rfl, rfl⟩
  ·exfalso; omega
  have hi0 : (i : Int) ≥ 0 := by omega
  by_cases hk : ((c.toNat : Nat) : Int) = 8
  ·have hk2 : ¬ (8 : Int) - m ≥ 8 := fun h => hk8 ⟨hk, h⟩
   by_cases hi : i % 2 = 0
   ·have hi1 : ((i % 2 : Nat) : Int) = 0 := by omega
    have hi2 : ((c.toNat : Nat) : Int) ≠ 5 := by omega
    repeat first | refine X0 ?_ | (refine JR ?_; (repeat first | refine Z02 (op := .rem) (r' := .int .i64 ((i % 2 : Nat) : Int)) (u := .int .i64 i) (v := .int .i64 2) ?_ (hr' := by exact congrArg (Value.int .i64) (show ((i : Int) % 2) = ((i % 2 : Nat) : Int) by omega)) | refine Z1 ?_ | refine Z0 ?_ | refine Zk ?_ | refine Zd ?_ | refine Z8 ?_ | refine Zs ?_ | refine Z2 ?_ | refine Zl ?_ | refine Zv ?_ | refine Zw (γ := 100) ?_ | refine Zy ?_ | refine Zx ?_ | refine Zn ?_ | refine Zq ?_ | refine Zj ?_ | refine ZY ?_ | refine Zo ?_ | refine Zp ?_); refine JD ?_) | refine JT ?_ | refine JF ?_ | refine X4 ?_
    exact QGd
   ·have hi1 : ((i % 2 : Nat) : Int) ≠ 0 := by omega
    have hi3 : ((i % 2 : Nat) : Int) = 1 := by omega
    have hi2 : ((c.toNat : Nat) : Int) ≠ 6 := by omega
    repeat first | refine X0 ?_ | (refine JR ?_; (repeat first | refine Z02 (op := .rem) (r' := .int .i64 ((i % 2 : Nat) : Int)) (u := .int .i64 i) (v := .int .i64 2) ?_ (hr' := by exact congrArg (Value.int .i64) (show ((i : Int) % 2) = ((i % 2 : Nat) : Int) by omega)) | refine Z1 ?_ | refine Z0 ?_ | refine Zk ?_ | refine Zd ?_ | refine Z8 ?_ | refine Zs ?_ | refine Z2 ?_ | refine Zl ?_ | refine Zv ?_ | refine Zw (γ := 100) ?_ | refine Zy ?_ | refine Zx ?_ | refine Zn ?_ | refine Zq ?_ | refine Zj ?_ | refine ZY ?_ | refine Zo ?_); refine JD ?_) | refine JT ?_ | refine JF ?_ | refine X4 ?_
    exact QGd
  ·by_cases hi : i % 2 = 0
   ·have hi1 : ((i % 2 : Nat) : Int) = 0 := by omega
    have hi2 : ((c.toNat : Nat) : Int) ≠ 5 := by omega
    repeat first | refine X0 ?_ | (refine JR ?_; (repeat first | refine Z02 (op := .rem) (r' := .int .i64 ((i % 2 : Nat) : Int)) (u := .int .i64 i) (v := .int .i64 2) ?_ (hr' := by exact congrArg (Value.int .i64) (show ((i : Int) % 2) = ((i % 2 : Nat) : Int) by omega)) | refine Z1 ?_ | refine Z0 ?_ | refine Zk ?_ | refine Zd ?_ | refine Z8 ?_ | refine Zs ?_ | refine Z2 ?_ | refine Zl ?_ | refine Zv ?_ | refine Zw (γ := 100) ?_ | refine Zy ?_ | refine Zx ?_ | refine Zn ?_ | refine Zq ?_ | refine Zj ?_ | refine ZY ?_ | refine Zo ?_ | refine Zp ?_); refine JD ?_) | refine JT ?_ | refine JF ?_ | refine X4 ?_
    exact QGd
   ·have hi1 : ((i % 2 : Nat) : Int) ≠ 0 := by omega
    have hi3 : ((i % 2 : Nat) : Int) = 1 := by omega
    have hi2 : ((c.toNat : Nat) : Int) ≠ 6 := by omega
    repeat first | refine X0 ?_ | (refine JR ?_; (repeat first | refine Z02 (op := .rem) (r' := .int .i64 ((i % 2 : Nat) : Int)) (u := .int .i64 i) (v := .int .i64 2) ?_ (hr' := by exact congrArg (Value.int .i64) (show ((i : Int) % 2) = ((i % 2 : Nat) : Int) by omega)) | refine Z1 ?_ | refine Z0 ?_ | refine Zk ?_ | refine Zd ?_ | refine Z8 ?_ | refine Zs ?_ | refine Z2 ?_ | refine Zl ?_ | refine Zv ?_ | refine Zw (γ := 100) ?_ | refine Zy ?_ | refine Zx ?_ | refine Zn ?_ | refine Zq ?_ | refine Zj ?_ | refine ZY ?_ | refine Zo ?_); refine JD ?_) | refine JT ?_ | refine JF ?_ | refine X4 ?_
    exact QGd
 obtain ⟨hg1, hg2, hg3⟩ := hg
 rw [if_neg (by omega)] at hR
 have hcall := hcont (by omega) c.toNat (by omega) hg2 hg3
 have hokk := hok c.toNat
 unfold X5r at hcall
 generalize YI gl gp b ((a : Int) + 1) c.toNat = r at *
 obtain ⟨⟨vk, vn, vd, vs, vl⟩, x, e⟩ := r
 have hvalid := fun he => X28 (.mk vk vn vd vs vl) (hokk he)
 simp only [Xi] at hcall hvalid hR
 rcases hp with ⟨rfl, rfl⟩ | ⟨i, rfl, rfl⟩
 ·by_cases hk : ((c.toNat : Nat) : Int) = 8
  ·have hk2 : ¬ (8 : Int) - m ≥ 8 := by have := hg2 (by omega); omega
   by_cases he : e = 0
   case neg =>
    rw [if_pos he] at hR
    subst hR
    repeat first | refine X0 ?_ | (refine JR ?_; (repeat first | refine Z1 ?_ | refine Z0 ?_ | refine Zk ?_ | refine Zd ?_ | refine Z8 ?_ | refine Zs ?_ | refine Z2 ?_ | refine Zl ?_ | refine Zv ?_ | refine Zb ?_ | refine Zw (γ := 100) ?_ | refine Zw (γ := 101) ?_ | refine Zy ?_ | refine Zx ?_ | refine ZF ?_ | refine Zn ?_ | refine Zq ?_ | refine Zj ?_ | refine ZY ?_ | refine Zo ?_ | refine Z9 (hcon := hcall) ?_); refine JD ?_) | refine JT ?_ | refine JF ?_ | refine X4 ?_
    exact QGd
   subst he
   replace hvalid := hvalid rfl
   rw [if_neg (by simp)] at hR
   cases hv : X8 8 (.mk vk vn vd vs vl) with
   | false =>
    rw [hv] at hvalid hR
    rw [if_pos rfl] at hR
    subst hR
    repeat first | refine X0 ?_ | (refine JR ?_; (repeat first | refine Z1 ?_ | refine Z0 ?_ | refine ZL ?_ | refine Zk ?_ | refine Zd ?_ | refine Z8 ?_ | refine Zs ?_ | refine Z2 ?_ | refine Zl ?_ | refine Zv ?_ | refine Zb ?_ | refine Zu ?_ | refine Zw (γ := 100) ?_ | refine Zw (γ := 101) ?_ | refine Zy ?_ | refine Zx ?_ | refine ZF ?_ | refine Zn ?_ | refine Zq ?_ | refine Zj ?_ | refine ZY ?_ | refine Zo ?_ | refine Z9 (hcon := hcall) ?_ | refine Z9 (hcon := hvalid) ?_); refine JD ?_) | refine JT ?_ | refine JF ?_ | refine X4 ?_
    exact QGd
   | true =>
    rw [hv] at hvalid hR
    rw [if_neg (by simp)] at hR
    subst hR
    repeat first | refine X0 ?_ | (refine JR ?_; (repeat first | refine Z1 ?_ | refine Z0 ?_ | refine ZL ?_ | refine Zk ?_ | refine Zd ?_ | refine Z8 ?_ | refine Zs ?_ | refine Z2 ?_ | refine Zl ?_ | refine Zv ?_ | refine Zb ?_ | refine Zu ?_ | refine Zw (γ := 100) ?_ | refine Zw (γ := 101) ?_ | refine Zy ?_ | refine ZF ?_ | refine Zn ?_ | refine Zq ?_ | refine Zj ?_ | refine ZY ?_ | refine Zo ?_ | refine Z9 (hcon := hcall) ?_ | refine Z9 (hcon := hvalid) ?_); refine JD ?_) | refine JF ?_ | refine X4 ?_
    exact QId
  ·skip
   by_cases he : e = 0
   case neg =>
    rw [if_pos he] at hR
    subst hR
    repeat first | refine X0 ?_ | (refine JR ?_; (repeat first | refine Z1 ?_ | refine Z0 ?_ | refine Zk ?_ | refine Zd ?_ | refine Z8 ?_ | refine Zs ?_ | refine Z2 ?_ | refine Zl ?_ | refine Zv ?_ | refine Zb ?_ | refine Zw (γ := 100) ?_ | refine Zw (γ := 101) ?_ | refine Zy ?_ | refine Zx ?_ | refine ZF ?_ | refine Zq ?_ | refine Zj ?_ | refine ZY ?_ | refine Zo ?_ | refine Z9 (hcon := hcall) ?_); refine JD ?_) | refine JT ?_ | refine JF ?_ | refine X4 ?_
    exact QGd
   subst he
   replace hvalid := hvalid rfl
   rw [if_neg (by simp)] at hR
   cases hv : X8 8 (.mk vk vn vd vs vl) with
   | false =>
    rw [hv] at hvalid hR
    rw [if_pos rfl] at hR
    subst hR
    repeat first | refine X0 ?_ | (refine JR ?_; (repeat first | refine Z1 ?_ | refine Z0 ?_ | refine ZL ?_ | refine Zk ?_ | refine Zd ?_ | refine Z8 ?_ | refine Zs ?_ | refine Z2 ?_ | refine Zl ?_ | refine Zv ?_ | refine Zb ?_ | refine Zu ?_ | refine Zw (γ := 100) ?_ | refine Zw (γ := 101) ?_ | refine Zy ?_ | refine Zx ?_ | refine ZF ?_ | refine Zq ?_ | refine Zj ?_ | refine ZY ?_ | refine Zo ?_ | refine Z9 (hcon := hcall) ?_ | refine Z9 (hcon := hvalid) ?_); refine JD ?_) | refine JT ?_ | refine JF ?_ | refine X4 ?_
    exact QGd
   | true =>
    rw [hv] at hvalid hR
    rw [if_neg (by simp)] at hR
    subst hR
    repeat first | refine X0 ?_ | (refine JR ?_; (repeat first | refine Z1 ?_ | refine Z0 ?_ | refine ZL ?_ | refine Zk ?_ | refine Zd ?_ | refine Z8 ?_ | refine Zs ?_ | refine Z2 ?_ | refine Zl ?_ | refine Zv ?_ | refine Zb ?_ | refine Zu ?_ | refine Zw (γ := 100) ?_ | refine Zw (γ := 101) ?_ | refine Zy ?_ | refine ZF ?_ | refine Zq ?_ | refine Zj ?_ | refine ZY ?_ | refine Zo ?_ | refine Z9 (hcon := hcall) ?_ | refine Z9 (hcon := hvalid) ?_); refine JD ?_) | refine JF ?_ | refine X4 ?_
    exact QId
 have hi0 : (i : Int) ≥ 0 := by omega
 have hk : ¬ ((c.toNat : Nat) : Int) = 8 := by have := hg3 (by omega); omega
 by_cases hi : i % 2 = 0
 ·have hi1 : ((i % 2 : Nat) : Int) = 0 := by omega
  have hi2 : ((c.toNat : Nat) : Int) = 5 := by have := hg3 (by omega); omega
  have hi3 : ¬ ((i % 2 : Nat) : Int) = 1 := by omega
  by_cases he : e = 0
  case neg =>
   rw [if_pos he] at hR
   subst hR
   repeat first | refine X0 ?_ | (refine JR ?_; (repeat first | refine Z02 (op := .rem) (r' := .int .i64 ((i % 2 : Nat) : Int)) (u := .int .i64 i) (v := .int .i64 2) ?_ (hr' := by exact congrArg (Value.int .i64) (show ((i : Int) % 2) = ((i % 2 : Nat) : Int) by omega)) | refine Z1 ?_ | refine Z0 ?_ | refine Zk ?_ | refine Zd ?_ | refine Z8 ?_ | refine Zs ?_ | refine Z2 ?_ | refine Zl ?_ | refine Zv ?_ | refine Zb ?_ | refine Zw (γ := 100) ?_ | refine Zw (γ := 101) ?_ | refine Zy ?_ | refine Zx ?_ | refine ZF ?_ | refine Zn ?_ | refine Zq ?_ | refine Zj ?_ | refine ZY ?_ | refine Zo ?_ | refine Z9 (hcon := hcall) ?_); refine JD ?_) | refine JT ?_ | refine JF ?_ | refine X4 ?_
   exact QGd
  subst he
  replace hvalid := hvalid rfl
  rw [if_neg (by simp)] at hR
  cases hv : X8 8 (.mk vk vn vd vs vl) with
  | false =>
   rw [hv] at hvalid hR
   rw [if_pos rfl] at hR
   subst hR
   repeat first | refine X0 ?_ | (refine JR ?_; (repeat first | refine Z02 (op := .rem) (r' := .int .i64 ((i % 2 : Nat) : Int)) (u := .int .i64 i) (v := .int .i64 2) ?_ (hr' := by exact congrArg (Value.int .i64) (show ((i : Int) % 2) = ((i % 2 : Nat) : Int) by omega)) | refine Z1 ?_ | refine Z0 ?_ | refine ZL ?_ | refine Zk ?_ | refine Zd ?_ | refine Z8 ?_ | refine Zs ?_ | refine Z2 ?_ | refine Zl ?_ | refine Zv ?_ | refine Zb ?_ | refine Zu ?_ | refine Zw (γ := 100) ?_ | refine Zw (γ := 101) ?_ | refine Zy ?_ | refine Zx ?_ | refine ZF ?_ | refine Zn ?_ | refine Zq ?_ | refine Zj ?_ | refine ZY ?_ | refine Zo ?_ | refine Z9 (hcon := hcall) ?_ | refine Z9 (hcon := hvalid) ?_); refine JD ?_) | refine JT ?_ | refine JF ?_ | refine X4 ?_
   exact QGd
  | true =>
   rw [hv] at hvalid hR
   rw [if_neg (by simp)] at hR
   subst hR
   repeat first | refine X0 ?_ | (refine JR ?_; (repeat first | refine Z02 (op := .rem) (r' := .int .i64 ((i % 2 : Nat) : Int)) (u := .int .i64 i) (v := .int .i64 2) ?_ (hr' := by exact congrArg (Value.int .i64) (show ((i : Int) % 2) = ((i % 2 : Nat) : Int) by omega)) | refine Z1 ?_ | refine Z0 ?_ | refine ZL ?_ | refine Zk ?_ | refine Zd ?_ | refine Z8 ?_ | refine Zs ?_ | refine Z2 ?_ | refine Zl ?_ | refine Zv ?_ | refine Zb ?_ | refine Zu ?_ | refine Zw (γ := 100) ?_ | refine Zw (γ := 101) ?_ | refine Zy ?_ | refine ZF ?_ | refine Zn ?_ | refine Zq ?_ | refine Zj ?_ | refine ZY ?_ | refine Zo ?_ | refine Z9 (hcon := hcall) ?_ | refine Z9 (hcon := hvalid) ?_); refine JD ?_) | refine JF ?_ | refine X4 ?_
   exact QId
 have hi1 : ¬ ((i % 2 : Nat) : Int) = 0 := by omega
 have hi3 : ((i % 2 : Nat) : Int) = 1 := by omega
 have hi2 : ((c.toNat : Nat) : Int) = 6 := by have := hg3 (by omega); omega
 by_cases he : e = 0
 case neg =>
  rw [if_pos he] at hR
  subst hR
  repeat first | refine X0 ?_ | (refine JR ?_; (repeat first | refine Z02 (op := .rem) (r' := .int .i64 ((i % 2 : Nat) : Int)) (u := .int .i64 i) (v := .int .i64 2) ?_ (hr' := by exact congrArg (Value.int .i64) (show ((i : Int) % 2) = ((i % 2 : Nat) : Int) by omega)) | refine Z1 ?_ | refine Z0 ?_ | refine Zk ?_ | refine Zd ?_ | refine Z8 ?_ | refine Zs ?_ | refine Z2 ?_ | refine Zl ?_ | refine Zv ?_ | refine Zb ?_ | refine Zw (γ := 100) ?_ | refine Zw (γ := 101) ?_ | refine Zy ?_ | refine Zx ?_ | refine ZF ?_ | refine Zn ?_ | refine Zq ?_ | refine Zj ?_ | refine ZY ?_ | refine Zo ?_ | refine Z9 (hcon := hcall) ?_); refine JD ?_) | refine JT ?_ | refine JF ?_ | refine X4 ?_
  exact QGd
 subst he
 replace hvalid := hvalid rfl
 rw [if_neg (by simp)] at hR
 cases hv : X8 8 (.mk vk vn vd vs vl) with
 | false =>
  rw [hv] at hvalid hR
  rw [if_pos rfl] at hR
  subst hR
  repeat first | refine X0 ?_ | (refine JR ?_; (repeat first | refine Z02 (op := .rem) (r' := .int .i64 ((i % 2 : Nat) : Int)) (u := .int .i64 i) (v := .int .i64 2) ?_ (hr' := by exact congrArg (Value.int .i64) (show ((i : Int) % 2) = ((i % 2 : Nat) : Int) by omega)) | refine Z1 ?_ | refine Z0 ?_ | refine ZL ?_ | refine Zk ?_ | refine Zd ?_ | refine Z8 ?_ | refine Zs ?_ | refine Z2 ?_ | refine Zl ?_ | refine Zv ?_ | refine Zb ?_ | refine Zu ?_ | refine Zw (γ := 100) ?_ | refine Zw (γ := 101) ?_ | refine Zy ?_ | refine Zx ?_ | refine ZF ?_ | refine Zn ?_ | refine Zq ?_ | refine Zj ?_ | refine ZY ?_ | refine Zo ?_ | refine Z9 (hcon := hcall) ?_ | refine Z9 (hcon := hvalid) ?_); refine JD ?_) | refine JT ?_ | refine JF ?_ | refine X4 ?_
  exact QGd
 | true =>
  rw [hv] at hvalid hR
  rw [if_neg (by simp)] at hR
  subst hR
  repeat first | refine X0 ?_ | (refine JR ?_; (repeat first | refine Z02 (op := .rem) (r' := .int .i64 ((i % 2 : Nat) : Int)) (u := .int .i64 i) (v := .int .i64 2) ?_ (hr' := by exact congrArg (Value.int .i64) (show ((i : Int) % 2) = ((i % 2 : Nat) : Int) by omega)) | refine Z1 ?_ | refine Z0 ?_ | refine ZL ?_ | refine Zk ?_ | refine Zd ?_ | refine Z8 ?_ | refine Zs ?_ | refine Z2 ?_ | refine Zl ?_ | refine Zv ?_ | refine Zb ?_ | refine Zu ?_ | refine Zw (γ := 100) ?_ | refine Zw (γ := 101) ?_ | refine Zy ?_ | refine ZF ?_ | refine Zn ?_ | refine Zq ?_ | refine Zj ?_ | refine ZY ?_ | refine Zo ?_ | refine Z9 (hcon := hcall) ?_ | refine Z9 (hcon := hvalid) ?_); refine JD ?_) | refine JF ?_ | refine X4 ?_
  exact QId
theorem X5Y (i : Nat) (q : Int) (h : (noG i q).2.2 = 0) : X8 8 (noG i q).1 = true := by simp [noG] at h
theorem X73 (b : List UInt8) (i : Nat) (q : Int) (h : (Uu b i q).2.2 = 0) : X8 8 (Uu b i q).1 = true := X5A h
theorem XcF (b : List UInt8) (m : Nat) (q : Int) (h : (UX b m q).2.2 = 0) : X8 8 (UX b m q).1 = true := by
 rw [X0o] at h ⊢
 exact X5A h
theorem X7L (b : List UInt8) : ∀ (m i : Nat) (q : Int), (VM b m i q).2.2 = 0 → X8 8 (VM b m i q).1 = true
 | 0, i, q, h => X5Y i q h
 | m + 1, i, q, h => XcF b m q h
theorem X6F {gl gp : Nat → Int → Val × Int × Int} {b : List UInt8} {a k : Int} (hgl : ∀ i q, (gl i q).2.2 = 0 → X8 8 (gl i q).1 = true) (hgp : ∀ i q, (gp i q).2.2 = 0 → X8 8 (gp i q).1 = true)
  (h : (YI gl gp b a k).2.2 = 0) : Yd (YI gl gp b a k).1 := by
 obtain ⟨e1, e2⟩ := X9e gl gp b a k
 rw [e1] at h
 rw [e2 h]
 exact Xfk hgl hgp h
theorem X7r (b : List UInt8) (hb : b.length ≤ 281474976710656) (m a i : Nat) (hm : m ≤ 8) (ha : a ≤ b.length) : X1S b a (8 - m) i (VK (Uu b i a)) := by
 have hw : (5 + ((i % 2 : Nat) : Int)) = 5 ∨ (5 + ((i % 2 : Nat) : Int)) = 6 := by omega
 unfold Uu
 rw [← Xa4 b a m _ hw noG noG]
 refine X6J b m a (5 + ((i % 2 : Nat) : Int)) i noG noG _ hm ha hb (fun _ k hk _ hkw => ?_) (fun k h => X6F X5Y X5Y h) (.inr ⟨i, rfl, rfl⟩) rfl
 have hk2 := hkw (by omega)
 exact X6Q b m k (a + 1) noG noG _ hm hb hk (fun h => by omega) (fun h => by omega) rfl
theorem X9d (b : List UInt8) (hb : b.length ≤ 281474976710656) : ∀ (m a : Nat), m ≤ 8 → a ≤ b.length → X1S b a (8 - m) (-1) (VK (UX b m a))
 | 0, a, hm, ha => by
  rw [X0o]
  exact X6J b 0 a 0 (-1) (VM b 0) (Uu b) _ hm ha hb
   (fun _ k hk h8 _ => X6Q b 0 k (a + 1) (VM b 0) (Uu b) _ hm hb hk (fun h => absurd rfl (h8 h))
    (fun _ R hR => XaU b 0 (a + 1) (Uu b) R hm hb (fun i q h => X23 i q h) (fun i q h => X7r b hb 0 q i hm h) hR) rfl)
   (fun k h => X6F (X7L b 0) (X73 b) h) (.inl ⟨rfl, rfl⟩) rfl
 | m + 1, a, hm, ha => by
  rw [X0o]
  exact X6J b (m + 1) a 0 (-1) (VM b (m + 1)) (Uu b) _ hm ha hb
   (fun _ k hk h8 _ => X6Q b (m + 1) k (a + 1) (VM b (m + 1)) (Uu b) _ hm hb hk
    (fun _ R hR => Xck b (m + 1) (a + 1) (VM b (m + 1)) R hm hb (fun i q h => X5b m q h) (fun i q h => by
     have := X9d b hb m q (by omega) h
     rw [show (8 : Int) - ((m + 1 : Nat) : Int) + 1 = 8 - (m : Int) by omega]
     exact this) hR)
    (fun _ R hR => XaU b (m + 1) (a + 1) (Uu b) R hm hb (fun i q h => X23 i q h) (fun i q h => X7r b hb (m + 1) q i hm h) hR) rfl)
   (fun k h => X6F (X7L b (m + 1)) (X73 b) h) (.inl ⟨rfl, rfl⟩) rfl
theorem Xet (b : List UInt8) (a : Int) (h : a < 0 ∨ (b.length : Int) < a) : Con Tryz.prog 179 [] [.d (Xg b), ai a, ai 0, ai (-1)] [] (.tup [Xi zV, ai 0, ai 1]) := by
 refine Xb (xs := [Xi zV, ai 0, ai 1]) Tryz.func179 rfl Tryz.ntmps179 rfl rfl rfl (fun E => ?_)
 by_cases h1 : a < 0
 ·refine Qia ?_; refine Qya ?_; refine Qn ?_; refine Qba ?_; refine Zn ?_; exact QHd
 ·have h2 : (b.length : Int) < a := by omega
  refine Qia ?_; refine Qya ?_; refine QNb ?_; refine QQa ?_; exact QHd
theorem XhE (b : List UInt8) (hb : b.length ≤ 281474976710656) (a : Int) : Con Tryz.prog 179 [] [.d (Xg b), ai a, ai 0, ai (-1)] [] (.tup [Xi (Yn b a).1, ai (Yn b a).2.1, ai (Yn b a).2.2]) := by
 rw [XgF]
 by_cases h : a < 0 ∨ (b.length : Int) < a
 ·rw [if_pos h]; exact Xet b a h
 ·rw [if_neg h]
  obtain ⟨q, rfl⟩ : ∃ q : Nat, a = q := ⟨a.toNat, by omega⟩
  exact X9d b hb 8 q (by omega) (by omega)
theorem Xe6 (b : List UInt8) (hb : b.length ≤ 281474976710656) (a : Int) : Con Tryz.prog 160 [] [.d (Xg b), ai a] [] (.tup [Xi (Yn b a).1, ai (Yn b a).2.1, ai (Yn b a).2.2]) := by
 refine Xb (xs := [Xi (Yn b a).1, ai (Yn b a).2.1, ai (Yn b a).2.2]) Tryz.func160 rfl Tryz.ntmps160 rfl rfl rfl (fun E => ?_)
 have h := XhE b hb a
 generalize Yn b a = u at *
 obtain ⟨⟨k, n, d, s, l⟩, i, e⟩ := u
 simp only [Xi] at h
 refine Qia ?_; refine Qya ?_; refine Qi ?_; refine Z9 (hcon := h) ?_; refine ZF ?_; refine ZF ?_; refine ZF ?_; exact QQf
abbrev Un (b : List UInt8) (a e : Int) : AVal := .agg [.d (Xg b), ai a, ai e]
theorem Xcc : Con Tryz.prog 159 [] [] [] (Xi zV) := by
 refine Xb (xs := [Xi zV]) Tryz.func159 rfl Tryz.ntmps159 rfl rfl rfl (fun E => ?_)
 refine Qia ?_; refine JD ?_; refine Qb ?_; refine Zx ?_; refine QTa ?_; exact X1 ⟨_, Xl 100 (cs' := [ai 0, ai 0, ai 0, X9 [], .d (.sl 5 [])]) rfl JM rfl, ⟨⟨100, 0, _, rfl, rfl, .inr ⟨5, _, rfl, rfl, rfl, rfl⟩⟩, trivial⟩, X3 _⟩
theorem X6u (b : List UInt8) (a e limit : Int) (hb : b.length ≤ 281474976710656) (ha : e = 0 → 0 ≤ a ∧ a ≤ b.length) : Con Tryz.prog 102 [] [Un b a e, ai limit] [] (.tup [Un b (rkI b a e limit).2.1 (rkI b a e limit).2.2, ai (rkI b a e limit).1]) := by
 refine Xb (xs := [Un b (rkI b a e limit).2.1 (rkI b a e limit).2.2, ai (rkI b a e limit).1]) Tryz.func102 rfl Tryz.ntmps102 rfl rfl rfl (fun E => ?_)
 have hlm : (b.map X7).length = b.length := by simp
 unfold rkI
 by_cases he : e = 0
 case neg =>
  rw [if_pos he]
  exact QSf
 subst he
 rw [if_neg (by simp)]
 obtain ⟨m, rfl⟩ : ∃ m : Nat, a = m := ⟨a.toNat, by have := ha rfl; omega⟩
 rw [Int.toNat_natCast]
 by_cases h1 : b.length ≤ m
 ·rw [show rkS b m 0 limit = (0, (m : Int), 3) by unfold rkS; rw [if_neg (by simp), if_pos h1]]
  have h1' : ((b.map X7).length : Int) ≤ m := by omega
  refine Qsc ?_; refine Qc ?_; refine Qyb ?_; refine QDb ?_; refine Qyb ?_; refine Qke ?_; refine QOb ?_; refine Qjd ?_; refine Qeb ?_; exact Qse
 have h1' : ¬ ((b.map X7).length : Int) ≤ m := by omega
 obtain ⟨c, hc⟩ := Xv (l := b) (k := m) (by omega)
 have hrk : rkS b m 0 limit = if ((c.toNat : Nat) : Int) < 1 ∨ limit < ((c.toNat : Nat) : Int) then (0, (m : Int), 2) else (((c.toNat : Nat) : Int), (m : Int) + 1, 0) := by
  unfold rkS; rw [if_neg (by simp), if_neg h1, hc, Option.getD_some]
 have hxm : (b.map X7)[m]? = some (X7 c) := YF hc
 by_cases h2 : ((c.toNat : Nat) : Int) < 1
 ·rw [hrk, if_pos (.inl h2)]
  repeat first | refine X0 ?_ | (refine JR ?_; (repeat first | refine Z1 ?_ | refine Z0 ?_ | refine ZB ?_ | refine ZC ?_ | refine ZL ?_ | refine Zk ?_ | refine Zd ?_ | refine Z8 ?_ | refine Z2 ?_ | refine Zv ?_ | refine Zw (γ := 101) ?_ | refine ZA (γ := 100) ?_ | refine Zy ?_ | refine Zn ?_ | refine Zj ?_ | refine ZY ?_ | refine Zo ?_); refine JD ?_) | refine JT ?_ | refine JF ?_ | refine X4 ?_
  exact Qre
 by_cases h3 : limit < ((c.toNat : Nat) : Int)
 ·rw [hrk, if_pos (.inr h3)]
  repeat first | refine X0 ?_ | (refine JR ?_; (repeat first | refine Z1 ?_ | refine Z0 ?_ | refine ZB ?_ | refine ZC ?_ | refine ZL ?_ | refine Zk ?_ | refine Zd ?_ | refine Z8 ?_ | refine Zs ?_ | refine Z2 ?_ | refine Zv ?_ | refine Zw (γ := 101) ?_ | refine ZA (γ := 100) ?_ | refine Zy ?_ | refine Zq ?_ | refine Zj ?_ | refine ZY ?_); refine JD ?_) | refine JT ?_ | refine JF ?_ | refine X4 ?_
  exact Qre
 rw [hrk, if_neg (by omega)]
 repeat first | refine X0 ?_ | (refine JR ?_; (repeat first | refine Z1 ?_ | refine Z0 ?_ | refine ZB ?_ | refine ZC ?_ | refine ZL ?_ | refine Zk ?_ | refine Zd ?_ | refine Z8 ?_ | refine Zs ?_ | refine Z2 ?_ | refine Zv ?_ | refine Zb ?_ | refine Zw (γ := 101) ?_ | refine ZA (γ := 100) ?_ | refine Zy ?_ | refine Zq ?_ | refine Zj ?_ | refine ZY ?_); refine JD ?_) | refine JF ?_ | refine X4 ?_
 exact Qre
theorem X3t (b : List UInt8) (a e : Int) (hb : b.length ≤ 281474976710656) : Con Tryz.prog 103 [] [Un b a e] [] (.tup [Un b (rnS b a e).2.1 (rnS b a e).2.2, ai (rnS b a e).1]) := by
 refine Xb (xs := [Un b (rnS b a e).2.1 (rnS b a e).2.2, ai (rnS b a e).1]) Tryz.func103 rfl Tryz.ntmps103 rfl rfl rfl (fun E => ?_)
 have hu := X2D b a hb
 unfold rnS
 generalize Xf b a = u at *
 obtain ⟨u1, u2, u3⟩ := u
 by_cases he : e = 0
 ·rw [if_neg (by simpa using he)]
  repeat first | refine X0 ?_ | (refine JR ?_; (repeat first | refine Z1 ?_ | refine Z0 ?_ | refine ZB ?_ | refine ZC ?_ | refine ZL ?_ | refine Zv ?_ | refine Zw (γ := 101) ?_ | refine ZA (γ := 100) ?_ | refine Zy ?_ | refine ZF ?_ | refine Z9 (hcon := hu) ?_); refine JD ?_) | refine JF ?_ | refine X4 ?_
  exact Qre
 ·rw [if_pos he]
  exact QSf
theorem X2q (b : List UInt8) (a e : Int) (hb : b.length ≤ 281474976710656) : Con Tryz.prog 135 [] [Un b a e] [] (.tup [Un b (rsS b a e).2.1 (rsS b a e).2.2, X9 (rsS b a e).1]) := by
 refine Xb (xs := [Un b (rsS b a e).2.1 (rsS b a e).2.2, X9 (rsS b a e).1]) Tryz.func135 rfl Tryz.ntmps135 rfl rfl rfl (fun E => ?_)
 have hu := Xax b a 20 hb
 unfold rsS
 generalize Yk b a 20 = u at *
 obtain ⟨u1, u2, u3⟩ := u
 by_cases he : e = 0
 ·rw [if_neg (by simpa using he)]
  repeat first | refine X0 ?_ | (refine JR ?_; (repeat first | refine Z1 ?_ | refine Z0 ?_ | refine ZB ?_ | refine ZC ?_ | refine ZL ?_ | refine Zv ?_ | refine Zw (γ := 101) ?_ | refine ZA (γ := 100) ?_ | refine Zy ?_ | refine ZF ?_ | refine Z9 (hcon := hu) ?_); refine JD ?_) | refine JF ?_ | refine X4 ?_
  exact Qre
 ·rw [if_pos he]
  exact QSf
theorem Xfr (b : List UInt8) (a e : Int) (hb : b.length ≤ 281474976710656) : Con Tryz.prog 137 [] [Un b a e] [] (.tup [Un b (rvS b a e).2.1 (rvS b a e).2.2, Xi (rvS b a e).1]) := by
 refine Xb (xs := [Un b (rvS b a e).2.1 (rvS b a e).2.2, Xi (rvS b a e).1]) Tryz.func137 rfl Tryz.ntmps137 rfl rfl rfl (fun E => ?_)
 have hu := Xe6 b hb a
 have hz := Xcc
 unfold rvS
 generalize Yn b a = u at *
 obtain ⟨⟨k, n, d, s, l⟩, u2, u3⟩ := u
 simp only [Xi] at hu hz
 by_cases he : e = 0
 ·rw [if_neg (by simpa using he)]
  simp only [Xi]
  repeat first | refine X0 ?_ | (refine JR ?_; (repeat first | refine Z1 ?_ | refine Z0 ?_ | refine ZB ?_ | refine ZC ?_ | refine ZL ?_ | refine Zv ?_ | refine Zw (γ := 101) ?_ | refine Zw (γ := 102) ?_ | refine Zw (γ := 103) ?_ | refine ZA (γ := 100) ?_ | refine Zy ?_ | refine ZF ?_ | refine Z9 (hcon := hu) ?_); refine JD ?_) | refine JF ?_ | refine X4 ?_
  exact QTf
 ·rw [if_pos he]
  simp only [Xi]
  refine Qsc ?_; refine Zw (γ := 102) ?_; refine JD ?_; refine Qyb ?_; refine QAa ?_; refine Qeb ?_; refine Z9 (hcon := hz) ?_; refine Zy ?_; refine QTa ?_; exact QTf
theorem Xc8 (b : List UInt8) (a e : Int) (hb : b.length ≤ 281474976710656) (ha : e = 0 → 0 ≤ a ∧ a ≤ b.length) : Con Tryz.prog 106 [] [Un b a e] [] (.tup [Un b (roS b a e).2.1 (roS b a e).2.2, ab (roS b a e).1]) := by
 refine Xb (xs := [Un b (roS b a e).2.1 (roS b a e).2.2, ab (roS b a e).1]) Tryz.func106 rfl Tryz.ntmps106 rfl rfl rfl (fun E => ?_)
 have hlm : (b.map X7).length = b.length := by simp
 unfold roS
 by_cases he : e = 0
 case neg =>
  rw [if_pos he]
  exact QSf
 subst he
 obtain ⟨m, rfl⟩ : ∃ m : Nat, a = m := ⟨a.toNat, by have := ha rfl; omega⟩
 rw [if_neg (by simp), Int.toNat_natCast]
 by_cases h1 : (b.length : Int) ≤ m
 ·rw [if_pos h1]
  have h1' : ((b.map X7).length : Int) ≤ m := by omega
  refine Qsc ?_; refine Qc ?_; refine Qyb ?_; refine QDb ?_; refine Qyb ?_; refine Qke ?_; refine QOb ?_; refine Qjd ?_; refine Qeb ?_; exact Qse
 rw [if_neg h1]
 have h1' : ¬ ((b.map X7).length : Int) ≤ m := by omega
 obtain ⟨c, hc⟩ := Xv (l := b) (k := m) (by omega)
 have hxm : (b.map X7)[m]? = some (X7 c) := YF hc
 rw [hc, Option.getD_some]
 by_cases h2 : 1 < c.toNat
 ·rw [if_pos h2]
  repeat first | refine X0 ?_ | (refine JR ?_; (repeat first | refine Z1 ?_ | refine Z0 ?_ | refine ZB ?_ | refine ZC ?_ | refine ZL ?_ | refine Zk ?_ | refine Zd ?_ | refine Zs ?_ | refine Z2 ?_ | refine Zv ?_ | refine Zw (γ := 101) ?_ | refine ZA (γ := 100) ?_ | refine Zy ?_ | refine Zj ?_); refine JD ?_) | refine JT ?_ | refine JF ?_ | refine X4 ?_
  exact Qre
 rw [if_neg h2]
 repeat first | refine X0 ?_ | (refine JR ?_; (repeat first | refine Z1 ?_ | refine Z0 ?_ | refine ZB ?_ | refine ZC ?_ | refine ZL ?_ | refine Zk ?_ | refine Zd ?_ | refine Zs ?_ | refine Z2 ?_ | refine Zl ?_ | refine Zv ?_ | refine Zb ?_ | refine Zw (γ := 101) ?_ | refine ZA (γ := 100) ?_ | refine Zy ?_ | refine Zj ?_); refine JD ?_) | refine JF ?_ | refine X4 ?_
 exact Qre
theorem Xhm (b : List UInt8) (a e : Int) (hb : b.length ≤ 281474976710656) (ha : e = 0 → 0 ≤ a ∧ a ≤ b.length) : Con Tryz.prog 104 [] [Un b a e] [] (.tup [Un b (Yc b a e).2.1 (Yc b a e).2.2, Y3 (Yc b a e).1]) := by
 refine Xb (xs := [Un b (Yc b a e).2.1 (Yc b a e).2.2, Y3 (Yc b a e).1]) Tryz.func104 rfl Tryz.ntmps104 rfl rfl rfl (fun E => ?_)
 have hk := X6u b a e 8 hb ha
 unfold Yc
 generalize rkI b a e 8 = k at *
 obtain ⟨op, a1, e1⟩ := k
 simp only at hk ⊢
 have hf := Xct op
 have hg := XbW op
 have hi := X3t b a1 e1 hb
 generalize rnS b a1 e1 = i at *
 obtain ⟨id, a2, e2⟩ := i
 simp only at hi ⊢
 by_cases h6 : op = 6
 ·subst h6
  simp only [if_true, if_pos (show XX 6 = true by decide), if_neg (show ¬ XS 6 = true by decide)]
  rw [show XX 6 = true by decide] at hf
  rw [show XS 6 = false by decide] at hg
  have hs := X3t b a2 e2 hb
  generalize rnS b a2 e2 = f at *
  obtain ⟨src, a3, e3⟩ := f
  simp only at hs ⊢
  have hd := X3t b a3 e3 hb
  generalize rnS b a3 e3 = t at *
  obtain ⟨dst, a4, e4⟩ := t
  simp only at hd ⊢
  have hn := X2q b a4 e4 hb
  generalize rsS b a4 e4 = s at *
  obtain ⟨name, a5, e5⟩ := s
  simp only [Y3] at *
  repeat first | refine X0 ?_ | (refine JR ?_; (repeat first | refine Z1 ?_ | refine Z0 ?_ | refine ZB ?_ | refine ZL ?_ | refine Zl ?_ | refine Zw (γ := 101) ?_ | refine Zw (γ := 102) ?_ | refine Zw (γ := 103) ?_ | refine Zw (γ := 104) ?_ | refine Zw (γ := 105) ?_ | refine Zw (γ := 106) ?_ | refine ZA (γ := 100) ?_ | refine Zy ?_ | refine ZF ?_ | refine Z9 (hcon := hk) ?_ | refine Z9 (hcon := hf) ?_ | refine Z9 (hcon := hg) ?_ | refine Z9 (hcon := hi) ?_ | refine Z9 (hcon := hs) ?_ | refine Z9 (hcon := hd) ?_ | refine Z9 (hcon := hn) ?_); refine JD ?_) | refine JT ?_ | refine JF ?_ | refine X4 ?_
  exact X1 ⟨_, Xl 102 (cs' := [ai 6, ai id, ai src, ai dst, X9 name, ai 0, ai 0, ai 0, X9 [], .d (.sl 5 [])]) rfl JM rfl, ⟨⟨101, 0, _, rfl, rfl, .inr ⟨3, _, rfl, rfl, rfl, rfl⟩⟩, ⟨102, 0, _, rfl, rfl, .inr ⟨10, _, rfl, rfl, rfl, rfl⟩⟩, trivial⟩, X3 _⟩
 simp only [if_neg h6]
 by_cases hn : XX op = true
 case neg =>
  have hv : ¬ XS op = true := by revert hn; unfold XX XS; simp; omega
  simp only [if_neg hn, if_neg hv]
  rw [show XX op = false by simpa using hn] at hf
  rw [show XS op = false by simpa using hv] at hg
  simp only [Y3] at *
  repeat first | refine X0 ?_ | (refine JR ?_; (repeat first | refine Z1 ?_ | refine Z0 ?_ | refine ZB ?_ | refine ZL ?_ | refine Zl ?_ | refine Zw (γ := 101) ?_ | refine Zw (γ := 102) ?_ | refine Zw (γ := 103) ?_ | refine ZA (γ := 100) ?_ | refine Zy ?_ | refine ZF ?_ | refine Z9 (hcon := hk) ?_ | refine Z9 (hcon := hf) ?_ | refine Z9 (hcon := hg) ?_ | refine Z9 (hcon := hi) ?_); refine JD ?_) | refine JF ?_ | refine X4 ?_
  exact X1 ⟨_, Xl 102 (cs' := [ai op, ai id, ai 0, ai 0, X9 [], ai 0, ai 0, ai 0, X9 [], .d (.sl 5 [])]) rfl JM rfl, ⟨⟨101, 0, _, rfl, rfl, .inr ⟨3, _, rfl, rfl, rfl, rfl⟩⟩, ⟨102, 0, _, rfl, rfl, .inr ⟨10, _, rfl, rfl, rfl, rfl⟩⟩, trivial⟩, X3 _⟩
 simp only [if_pos hn]
 rw [hn] at hf
 have hs := X2q b a2 e2 hb
 generalize rsS b a2 e2 = s at *
 obtain ⟨name, a3, e3⟩ := s
 simp only at hs ⊢
 by_cases hv : XS op = true
 case neg =>
  simp only [if_neg hv]
  rw [show XS op = false by simpa using hv] at hg
  simp only [Y3] at *
  repeat first | refine X0 ?_ | (refine JR ?_; (repeat first | refine Z1 ?_ | refine Z0 ?_ | refine ZB ?_ | refine ZL ?_ | refine Zl ?_ | refine Zw (γ := 101) ?_ | refine Zw (γ := 102) ?_ | refine Zw (γ := 103) ?_ | refine Zw (γ := 104) ?_ | refine ZA (γ := 100) ?_ | refine Zy ?_ | refine ZF ?_ | refine Z9 (hcon := hk) ?_ | refine Z9 (hcon := hf) ?_ | refine Z9 (hcon := hg) ?_ | refine Z9 (hcon := hi) ?_ | refine Z9 (hcon := hs) ?_); refine JD ?_) | refine JT ?_ | refine JF ?_ | refine X4 ?_
  exact X1 ⟨_, Xl 102 (cs' := [ai op, ai id, ai 0, ai 0, X9 name, ai 0, ai 0, ai 0, X9 [], .d (.sl 5 [])]) rfl JM rfl, ⟨⟨101, 0, _, rfl, rfl, .inr ⟨3, _, rfl, rfl, rfl, rfl⟩⟩, ⟨102, 0, _, rfl, rfl, .inr ⟨10, _, rfl, rfl, rfl, rfl⟩⟩, trivial⟩, X3 _⟩
 simp only [if_pos hv]
 rw [hv] at hg
 have hr := Xfr b a3 e3 hb
 generalize rvS b a3 e3 = v at *
 obtain ⟨⟨vk, vn, vd, vs, vl⟩, a4, e4⟩ := v
 simp only [Y3, Xi] at *
 repeat first | refine X0 ?_ | (refine JR ?_; (repeat first | refine Z1 ?_ | refine Z0 ?_ | refine ZB ?_ | refine ZL ?_ | refine Zl ?_ | refine Zw (γ := 101) ?_ | refine Zw (γ := 102) ?_ | refine Zw (γ := 103) ?_ | refine Zw (γ := 104) ?_ | refine Zw (γ := 105) ?_ | refine Zw (γ := 106) ?_ | refine ZA (γ := 100) ?_ | refine Zy ?_ | refine ZF ?_ | refine Z9 (hcon := hk) ?_ | refine Z9 (hcon := hf) ?_ | refine Z9 (hcon := hg) ?_ | refine Z9 (hcon := hi) ?_ | refine Z9 (hcon := hs) ?_ | refine Z9 (hcon := hr) ?_); refine JD ?_) | refine JT ?_ | refine JF ?_ | refine X4 ?_
 exact X1 ⟨_, St.le_refl _, ⟨⟨101, 0, _, rfl, rfl, .inr ⟨3, _, rfl, rfl, rfl, rfl⟩⟩, ⟨102, 0, _, rfl, rfl, .inr ⟨10, _, rfl, rfl, rfl, rfl⟩⟩, trivial⟩, X3 _⟩
theorem Xd1 (b : List UInt8) (a e : Int) (hb : b.length ≤ 281474976710656) (ha : e = 0 → 0 ≤ a ∧ a ≤ b.length) : Con Tryz.prog 105 [] [Un b a e] [] (.tup [Un b (YN b a e).2.1 (YN b a e).2.2, Uw (YN b a e).1]) := by
 refine Xb (xs := [Un b (YN b a e).2.1 (YN b a e).2.2, Uw (YN b a e).1]) Tryz.func105 rfl Tryz.ntmps105 rfl rfl rfl (fun E => ?_)
 have hk := X6u b a e 7 hb ha
 unfold YN
 generalize rkI b a e 7 = k at *
 obtain ⟨kd, a1, e1⟩ := k
 simp only at hk ⊢
 have h1 := X2q b a1 e1 hb
 generalize rsS b a1 e1 = u1 at *
 obtain ⟨s1, a2, e2⟩ := u1
 simp only at h1 ⊢
 have h2 := X2q b a2 e2 hb
 generalize rsS b a2 e2 = u2 at *
 obtain ⟨s2, a3, e3⟩ := u2
 simp only at h2 ⊢
 have h3 := X2q b a3 e3 hb
 generalize rsS b a3 e3 = u3 at *
 obtain ⟨s3, a4, e4⟩ := u3
 simp only at h3 ⊢
 have h4 := X2q b a4 e4 hb
 generalize rsS b a4 e4 = u4 at *
 obtain ⟨s4, a5, e5⟩ := u4
 simp only [Uw] at h4 ⊢
 by_cases he : e5 = 0
 ·subst he
  have hi := X1W b a5 hb
  rw [X3E]
  generalize Xp b a5 = u5 at *
  obtain ⟨n, a6, e6⟩ := u5
  repeat first | refine X0 ?_ | (refine JR ?_; (repeat first | refine Z1 ?_ | refine Z0 ?_ | refine ZB ?_ | refine ZC ?_ | refine ZL ?_ | refine Zl ?_ | refine Zw (γ := 101) ?_ | refine Zw (γ := 102) ?_ | refine Zw (γ := 103) ?_ | refine ZA (γ := 100) ?_ | refine Zy ?_ | refine ZF ?_ | refine Z9 (hcon := hk) ?_ | refine Z9 (hcon := h1) ?_ | refine Z9 (hcon := h2) ?_ | refine Z9 (hcon := h3) ?_ | refine Z9 (hcon := h4) ?_ | refine Z9 (hcon := hi) ?_); refine JD ?_) | refine JT ?_
  exact QUf
 ·rw [X6T he]
  repeat first | refine X0 ?_ | (refine JR ?_; (repeat first | refine Z1 ?_ | refine Z0 ?_ | refine ZB ?_ | refine ZC ?_ | refine ZL ?_ | refine Zl ?_ | refine Zw (γ := 101) ?_ | refine Zw (γ := 102) ?_ | refine Zw (γ := 103) ?_ | refine ZA (γ := 100) ?_ | refine Zy ?_ | refine ZF ?_ | refine Z9 (hcon := hk) ?_ | refine Z9 (hcon := h1) ?_ | refine Z9 (hcon := h2) ?_ | refine Z9 (hcon := h3) ?_ | refine Z9 (hcon := h4) ?_); refine JD ?_) | refine JF ?_ | refine X4 ?_
  exact QUf
end Go.Fw

/- Reading values by the reference: nested. -/
import Derived.Test.YtaoggblfedekeaaGreatDoorG08
import Derived.Test.YtaoggblfedekeaaGreatDoorG27
import Derived.Test.YtaoggblfedekeaaGreatDoorG13
import Derived.Test.YtaoggblfedekeaaGreatDoorG17
import Derived.Test.YtaoggblfedekeaaGreatDoorG18
import Derived.Test.YtaoggblfedekeaaGreatDoorG25
set_option maxHeartbeats 16000000
namespace Go.Fw
open Go Go.Proofs
set_option maxRecDepth 100000
set_option linter.unusedVariables false
set_option linter.unusedSimpArgs false
theorem X3t (b : List UInt8) (m a : Nat) (want path : Int) (gl gp : Nat → Int → Val × Int × Int) (R : Val × Int × Int) (hm : m ≤ 8) (ha : a ≤ b.length) (hb : b.length ≤ 281474976710656)
  (hcont : a < b.length → ∀ k : Nat, k ≤ 8 → (k = 8 → m ≠ 0) → (want ≠ 0 → (k : Int) = want) → ContC b ((a : Int) + 1) k (8 - m) (contentR gl gp b ((a : Int) + 1) k))
  (hok : ∀ k : Int, (contentR gl gp b ((a : Int) + 1) k).2.2 = 0 → XH (contentR gl gp b ((a : Int) + 1) k).1)
  (hp : (path = -1 ∧ want = 0) ∨ ∃ i : Nat, path = i ∧ want = 5 + (i % 2 : Nat)) (hR : R = fixE (Yw gl gp m b a want)) : NestC b a (8 - m) path R := by
 refine X8 (xs := [Xb R.1, ai R.2.1, ai R.2.2]) Tryz.func123 rfl Tryz.ntmps123 rfl rfl rfl (fun E => ?_)
 rw [val_fix, Int.toNat_natCast] at hR
 by_cases h1 : a = b.length
 ·rw [if_pos (by omega)] at hR
  subst hR
  have hai : (a : Int) = b.length := by omega
  refine X0 ?_; refine JR ?_; refine Zt (γ := 100) ?_; refine Z0 ?_; refine Z0 ?_; refine JD ?_; refine X0 ?_; refine X0 ?_; refine JR ?_; refine Z1 ?_; refine Z8 ?_; refine Z1 ?_; refine Z1 ?_; refine Z1 ?_
  refine Zd ?_; refine Zp ?_; refine Zn ?_; refine JD ?_; refine JF ?_; refine X3 ?_; refine X0 ?_; refine X0 ?_; refine JR ?_; refine Z1 ?_; refine Z1 ?_; refine Zd ?_; refine Zu ?_; refine JD ?_
  refine JT ?_; refine X0 ?_; refine JR ?_; refine Zv ?_; refine Zw ?_; refine Z0 ?_; refine Z0 ?_; refine JD ?_
  exact X1 ⟨_, Xm 100 (cs := [ai 0, ai 0, ai 0, .d (.v (.string (X4 []))), ani]) (cs' := [ai 0, ai 0, ai 0, .d (.v (.string (X4 []))), .d (.sl 5 [])]) rfl ⟨AVal.le_refl _, AVal.le_refl _, AVal.le_refl _, AVal.le_refl _, AVal.le_nil 5, trivial⟩ rfl, ⟨⟨100, 0, _, rfl, rfl, .inr ⟨5, _, rfl, rfl, rfl, rfl⟩⟩, rfl, rfl, trivial⟩, X2 _⟩
 rw [if_neg (by omega)] at hR
 have hai : ¬ (a : Int) = b.length := by omega
 obtain ⟨c, hc⟩ := XT (l := b) (k := a) (by omega)
 rw [hc, Option.getD_some] at hR
 by_cases hg : ((c.toNat : Nat) : Int) ≤ 8 ∧ (c.toNat = 8 → m ≠ 0) ∧ (want ≠ 0 → ((c.toNat : Nat) : Int) = want)
 case neg =>
  rw [if_pos (by omega)] at hR
  subst hR
  by_cases h8 : 8 < ((c.toNat : Nat) : Int)
  ·repeat first | refine X0 ?_ | (refine JR ?_; (repeat first | refine Z1 ?_ | refine Z0 ?_ | refine ZK ?_ | refine Zd ?_ | refine Z8 ?_ | refine Zp ?_ | refine Zu ?_ | refine Zt (γ := 100) ?_ | refine Zw ?_ | refine Zv ?_ | refine Zk ?_ | refine Zn ?_ | refine ZI ?_ | refine Z01 ?_ | refine Zl ?_ | refine Zm ?_); refine JD ?_) | refine JT ?_ | refine JF ?_ | refine X3 ?_
   exact X1 ⟨_, Xm 100 (cs := [ai 0, ai 0, ai 0, .d (.v (.string (X4 []))), ani]) (cs' := [ai 0, ai 0, ai 0, .d (.v (.string (X4 []))), .d (.sl 5 [])]) rfl ⟨AVal.le_refl _, AVal.le_refl _, AVal.le_refl _, AVal.le_refl _, AVal.le_nil 5, trivial⟩ rfl, ⟨⟨100, 0, _, rfl, rfl, .inr ⟨5, _, rfl, rfl, rfl, rfl⟩⟩, rfl, rfl, trivial⟩, X2 _⟩
  by_cases hk8 : ((c.toNat : Nat) : Int) = 8 ∧ (8 : Int) - m ≥ 8
  ·obtain ⟨hk1, hk2⟩ := hk8
   repeat first | refine X0 ?_ | (refine JR ?_; (repeat first | refine Z1 ?_ | refine Z0 ?_ | refine ZK ?_ | refine Zd ?_ | refine Z8 ?_ | refine Zp ?_ | refine Z2 ?_ | refine Zu ?_ | refine Zt (γ := 100) ?_ | refine Zw ?_ | refine Zv ?_ | refine Zk ?_ | refine Zn ?_ | refine ZI ?_ | refine Z01 ?_ | refine Zl ?_ | refine Zm ?_); refine JD ?_) | refine JT ?_ | refine JF ?_ | refine X3 ?_
   exact X1 ⟨_, Xm 100 (cs := [ai 0, ai 0, ai 0, .d (.v (.string (X4 []))), ani]) (cs' := [ai 0, ai 0, ai 0, .d (.v (.string (X4 []))), .d (.sl 5 [])]) rfl ⟨AVal.le_refl _, AVal.le_refl _, AVal.le_refl _, AVal.le_refl _, AVal.le_nil 5, trivial⟩ rfl, ⟨⟨100, 0, _, rfl, rfl, .inr ⟨5, _, rfl, rfl, rfl, rfl⟩⟩, rfl, rfl, trivial⟩, X2 _⟩
  rcases hp with ⟨rfl, rfl⟩ | ⟨i, rfl, rfl⟩
  ·exfalso; omega
  have hi0 : (i : Int) ≥ 0 := by omega
  by_cases hk : ((c.toNat : Nat) : Int) = 8
  ·have hk2 : ¬ (8 : Int) - m ≥ 8 := fun h => hk8 ⟨hk, h⟩
   by_cases hi : i % 2 = 0
   ·have hi1 : ((i % 2 : Nat) : Int) = 0 := by omega
    have hi2 : ((c.toNat : Nat) : Int) ≠ 5 := by omega
    repeat first | refine X0 ?_ | (refine JR ?_; (repeat first | refine Z02 (op := .rem) (r' := .int .i64 ((i % 2 : Nat) : Int)) (u := .int .i64 i) (v := .int .i64 2) ?_ (hr' := by exact congrArg (Value.int .i64) (show ((i : Int) % 2) = ((i % 2 : Nat) : Int) by omega)) | refine Z1 ?_ | refine Z0 ?_ | refine ZK ?_ | refine Zd ?_ | refine Z8 ?_ | refine Zp ?_ | refine Z2 ?_ | refine Zu ?_ | refine Zs ?_ | refine Zt (γ := 100) ?_ | refine Zw ?_ | refine Zv ?_ | refine Zk ?_ | refine Zn ?_ | refine ZI ?_ | refine Z01 ?_ | refine Zl ?_ | refine Zm ?_); refine JD ?_) | refine JT ?_ | refine JF ?_ | refine X3 ?_
    exact X1 ⟨_, Xm 100 (cs := [ai 0, ai 0, ai 0, .d (.v (.string (X4 []))), ani]) (cs' := [ai 0, ai 0, ai 0, .d (.v (.string (X4 []))), .d (.sl 5 [])]) rfl ⟨AVal.le_refl _, AVal.le_refl _, AVal.le_refl _, AVal.le_refl _, AVal.le_nil 5, trivial⟩ rfl, ⟨⟨100, 0, _, rfl, rfl, .inr ⟨5, _, rfl, rfl, rfl, rfl⟩⟩, rfl, rfl, trivial⟩, X2 _⟩
   ·have hi1 : ((i % 2 : Nat) : Int) ≠ 0 := by omega
    have hi3 : ((i % 2 : Nat) : Int) = 1 := by omega
    have hi2 : ((c.toNat : Nat) : Int) ≠ 6 := by omega
    repeat first | refine X0 ?_ | (refine JR ?_; (repeat first | refine Z02 (op := .rem) (r' := .int .i64 ((i % 2 : Nat) : Int)) (u := .int .i64 i) (v := .int .i64 2) ?_ (hr' := by exact congrArg (Value.int .i64) (show ((i : Int) % 2) = ((i % 2 : Nat) : Int) by omega)) | refine Z1 ?_ | refine Z0 ?_ | refine ZK ?_ | refine Zd ?_ | refine Z8 ?_ | refine Zp ?_ | refine Z2 ?_ | refine Zu ?_ | refine Zs ?_ | refine Zt (γ := 100) ?_ | refine Zw ?_ | refine Zv ?_ | refine Zk ?_ | refine Zn ?_ | refine ZI ?_ | refine Z01 ?_ | refine Zl ?_); refine JD ?_) | refine JT ?_ | refine JF ?_ | refine X3 ?_
    exact X1 ⟨_, Xm 100 (cs := [ai 0, ai 0, ai 0, .d (.v (.string (X4 []))), ani]) (cs' := [ai 0, ai 0, ai 0, .d (.v (.string (X4 []))), .d (.sl 5 [])]) rfl ⟨AVal.le_refl _, AVal.le_refl _, AVal.le_refl _, AVal.le_refl _, AVal.le_nil 5, trivial⟩ rfl, ⟨⟨100, 0, _, rfl, rfl, .inr ⟨5, _, rfl, rfl, rfl, rfl⟩⟩, rfl, rfl, trivial⟩, X2 _⟩
  ·by_cases hi : i % 2 = 0
   ·have hi1 : ((i % 2 : Nat) : Int) = 0 := by omega
    have hi2 : ((c.toNat : Nat) : Int) ≠ 5 := by omega
    repeat first | refine X0 ?_ | (refine JR ?_; (repeat first | refine Z02 (op := .rem) (r' := .int .i64 ((i % 2 : Nat) : Int)) (u := .int .i64 i) (v := .int .i64 2) ?_ (hr' := by exact congrArg (Value.int .i64) (show ((i : Int) % 2) = ((i % 2 : Nat) : Int) by omega)) | refine Z1 ?_ | refine Z0 ?_ | refine ZK ?_ | refine Zd ?_ | refine Z8 ?_ | refine Zp ?_ | refine Z2 ?_ | refine Zu ?_ | refine Zs ?_ | refine Zt (γ := 100) ?_ | refine Zw ?_ | refine Zv ?_ | refine Zk ?_ | refine Zn ?_ | refine ZI ?_ | refine Z01 ?_ | refine Zl ?_ | refine Zm ?_); refine JD ?_) | refine JT ?_ | refine JF ?_ | refine X3 ?_
    exact X1 ⟨_, Xm 100 (cs := [ai 0, ai 0, ai 0, .d (.v (.string (X4 []))), ani]) (cs' := [ai 0, ai 0, ai 0, .d (.v (.string (X4 []))), .d (.sl 5 [])]) rfl ⟨AVal.le_refl _, AVal.le_refl _, AVal.le_refl _, AVal.le_refl _, AVal.le_nil 5, trivial⟩ rfl, ⟨⟨100, 0, _, rfl, rfl, .inr ⟨5, _, rfl, rfl, rfl, rfl⟩⟩, rfl, rfl, trivial⟩, X2 _⟩
   ·have hi1 : ((i % 2 : Nat) : Int) ≠ 0 := by omega
    have hi3 : ((i % 2 : Nat) : Int) = 1 := by omega
    have hi2 : ((c.toNat : Nat) : Int) ≠ 6 := by omega
    repeat first | refine X0 ?_ | (refine JR ?_; (repeat first | refine Z02 (op := .rem) (r' := .int .i64 ((i % 2 : Nat) : Int)) (u := .int .i64 i) (v := .int .i64 2) ?_ (hr' := by exact congrArg (Value.int .i64) (show ((i : Int) % 2) = ((i % 2 : Nat) : Int) by omega)) | refine Z1 ?_ | refine Z0 ?_ | refine ZK ?_ | refine Zd ?_ | refine Z8 ?_ | refine Zp ?_ | refine Z2 ?_ | refine Zu ?_ | refine Zs ?_ | refine Zt (γ := 100) ?_ | refine Zw ?_ | refine Zv ?_ | refine Zk ?_ | refine Zn ?_ | refine ZI ?_ | refine Z01 ?_ | refine Zl ?_); refine JD ?_) | refine JT ?_ | refine JF ?_ | refine X3 ?_
    exact X1 ⟨_, Xm 100 (cs := [ai 0, ai 0, ai 0, .d (.v (.string (X4 []))), ani]) (cs' := [ai 0, ai 0, ai 0, .d (.v (.string (X4 []))), .d (.sl 5 [])]) rfl ⟨AVal.le_refl _, AVal.le_refl _, AVal.le_refl _, AVal.le_refl _, AVal.le_nil 5, trivial⟩ rfl, ⟨⟨100, 0, _, rfl, rfl, .inr ⟨5, _, rfl, rfl, rfl, rfl⟩⟩, rfl, rfl, trivial⟩, X2 _⟩
 obtain ⟨hg1, hg2, hg3⟩ := hg
 rw [if_neg (by omega)] at hR
 have hcall := hcont (by omega) c.toNat (by omega) hg2 hg3
 have hokk := hok c.toNat
 unfold ContC at hcall
 generalize contentR gl gp b ((a : Int) + 1) c.toNat = r at *
 obtain ⟨⟨vk, vn, vd, vs, vl⟩, x, e⟩ := r
 have hvalid := fun he => X04 (.mk vk vn vd vs vl) (hokk he)
 simp only [Xb] at hcall hvalid hR
 rcases hp with ⟨rfl, rfl⟩ | ⟨i, rfl, rfl⟩
 ·by_cases hk : ((c.toNat : Nat) : Int) = 8
  ·have hk2 : ¬ (8 : Int) - m ≥ 8 := by have := hg2 (by omega); omega
   by_cases he : e = 0
   case neg =>
    rw [if_pos he] at hR
    subst hR
    repeat first | refine X0 ?_ | (refine JR ?_; (repeat first | refine Z1 ?_ | refine Z0 ?_ | refine ZK ?_ | refine Zd ?_ | refine Z8 ?_ | refine Zp ?_ | refine Z2 ?_ | refine Zu ?_ | refine Zs ?_ | refine Zb ?_ | refine Zt (γ := 100) ?_ | refine Zt (γ := 101) ?_ | refine Zw ?_ | refine Zv ?_ | refine ZD ?_ | refine Zk ?_ | refine Zn ?_ | refine ZI ?_ | refine Z01 ?_ | refine Zl ?_ | refine Z9 (hcon := hcall) ?_); refine JD ?_) | refine JT ?_ | refine JF ?_ | refine X3 ?_
    exact X1 ⟨_, Xm 100 (cs := [ai 0, ai 0, ai 0, .d (.v (.string (X4 []))), ani]) (cs' := [ai 0, ai 0, ai 0, .d (.v (.string (X4 []))), .d (.sl 5 [])]) rfl ⟨AVal.le_refl _, AVal.le_refl _, AVal.le_refl _, AVal.le_refl _, AVal.le_nil 5, trivial⟩ rfl, ⟨⟨100, 0, _, rfl, rfl, .inr ⟨5, _, rfl, rfl, rfl, rfl⟩⟩, rfl, rfl, trivial⟩, X2 _⟩
   subst he
   replace hvalid := hvalid rfl
   rw [if_neg (by simp)] at hR
   cases hv : X6 8 (.mk vk vn vd vs vl) with
   | false =>
    rw [hv] at hvalid hR
    rw [if_pos rfl] at hR
    subst hR
    repeat first | refine X0 ?_ | (refine JR ?_; (repeat first | refine Z1 ?_ | refine Z0 ?_ | refine ZL ?_ | refine ZK ?_ | refine Zd ?_ | refine Z8 ?_ | refine Zp ?_ | refine Z2 ?_ | refine Zu ?_ | refine Zs ?_ | refine Zb ?_ | refine Zr ?_ | refine Zt (γ := 100) ?_ | refine Zt (γ := 101) ?_ | refine Zw ?_ | refine Zv ?_ | refine ZD ?_ | refine Zk ?_ | refine Zn ?_ | refine ZI ?_ | refine Z01 ?_ | refine Zl ?_ | refine Z9 (hcon := hcall) ?_ | refine Z9 (hcon := hvalid) ?_); refine JD ?_) | refine JT ?_ | refine JF ?_ | refine X3 ?_
    exact X1 ⟨_, Xm 100 (cs := [ai 0, ai 0, ai 0, .d (.v (.string (X4 []))), ani]) (cs' := [ai 0, ai 0, ai 0, .d (.v (.string (X4 []))), .d (.sl 5 [])]) rfl ⟨AVal.le_refl _, AVal.le_refl _, AVal.le_refl _, AVal.le_refl _, AVal.le_nil 5, trivial⟩ rfl, ⟨⟨100, 0, _, rfl, rfl, .inr ⟨5, _, rfl, rfl, rfl, rfl⟩⟩, rfl, rfl, trivial⟩, X2 _⟩
   | true =>
    rw [hv] at hvalid hR
    rw [if_neg (by simp)] at hR
    subst hR
    repeat first | refine X0 ?_ | (refine JR ?_; (repeat first | refine Z1 ?_ | refine Z0 ?_ | refine ZL ?_ | refine ZK ?_ | refine Zd ?_ | refine Z8 ?_ | refine Zp ?_ | refine Z2 ?_ | refine Zu ?_ | refine Zs ?_ | refine Zb ?_ | refine Zr ?_ | refine Zt (γ := 100) ?_ | refine Zt (γ := 101) ?_ | refine Zw ?_ | refine ZD ?_ | refine Zk ?_ | refine Zn ?_ | refine ZI ?_ | refine Z01 ?_ | refine Zl ?_ | refine Z9 (hcon := hcall) ?_ | refine Z9 (hcon := hvalid) ?_); refine JD ?_) | refine JF ?_ | refine X3 ?_
    exact X1 ⟨_, St.le_refl _, ⟨⟨100, 0, _, rfl, rfl, .inr ⟨5, _, rfl, rfl, rfl, rfl⟩⟩, rfl, rfl, trivial⟩, X2 _⟩
  ·skip
   by_cases he : e = 0
   case neg =>
    rw [if_pos he] at hR
    subst hR
    repeat first | refine X0 ?_ | (refine JR ?_; (repeat first | refine Z1 ?_ | refine Z0 ?_ | refine ZK ?_ | refine Zd ?_ | refine Z8 ?_ | refine Zp ?_ | refine Z2 ?_ | refine Zu ?_ | refine Zs ?_ | refine Zb ?_ | refine Zt (γ := 100) ?_ | refine Zt (γ := 101) ?_ | refine Zw ?_ | refine Zv ?_ | refine ZD ?_ | refine Zn ?_ | refine ZI ?_ | refine Z01 ?_ | refine Zl ?_ | refine Z9 (hcon := hcall) ?_); refine JD ?_) | refine JT ?_ | refine JF ?_ | refine X3 ?_
    exact X1 ⟨_, Xm 100 (cs := [ai 0, ai 0, ai 0, .d (.v (.string (X4 []))), ani]) (cs' := [ai 0, ai 0, ai 0, .d (.v (.string (X4 []))), .d (.sl 5 [])]) rfl ⟨AVal.le_refl _, AVal.le_refl _, AVal.le_refl _, AVal.le_refl _, AVal.le_nil 5, trivial⟩ rfl, ⟨⟨100, 0, _, rfl, rfl, .inr ⟨5, _, rfl, rfl, rfl, rfl⟩⟩, rfl, rfl, trivial⟩, X2 _⟩
   subst he
   replace hvalid := hvalid rfl
   rw [if_neg (by simp)] at hR
   cases hv : X6 8 (.mk vk vn vd vs vl) with
   | false =>
    rw [hv] at hvalid hR
    rw [if_pos rfl] at hR
    subst hR
    repeat first | refine X0 ?_ | (refine JR ?_; (repeat first | refine Z1 ?_ | refine Z0 ?_ | refine ZL ?_ | refine ZK ?_ | refine Zd ?_ | refine Z8 ?_ | refine Zp ?_ | refine Z2 ?_ | refine Zu ?_ | refine Zs ?_ | refine Zb ?_ | refine Zr ?_ | refine Zt (γ := 100) ?_ | refine Zt (γ := 101) ?_ | refine Zw ?_ | refine Zv ?_ | refine ZD ?_ | refine Zn ?_ | refine ZI ?_ | refine Z01 ?_ | refine Zl ?_ | refine Z9 (hcon := hcall) ?_ | refine Z9 (hcon := hvalid) ?_); refine JD ?_) | refine JT ?_ | refine JF ?_ | refine X3 ?_
    exact X1 ⟨_, Xm 100 (cs := [ai 0, ai 0, ai 0, .d (.v (.string (X4 []))), ani]) (cs' := [ai 0, ai 0, ai 0, .d (.v (.string (X4 []))), .d (.sl 5 [])]) rfl ⟨AVal.le_refl _, AVal.le_refl _, AVal.le_refl _, AVal.le_refl _, AVal.le_nil 5, trivial⟩ rfl, ⟨⟨100, 0, _, rfl, rfl, .inr ⟨5, _, rfl, rfl, rfl, rfl⟩⟩, rfl, rfl, trivial⟩, X2 _⟩
   | true =>
    rw [hv] at hvalid hR
    rw [if_neg (by simp)] at hR
    subst hR
    repeat first | refine X0 ?_ | (refine JR ?_; (repeat first | refine Z1 ?_ | refine Z0 ?_ | refine ZL ?_ | refine ZK ?_ | refine Zd ?_ | refine Z8 ?_ | refine Zp ?_ | refine Z2 ?_ | refine Zu ?_ | refine Zs ?_ | refine Zb ?_ | refine Zr ?_ | refine Zt (γ := 100) ?_ | refine Zt (γ := 101) ?_ | refine Zw ?_ | refine ZD ?_ | refine Zn ?_ | refine ZI ?_ | refine Z01 ?_ | refine Zl ?_ | refine Z9 (hcon := hcall) ?_ | refine Z9 (hcon := hvalid) ?_); refine JD ?_) | refine JF ?_ | refine X3 ?_
    exact X1 ⟨_, St.le_refl _, ⟨⟨100, 0, _, rfl, rfl, .inr ⟨5, _, rfl, rfl, rfl, rfl⟩⟩, rfl, rfl, trivial⟩, X2 _⟩
 have hi0 : (i : Int) ≥ 0 := by omega
 have hk : ¬ ((c.toNat : Nat) : Int) = 8 := by have := hg3 (by omega); omega
 by_cases hi : i % 2 = 0
 ·have hi1 : ((i % 2 : Nat) : Int) = 0 := by omega
  have hi2 : ((c.toNat : Nat) : Int) = 5 := by have := hg3 (by omega); omega
  have hi3 : ¬ ((i % 2 : Nat) : Int) = 1 := by omega
  by_cases he : e = 0
  case neg =>
   rw [if_pos he] at hR
   subst hR
   repeat first | refine X0 ?_ | (refine JR ?_; (repeat first | refine Z02 (op := .rem) (r' := .int .i64 ((i % 2 : Nat) : Int)) (u := .int .i64 i) (v := .int .i64 2) ?_ (hr' := by exact congrArg (Value.int .i64) (show ((i : Int) % 2) = ((i % 2 : Nat) : Int) by omega)) | refine Z1 ?_ | refine Z0 ?_ | refine ZK ?_ | refine Zd ?_ | refine Z8 ?_ | refine Zp ?_ | refine Z2 ?_ | refine Zu ?_ | refine Zs ?_ | refine Zb ?_ | refine Zt (γ := 100) ?_ | refine Zt (γ := 101) ?_ | refine Zw ?_ | refine Zv ?_ | refine ZD ?_ | refine Zk ?_ | refine Zn ?_ | refine ZI ?_ | refine Z01 ?_ | refine Zl ?_ | refine Z9 (hcon := hcall) ?_); refine JD ?_) | refine JT ?_ | refine JF ?_ | refine X3 ?_
   exact X1 ⟨_, Xm 100 (cs := [ai 0, ai 0, ai 0, .d (.v (.string (X4 []))), ani]) (cs' := [ai 0, ai 0, ai 0, .d (.v (.string (X4 []))), .d (.sl 5 [])]) rfl ⟨AVal.le_refl _, AVal.le_refl _, AVal.le_refl _, AVal.le_refl _, AVal.le_nil 5, trivial⟩ rfl, ⟨⟨100, 0, _, rfl, rfl, .inr ⟨5, _, rfl, rfl, rfl, rfl⟩⟩, rfl, rfl, trivial⟩, X2 _⟩
  subst he
  replace hvalid := hvalid rfl
  rw [if_neg (by simp)] at hR
  cases hv : X6 8 (.mk vk vn vd vs vl) with
  | false =>
   rw [hv] at hvalid hR
   rw [if_pos rfl] at hR
   subst hR
   repeat first | refine X0 ?_ | (refine JR ?_; (repeat first | refine Z02 (op := .rem) (r' := .int .i64 ((i % 2 : Nat) : Int)) (u := .int .i64 i) (v := .int .i64 2) ?_ (hr' := by exact congrArg (Value.int .i64) (show ((i : Int) % 2) = ((i % 2 : Nat) : Int) by omega)) | refine Z1 ?_ | refine Z0 ?_ | refine ZL ?_ | refine ZK ?_ | refine Zd ?_ | refine Z8 ?_ | refine Zp ?_ | refine Z2 ?_ | refine Zu ?_ | refine Zs ?_ | refine Zb ?_ | refine Zr ?_ | refine Zt (γ := 100) ?_ | refine Zt (γ := 101) ?_ | refine Zw ?_ | refine Zv ?_ | refine ZD ?_ | refine Zk ?_ | refine Zn ?_ | refine ZI ?_ | refine Z01 ?_ | refine Zl ?_ | refine Z9 (hcon := hcall) ?_ | refine Z9 (hcon := hvalid) ?_); refine JD ?_) | refine JT ?_ | refine JF ?_ | refine X3 ?_
   exact X1 ⟨_, Xm 100 (cs := [ai 0, ai 0, ai 0, .d (.v (.string (X4 []))), ani]) (cs' := [ai 0, ai 0, ai 0, .d (.v (.string (X4 []))), .d (.sl 5 [])]) rfl ⟨AVal.le_refl _, AVal.le_refl _, AVal.le_refl _, AVal.le_refl _, AVal.le_nil 5, trivial⟩ rfl, ⟨⟨100, 0, _, rfl, rfl, .inr ⟨5, _, rfl, rfl, rfl, rfl⟩⟩, rfl, rfl, trivial⟩, X2 _⟩
  | true =>
   rw [hv] at hvalid hR
   rw [if_neg (by simp)] at hR
   subst hR
   repeat first | refine X0 ?_ | (refine JR ?_; (repeat first | refine Z02 (op := .rem) (r' := .int .i64 ((i % 2 : Nat) : Int)) (u := .int .i64 i) (v := .int .i64 2) ?_ (hr' := by exact congrArg (Value.int .i64) (show ((i : Int) % 2) = ((i % 2 : Nat) : Int) by omega)) | refine Z1 ?_ | refine Z0 ?_ | refine ZL ?_ | refine ZK ?_ | refine Zd ?_ | refine Z8 ?_ | refine Zp ?_ | refine Z2 ?_ | refine Zu ?_ | refine Zs ?_ | refine Zb ?_ | refine Zr ?_ | refine Zt (γ := 100) ?_ | refine Zt (γ := 101) ?_ | refine Zw ?_ | refine ZD ?_ | refine Zk ?_ | refine Zn ?_ | refine ZI ?_ | refine Z01 ?_ | refine Zl ?_ | refine Z9 (hcon := hcall) ?_ | refine Z9 (hcon := hvalid) ?_); refine JD ?_) | refine JF ?_ | refine X3 ?_
   exact X1 ⟨_, St.le_refl _, ⟨⟨100, 0, _, rfl, rfl, .inr ⟨5, _, rfl, rfl, rfl, rfl⟩⟩, rfl, rfl, trivial⟩, X2 _⟩
 have hi1 : ¬ ((i % 2 : Nat) : Int) = 0 := by omega
 have hi3 : ((i % 2 : Nat) : Int) = 1 := by omega
 have hi2 : ((c.toNat : Nat) : Int) = 6 := by have := hg3 (by omega); omega
 by_cases he : e = 0
 case neg =>
  rw [if_pos he] at hR
  subst hR
  repeat first | refine X0 ?_ | (refine JR ?_; (repeat first | refine Z02 (op := .rem) (r' := .int .i64 ((i % 2 : Nat) : Int)) (u := .int .i64 i) (v := .int .i64 2) ?_ (hr' := by exact congrArg (Value.int .i64) (show ((i : Int) % 2) = ((i % 2 : Nat) : Int) by omega)) | refine Z1 ?_ | refine Z0 ?_ | refine ZK ?_ | refine Zd ?_ | refine Z8 ?_ | refine Zp ?_ | refine Z2 ?_ | refine Zu ?_ | refine Zs ?_ | refine Zb ?_ | refine Zt (γ := 100) ?_ | refine Zt (γ := 101) ?_ | refine Zw ?_ | refine Zv ?_ | refine ZD ?_ | refine Zk ?_ | refine Zn ?_ | refine ZI ?_ | refine Z01 ?_ | refine Zl ?_ | refine Z9 (hcon := hcall) ?_); refine JD ?_) | refine JT ?_ | refine JF ?_ | refine X3 ?_
  exact X1 ⟨_, Xm 100 (cs := [ai 0, ai 0, ai 0, .d (.v (.string (X4 []))), ani]) (cs' := [ai 0, ai 0, ai 0, .d (.v (.string (X4 []))), .d (.sl 5 [])]) rfl ⟨AVal.le_refl _, AVal.le_refl _, AVal.le_refl _, AVal.le_refl _, AVal.le_nil 5, trivial⟩ rfl, ⟨⟨100, 0, _, rfl, rfl, .inr ⟨5, _, rfl, rfl, rfl, rfl⟩⟩, rfl, rfl, trivial⟩, X2 _⟩
 subst he
 replace hvalid := hvalid rfl
 rw [if_neg (by simp)] at hR
 cases hv : X6 8 (.mk vk vn vd vs vl) with
 | false =>
  rw [hv] at hvalid hR
  rw [if_pos rfl] at hR
  subst hR
  repeat first | refine X0 ?_ | (refine JR ?_; (repeat first | refine Z02 (op := .rem) (r' := .int .i64 ((i % 2 : Nat) : Int)) (u := .int .i64 i) (v := .int .i64 2) ?_ (hr' := by exact congrArg (Value.int .i64) (show ((i : Int) % 2) = ((i % 2 : Nat) : Int) by omega)) | refine Z1 ?_ | refine Z0 ?_ | refine ZL ?_ | refine ZK ?_ | refine Zd ?_ | refine Z8 ?_ | refine Zp ?_ | refine Z2 ?_ | refine Zu ?_ | refine Zs ?_ | refine Zb ?_ | refine Zr ?_ | refine Zt (γ := 100) ?_ | refine Zt (γ := 101) ?_ | refine Zw ?_ | refine Zv ?_ | refine ZD ?_ | refine Zk ?_ | refine Zn ?_ | refine ZI ?_ | refine Z01 ?_ | refine Zl ?_ | refine Z9 (hcon := hcall) ?_ | refine Z9 (hcon := hvalid) ?_); refine JD ?_) | refine JT ?_ | refine JF ?_ | refine X3 ?_
  exact X1 ⟨_, Xm 100 (cs := [ai 0, ai 0, ai 0, .d (.v (.string (X4 []))), ani]) (cs' := [ai 0, ai 0, ai 0, .d (.v (.string (X4 []))), .d (.sl 5 [])]) rfl ⟨AVal.le_refl _, AVal.le_refl _, AVal.le_refl _, AVal.le_refl _, AVal.le_nil 5, trivial⟩ rfl, ⟨⟨100, 0, _, rfl, rfl, .inr ⟨5, _, rfl, rfl, rfl, rfl⟩⟩, rfl, rfl, trivial⟩, X2 _⟩
 | true =>
  rw [hv] at hvalid hR
  rw [if_neg (by simp)] at hR
  subst hR
  repeat first | refine X0 ?_ | (refine JR ?_; (repeat first | refine Z02 (op := .rem) (r' := .int .i64 ((i % 2 : Nat) : Int)) (u := .int .i64 i) (v := .int .i64 2) ?_ (hr' := by exact congrArg (Value.int .i64) (show ((i : Int) % 2) = ((i % 2 : Nat) : Int) by omega)) | refine Z1 ?_ | refine Z0 ?_ | refine ZL ?_ | refine ZK ?_ | refine Zd ?_ | refine Z8 ?_ | refine Zp ?_ | refine Z2 ?_ | refine Zu ?_ | refine Zs ?_ | refine Zb ?_ | refine Zr ?_ | refine Zt (γ := 100) ?_ | refine Zt (γ := 101) ?_ | refine Zw ?_ | refine ZD ?_ | refine Zk ?_ | refine Zn ?_ | refine ZI ?_ | refine Z01 ?_ | refine Zl ?_ | refine Z9 (hcon := hcall) ?_ | refine Z9 (hcon := hvalid) ?_); refine JD ?_) | refine JF ?_ | refine X3 ?_
  exact X1 ⟨_, St.le_refl _, ⟨⟨100, 0, _, rfl, rfl, .inr ⟨5, _, rfl, rfl, rfl, rfl⟩⟩, rfl, rfl, trivial⟩, X2 _⟩
end Go.Fw
namespace Go.Fw
open Go Go.Proofs
set_option maxRecDepth 100000
set_option linter.unusedVariables false
set_option linter.unusedSimpArgs false
theorem X3M (i : Nat) (q : Int) (h : (noG i q).2.2 = 0) : X6 8 (noG i q).1 = true := by simp [noG] at h
theorem X66 (b : List UInt8) (i : Nat) (q : Int) (h : (YM b i q).2.2 = 0) : X6 8 (YM b i q).1 = true := X37 h
theorem X9y (b : List UInt8) (m : Nat) (q : Int) (h : (U9 b m q).2.2 = 0) : X6 8 (U9 b m q).1 = true := by
 rw [Va] at h ⊢
 exact X37 h
theorem X4A (b : List UInt8) : ∀ (m i : Nat) (q : Int), (UW b m i q).2.2 = 0 → X6 8 (UW b m i q).1 = true
 | 0, i, q, h => X3M i q h
 | m + 1, i, q, h => X9y b m q h
theorem X4e {gl gp : Nat → Int → Val × Int × Int} {b : List UInt8} {a k : Int} (hgl : ∀ i q, (gl i q).2.2 = 0 → X6 8 (gl i q).1 = true) (hgp : ∀ i q, (gp i q).2.2 = 0 → X6 8 (gp i q).1 = true)
  (h : (contentR gl gp b a k).2.2 = 0) : XH (contentR gl gp b a k).1 := by
 obtain ⟨e1, e2⟩ := content_fix gl gp b a k
 rw [e1] at h
 rw [e2 h]
 exact Xch hgl hgp h
theorem X4y (b : List UInt8) (hb : b.length ≤ 281474976710656) (m a i : Nat) (hm : m ≤ 8) (ha : a ≤ b.length) : NestC b a (8 - m) i (fixE (YM b i a)) := by
 have hw : (5 + ((i % 2 : Nat) : Int)) = 5 ∨ (5 + ((i % 2 : Nat) : Int)) = 6 := by omega
 unfold YM
 rw [← X6B b a m _ hw noG noG]
 refine X3t b m a (5 + ((i % 2 : Nat) : Int)) i noG noG _ hm ha hb (fun _ k hk _ hkw => ?_) (fun k h => X4e X3M X3M h) (.inr ⟨i, rfl, rfl⟩) rfl
 have hk2 := hkw (by omega)
 exact rcontent_of b m k (a + 1) noG noG _ hm hb hk (fun h => by omega) (fun h => by omega) rfl
theorem X7J (b : List UInt8) (hb : b.length ≤ 281474976710656) : ∀ (m a : Nat), m ≤ 8 → a ≤ b.length → NestC b a (8 - m) (-1) (fixE (U9 b m a))
 | 0, a, hm, ha => by
  rw [Va]
  exact X3t b 0 a 0 (-1) (UW b 0) (YM b) _ hm ha hb
   (fun _ k hk h8 _ => rcontent_of b 0 k (a + 1) (UW b 0) (YM b) _ hm hb hk (fun h => absurd rfl (h8 h))
    (fun _ R hR => relem_k7 b 0 (a + 1) (YM b) R hm hb (fun i q h => X0C i q h) (fun i q h => X4y b hb 0 q i hm h) hR) rfl)
   (fun k h => X4e (X4A b 0) (X66 b) h) (.inl ⟨rfl, rfl⟩) rfl
 | m + 1, a, hm, ha => by
  rw [Va]
  exact X3t b (m + 1) a 0 (-1) (UW b (m + 1)) (YM b) _ hm ha hb
   (fun _ k hk h8 _ => rcontent_of b (m + 1) k (a + 1) (UW b (m + 1)) (YM b) _ hm hb hk
    (fun _ R hR => relem_k8 b (m + 1) (a + 1) (UW b (m + 1)) R hm hb (fun i q h => X3s m q h) (fun i q h => by
     have := X7J b hb m q (by omega) h
     rw [show (8 : Int) - ((m + 1 : Nat) : Int) + 1 = 8 - (m : Int) by omega]
     exact this) hR)
    (fun _ R hR => relem_k7 b (m + 1) (a + 1) (YM b) R hm hb (fun i q h => X0C i q h) (fun i q h => X4y b hb (m + 1) q i hm h) hR) rfl)
   (fun k h => X4e (X4A b (m + 1)) (X66 b) h) (.inl ⟨rfl, rfl⟩) rfl
theorem X8W (b : List UInt8) (a : Int) (h : a < 0 ∨ (b.length : Int) < a) : Con Tryz.prog 123 [] [.d (Xh b), ai a, ai 0, ai (-1)] [] (.tup [Xb zV, ai 0, ai 1]) := by
 refine X8 (xs := [Xb zV, ai 0, ai 1]) Tryz.func123 rfl Tryz.ntmps123 rfl rfl rfl (fun E => ?_)
 by_cases h1 : a < 0
 ·refine X0 ?_; refine JR ?_; refine Zt (γ := 100) ?_; refine Z0 ?_; refine Z0 ?_; refine JD ?_; refine X0 ?_; refine X0 ?_; refine JR ?_; refine Z1 ?_; refine Z8 ?_; refine Z1 ?_; refine Zl ?_; refine Zl ?_
  refine Zl ?_; refine Zl ?_; refine Zk ?_; refine JD ?_; refine JT ?_; refine X0 ?_; refine JR ?_; refine Zv ?_; refine Zw ?_; refine Z0 ?_; refine Z0 ?_; refine JD ?_
  exact X1 ⟨_, Xm 100 (cs := [ai 0, ai 0, ai 0, .d (.v (.string (X4 []))), ani]) (cs' := [ai 0, ai 0, ai 0, .d (.v (.string (X4 []))), .d (.sl 5 [])]) rfl ⟨AVal.le_refl _, AVal.le_refl _, AVal.le_refl _, AVal.le_refl _, AVal.le_nil 5, trivial⟩ rfl, ⟨⟨100, 0, _, rfl, rfl, .inr ⟨5, _, rfl, rfl, rfl, rfl⟩⟩, rfl, rfl, trivial⟩, X2 _⟩
 ·have h2 : (b.length : Int) < a := by omega
  refine X0 ?_; refine JR ?_; refine Zt (γ := 100) ?_; refine Z0 ?_; refine Z0 ?_; refine JD ?_; refine X0 ?_; refine X0 ?_; refine JR ?_; refine Z1 ?_; refine Z8 ?_; refine Z1 ?_; refine Z1 ?_; refine Z1 ?_
  refine Zd ?_; refine Zp ?_; refine Zn ?_; refine JD ?_; refine JT ?_; refine X0 ?_; refine JR ?_; refine Zv ?_; refine Zw ?_; refine Z0 ?_; refine Z0 ?_; refine JD ?_
  exact X1 ⟨_, Xm 100 (cs := [ai 0, ai 0, ai 0, .d (.v (.string (X4 []))), ani]) (cs' := [ai 0, ai 0, ai 0, .d (.v (.string (X4 []))), .d (.sl 5 [])]) rfl ⟨AVal.le_refl _, AVal.le_refl _, AVal.le_refl _, AVal.le_refl _, AVal.le_nil 5, trivial⟩ rfl, ⟨⟨100, 0, _, rfl, rfl, .inr ⟨5, _, rfl, rfl, rfl, rfl⟩⟩, rfl, rfl, trivial⟩, X2 _⟩
theorem X9t (b : List UInt8) (hb : b.length ≤ 281474976710656) (a : Int) : Con Tryz.prog 123 [] [.d (Xh b), ai a, ai 0, ai (-1)] [] (.tup [Xb (Y5 b a).1, ai (Y5 b a).2.1, ai (Y5 b a).2.2]) := by
 rw [value_fix]
 by_cases h : a < 0 ∨ (b.length : Int) < a
 ·rw [if_pos h]; exact X8W b a h
 ·rw [if_neg h]
  obtain ⟨q, rfl⟩ : ∃ q : Nat, a = q := ⟨a.toNat, by omega⟩
  exact X7J b hb 8 q (by omega) (by omega)
theorem X8J (b : List UInt8) (hb : b.length ≤ 281474976710656) (a : Int) : Con Tryz.prog 101 [] [.d (Xh b), ai a] [] (.tup [Xb (Y5 b a).1, ai (Y5 b a).2.1, ai (Y5 b a).2.2]) := by
 refine X8 (xs := [Xb (Y5 b a).1, ai (Y5 b a).2.1, ai (Y5 b a).2.2]) Tryz.func101 rfl Tryz.ntmps101 rfl rfl rfl (fun E => ?_)
 have h := X9t b hb a
 generalize Y5 b a = u at *
 obtain ⟨⟨k, n, d, s, l⟩, i, e⟩ := u
 simp only [Xb] at h
 refine X0 ?_; refine JR ?_; refine Zt (γ := 100) ?_; refine Z0 ?_; refine Z0 ?_; refine JD ?_; refine X0 ?_; refine JR ?_; refine Z1 ?_; refine Z1 ?_; refine Z9 (hcon := h) ?_; refine ZD ?_; refine ZD ?_
 refine ZD ?_; refine Zw ?_; refine Z0 ?_; refine Z0 ?_; refine JD ?_
 exact X1 ⟨_, St.le_refl _, ⟨⟨100, 0, _, rfl, rfl, .inr ⟨5, _, rfl, rfl, rfl, rfl⟩⟩, rfl, rfl, trivial⟩, X2 _⟩
end Go.Fw
namespace Go.Fw
open Go Go.Proofs
set_option maxRecDepth 100000
set_option linter.unusedVariables false
set_option linter.unusedSimpArgs false
abbrev YH (b : List UInt8) (a e : Int) : AVal := .agg [.d (Xh b), ai a, ai e]
theorem Xbs : Con Tryz.prog 100 [] [] [] (Xb zV) := by
 refine X8 (xs := [Xb zV]) Tryz.func100 rfl Tryz.ntmps100 rfl rfl rfl (fun E => ?_)
 refine X0 ?_; refine JR ?_; refine Zt (γ := 100) ?_; refine JD ?_; refine X0 ?_; refine JR ?_; refine Zv ?_; refine Zw ?_; refine JD ?_
 exact X1 ⟨_, Xm 100 (cs' := [ai 0, ai 0, ai 0, X7 [], .d (.sl 5 [])]) rfl JM rfl, ⟨⟨100, 0, _, rfl, rfl, .inr ⟨5, _, rfl, rfl, rfl, rfl⟩⟩, trivial⟩, X2 _⟩
theorem X2M (b : List UInt8) (a e limit : Int) (hb : b.length ≤ 281474976710656) (ha : e = 0 → 0 ≤ a ∧ a ≤ b.length) : Con Tryz.prog 45 [] [YH b a e, ai limit] [] (.tup [YH b (rkI b a e limit).2.1 (rkI b a e limit).2.2, ai (rkI b a e limit).1]) := by
 refine X8 (xs := [YH b (rkI b a e limit).2.1 (rkI b a e limit).2.2, ai (rkI b a e limit).1]) Tryz.func45 rfl Tryz.ntmps45 rfl rfl rfl (fun E => ?_)
 have hlm : (b.map Xa).length = b.length := by simp
 unfold rkI
 by_cases he : e = 0
 case neg =>
  rw [if_pos he]
  refine X0 ?_; refine JR ?_; refine Zy (γ := 100) ?_; refine Zt (γ := 101) ?_; refine Z0 ?_; refine JD ?_; refine X0 ?_; refine X0 ?_; refine JR ?_; refine Zz ?_; refine ZA ?_; refine Zs ?_; refine JD ?_
  refine JT ?_; refine X0 ?_; refine JR ?_; refine ZL ?_; refine Zw ?_; refine Z0 ?_; refine JD ?_
  exact X1 ⟨_, St.le_refl _, ⟨⟨101, 0, _, rfl, rfl, .inr ⟨3, _, rfl, rfl, rfl, rfl⟩⟩, rfl, trivial⟩, X2 _⟩
 subst he
 rw [if_neg (by simp)]
 obtain ⟨m, rfl⟩ : ∃ m : Nat, a = m := ⟨a.toNat, by have := ha rfl; omega⟩
 rw [Int.toNat_natCast]
 by_cases h1 : b.length ≤ m
 ·rw [show rkS b m 0 limit = (0, (m : Int), 3) by unfold rkS; rw [if_neg (by simp), if_pos h1]]
  have h1' : ((b.map Xa).length : Int) ≤ m := by omega
  refine X0 ?_; refine JR ?_; refine Zy (γ := 100) ?_; refine Zt (γ := 101) ?_; refine Z0 ?_; refine JD ?_; refine X0 ?_; refine X0 ?_; refine JR ?_; refine Zz ?_; refine ZA ?_; refine Zs ?_; refine JD ?_
  refine JF ?_; refine X3 ?_; refine X0 ?_; refine X0 ?_; refine JR ?_; refine Zz ?_; refine ZA ?_; refine Zz ?_; refine ZA ?_; refine Zd ?_; refine Z2 ?_; refine JD ?_; refine JT ?_; refine X0 ?_
  refine JR ?_; refine Zz ?_; refine Zw ?_; refine JD ?_; refine X0 ?_; refine JR ?_; refine ZL ?_; refine Zw ?_; refine Z0 ?_; refine JD ?_
  exact X1 ⟨_, St.le_refl _, ⟨⟨101, 0, _, rfl, rfl, .inr ⟨3, _, rfl, rfl, rfl, rfl⟩⟩, rfl, trivial⟩, X2 _⟩
 have h1' : ¬ ((b.map Xa).length : Int) ≤ m := by omega
 obtain ⟨c, hc⟩ := XT (l := b) (k := m) (by omega)
 have hrk : rkS b m 0 limit = if ((c.toNat : Nat) : Int) < 1 ∨ limit < ((c.toNat : Nat) : Int) then (0, (m : Int), 2) else (((c.toNat : Nat) : Int), (m : Int) + 1, 0) := by
  unfold rkS; rw [if_neg (by simp), if_neg h1, hc, Option.getD_some]
 have hxm : (b.map Xa)[m]? = some (Xa c) := YR hc
 by_cases h2 : ((c.toNat : Nat) : Int) < 1
 ·rw [hrk, if_pos (.inl h2)]
  repeat first | refine X0 ?_ | (refine JR ?_; (repeat first | refine Z1 ?_ | refine Z0 ?_ | refine Zz ?_ | refine ZA ?_ | refine ZL ?_ | refine ZK ?_ | refine Zd ?_ | refine Z8 ?_ | refine Z2 ?_ | refine Zs ?_ | refine Zt (γ := 101) ?_ | refine Zy (γ := 100) ?_ | refine Zw ?_ | refine Zk ?_ | refine ZI ?_ | refine Z01 ?_ | refine Zl ?_); refine JD ?_) | refine JT ?_ | refine JF ?_ | refine X3 ?_
  exact X1 ⟨_, St.le_refl _, ⟨⟨101, 0, _, rfl, rfl, .inr ⟨3, _, rfl, rfl, rfl, rfl⟩⟩, rfl, trivial⟩, X2 _⟩
 by_cases h3 : limit < ((c.toNat : Nat) : Int)
 ·rw [hrk, if_pos (.inr h3)]
  repeat first | refine X0 ?_ | (refine JR ?_; (repeat first | refine Z1 ?_ | refine Z0 ?_ | refine Zz ?_ | refine ZA ?_ | refine ZL ?_ | refine ZK ?_ | refine Zd ?_ | refine Z8 ?_ | refine Zp ?_ | refine Z2 ?_ | refine Zs ?_ | refine Zt (γ := 101) ?_ | refine Zy (γ := 100) ?_ | refine Zw ?_ | refine Zn ?_ | refine ZI ?_ | refine Z01 ?_); refine JD ?_) | refine JT ?_ | refine JF ?_ | refine X3 ?_
  exact X1 ⟨_, St.le_refl _, ⟨⟨101, 0, _, rfl, rfl, .inr ⟨3, _, rfl, rfl, rfl, rfl⟩⟩, rfl, trivial⟩, X2 _⟩
 rw [hrk, if_neg (by omega)]
 repeat first | refine X0 ?_ | (refine JR ?_; (repeat first | refine Z1 ?_ | refine Z0 ?_ | refine Zz ?_ | refine ZA ?_ | refine ZL ?_ | refine ZK ?_ | refine Zd ?_ | refine Z8 ?_ | refine Zp ?_ | refine Z2 ?_ | refine Zs ?_ | refine Zb ?_ | refine Zt (γ := 101) ?_ | refine Zy (γ := 100) ?_ | refine Zw ?_ | refine Zn ?_ | refine ZI ?_ | refine Z01 ?_); refine JD ?_) | refine JF ?_ | refine X3 ?_
 exact X1 ⟨_, St.le_refl _, ⟨⟨101, 0, _, rfl, rfl, .inr ⟨3, _, rfl, rfl, rfl, rfl⟩⟩, rfl, trivial⟩, X2 _⟩
theorem X1f (b : List UInt8) (a e : Int) (hb : b.length ≤ 281474976710656) : Con Tryz.prog 46 [] [YH b a e] [] (.tup [YH b (rnS b a e).2.1 (rnS b a e).2.2, ai (rnS b a e).1]) := by
 refine X8 (xs := [YH b (rnS b a e).2.1 (rnS b a e).2.2, ai (rnS b a e).1]) Tryz.func46 rfl Tryz.ntmps46 rfl rfl rfl (fun E => ?_)
 have hu := X2q b a hb
 unfold rnS
 generalize Xg b a = u at *
 obtain ⟨u1, u2, u3⟩ := u
 by_cases he : e = 0
 ·rw [if_neg (by simpa using he)]
  repeat first | refine X0 ?_ | (refine JR ?_; (repeat first | refine Z1 ?_ | refine Z0 ?_ | refine Zz ?_ | refine ZA ?_ | refine ZL ?_ | refine Zs ?_ | refine Zt (γ := 101) ?_ | refine Zy (γ := 100) ?_ | refine Zw ?_ | refine ZD ?_ | refine Z9 (hcon := hu) ?_); refine JD ?_) | refine JF ?_ | refine X3 ?_
  exact X1 ⟨_, St.le_refl _, ⟨⟨101, 0, _, rfl, rfl, .inr ⟨3, _, rfl, rfl, rfl, rfl⟩⟩, rfl, trivial⟩, X2 _⟩
 ·rw [if_pos he]
  refine X0 ?_; refine JR ?_; refine Zy (γ := 100) ?_; refine Zt (γ := 101) ?_; refine Z0 ?_; refine JD ?_; refine X0 ?_; refine X0 ?_; refine JR ?_; refine Zz ?_; refine ZA ?_; refine Zs ?_; refine JD ?_
  refine JT ?_; refine X0 ?_; refine JR ?_; refine ZL ?_; refine Zw ?_; refine Z0 ?_; refine JD ?_
  exact X1 ⟨_, St.le_refl _, ⟨⟨101, 0, _, rfl, rfl, .inr ⟨3, _, rfl, rfl, rfl, rfl⟩⟩, rfl, trivial⟩, X2 _⟩
theorem X0U (b : List UInt8) (a e : Int) (hb : b.length ≤ 281474976710656) : Con Tryz.prog 79 [] [YH b a e] [] (.tup [YH b (rsS b a e).2.1 (rsS b a e).2.2, X7 (rsS b a e).1]) := by
 refine X8 (xs := [YH b (rsS b a e).2.1 (rsS b a e).2.2, X7 (rsS b a e).1]) Tryz.func79 rfl Tryz.ntmps79 rfl rfl rfl (fun E => ?_)
 have hu := X53 b a 20 hb
 unfold rsS
 generalize Y3 b a 20 = u at *
 obtain ⟨u1, u2, u3⟩ := u
 by_cases he : e = 0
 ·rw [if_neg (by simpa using he)]
  repeat first | refine X0 ?_ | (refine JR ?_; (repeat first | refine Z1 ?_ | refine Z0 ?_ | refine Zz ?_ | refine ZA ?_ | refine ZL ?_ | refine Zs ?_ | refine Zt (γ := 101) ?_ | refine Zy (γ := 100) ?_ | refine Zw ?_ | refine ZD ?_ | refine Z9 (hcon := hu) ?_); refine JD ?_) | refine JF ?_ | refine X3 ?_
  exact X1 ⟨_, St.le_refl _, ⟨⟨101, 0, _, rfl, rfl, .inr ⟨3, _, rfl, rfl, rfl, rfl⟩⟩, rfl, trivial⟩, X2 _⟩
 ·rw [if_pos he]
  refine X0 ?_; refine JR ?_; refine Zy (γ := 100) ?_; refine Zt (γ := 101) ?_; refine Z0 ?_; refine JD ?_; refine X0 ?_; refine X0 ?_; refine JR ?_; refine Zz ?_; refine ZA ?_; refine Zs ?_; refine JD ?_
  refine JT ?_; refine X0 ?_; refine JR ?_; refine ZL ?_; refine Zw ?_; refine Z0 ?_; refine JD ?_
  exact X1 ⟨_, St.le_refl _, ⟨⟨101, 0, _, rfl, rfl, .inr ⟨3, _, rfl, rfl, rfl, rfl⟩⟩, rfl, trivial⟩, X2 _⟩
theorem XaY (b : List UInt8) (a e : Int) (hb : b.length ≤ 281474976710656) : Con Tryz.prog 80 [] [YH b a e] [] (.tup [YH b (rvS b a e).2.1 (rvS b a e).2.2, Xb (rvS b a e).1]) := by
 refine X8 (xs := [YH b (rvS b a e).2.1 (rvS b a e).2.2, Xb (rvS b a e).1]) Tryz.func80 rfl Tryz.ntmps80 rfl rfl rfl (fun E => ?_)
 have hu := X8J b hb a
 have hz := Xbs
 unfold rvS
 generalize Y5 b a = u at *
 obtain ⟨⟨k, n, d, s, l⟩, u2, u3⟩ := u
 simp only [Xb] at hu hz
 by_cases he : e = 0
 ·rw [if_neg (by simpa using he)]
  simp only [Xb]
  repeat first | refine X0 ?_ | (refine JR ?_; (repeat first | refine Z1 ?_ | refine Z0 ?_ | refine Zz ?_ | refine ZA ?_ | refine ZL ?_ | refine Zs ?_ | refine Zt (γ := 101) ?_ | refine Zt (γ := 102) ?_ | refine Zt (γ := 103) ?_ | refine Zy (γ := 100) ?_ | refine Zw ?_ | refine ZD ?_ | refine Z9 (hcon := hu) ?_); refine JD ?_) | refine JF ?_ | refine X3 ?_
  exact X1 ⟨_, St.le_refl _, ⟨⟨101, 0, _, rfl, rfl, .inr ⟨3, _, rfl, rfl, rfl, rfl⟩⟩, ⟨102, 0, _, rfl, rfl, .inr ⟨5, _, rfl, rfl, rfl, rfl⟩⟩, trivial⟩, X2 _⟩
 ·rw [if_pos he]
  simp only [Xb]
  refine X0 ?_; refine JR ?_; refine Zy (γ := 100) ?_; refine Zt (γ := 101) ?_; refine Zt (γ := 102) ?_; refine JD ?_; refine X0 ?_; refine X0 ?_; refine JR ?_; refine Zz ?_; refine ZA ?_; refine Zs ?_
  refine JD ?_; refine JT ?_; refine X0 ?_; refine JR ?_; refine ZL ?_; refine Z9 (hcon := hz) ?_; refine Zw ?_; refine Zw ?_; refine JD ?_
  exact X1 ⟨_, St.le_refl _, ⟨⟨101, 0, _, rfl, rfl, .inr ⟨3, _, rfl, rfl, rfl, rfl⟩⟩, ⟨102, 0, _, rfl, rfl, .inr ⟨5, _, rfl, rfl, rfl, rfl⟩⟩, trivial⟩, X2 _⟩
theorem X8F (b : List UInt8) (a e : Int) (hb : b.length ≤ 281474976710656) (ha : e = 0 → 0 ≤ a ∧ a ≤ b.length) : Con Tryz.prog 49 [] [YH b a e] [] (.tup [YH b (roS b a e).2.1 (roS b a e).2.2, ab (roS b a e).1]) := by
 refine X8 (xs := [YH b (roS b a e).2.1 (roS b a e).2.2, ab (roS b a e).1]) Tryz.func49 rfl Tryz.ntmps49 rfl rfl rfl (fun E => ?_)
 have hlm : (b.map Xa).length = b.length := by simp
 unfold roS
 by_cases he : e = 0
 case neg =>
  rw [if_pos he]
  refine X0 ?_; refine JR ?_; refine Zy (γ := 100) ?_; refine Zt (γ := 101) ?_; refine Z0 ?_; refine JD ?_; refine X0 ?_; refine X0 ?_; refine JR ?_; refine Zz ?_; refine ZA ?_; refine Zs ?_; refine JD ?_
  refine JT ?_; refine X0 ?_; refine JR ?_; refine ZL ?_; refine Zw ?_; refine Z0 ?_; refine JD ?_
  exact X1 ⟨_, St.le_refl _, ⟨⟨101, 0, _, rfl, rfl, .inr ⟨3, _, rfl, rfl, rfl, rfl⟩⟩, rfl, trivial⟩, X2 _⟩
 subst he
 obtain ⟨m, rfl⟩ : ∃ m : Nat, a = m := ⟨a.toNat, by have := ha rfl; omega⟩
 rw [if_neg (by simp), Int.toNat_natCast]
 by_cases h1 : (b.length : Int) ≤ m
 ·rw [if_pos h1]
  have h1' : ((b.map Xa).length : Int) ≤ m := by omega
  refine X0 ?_; refine JR ?_; refine Zy (γ := 100) ?_; refine Zt (γ := 101) ?_; refine Z0 ?_; refine JD ?_; refine X0 ?_; refine X0 ?_; refine JR ?_; refine Zz ?_; refine ZA ?_; refine Zs ?_; refine JD ?_
  refine JF ?_; refine X3 ?_; refine X0 ?_; refine X0 ?_; refine JR ?_; refine Zz ?_; refine ZA ?_; refine Zz ?_; refine ZA ?_; refine Zd ?_; refine Z2 ?_; refine JD ?_; refine JT ?_; refine X0 ?_
  refine JR ?_; refine Zz ?_; refine Zw ?_; refine JD ?_; refine X0 ?_; refine JR ?_; refine ZL ?_; refine Zw ?_; refine Z0 ?_; refine JD ?_
  exact X1 ⟨_, St.le_refl _, ⟨⟨101, 0, _, rfl, rfl, .inr ⟨3, _, rfl, rfl, rfl, rfl⟩⟩, rfl, trivial⟩, X2 _⟩
 rw [if_neg h1]
 have h1' : ¬ ((b.map Xa).length : Int) ≤ m := by omega
 obtain ⟨c, hc⟩ := XT (l := b) (k := m) (by omega)
 have hxm : (b.map Xa)[m]? = some (Xa c) := YR hc
 rw [hc, Option.getD_some]
 by_cases h2 : 1 < c.toNat
 ·rw [if_pos h2]
  repeat first | refine X0 ?_ | (refine JR ?_; (repeat first | refine Z1 ?_ | refine Z0 ?_ | refine Zz ?_ | refine ZA ?_ | refine ZL ?_ | refine ZK ?_ | refine Zd ?_ | refine Zp ?_ | refine Z2 ?_ | refine Zs ?_ | refine Zt (γ := 101) ?_ | refine Zy (γ := 100) ?_ | refine Zw ?_ | refine ZI ?_); refine JD ?_) | refine JT ?_ | refine JF ?_ | refine X3 ?_
  exact X1 ⟨_, St.le_refl _, ⟨⟨101, 0, _, rfl, rfl, .inr ⟨3, _, rfl, rfl, rfl, rfl⟩⟩, rfl, trivial⟩, X2 _⟩
 rw [if_neg h2]
 repeat first | refine X0 ?_ | (refine JR ?_; (repeat first | refine Z1 ?_ | refine Z0 ?_ | refine Zz ?_ | refine ZA ?_ | refine ZL ?_ | refine ZK ?_ | refine Zd ?_ | refine Zp ?_ | refine Z2 ?_ | refine Zu ?_ | refine Zs ?_ | refine Zb ?_ | refine Zt (γ := 101) ?_ | refine Zy (γ := 100) ?_ | refine Zw ?_ | refine ZI ?_); refine JD ?_) | refine JF ?_ | refine X3 ?_
 exact X1 ⟨_, St.le_refl _, ⟨⟨101, 0, _, rfl, rfl, .inr ⟨3, _, rfl, rfl, rfl, rfl⟩⟩, rfl, trivial⟩, X2 _⟩
theorem X5b (b : List UInt8) (a e : Int) (hb : b.length ≤ 281474976710656) (ha : e = 0 → 0 ≤ a ∧ a ≤ b.length) : Con Tryz.prog 47 [] [YH b a e] [] (.tup [YH b (XO b a e).2.1 (XO b a e).2.2, Xy (XO b a e).1]) := by
 refine X8 (xs := [YH b (XO b a e).2.1 (XO b a e).2.2, Xy (XO b a e).1]) Tryz.func47 rfl Tryz.ntmps47 rfl rfl rfl (fun E => ?_)
 have hk := X2M b a e 8 hb ha
 unfold XO
 generalize rkI b a e 8 = k at *
 obtain ⟨op, a1, e1⟩ := k
 simp only at hk ⊢
 have hf := X7g op
 have hg := X5s op
 have hi := X1f b a1 e1 hb
 generalize rnS b a1 e1 = i at *
 obtain ⟨id, a2, e2⟩ := i
 simp only at hi ⊢
 by_cases h6 : op = 6
 ·subst h6
  simp only [if_true, if_pos (show XC 6 = true by decide), if_neg (show ¬ Xz 6 = true by decide)]
  rw [show XC 6 = true by decide] at hf
  rw [show Xz 6 = false by decide] at hg
  have hs := X1f b a2 e2 hb
  generalize rnS b a2 e2 = f at *
  obtain ⟨src, a3, e3⟩ := f
  simp only at hs ⊢
  have hd := X1f b a3 e3 hb
  generalize rnS b a3 e3 = t at *
  obtain ⟨dst, a4, e4⟩ := t
  simp only at hd ⊢
  have hn := X0U b a4 e4 hb
  generalize rsS b a4 e4 = s at *
  obtain ⟨name, a5, e5⟩ := s
  simp only [Xy] at *
  repeat first | refine X0 ?_ | (refine JR ?_; (repeat first | refine Z1 ?_ | refine Z0 ?_ | refine Zz ?_ | refine ZL ?_ | refine Zu ?_ | refine Zt (γ := 101) ?_ | refine Zt (γ := 102) ?_ | refine Zt (γ := 103) ?_ | refine Zt (γ := 104) ?_ | refine Zt (γ := 105) ?_ | refine Zt (γ := 106) ?_ | refine Zy (γ := 100) ?_ | refine Zw ?_ | refine ZD ?_ | refine Z9 (hcon := hk) ?_ | refine Z9 (hcon := hf) ?_ | refine Z9 (hcon := hg) ?_ | refine Z9 (hcon := hi) ?_ | refine Z9 (hcon := hs) ?_ | refine Z9 (hcon := hd) ?_ | refine Z9 (hcon := hn) ?_); refine JD ?_) | refine JT ?_ | refine JF ?_ | refine X3 ?_
  exact X1 ⟨_, Xm 102 (cs' := [ai 6, ai id, ai src, ai dst, X7 name, ai 0, ai 0, ai 0, X7 [], .d (.sl 5 [])]) rfl JM rfl, ⟨⟨101, 0, _, rfl, rfl, .inr ⟨3, _, rfl, rfl, rfl, rfl⟩⟩, ⟨102, 0, _, rfl, rfl, .inr ⟨10, _, rfl, rfl, rfl, rfl⟩⟩, trivial⟩, X2 _⟩
 simp only [if_neg h6]
 by_cases hn : XC op = true
 case neg =>
  have hv : ¬ Xz op = true := by revert hn; unfold XC Xz; simp; omega
  simp only [if_neg hn, if_neg hv]
  rw [show XC op = false by simpa using hn] at hf
  rw [show Xz op = false by simpa using hv] at hg
  simp only [Xy] at *
  repeat first | refine X0 ?_ | (refine JR ?_; (repeat first | refine Z1 ?_ | refine Z0 ?_ | refine Zz ?_ | refine ZL ?_ | refine Zu ?_ | refine Zt (γ := 101) ?_ | refine Zt (γ := 102) ?_ | refine Zt (γ := 103) ?_ | refine Zy (γ := 100) ?_ | refine Zw ?_ | refine ZD ?_ | refine Z9 (hcon := hk) ?_ | refine Z9 (hcon := hf) ?_ | refine Z9 (hcon := hg) ?_ | refine Z9 (hcon := hi) ?_); refine JD ?_) | refine JF ?_ | refine X3 ?_
  exact X1 ⟨_, Xm 102 (cs' := [ai op, ai id, ai 0, ai 0, X7 [], ai 0, ai 0, ai 0, X7 [], .d (.sl 5 [])]) rfl JM rfl, ⟨⟨101, 0, _, rfl, rfl, .inr ⟨3, _, rfl, rfl, rfl, rfl⟩⟩, ⟨102, 0, _, rfl, rfl, .inr ⟨10, _, rfl, rfl, rfl, rfl⟩⟩, trivial⟩, X2 _⟩
 simp only [if_pos hn]
 rw [hn] at hf
 have hs := X0U b a2 e2 hb
 generalize rsS b a2 e2 = s at *
 obtain ⟨name, a3, e3⟩ := s
 simp only at hs ⊢
 by_cases hv : Xz op = true
 case neg =>
  simp only [if_neg hv]
  rw [show Xz op = false by simpa using hv] at hg
  simp only [Xy] at *
  repeat first | refine X0 ?_ | (refine JR ?_; (repeat first | refine Z1 ?_ | refine Z0 ?_ | refine Zz ?_ | refine ZL ?_ | refine Zu ?_ | refine Zt (γ := 101) ?_ | refine Zt (γ := 102) ?_ | refine Zt (γ := 103) ?_ | refine Zt (γ := 104) ?_ | refine Zy (γ := 100) ?_ | refine Zw ?_ | refine ZD ?_ | refine Z9 (hcon := hk) ?_ | refine Z9 (hcon := hf) ?_ | refine Z9 (hcon := hg) ?_ | refine Z9 (hcon := hi) ?_ | refine Z9 (hcon := hs) ?_); refine JD ?_) | refine JT ?_ | refine JF ?_ | refine X3 ?_
  exact X1 ⟨_, Xm 102 (cs' := [ai op, ai id, ai 0, ai 0, X7 name, ai 0, ai 0, ai 0, X7 [], .d (.sl 5 [])]) rfl JM rfl, ⟨⟨101, 0, _, rfl, rfl, .inr ⟨3, _, rfl, rfl, rfl, rfl⟩⟩, ⟨102, 0, _, rfl, rfl, .inr ⟨10, _, rfl, rfl, rfl, rfl⟩⟩, trivial⟩, X2 _⟩
 simp only [if_pos hv]
 rw [hv] at hg
 have hr := XaY b a3 e3 hb
 generalize rvS b a3 e3 = v at *
 obtain ⟨⟨vk, vn, vd, vs, vl⟩, a4, e4⟩ := v
 simp only [Xy, Xb] at *
 repeat first | refine X0 ?_ | (refine JR ?_; (repeat first | refine Z1 ?_ | refine Z0 ?_ | refine Zz ?_ | refine ZL ?_ | refine Zu ?_ | refine Zt (γ := 101) ?_ | refine Zt (γ := 102) ?_ | refine Zt (γ := 103) ?_ | refine Zt (γ := 104) ?_ | refine Zt (γ := 105) ?_ | refine Zt (γ := 106) ?_ | refine Zy (γ := 100) ?_ | refine Zw ?_ | refine ZD ?_ | refine Z9 (hcon := hk) ?_ | refine Z9 (hcon := hf) ?_ | refine Z9 (hcon := hg) ?_ | refine Z9 (hcon := hi) ?_ | refine Z9 (hcon := hs) ?_ | refine Z9 (hcon := hr) ?_); refine JD ?_) | refine JT ?_ | refine JF ?_ | refine X3 ?_
 exact X1 ⟨_, St.le_refl _, ⟨⟨101, 0, _, rfl, rfl, .inr ⟨3, _, rfl, rfl, rfl, rfl⟩⟩, ⟨102, 0, _, rfl, rfl, .inr ⟨10, _, rfl, rfl, rfl, rfl⟩⟩, trivial⟩, X2 _⟩
theorem X5z (b : List UInt8) (a e : Int) (hb : b.length ≤ 281474976710656) (ha : e = 0 → 0 ≤ a ∧ a ≤ b.length) : Con Tryz.prog 48 [] [YH b a e] [] (.tup [YH b (Y6 b a e).2.1 (Y6 b a e).2.2, XY (Y6 b a e).1]) := by
 refine X8 (xs := [YH b (Y6 b a e).2.1 (Y6 b a e).2.2, XY (Y6 b a e).1]) Tryz.func48 rfl Tryz.ntmps48 rfl rfl rfl (fun E => ?_)
 have hk := X2M b a e 7 hb ha
 unfold Y6
 generalize rkI b a e 7 = k at *
 obtain ⟨kd, a1, e1⟩ := k
 simp only at hk ⊢
 have h1 := X0U b a1 e1 hb
 generalize rsS b a1 e1 = u1 at *
 obtain ⟨s1, a2, e2⟩ := u1
 simp only at h1 ⊢
 have h2 := X0U b a2 e2 hb
 generalize rsS b a2 e2 = u2 at *
 obtain ⟨s2, a3, e3⟩ := u2
 simp only at h2 ⊢
 have h3 := X0U b a3 e3 hb
 generalize rsS b a3 e3 = u3 at *
 obtain ⟨s3, a4, e4⟩ := u3
 simp only at h3 ⊢
 have h4 := X0U b a4 e4 hb
 generalize rsS b a4 e4 = u4 at *
 obtain ⟨s4, a5, e5⟩ := u4
 simp only [XY] at h4 ⊢
 by_cases he : e5 = 0
 ·subst he
  have hi := X01 b a5 hb
  rw [X2p]
  generalize Xl b a5 = u5 at *
  obtain ⟨n, a6, e6⟩ := u5
  repeat first | refine X0 ?_ | (refine JR ?_; (repeat first | refine Z1 ?_ | refine Z0 ?_ | refine Zz ?_ | refine ZA ?_ | refine ZL ?_ | refine Zu ?_ | refine Zt (γ := 101) ?_ | refine Zt (γ := 102) ?_ | refine Zt (γ := 103) ?_ | refine Zy (γ := 100) ?_ | refine Zw ?_ | refine ZD ?_ | refine Z9 (hcon := hk) ?_ | refine Z9 (hcon := h1) ?_ | refine Z9 (hcon := h2) ?_ | refine Z9 (hcon := h3) ?_ | refine Z9 (hcon := h4) ?_ | refine Z9 (hcon := hi) ?_); refine JD ?_) | refine JT ?_
  exact X1 ⟨_, St.le_refl _, ⟨⟨101, 0, _, rfl, rfl, .inr ⟨3, _, rfl, rfl, rfl, rfl⟩⟩, ⟨102, 0, _, rfl, rfl, .inr ⟨6, _, rfl, rfl, rfl, rfl⟩⟩, trivial⟩, X2 _⟩
 ·rw [X3F he]
  repeat first | refine X0 ?_ | (refine JR ?_; (repeat first | refine Z1 ?_ | refine Z0 ?_ | refine Zz ?_ | refine ZA ?_ | refine ZL ?_ | refine Zu ?_ | refine Zt (γ := 101) ?_ | refine Zt (γ := 102) ?_ | refine Zt (γ := 103) ?_ | refine Zy (γ := 100) ?_ | refine Zw ?_ | refine ZD ?_ | refine Z9 (hcon := hk) ?_ | refine Z9 (hcon := h1) ?_ | refine Z9 (hcon := h2) ?_ | refine Z9 (hcon := h3) ?_ | refine Z9 (hcon := h4) ?_); refine JD ?_) | refine JF ?_ | refine X3 ?_
  exact X1 ⟨_, St.le_refl _, ⟨⟨101, 0, _, rfl, rfl, .inr ⟨3, _, rfl, rfl, rfl, rfl⟩⟩, ⟨102, 0, _, rfl, rfl, .inr ⟨6, _, rfl, rfl, rfl, rfl⟩⟩, trivial⟩, X2 _⟩
end Go.Fw

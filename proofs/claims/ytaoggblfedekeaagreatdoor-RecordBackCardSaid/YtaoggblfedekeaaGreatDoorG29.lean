/- Changes, rules and records read: the reference's. -/
import Derived.Test.YtaoggblfedekeaaGreatDoorG08
import Derived.Test.YtaoggblfedekeaaGreatDoorG28
import Derived.Test.YtaoggblfedekeaaGreatDoorG25
import Derived.Test.YtaoggblfedekeaaGreatDoorG17
import Derived.Test.YtaoggblfedekeaaGreatDoorG27
import Derived.Test.YtaoggblfedekeaaGreatDoorG07
import Derived.KernelRfl
set_option maxHeartbeats 32000000
namespace Go.Fw
open Go Go.Proofs
set_option maxRecDepth 100000
set_option linter.unusedVariables false
set_option linter.unusedSimpArgs false
theorem X9e (b : List UInt8) (a : Int) (hb : b.length ≤ 281474976710656) : Con Tryz.prog 22 [] [.d (Xh b), ai a] [] (.tup [Xy (U1 b a).1, ai (U1 b a).2.1, ai (U1 b a).2.2]) := by
 refine X8 (xs := [Xy (U1 b a).1, ai (U1 b a).2.1, ai (U1 b a).2.2]) Tryz.func22 rfl Tryz.ntmps22 rfl rfl rfl (fun E => ?_)
 have hlm : (b.map Xa).length = b.length := by simp
 unfold U1
 by_cases h1 : a < 0
 ·rw [if_pos (.inl h1)]
  refine X0 ?_; refine JR ?_; refine Zt (γ := 100) ?_; refine Z0 ?_; refine Z0 ?_; refine JD ?_; refine X0 ?_; refine X0 ?_; refine JR ?_; refine Z1 ?_; refine Z8 ?_; refine Z1 ?_; refine Zl ?_; refine Zl ?_
  refine Zl ?_; refine Zl ?_; refine Zk ?_; refine JD ?_; refine JT ?_; refine X0 ?_; refine JR ?_; refine Zv ?_; refine Zw ?_; refine Z0 ?_; refine Z0 ?_; refine JD ?_
  exact X1 ⟨_, Xm 100 (cs' := [ai 0, ai 0, ai 0, ai 0, X7 [], ai 0, ai 0, ai 0, X7 [], .d (.sl 5 [])]) rfl JM rfl, ⟨⟨100, 0, _, rfl, rfl, .inr ⟨10, _, rfl, rfl, rfl, rfl⟩⟩, rfl, rfl, trivial⟩, X2 _⟩
 by_cases h2 : (b.length : Int) < a
 ·rw [if_pos (.inr h2)]
  have h2' : ((b.map Xa).length : Int) < a := by omega
  refine X0 ?_; refine JR ?_; refine Zt (γ := 100) ?_; refine Z0 ?_; refine Z0 ?_; refine JD ?_; refine X0 ?_; refine X0 ?_; refine JR ?_; refine Z1 ?_; refine Z8 ?_; refine Z1 ?_; refine Z1 ?_; refine Z1 ?_
  refine Zd ?_; refine Zp ?_; refine Zn ?_; refine JD ?_; refine JT ?_; refine X0 ?_; refine JR ?_; refine Zv ?_; refine Zw ?_; refine Z0 ?_; refine Z0 ?_; refine JD ?_
  exact X1 ⟨_, Xm 100 (cs' := [ai 0, ai 0, ai 0, ai 0, X7 [], ai 0, ai 0, ai 0, X7 [], .d (.sl 5 [])]) rfl JM rfl, ⟨⟨100, 0, _, rfl, rfl, .inr ⟨10, _, rfl, rfl, rfl, rfl⟩⟩, rfl, rfl, trivial⟩, X2 _⟩
 rw [if_neg (by omega)]
 have h2' : ¬ ((b.map Xa).length : Int) < a := by omega
 have hr := X5b b a 0 hb (fun _ => by omega)
 have hc := X2I (XO b a 0).1 (X4m b a 0).2
 generalize XO b a 0 = r at *
 obtain ⟨c, at_, e⟩ := r
 simp only at hr hc ⊢
 generalize Y8 c = ce at *
 obtain ⟨op, id, src, dst, name, ⟨k, n, d, s, l⟩⟩ := c
 simp only [Xy] at hr hc ⊢
 by_cases he : e = 0
 ·subst he
  rw [if_pos rfl]
  by_cases h3 : ce = 0
  ·subst h3
   rw [if_neg (by simp)]
   repeat first | refine X0 ?_ | (refine JR ?_; (repeat first | refine Z1 ?_ | refine Z0 ?_ | refine Zz ?_ | refine ZA ?_ | refine ZL ?_ | refine Zd ?_ | refine Z8 ?_ | refine Zp ?_ | refine Zu ?_ | refine Zs ?_ | refine Zt (γ := 100) ?_ | refine Zt (γ := 101) ?_ | refine Zt (γ := 102) ?_ | refine Zw ?_ | refine Zv ?_ | refine ZD ?_ | refine Zn ?_ | refine Z9 (hcon := hr) ?_ | refine Z9 (hcon := hc) ?_); refine JD ?_) | refine JT ?_ | refine JF ?_ | refine X3 ?_
   exact X1 ⟨_, St.le_refl _, ⟨⟨100, 0, _, rfl, rfl, .inr ⟨10, _, rfl, rfl, rfl, rfl⟩⟩, rfl, rfl, trivial⟩, X2 _⟩
  ·rw [if_pos h3]
   repeat first | refine X0 ?_ | (refine JR ?_; (repeat first | refine Z1 ?_ | refine Z0 ?_ | refine Zz ?_ | refine ZA ?_ | refine ZL ?_ | refine Zd ?_ | refine Z8 ?_ | refine Zp ?_ | refine Zu ?_ | refine Zs ?_ | refine Zt (γ := 100) ?_ | refine Zt (γ := 101) ?_ | refine Zt (γ := 102) ?_ | refine Zw ?_ | refine Zv ?_ | refine ZD ?_ | refine Zn ?_ | refine Z9 (hcon := hr) ?_ | refine Z9 (hcon := hc) ?_); refine JD ?_) | refine JT ?_ | refine JF ?_ | refine X3 ?_
   exact X1 ⟨_, Xm 100 (cs' := [ai 0, ai 0, ai 0, ai 0, X7 [], ai 0, ai 0, ai 0, X7 [], .d (.sl 5 [])]) rfl JM rfl, ⟨⟨100, 0, _, rfl, rfl, .inr ⟨10, _, rfl, rfl, rfl, rfl⟩⟩, rfl, rfl, trivial⟩, X2 _⟩
 ·rw [if_neg he, if_pos he]
  repeat first | refine X0 ?_ | (refine JR ?_; (repeat first | refine Z1 ?_ | refine Z0 ?_ | refine Zz ?_ | refine ZA ?_ | refine Zd ?_ | refine Z8 ?_ | refine Zp ?_ | refine Zu ?_ | refine Zs ?_ | refine Zt (γ := 100) ?_ | refine Zt (γ := 101) ?_ | refine Zt (γ := 102) ?_ | refine Zw ?_ | refine Zv ?_ | refine ZD ?_ | refine Zn ?_ | refine Z9 (hcon := hr) ?_); refine JD ?_) | refine JT ?_ | refine JF ?_ | refine X3 ?_
  exact X1 ⟨_, Xm 100 (cs' := [ai 0, ai 0, ai 0, ai 0, X7 [], ai 0, ai 0, ai 0, X7 [], .d (.sl 5 [])]) rfl JM rfl, ⟨⟨100, 0, _, rfl, rfl, .inr ⟨10, _, rfl, rfl, rfl, rfl⟩⟩, rfl, rfl, trivial⟩, X2 _⟩
theorem X88 (b : List UInt8) (a : Int) (hb : b.length ≤ 281474976710656) : Con Tryz.prog 24 [] [.d (Xh b), ai a] [] (.tup [XY (Ut b a).1, ai (Ut b a).2.1, ai (Ut b a).2.2]) := by
 refine X8 (xs := [XY (Ut b a).1, ai (Ut b a).2.1, ai (Ut b a).2.2]) Tryz.func24 rfl Tryz.ntmps24 rfl rfl rfl (fun E => ?_)
 have hlm : (b.map Xa).length = b.length := by simp
 unfold Ut
 by_cases h1 : a < 0
 ·rw [if_pos (.inl h1)]
  refine X0 ?_; refine JR ?_; refine Zt (γ := 100) ?_; refine Z0 ?_; refine Z0 ?_; refine JD ?_; refine X0 ?_; refine X0 ?_; refine JR ?_; refine Z1 ?_; refine Z8 ?_; refine Z1 ?_; refine Zl ?_; refine Zl ?_
  refine Zl ?_; refine Zl ?_; refine Zk ?_; refine JD ?_; refine JT ?_; refine X0 ?_; refine JR ?_; refine Zv ?_; refine Zw ?_; refine Z0 ?_; refine Z0 ?_; refine JD ?_
  exact X1 ⟨_, St.le_refl _, ⟨⟨100, 0, _, rfl, rfl, .inr ⟨6, _, rfl, rfl, rfl, rfl⟩⟩, rfl, rfl, trivial⟩, X2 _⟩
 by_cases h2 : (b.length : Int) < a
 ·rw [if_pos (.inr h2)]
  have h2' : ((b.map Xa).length : Int) < a := by omega
  refine X0 ?_; refine JR ?_; refine Zt (γ := 100) ?_; refine Z0 ?_; refine Z0 ?_; refine JD ?_; refine X0 ?_; refine X0 ?_; refine JR ?_; refine Z1 ?_; refine Z8 ?_; refine Z1 ?_; refine Z1 ?_; refine Z1 ?_
  refine Zd ?_; refine Zp ?_; refine Zn ?_; refine JD ?_; refine JT ?_; refine X0 ?_; refine JR ?_; refine Zv ?_; refine Zw ?_; refine Z0 ?_; refine Z0 ?_; refine JD ?_
  exact X1 ⟨_, St.le_refl _, ⟨⟨100, 0, _, rfl, rfl, .inr ⟨6, _, rfl, rfl, rfl, rfl⟩⟩, rfl, rfl, trivial⟩, X2 _⟩
 rw [if_neg (by omega)]
 have h2' : ¬ ((b.map Xa).length : Int) < a := by omega
 have hr := X5z b a 0 hb (fun _ => by omega)
 have hc := X2L (Y6 b a 0).1
 generalize Y6 b a 0 = r at *
 obtain ⟨c, at_, e⟩ := r
 simp only at hr hc ⊢
 generalize YS c = ce at *
 obtain ⟨k, n, name, key, src, dst⟩ := c
 simp only [XY] at hr hc ⊢
 by_cases he : e = 0
 ·subst he
  rw [if_pos rfl]
  by_cases h3 : ce = 0
  ·subst h3
   rw [if_neg (by simp)]
   repeat first | refine X0 ?_ | (refine JR ?_; (repeat first | refine Z1 ?_ | refine Z0 ?_ | refine Zz ?_ | refine ZA ?_ | refine ZL ?_ | refine Zd ?_ | refine Z8 ?_ | refine Zp ?_ | refine Zu ?_ | refine Zs ?_ | refine Zt (γ := 100) ?_ | refine Zt (γ := 101) ?_ | refine Zt (γ := 102) ?_ | refine Zw ?_ | refine Zv ?_ | refine ZD ?_ | refine Zn ?_ | refine Z9 (hcon := hr) ?_ | refine Z9 (hcon := hc) ?_); refine JD ?_) | refine JT ?_ | refine JF ?_ | refine X3 ?_
   exact X1 ⟨_, St.le_refl _, ⟨⟨100, 0, _, rfl, rfl, .inr ⟨6, _, rfl, rfl, rfl, rfl⟩⟩, rfl, rfl, trivial⟩, X2 _⟩
  ·rw [if_pos h3]
   repeat first | refine X0 ?_ | (refine JR ?_; (repeat first | refine Z1 ?_ | refine Z0 ?_ | refine Zz ?_ | refine ZA ?_ | refine ZL ?_ | refine Zd ?_ | refine Z8 ?_ | refine Zp ?_ | refine Zu ?_ | refine Zs ?_ | refine Zt (γ := 100) ?_ | refine Zt (γ := 101) ?_ | refine Zt (γ := 102) ?_ | refine Zw ?_ | refine Zv ?_ | refine ZD ?_ | refine Zn ?_ | refine Z9 (hcon := hr) ?_ | refine Z9 (hcon := hc) ?_); refine JD ?_) | refine JT ?_ | refine JF ?_ | refine X3 ?_
   exact X1 ⟨_, St.le_refl _, ⟨⟨100, 0, _, rfl, rfl, .inr ⟨6, _, rfl, rfl, rfl, rfl⟩⟩, rfl, rfl, trivial⟩, X2 _⟩
 ·rw [if_neg he, if_pos he]
  repeat first | refine X0 ?_ | (refine JR ?_; (repeat first | refine Z1 ?_ | refine Z0 ?_ | refine Zz ?_ | refine ZA ?_ | refine Zd ?_ | refine Z8 ?_ | refine Zp ?_ | refine Zu ?_ | refine Zs ?_ | refine Zt (γ := 100) ?_ | refine Zt (γ := 101) ?_ | refine Zt (γ := 102) ?_ | refine Zw ?_ | refine Zv ?_ | refine ZD ?_ | refine Zn ?_ | refine Z9 (hcon := hr) ?_); refine JD ?_) | refine JT ?_ | refine JF ?_ | refine X3 ?_
  exact X1 ⟨_, St.le_refl _, ⟨⟨100, 0, _, rfl, rfl, .inr ⟨6, _, rfl, rfl, rfl, rfl⟩⟩, rfl, rfl, trivial⟩, X2 _⟩
theorem X9E {b : List UInt8} {n : Nat} {a : Int} : Yq b (n + 1) a 0 = ((XO b a 0).1 :: (Yq b n (XO b a 0).2.1 (XO b a 0).2.2).1, (Yq b n (XO b a 0).2.1 (XO b a 0).2.2).2) := by
 rw [Yq, if_neg (by simp)]
theorem Xc2 (b : List UInt8) (hb : b.length ≤ 1073741824) : Con Tryz.prog 20 [] [.d (Xh b)] [] (.tup [XZ (rdS b).1, ai (rdS b).2]) := by
 refine X8 (xs := [XZ (rdS b).1, ai (rdS b).2]) Tryz.func20 rfl Tryz.ntmps20 rfl rfl rfl (fun E => ?_)
 have hb' : b.length ≤ 281474976710656 := by omega
 have hlm : (b.map Xa).length = b.length := by simp
 have hk := X2M b 0 0 3 hb' (fun _ => by omega)
 unfold rdS
 generalize hX : rdX b = X
 unfold rdX at hX
 generalize rkI b 0 0 3 = k at *
 obtain ⟨kd, a1, e1⟩ := k
 simp only at hk hX
 have ht := X1f b a1 e1 hb'
 have htp := fun h => X0c (b := b) (a := a1) (e := e1) h
 generalize rnS b a1 e1 = t at *
 obtain ⟨ts, a2, e2⟩ := t
 simp only at ht htp hX
 have hXok : UE X.1 := by
  subst hX
  split
  ·have hz := fun h => X0c (b := b) (a := a2) (e := e2) h
   have := X0A (b := b) (rnS b a2 e2).1.toNat (rnS b a2 e2).2.1 (rnS b a2 e2).2.2 (fun h => hz h)
   exact ⟨by simp only; omega, this.1⟩
  ·split <;> exact ⟨by simp, by simp⟩
 have hc := X1C X.1 hXok
 clear hXok
 repeat first | refine X0 ?_ | (refine JR ?_; (repeat first | refine Z1 ?_ | refine Z0 ?_ | refine Zz ?_ | refine ZL ?_ | refine Zu ?_ | refine Zt (γ := 100) ?_ | refine Zt (γ := 101) ?_ | refine Zt (γ := 102) ?_ | refine Zw ?_ | refine Zv ?_ | refine ZD ?_ | refine Z9 (hcon := hk) ?_ | refine Z9 (hcon := ht) ?_); refine JD ?_)
 generalize hY : (if kd = 1 then Yq b (rnS b a2 e2).1.toNat (rnS b a2 e2).2.1 (rnS b a2 e2).2.2 else ([], a2, e2)) = Y
 refine X2l ⟨103, [(0, .d (Xh b)), (2, .ptr 100 0), (4, .ptr 101 0), (5, .ptr 102 0), (6, ai kd)], [(100, .box [ai 0, ai 0, ani, ai 0, ai 0, X7 [], X7 [], X7 [], X7 [], ab false]), (101, .box [ai kd, ai ts, .d (.sl 10 (Y.1.map Xx)), ai 0, ai 0, X7 [], X7 [], X7 [], X7 [], ab false]), (102, .box [.d (Xh b), ai Y.2.1, ai Y.2.2])]⟩ ?_ ?_
 ·by_cases k1 : kd = 1
  ·rw [if_pos k1] at hX hY
   have hn := X1f b a2 e2 hb'
   have hnp := fun h => X0c (b := b) (a := a2) (e := e2) h
   have hnn := X58 b a2 e2
   generalize rnS b a2 e2 = nn at *
   obtain ⟨n, a3, e3⟩ := nn
   obtain ⟨m, hm, hml⟩ := hnn
   simp only at hm hn hnp hX hY
   subst hm
   rw [Int.toNat_natCast] at hX hY
   have hall := X0A (b := b) m a3 e3 (fun h => hnp h)
   rw [hY] at hall hX
   refine JT ?_; refine X0 ?_; refine JR ?_; refine ZL ?_; refine Z9 (hcon := hn) ?_; refine Z1 ?_; refine ZD ?_; refine ZD ?_; refine Zt (γ := 103) ?_; refine Zw ?_; refine Z0 ?_; refine JD ?_; refine X0 ?_
   refine JR ?_; refine ZL ?_; refine Zw ?_; refine JD ?_; refine X0 ?_; refine JR ?_; refine Z0 ?_; refine JD ?_; refine X5 ?_
   refine Xu (X10 101 2 104 10 rfl rfl rfl rfl rfl) ?_
   refine XR (ι := List Chg × Nat × Int × Int × Nat) (fun q => q.1 ++ (Yq b q.2.1 q.2.2.1 q.2.2.2.1).1 = Y.1 ∧ (Yq b q.2.1 q.2.2.1 q.2.2.2.1).2 = Y.2 ∧ (q.2.2.2.1 = 0 → 0 ≤ q.2.2.1 ∧ q.2.2.1 ≤ b.length) ∧ q.2.2.2.2 + q.2.1 = m)
    (fun q => ⟨103, [(0, .d (Xh b)), (2, .ptr 100 0), (4, .ptr 101 0), (5, .ptr 102 0), (6, ai kd), (9, ai m), (10, ai q.2.2.2.2)], [(100, .box [ai 0, ai 0, ani, ai 0, ai 0, X7 [], X7 [], X7 [], X7 [], ab false]), (101, .box [ai kd, ai ts, .own 104 (q.1.map Xx).length, ai 0, ai 0, X7 [], X7 [], X7 [], X7 [], ab false]), (102, .box [.d (Xh b), ai q.2.2.1, ai q.2.2.2.1]), (104, .row 10 (q.1.map Xx))]⟩) (fun q => q.2.1) ([], m, a3, e3, 0)
    ⟨by rw [hY]; rfl, by rw [hY], hnp, by simp⟩
    (Xc rfl JM ⟨rfl, rfl, rfl, rfl, trivial⟩) ?_
   rintro ⟨acc, j, a, e, i⟩ ⟨h1, h2, h3, h4⟩
   simp only at h1 h2 h3 h4
   have fin : j = 0 ∨ e ≠ 0 → Y = (acc, a, e) := by
    intro h
    have : Yq b j a e = ([], a, e) := by
     rcases h with rfl | h
     ·rfl
     ·exact X40 h
    rw [this] at h1 h2
    simp only [List.append_nil] at h1
    exact Prod.ext h1.symm h2.symm
   by_cases hj : j = 0
   ·have hLL := fin (.inl hj)
    subst hLL
    have hj' : ¬ ((i : Nat) : Int) < (m : Nat) := by omega
    refine X0 ?_; refine X0 ?_; refine JR ?_; refine Z1 ?_; refine Z1 ?_; refine Z8 ?_; refine Z1 ?_; refine Zl ?_; refine Zl ?_; refine Zl ?_; refine Zn ?_; refine JD ?_; refine JF ?_; refine Xv ?_
    refine St.le_trans (Y1 104 rfl) ?_
    refine St.le_trans (UT 101 2 104 rfl rfl rfl rfl) ?_
    exact Xc rfl JM ⟨rfl, rfl, rfl, trivial⟩
   have hj' : ((i : Nat) : Int) < (m : Nat) := by omega
   by_cases he : e = 0
   case neg =>
    have hLL := fin (.inr he)
    subst hLL
    refine X0 ?_; refine X0 ?_; refine JR ?_; refine Z1 ?_; refine Z1 ?_; refine Z8 ?_; refine Z1 ?_; refine Zz ?_; refine ZA ?_; refine Zu ?_; refine Zk ?_; refine JD ?_; refine JF ?_; refine Xv ?_
    refine St.le_trans (Y1 104 rfl) ?_
    refine St.le_trans (UT 101 2 104 rfl rfl rfl rfl) ?_
    exact Xc rfl JM ⟨rfl, rfl, rfl, trivial⟩
   subst he
   obtain ⟨j, rfl⟩ : ∃ r, j = r + 1 := ⟨j - 1, by omega⟩
   have h5 := h3 rfl
   have hcc := X5b b a 0 hb' (fun _ => h5)
   have hcp := fun h => X4k (b := b) (a := a) h5.1 h
   rw [X9E] at h1 h2
   generalize XO b a 0 = c at *
   obtain ⟨c, a', e'⟩ := c
   simp only at hcc hcp h1 h2
   have hroom : (acc.map Xx).length ≤ 1073741825 := by
    have := congrArg List.length h1
    simp only [List.length_append, List.length_cons] at this
    simp only [List.length_map]
    omega
   have happ : (acc ++ [c]).map Xx = acc.map Xx ++ [Xx c] := by simp
   obtain ⟨op, id, src, dst, name, ⟨xk, xn, xd, xs, xl⟩⟩ := c
   simp only [Xy] at hcc
   refine X0 ?_; refine X0 ?_; refine JR ?_; refine Z1 ?_; refine Z1 ?_; refine Z8 ?_; refine Z1 ?_; refine Zz ?_; refine ZA ?_; refine Zu ?_; refine Zk ?_; refine JD ?_; refine JT ?_; refine X3 ?_
   refine X0 ?_; refine X5 ?_; refine X0 ?_; refine JR ?_; refine ZL ?_; refine Z9 (hcon := hcc) ?_; refine Z1 ?_; refine ZD ?_; refine ZD ?_; refine Zt (γ := 103) ?_; refine Zt (γ := 105) ?_; refine Zw ?_
   refine Zw ?_; refine JD ?_; refine X0 ?_; refine JR ?_; refine ZL ?_; refine Zw ?_; refine JD ?_; refine JR ?_; refine Zz ?_; refine ZA ?_; refine ZL ?_; refine Z5 ?_; refine Z6 ?_; refine Zz ?_; refine Zw ?_
   refine JD ?_; refine JR ?_; refine Z1 ?_; refine Zb ?_; refine Z0 ?_; refine JD ?_
   refine ⟨(acc ++ [_], j, a', e', i + 1), ⟨by simpa using h1, h2, (fun h => by have := hcp h; exact ⟨by omega, by omega⟩ : e' = 0 → 0 ≤ a' ∧ a' ≤ b.length), (by omega : i + 1 + j = m)⟩, by show j < j + 1; omega, ?_⟩
   dsimp only
   rw [happ]
   exact Xc rfl JM ⟨rfl, by refine Eq.trans (b := AObj.box [_, _, .own 104 (_ + _), _, _, _, _, _, _, _]) rfl ?_; simp only [List.length_append, List.length_map, List.length_cons, List.length_nil], rfl, rfl, trivial⟩
  ·rw [if_neg k1] at hY
   subst hY
   refine JF ?_; refine X3 ?_
   refine St.le_trans (Xm 101 (cs' := [ai kd, ai ts, .d (.sl 10 []), ai 0, ai 0, X7 [], X7 [], X7 [], X7 [], ab false]) rfl JM rfl) ?_
   exact Xc rfl JM ⟨rfl, rfl, rfl, trivial⟩
 refine X0 ?_; refine X0 ?_; refine JR ?_; refine Z1 ?_; refine Zu ?_; refine JD ?_
 refine X2l ⟨103, [(0, .d (Xh b)), (2, .ptr 100 0), (4, .ptr 101 0), (5, .ptr 102 0)], [(100, .box [ai 0, ai 0, ani, ai 0, ai 0, X7 [], X7 [], X7 [], X7 [], ab false]), (101, .box [ai X.1.kind, ai X.1.ts, .d (.sl 10 (X.1.changes.map Xx)), ai X.1.rule.kind, ai X.1.rule.n, X7 X.1.rule.name, X7 X.1.rule.key, X7 X.1.rule.src, X7 X.1.rule.dst, ab X.1.off]), (102, .box [.d (Xh b), ai X.2.1, ai X.2.2])]⟩ ?_ ?_
 ·by_cases k2 : kd = 2
  ·have k1 : ¬ kd = 1 := by omega
   rw [if_neg k1] at hY
   rw [if_neg k1, if_pos k2] at hX
   subst hY
   have hr := X5z b a2 e2 hb' htp
   have hrp := fun h => X6C (b := b) (a := a2) (e := e2) (fun he => (htp he).1) h
   generalize Y6 b a2 e2 = r at *
   obtain ⟨r, a3, e3⟩ := r
   simp only at hr hrp hX
   have ho := X8F b a3 e3 hb' hrp
   generalize roS b a3 e3 = o at *
   obtain ⟨o, a4, e4⟩ := o
   obtain ⟨k, n, name, key, src, dst⟩ := r
   simp only [XY] at hr ho hX
   subst hX
   repeat first | refine X0 ?_ | (refine JR ?_; (repeat first | refine Z1 ?_ | refine Z0 ?_ | refine Zz ?_ | refine ZL ?_ | refine Zt (γ := 103) ?_ | refine Zt (γ := 104) ?_ | refine Zt (γ := 105) ?_ | refine Zw ?_ | refine ZD ?_ | refine Z9 (hcon := hr) ?_ | refine Z9 (hcon := ho) ?_); refine JD ?_) | refine JT ?_
   exact Xc rfl JM ⟨rfl, rfl, rfl, trivial⟩
  ·by_cases k1 : kd = 1
   ·rw [if_pos k1] at hX hY
    rw [hY] at hX
    subst hX
    refine JF ?_; refine X3 ?_
    exact Xc rfl JM ⟨rfl, rfl, rfl, trivial⟩
   ·rw [if_neg k1] at hY
    rw [if_neg k1, if_neg k2] at hX
    subst hX
    subst hY
    refine JF ?_; refine X3 ?_
    exact Xc rfl JM ⟨rfl, rfl, rfl, trivial⟩
 clear hX hY hk ht htp
 obtain ⟨x, a, e⟩ := X
 by_cases he : e = 0
 case neg =>
  rw [X3g he]
  clear hc
  obtain ⟨kd, ts, l, ⟨k, n, name, key, src, dst⟩, off⟩ := x
  simp only [XZ]
  repeat first | refine X0 ?_ | (refine JR ?_; (repeat first | refine Z1 ?_ | refine Z0 ?_ | refine Zz ?_ | refine ZA ?_ | refine Zu ?_ | refine Zs ?_ | refine Zw ?_ | refine Zv ?_ | refine Zn ?_ | refine Zl ?_); refine JD ?_) | refine JT ?_ | refine JF ?_ | refine X3 ?_
  exact X1 ⟨_, Xm 100 (cs' := [ai 0, ai 0, .d (.sl 10 []), ai 0, ai 0, X7 [], X7 [], X7 [], X7 [], ab false]) rfl JM rfl, ⟨⟨100, 0, _, rfl, rfl, .inr ⟨10, _, rfl, rfl, rfl, rfl⟩⟩, rfl, trivial⟩, X2 _⟩
 subst he
 by_cases ha : a < b.length
 ·rw [X2S ha]
  have ha' : a < (b.map Xa).length := by omega
  clear hc
  obtain ⟨kd, ts, l, ⟨k, n, name, key, src, dst⟩, off⟩ := x
  simp only [XZ]
  repeat first | refine X0 ?_ | (refine JR ?_; (repeat first | refine Z1 ?_ | refine Z0 ?_ | refine Zz ?_ | refine ZA ?_ | refine Zd ?_ | refine Z8 ?_ | refine Zu ?_ | refine Zs ?_ | refine Zw ?_ | refine Zv ?_ | refine Zk ?_); refine JD ?_) | refine JT ?_ | refine JF ?_ | refine X3 ?_
  exact X1 ⟨_, Xm 100 (cs' := [ai 0, ai 0, .d (.sl 10 []), ai 0, ai 0, X7 [], X7 [], X7 [], X7 [], ab false]) rfl JM rfl, ⟨⟨100, 0, _, rfl, rfl, .inr ⟨10, _, rfl, rfl, rfl, rfl⟩⟩, rfl, trivial⟩, X2 _⟩
 have ha' : ¬ a < (b.map Xa).length := by omega
 by_cases h3 : Yj x = 0
 ·rw [X23 ha h3]
  simp only at hc
  rw [h3] at hc
  obtain ⟨kd, ts, l, ⟨k, n, name, key, src, dst⟩, off⟩ := x
  simp only [XZ] at hc ⊢
  repeat first | refine X0 ?_ | (refine JR ?_; (repeat first | refine Z1 ?_ | refine Z0 ?_ | refine Zz ?_ | refine ZA ?_ | refine ZL ?_ | refine Zd ?_ | refine Z8 ?_ | refine Zu ?_ | refine Zs ?_ | refine Zw ?_ | refine Zk ?_ | refine Z9 (hcon := hc) ?_); refine JD ?_) | refine JT ?_ | refine JF ?_ | refine X3 ?_
  exact X1 ⟨_, St.le_refl _, ⟨⟨100, 0, _, rfl, rfl, .inr ⟨10, _, rfl, rfl, rfl, rfl⟩⟩, rfl, trivial⟩, X2 _⟩
 ·rw [X3H ha h3]
  simp only at hc
  generalize Yj x = ce at *
  obtain ⟨kd, ts, l, ⟨k, n, name, key, src, dst⟩, off⟩ := x
  simp only [XZ] at hc ⊢
  repeat first | refine X0 ?_ | (refine JR ?_; (repeat first | refine Z1 ?_ | refine Z0 ?_ | refine Zz ?_ | refine ZA ?_ | refine ZL ?_ | refine Zd ?_ | refine Z8 ?_ | refine Zu ?_ | refine Zs ?_ | refine Zw ?_ | refine Zv ?_ | refine Zk ?_ | refine Z9 (hcon := hc) ?_); refine JD ?_) | refine JT ?_ | refine JF ?_ | refine X3 ?_
  exact X1 ⟨_, Xm 100 (cs' := [ai 0, ai 0, .d (.sl 10 []), ai 0, ai 0, X7 [], X7 [], X7 [], X7 [], ab false]) rfl JM rfl, ⟨⟨100, 0, _, rfl, rfl, .inr ⟨10, _, rfl, rfl, rfl, rfl⟩⟩, rfl, trivial⟩, X2 _⟩
end Go.Fw
namespace Go.Fw
open Go Go.Proofs
set_option maxRecDepth 100000
set_option linter.unusedVariables false
set_option linter.unusedSimpArgs false
theorem X82 : ∀ (k : SK) (u : Value), Yk u = some k → Vb u u = true := by
 intro k u h
 cases u <;> simp [Yk] at h <;> simp [Vb]
theorem X5i (us : List Value) (ks : List SK) (h : us.map Yk = ks.map some) : Ua us us = true := by
 induction us generalizing ks with
 | nil => rfl
 | cons u us ih =>
  cases ks with
  | nil => simp at h
  | cons k ks =>
   simp only [List.map_cons, List.cons.injEq] at h
   unfold Ua
   rw [X82 k u h.1, ih ks h.2]
   rfl
theorem X5W (c : Chg) (hok : XH c.v) : Con Tryz.prog 25 [] [Xy c, Xy c] [] (ab true) := by
 refine X8 (xs := [ab true]) Tryz.func25 rfl Tryz.ntmps25 rfl rfl rfl (fun E => ?_)
 have ho := X2Z c.v hok
 unfold X0G at ho
 obtain ⟨op, id, src, dst, name, ⟨k, n, d, s, l⟩⟩ := c
 simp only [Xy, Xb] at ho ⊢
 repeat first | refine X0 ?_ | (refine JR ?_; (repeat first | refine Z1 ?_ | refine Z0 ?_ | refine Zz ?_ | refine ZA ?_ | refine ZL ?_ | refine Zu ?_ | refine Zo ?_ | refine Zy (γ := 100) ?_ | refine Zy (γ := 101) ?_ | refine Zk ?_ | refine Z9 (hcon := ho) ?_); refine JD ?_)
 exact X1 ⟨_, St.le_refl _, ⟨rfl, trivial⟩, X2 _⟩
theorem X7s (r : Rcd) (hok : UE r) : Con Tryz.prog 19 [] [XZ r, XZ r] [] (ab true) := by
 refine X8 (xs := [ab true]) Tryz.func19 rfl Tryz.ntmps19 rfl rfl rfl (fun E => ?_)
 obtain ⟨kd, ts, l, ⟨k, n, name, key, src, dst⟩, off⟩ := r
 obtain ⟨hlen, hch⟩ := hok
 simp only at hlen hch
 simp only [XZ]
 have hz := X5i [.int .i64 k, .int .i64 n, .string (X4 name), .string (X4 key), .string (X4 src), .string (X4 dst)] [.i .i64, .i .i64, .s, .s, .s, .s] rfl
 have hlm : (l.map Xx).length = l.length := by simp
 refine X0 ?_; refine JR ?_; refine Zy (γ := 100) ?_; refine Zy (γ := 101) ?_; refine Z0 ?_; refine JD ?_; refine X0 ?_; refine X0 ?_; refine JR ?_; refine Zz ?_; refine ZA ?_; refine Zz ?_; refine ZA ?_
 refine Zs ?_; refine Z1 ?_; refine Zz ?_; refine ZA ?_; refine Zz ?_; refine ZA ?_; refine Zs ?_; refine Zn ?_; refine Z1 ?_; refine Zz ?_; refine ZL ?_; refine Zz ?_; refine ZL ?_
 refine Z06 (us := [.int .i64 k, .int .i64 n, .string (X4 name), .string (X4 key), .string (X4 src), .string (X4 dst)]) (vs := [.int .i64 k, .int .i64 n, .string (X4 name), .string (X4 key), .string (X4 src), .string (X4 dst)]) (r := true) ?_ (hk := by exact Vk) (hr := by exact hz)
 refine Zn ?_; refine Z1 ?_; refine Zz ?_; refine ZA ?_; refine Zz ?_; refine ZA ?_; refine ZY ?_; refine Zn ?_; refine Z1 ?_; refine Zz ?_; refine ZA ?_; refine Zd ?_; refine Zz ?_; refine ZA ?_; refine Zd ?_
 refine Zs ?_; refine Zn ?_; refine JD ?_; refine JF ?_; refine X3 ?_; refine X0 ?_; refine X0 ?_; refine JR ?_; refine Z0 ?_; refine JD ?_; refine X5 ?_
 refine XR (ι := Nat) (fun i => i ≤ l.length) (fun i => ⟨60, [(2, .ptr 100 0), (3, .ptr 101 0), (5, ai i)], [(100, .box [ai kd, ai ts, .d (.sl 10 (l.map Xx)), ai k, ai n, X7 name, X7 key, X7 src, X7 dst, ab off]), (101, .box [ai kd, ai ts, .d (.sl 10 (l.map Xx)), ai k, ai n, X7 name, X7 key, X7 src, X7 dst, ab off])]⟩) (fun i => l.length - i) 0 (by omega)
  (Xc rfl JM ⟨rfl, rfl, trivial⟩) ?_
 intro i hi
 by_cases hil : i < l.length
 case neg =>
  obtain rfl : i = l.length := by omega
  have hn : ¬ ((l.length : Nat) : Int) < (l.map Xx).length := by omega
  refine X0 ?_; refine X0 ?_; refine JR ?_; refine Z1 ?_; refine Zz ?_; refine ZA ?_; refine Zd ?_; refine Z8 ?_; refine JD ?_; refine JF ?_; refine Xv ?_; refine X0 ?_; refine JR ?_; refine Z0 ?_
  refine JD ?_
  exact X1 ⟨_, St.le_refl _, ⟨rfl, trivial⟩, X2 _⟩
 have hn : (i : Int) < (l.map Xx).length := by omega
 obtain ⟨x, hx⟩ := XT (l := l) hil
 have hxc : (l.map Xx)[i]? = some (Xx x) := YR hx
 have hcall := X5W x (hch x (List.mem_of_getElem? hx)).2
 obtain ⟨op, id, xsrc, xdst, xname, ⟨xk, xn, xd, xs, xl⟩⟩ := x
 simp only [Xy, Xx] at hcall hxc
 refine X0 ?_; refine X0 ?_; refine JR ?_; refine Z1 ?_; refine Zz ?_; refine ZA ?_; refine Zd ?_; refine Z8 ?_; refine JD ?_; refine JT ?_; refine X3 ?_; refine X0 ?_; refine X5 ?_
 refine X0 ?_; refine JR ?_; refine Zz ?_; refine ZA ?_; refine Z1 ?_; refine ZI ?_; refine ZJ ?_; refine Zz ?_; refine ZA ?_; refine Z1 ?_; refine ZI ?_; refine ZJ ?_; refine Z9 (hcon := hcall) ?_; refine Zr ?_
 refine JD ?_; refine JF ?_; refine X3 ?_; refine JR ?_; refine Z1 ?_; refine Zb ?_; refine Z0 ?_; refine JD ?_
 exact ⟨i + 1, by omega, by omega, Xc rfl JM ⟨rfl, rfl, trivial⟩⟩
theorem X8R (b : List UInt8) (hb : b.length ≤ 1073741824) : UE (rdS b).1 := by
 have h1 : UE (rdX b).1 := by
  unfold rdX
  simp only
  split
  ·have hz := fun h => X0c (b := b) (a := (rnS b (rkI b 0 0 3).2.1 (rkI b 0 0 3).2.2).2.1) (e := (rnS b (rkI b 0 0 3).2.1 (rkI b 0 0 3).2.2).2.2) h
   have := X0A (b := b) (rnS b (rnS b (rkI b 0 0 3).2.1 (rkI b 0 0 3).2.2).2.1 (rnS b (rkI b 0 0 3).2.1 (rkI b 0 0 3).2.2).2.2).1.toNat _ _ (fun h => hz h)
   exact ⟨by simp only; omega, this.1⟩
  ·split <;> exact ⟨by simp, by simp⟩
 unfold rdS
 generalize rdX b = X at *
 obtain ⟨x, a, e⟩ := X
 by_cases he : e = 0
 ·subst he
  by_cases ha : a < b.length
  ·rw [X2S ha]; exact ⟨by simp, by simp⟩
  ·by_cases h3 : Yj x = 0
   ·rw [X23 ha h3]; exact h1
   ·rw [X3H ha h3]; exact ⟨by simp, by simp⟩
 ·rw [X3g he]; exact ⟨by simp, by simp⟩
theorem X9D (b : List UInt8) (a : Int) : XH (U1 b a).1.v := by
 unfold U1
 simp only
 split
 ·exact X0V
 ·generalize (if (XO b a 0).2.2 = 0 then Y8 (XO b a 0).1 else (XO b a 0).2.2) = e
  split
  ·exact X0V
  ·exact (X4m b a 0).2
theorem XbP (b : List UInt8) (a : Int) : Con Tryz.prog 6 [] [.d (Xh b), ai a] [] (ab true) := by
 refine X8 (xs := [ab true]) Tryz.func6 rfl Tryz.ntmps6 rfl rfl rfl (fun E => ?_)
 have hlm : (b.map Xa).length = b.length := by simp
 have ha := X2w
 by_cases hb : 600 < b.length
 ·have hb' : (600 : Int) < (b.map Xa).length := by omega
  refine X0 ?_; refine JR ?_; refine Z0 ?_; refine JD ?_; refine X0 ?_; refine X0 ?_; refine JR ?_; refine Z1 ?_; refine Zd ?_; refine Zp ?_; refine JD ?_; refine JT ?_; refine X0 ?_; refine JR ?_
  refine Z9 (hcon := ha) ?_; refine Z0 ?_; refine JD ?_
  exact X1 ⟨_, St.le_refl _, ⟨rfl, trivial⟩, X2 _⟩
 have hb' : ¬ (600 : Int) < (b.map Xa).length := by omega
 have h1 := X3L b (by omega)
 have h2 := Xc2 b (by omega)
 have h3 := X91 b a (by omega)
 have h4 := X9e b a (by omega)
 have h5 := X7S b a (by omega)
 have h6 := X88 b a (by omega)
 have h7 := X7s (rdS b).1 (X8R b (by omega))
 have h8 := X5W (U1 b a).1 (X9D b a)
 generalize rdS b = r at *
 generalize U1 b a = c at *
 generalize Ut b a = x at *
 obtain ⟨⟨kd, ts, l, ⟨k, n, name, key, src, dst⟩, off⟩, e⟩ := r
 obtain ⟨⟨op, id, csrc, cdst, cname, ⟨vk, vn, vd, vs, vl⟩⟩, at1, e1⟩ := c
 obtain ⟨⟨k2, n2, name2, key2, src2, dst2⟩, at2, e2⟩ := x
 simp only [XZ, Xy, XY] at h1 h2 h3 h4 h5 h6 h7 h8
 have hz := X5i [.int .i64 k2, .int .i64 n2, .string (X4 name2), .string (X4 key2), .string (X4 src2), .string (X4 dst2)] [.i .i64, .i .i64, .s, .s, .s, .s] rfl
 repeat first | refine X0 ?_ | (refine JR ?_; (repeat first | refine Z07 (us := [.int .i64 k2, .int .i64 n2, .string (X4 name2), .string (X4 key2), .string (X4 src2), .string (X4 dst2)]) (vs := [.int .i64 k2, .int .i64 n2, .string (X4 name2), .string (X4 key2), .string (X4 src2), .string (X4 dst2)]) (r := true) ?_ (hk := by exact Vk) (hr := by exact hz) | refine Z1 ?_ | refine Z0 ?_ | refine ZL ?_ | refine Zd ?_ | refine Zp ?_ | refine Zu ?_ | refine Zt (γ := 100) ?_ | refine Zt (γ := 101) ?_ | refine Zt (γ := 102) ?_ | refine Zt (γ := 103) ?_ | refine Zt (γ := 104) ?_ | refine Zt (γ := 105) ?_ | refine Zw ?_ | refine ZD ?_ | refine Zk ?_ | refine Z9 (hcon := h1) ?_ | refine Z9 (hcon := h2) ?_ | refine Z9 (hcon := h3) ?_ | refine Z9 (hcon := h4) ?_ | refine Z9 (hcon := h5) ?_ | refine Z9 (hcon := h6) ?_ | refine Z9 (hcon := h7) ?_ | refine Z9 (hcon := h8) ?_ | refine Z9 (hcon := ha) ?_); refine JD ?_) | refine JF ?_ | refine X3 ?_
 exact X1 ⟨_, St.le_refl _, ⟨rfl, trivial⟩, X2 _⟩
end Go.Fw
namespace Go.Fw
open Go Go.Proofs
set_option linter.unusedVariables false
theorem X8r : Tryz.prog.cellsOf 5 = 1 := by kernel_rfl
section
variable {H : Type} {enc : TypeId × Value → H} {W : World}
theorem X7W : Opens enc Tryz.prog W 32 (fun _ : List UInt8 => True) (fun l => [Xh l]) :=
 (XbH Tryz.underlying32 X8r (by decide) (X8X Tryz.underlying5)).to id fun _ _ => ⟨trivial, rfl⟩
end
end Go.Fw

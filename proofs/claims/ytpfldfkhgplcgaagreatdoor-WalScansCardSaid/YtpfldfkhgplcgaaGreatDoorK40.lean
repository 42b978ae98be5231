/- Changes, rules and records read: the reference's. -/
import Derived.Test.YtpfldfkhgplcgaaGreatDoorK31
import Derived.Test.YtpfldfkhgplcgaaGreatDoorK39
set_option maxHeartbeats 32000000
namespace Go.Fw
open Go Go.Proofs
set_option maxRecDepth 100000
set_option linter.unusedVariables false
set_option linter.unusedSimpArgs false
theorem Xco {b : List UInt8} {n : Nat} {a : Int} : U6 b (n + 1) a 0 = ((Yc b a 0).1 :: (U6 b n (Yc b a 0).2.1 (Yc b a 0).2.2).1, (U6 b n (Yc b a 0).2.1 (Yc b a 0).2.2).2) := by
 rw [U6, if_neg (by simp)]
theorem XgA (b : List UInt8) (hb : b.length ≤ 1073741824) : Con Tryz.prog 78 [] [.d (Xg b)] [] (.tup [Yq (rdS b).1, ai (rdS b).2]) := by
 refine Xb (xs := [Yq (rdS b).1, ai (rdS b).2]) Tryz.func78 rfl Tryz.ntmps78 rfl rfl rfl (fun E => ?_)
 have hb' : b.length ≤ 281474976710656 := by omega
 have hlm : (b.map X7).length = b.length := by simp
 have hk := X6u b 0 0 3 hb' (fun _ => by omega)
 unfold rdS
 generalize hX : rdX b = X
 unfold rdX at hX
 generalize rkI b 0 0 3 = k at *
 obtain ⟨kd, a1, e1⟩ := k
 simp only at hk hX
 have ht := X3t b a1 e1 hb'
 have htp := fun h => X1k (b := b) (a := a1) (e := e1) h
 generalize rnS b a1 e1 = t at *
 obtain ⟨ts, a2, e2⟩ := t
 simp only at ht htp hX
 have hXok : V5 X.1 := by
  subst hX
  split
  ·have hz := fun h => X1k (b := b) (a := a2) (e := e2) h
   have := X2s (b := b) (rnS b a2 e2).1.toNat (rnS b a2 e2).2.1 (rnS b a2 e2).2.2 (fun h => hz h)
   exact ⟨by simp only; omega, this.1⟩
  ·split <;> exact ⟨by simp, by simp⟩
 have hc := XcS X.1 hXok
 clear hXok
 repeat first | refine X0 ?_ | (refine JR ?_; (repeat first | refine Z1 ?_ | refine Z0 ?_ | refine ZB ?_ | refine ZL ?_ | refine Zl ?_ | refine Zw (γ := 100) ?_ | refine Zw (γ := 101) ?_ | refine Zw (γ := 102) ?_ | refine Zy ?_ | refine Zx ?_ | refine ZF ?_ | refine Z9 (hcon := hk) ?_ | refine Z9 (hcon := ht) ?_); refine JD ?_)
 generalize hY : (if kd = 1 then U6 b (rnS b a2 e2).1.toNat (rnS b a2 e2).2.1 (rnS b a2 e2).2.2 else ([], a2, e2)) = Y
 refine X3H ⟨103, [(0, .d (Xg b)), (2, .ptr 100 0), (4, .ptr 101 0), (5, .ptr 102 0), (6, ai kd)], [(100, .box [ai 0, ai 0, ani, ai 0, ai 0, X9 [], X9 [], X9 [], X9 [], ab false]), (101, .box [ai kd, ai ts, .d (.sl 10 (Y.1.map XH)), ai 0, ai 0, X9 [], X9 [], X9 [], X9 [], ab false]), (102, .box [.d (Xg b), ai Y.2.1, ai Y.2.2])]⟩ ?_ ?_
 ·by_cases k1 : kd = 1
  ·rw [if_pos k1] at hX hY
   have hn := X3t b a2 e2 hb'
   have hnp := fun h => X1k (b := b) (a := a2) (e := e2) h
   have hnn := X72 b a2 e2
   generalize rnS b a2 e2 = nn at *
   obtain ⟨n, a3, e3⟩ := nn
   obtain ⟨m, hm, hml⟩ := hnn
   simp only at hm hn hnp hX hY
   subst hm
   rw [Int.toNat_natCast] at hX hY
   have hall := X2s (b := b) m a3 e3 (fun h => hnp h)
   rw [hY] at hall hX
   refine JT ?_; refine Qeb ?_; refine Z9 (hcon := hn) ?_; refine Qac ?_; refine Zw (γ := 103) ?_; refine Qma ?_; refine Qmd ?_; refine Qd ?_; refine X5 ?_; refine Xm (Vx 101 2 104 10 rfl rfl rfl rfl rfl) ?_
   refine Xu (ι := List Chg × Nat × Int × Int × Nat) (fun q => q.1 ++ (U6 b q.2.1 q.2.2.1 q.2.2.2.1).1 = Y.1 ∧ (U6 b q.2.1 q.2.2.1 q.2.2.2.1).2 = Y.2 ∧ (q.2.2.2.1 = 0 → 0 ≤ q.2.2.1 ∧ q.2.2.1 ≤ b.length) ∧ q.2.2.2.2 + q.2.1 = m)
    (fun q => ⟨103, [(0, .d (Xg b)), (2, .ptr 100 0), (4, .ptr 101 0), (5, .ptr 102 0), (6, ai kd), (9, ai m), (10, ai q.2.2.2.2)], [(100, .box [ai 0, ai 0, ani, ai 0, ai 0, X9 [], X9 [], X9 [], X9 [], ab false]), (101, .box [ai kd, ai ts, .own 104 (q.1.map XH).length, ai 0, ai 0, X9 [], X9 [], X9 [], X9 [], ab false]), (102, .box [.d (Xg b), ai q.2.2.1, ai q.2.2.2.1]), (104, .row 10 (q.1.map XH))]⟩) (fun q => q.2.1) ([], m, a3, e3, 0)
    ⟨by rw [hY]; rfl, by rw [hY], hnp, by simp⟩
    (Xa rfl JM ⟨rfl, rfl, rfl, rfl, trivial⟩) ?_
   rintro ⟨acc, j, a, e, i⟩ ⟨h1, h2, h3, h4⟩
   simp only at h1 h2 h3 h4
   have fin : j = 0 ∨ e ≠ 0 → Y = (acc, a, e) := by
    intro h
    have : U6 b j a e = ([], a, e) := by
     rcases h with rfl | h
     ·rfl
     ·exact X6b h
    rw [this] at h1 h2
    simp only [List.append_nil] at h1
    exact Prod.ext h1.symm h2.symm
   by_cases hj : j = 0
   ·have hLL := fin (.inl hj)
    subst hLL
    have hj' : ¬ ((i : Nat) : Int) < (m : Nat) := by omega
    refine Qld ?_; refine QP ?_; refine QJa ?_; refine Ql ?_; refine St.le_trans (Y4 104 rfl) ?_; refine St.le_trans (Ut 101 2 104 rfl rfl rfl rfl) ?_; exact Qce
   have hj' : ((i : Nat) : Int) < (m : Nat) := by omega
   by_cases he : e = 0
   case neg =>
    have hLL := fin (.inr he)
    subst hLL
    refine Qld ?_; refine Qzc ?_; refine Zn ?_; refine Ql ?_; refine St.le_trans (Y4 104 rfl) ?_; refine St.le_trans (Ut 101 2 104 rfl rfl rfl rfl) ?_; exact Qce
   subst he
   obtain ⟨j, rfl⟩ : ∃ r, j = r + 1 := ⟨j - 1, by omega⟩
   have h5 := h3 rfl
   have hcc := Xhm b a 0 hb' (fun _ => h5)
   have hcp := fun h => X6m (b := b) (a := a) h5.1 h
   rw [Xco] at h1 h2
   generalize Yc b a 0 = c at *
   obtain ⟨c, a', e'⟩ := c
   simp only at hcc hcp h1 h2
   have hroom : (acc.map XH).length ≤ 1073741825 := by
    have := congrArg List.length h1
    simp only [List.length_append, List.length_cons] at this
    simp only [List.length_map]
    omega
   have happ : (acc ++ [c]).map XH = acc.map XH ++ [XH c] := by simp
   obtain ⟨op, id, src, dst, name, ⟨xk, xn, xd, xs, xl⟩⟩ := c
   simp only [Y3] at hcc
   refine Qld ?_; refine Qzc ?_; refine Zn ?_; refine Qkb ?_; refine Qeb ?_; refine Z9 (hcon := hcc) ?_; refine Qac ?_; refine Zw (γ := 103) ?_; refine Zw (γ := 105) ?_; refine Zy ?_; refine QTa ?_; refine Qmd ?_; refine QWc ?_; refine ZL ?_; refine Qud ?_
   refine ⟨(acc ++ [_], j, a', e', i + 1), ⟨by simpa using h1, h2, (fun h => by have := hcp h; exact ⟨by omega, by omega⟩ : e' = 0 → 0 ≤ a' ∧ a' ≤ b.length), (by omega : i + 1 + j = m)⟩, by show j < j + 1; omega, ?_⟩
   dsimp only
   rw [happ]
   exact Xa rfl JM ⟨rfl, by refine Eq.trans (b := AObj.box [_, _, .own 104 (_ + _), _, _, _, _, _, _, _]) rfl ?_; simp only [List.length_append, List.length_map, List.length_cons, List.length_nil], rfl, rfl, trivial⟩
  ·rw [if_neg k1] at hY
   subst hY
   refine JF ?_; refine X4 ?_; refine St.le_trans (Xl 101 (cs' := [ai kd, ai ts, .d (.sl 10 []), ai 0, ai 0, X9 [], X9 [], X9 [], X9 [], ab false]) rfl JM rfl) ?_; exact Qce
 refine Qg ?_; refine Zl ?_; refine JD ?_
 refine X3H ⟨103, [(0, .d (Xg b)), (2, .ptr 100 0), (4, .ptr 101 0), (5, .ptr 102 0)], [(100, .box [ai 0, ai 0, ani, ai 0, ai 0, X9 [], X9 [], X9 [], X9 [], ab false]), (101, .box [ai X.1.kind, ai X.1.ts, .d (.sl 10 (X.1.changes.map XH)), ai X.1.rule.kind, ai X.1.rule.n, X9 X.1.rule.name, X9 X.1.rule.key, X9 X.1.rule.src, X9 X.1.rule.dst, ab X.1.off]), (102, .box [.d (Xg b), ai X.2.1, ai X.2.2])]⟩ ?_ ?_
 ·by_cases k2 : kd = 2
  ·have k1 : ¬ kd = 1 := by omega
   rw [if_neg k1] at hY
   rw [if_neg k1, if_pos k2] at hX
   subst hY
   have hr := Xd1 b a2 e2 hb' htp
   have hrp := fun h => X9G (b := b) (a := a2) (e := e2) (fun he => (htp he).1) h
   generalize YN b a2 e2 = r at *
   obtain ⟨r, a3, e3⟩ := r
   simp only at hr hrp hX
   have ho := Xc8 b a3 e3 hb' hrp
   generalize roS b a3 e3 = o at *
   obtain ⟨o, a4, e4⟩ := o
   obtain ⟨k, n, name, key, src, dst⟩ := r
   simp only [Uw] at hr ho hX
   subst hX
   repeat first | refine X0 ?_ | (refine JR ?_; (repeat first | refine Z1 ?_ | refine Z0 ?_ | refine ZB ?_ | refine ZL ?_ | refine Zw (γ := 103) ?_ | refine Zw (γ := 104) ?_ | refine Zw (γ := 105) ?_ | refine Zy ?_ | refine ZF ?_ | refine Z9 (hcon := hr) ?_ | refine Z9 (hcon := ho) ?_); refine JD ?_) | refine JT ?_
   exact Qce
  ·by_cases k1 : kd = 1
   ·rw [if_pos k1] at hX hY
    rw [hY] at hX
    subst hX
    refine JF ?_; refine X4 ?_; exact Qce
   ·rw [if_neg k1] at hY
    rw [if_neg k1, if_neg k2] at hX
    subst hX
    subst hY
    refine JF ?_; refine X4 ?_; exact Qce
 clear hX hY hk ht htp
 obtain ⟨x, a, e⟩ := X
 by_cases he : e = 0
 case neg =>
  rw [X6i he]
  clear hc
  obtain ⟨kd, ts, l, ⟨k, n, name, key, src, dst⟩, off⟩ := x
  simp only [Yq]
  repeat first | refine X0 ?_ | (refine JR ?_; (repeat first | refine Z1 ?_ | refine Z0 ?_ | refine ZB ?_ | refine ZC ?_ | refine Zl ?_ | refine Zv ?_ | refine Zy ?_ | refine Zx ?_ | refine Zq ?_ | refine Zo ?_); refine JD ?_) | refine JT ?_ | refine JF ?_ | refine X4 ?_
  exact Qde
 subst he
 by_cases ha : a < b.length
 ·rw [X6V ha]
  have ha' : a < (b.map X7).length := by omega
  clear hc
  obtain ⟨kd, ts, l, ⟨k, n, name, key, src, dst⟩, off⟩ := x
  simp only [Yq]
  repeat first | refine X0 ?_ | (refine JR ?_; (repeat first | refine Z1 ?_ | refine Z0 ?_ | refine ZB ?_ | refine ZC ?_ | refine Zd ?_ | refine Z8 ?_ | refine Zl ?_ | refine Zv ?_ | refine Zy ?_ | refine Zx ?_ | refine Zn ?_); refine JD ?_) | refine JT ?_ | refine JF ?_ | refine X4 ?_
  exact Qde
 have ha' : ¬ a < (b.map X7).length := by omega
 by_cases h3 : YJ x = 0
 ·rw [X3Y ha h3]
  simp only at hc
  rw [h3] at hc
  obtain ⟨kd, ts, l, ⟨k, n, name, key, src, dst⟩, off⟩ := x
  simp only [Yq] at hc ⊢
  repeat first | refine X0 ?_ | (refine JR ?_; (repeat first | refine Z1 ?_ | refine Z0 ?_ | refine ZB ?_ | refine ZC ?_ | refine ZL ?_ | refine Zd ?_ | refine Z8 ?_ | refine Zl ?_ | refine Zv ?_ | refine Zy ?_ | refine Zn ?_ | refine Z9 (hcon := hc) ?_); refine JD ?_) | refine JT ?_ | refine JF ?_ | refine X4 ?_
  exact Qee
 ·rw [X6t ha h3]
  simp only at hc
  generalize YJ x = ce at *
  obtain ⟨kd, ts, l, ⟨k, n, name, key, src, dst⟩, off⟩ := x
  simp only [Yq] at hc ⊢
  repeat first | refine X0 ?_ | (refine JR ?_; (repeat first | refine Z1 ?_ | refine Z0 ?_ | refine ZB ?_ | refine ZC ?_ | refine ZL ?_ | refine Zd ?_ | refine Z8 ?_ | refine Zl ?_ | refine Zv ?_ | refine Zy ?_ | refine Zx ?_ | refine Zn ?_ | refine Z9 (hcon := hc) ?_); refine JD ?_) | refine JT ?_ | refine JF ?_ | refine X4 ?_
  exact Qde
theorem XcW (b : List UInt8) (hb : b.length ≤ 1000000) (hz : ∀ x ∈ b, x ≠ 0) : Con Tryz.prog 75 [] [.d (Xg b)] [] (.tup [.d (Xg ((Yf b).getD [])), ab (Yf b).isSome]) := by
 refine Xb (xs := [.d (Xg ((Yf b).getD [])), ab (Yf b).isSome]) Tryz.func75 rfl Tryz.ntmps75 rfl rfl rfl (fun E => ?_)
 have hlm : (b.map X7).length = b.length := by simp
 generalize hR : Yf b = R
 refine Qb ?_; refine Qya ?_; refine Qib ?_; refine Xm (Vp 4 130 1 rfl rfl rfl) ?_
 refine Xu (ι := Nat × List UInt8) (fun q => q.1 ≤ b.length ∧ q.2.length ≤ q.1 ∧ (Yf (b.drop q.1)).map (fun l => q.2 ++ l) = R) (fun q => ⟨53, [(0, .d (Xg b)), (4, .own 130 (q.2.map X7).length), (5, ai q.1)], [(130, .row 1 (q.2.map X7))]⟩) (fun q => b.length - q.1) (0, []) ⟨Nat.zero_le _, Nat.le_refl _, by rw [List.drop_zero, hR]; cases R <;> rfl⟩
  (Xa rfl JM ⟨rfl, trivial⟩) ?_
 rintro ⟨i, o⟩ ⟨hi, ho, hg⟩
 simp only at hi ho hg ⊢
 have hroom : (o.map X7).length ≤ 1000000 := by rw [List.length_map]; omega
 by_cases hil : i < b.length
 case neg =>
  have hn : ¬ (i : Int) < (b.map X7).length := by omega
  rw [List.drop_of_length_le (by omega)] at hg
  have hg : some (o ++ []) = R := hg
  rw [List.append_nil] at hg
  subst hg
  simp only [Option.getD_some, Option.isSome_some]
  refine Qub ?_; refine Qf ?_; refine Qya ?_; refine Xm (Y4 130 rfl) ?_; refine Xm (U1 2 130 rfl rfl rfl) ?_
  (show AWP Tryz.prog E _ _ _; refine X1 ?_; exact (show Xq _ _ _ _ _ from ⟨_, St.le_refl _, ⟨rfl, rfl, trivial⟩, X3 _⟩))
 have hn : (i : Int) < (b.map X7).length := by omega
 obtain ⟨x, hx⟩ := Xv (l := b) hil
 have hxc : (b.map X7)[i]? = some (X7 x) := YF hx
 have hx0 : x.toNat ≠ 0 := fun q => hz x (List.mem_of_getElem? hx) (UInt8.toNat_inj.1 (show x.toNat = (0 : UInt8).toNat from q))
 rw [X4H hx] at hg
 by_cases hx1 : x = 1
 case neg =>
  have hxn : x.toNat ≠ 1 := fun q => hx1 (UInt8.toNat_inj.1 (show x.toNat = (1 : UInt8).toNat by have h : (1 : UInt8).toNat = 1 := rfl; omega))
  have hx1' : (1 : Int) < (x.toNat : Int) := by omega
  rw [X4d hx1, Option.map_map] at hg
  have hst : (o ++ [x]).map X7 = o.map X7 ++ [X7 x] := by simp
  clear hx
  refine QIe ?_; refine Zs ?_; refine Qh ?_; refine QGb ?_; refine QD ?_; refine Qj ?_; refine Xn ?_; refine Qnb ?_
  refine ⟨(i + 1, o ++ [x]), ⟨hil, by simp; omega, ?_⟩, by simp only; omega, ?_⟩
  ·rw [← hg]; simp only; congr 1; funext l; simp
  dsimp only
  rw [hst]
  exact QJe
 subst hx1
 have h11 : ¬ (1 : Int) < ((1 : UInt8).toNat : Int) := by decide
 by_cases hil2 : i + 1 < b.length
 case neg =>
  have hn2 : ((b.map X7).length : Int) ≤ (i : Int) + 1 := by omega
  rw [List.drop_of_length_le (by omega), X55] at hg
  have hg : none = R := hg
  subst hg
  simp only [Option.getD_none, Option.isSome_none]
  clear hx
  refine QIe ?_; refine Zs ?_; refine Qs ?_; refine Zb ?_; refine Qc ?_; refine Qjb ?_; refine Zd ?_; refine Z2 ?_; refine Qba ?_; refine QNa ?_; refine Qba ?_; refine QNa ?_; refine QOb ?_; refine Qya ?_
  (show AWP Tryz.prog E _ _ _; refine X1 ?_; exact (show Xq _ _ _ _ _ from ⟨_, Xc 2 (AVal.le_nil 1), ⟨rfl, rfl, trivial⟩, X3 _⟩))
 have hn2 : ¬ ((b.map X7).length : Int) ≤ (i : Int) + 1 := by omega
 obtain ⟨y, hy⟩ := Xv (l := b) hil2
 have hyc : (b.map X7)[i + 1]? = some (X7 y) := YF hy
 rw [X4H hy] at hg
 by_cases hy2 : y = 1 ∨ y = 2
 case neg =>
  rw [X5h hy2] at hg
  have hg : none = R := hg
  subst hg
  have a0 : y.toNat ≠ 0 := fun q => hz y (List.mem_of_getElem? hy) (UInt8.toNat_inj.1 (show y.toNat = (0 : UInt8).toNat from q))
  have a1 : ¬ (y.toNat : Int) = 1 := fun q => hy2 (.inl (UInt8.toNat_inj.1 (show y.toNat = (1 : UInt8).toNat by have h : (1 : UInt8).toNat = 1 := rfl; omega)))
  have a2 : ¬ (y.toNat : Int) = 2 := fun q => hy2 (.inr (UInt8.toNat_inj.1 (show y.toNat = (2 : UInt8).toNat by have h : (2 : UInt8).toNat = 2 := rfl; omega)))
  have a3 : ¬ (y.toNat : Int) < 1 := by omega
  have a4 : (2 : Int) < (y.toNat : Int) := by omega
  simp only [Option.getD_none, Option.isSome_none]
  clear hx hy
  refine QVf ?_; refine Qaa ?_; refine QOb ?_; refine Qya ?_
  (show AWP Tryz.prog E _ _ _; refine X1 ?_; exact (show Xq _ _ _ _ _ from ⟨_, Xc 2 (AVal.le_nil 1), ⟨rfl, rfl, trivial⟩, X3 _⟩))
 rw [X3C hy2, Option.map_map] at hg
 have hye := X8S hy2
 have hst : (o ++ [y - 1]).map X7 = o.map X7 ++ [X7 (y - 1)] := by simp
 have hgo : (Yf (b.drop (i + 1 + 1))).map (fun l => (o ++ [y - 1]) ++ l) = R := by rw [← hg]; congr 1; funext l; simp
 clear hx hy hg
 rcases hy2 with rfl | rfl
 ·have b1 : ¬ ((1 : UInt8).toNat : Int) < 1 := by decide
  have b2 : ¬ (2 : Int) < ((1 : UInt8).toNat : Int) := by decide
  refine QVf ?_; refine Qmb ?_; refine JR ?_; refine QBa ?_; refine QD ?_; refine QMe ?_; refine QNe ?_
  refine ⟨(i + 2, o ++ [1 - 1]), ⟨by simp only; omega, by simp; omega, hgo⟩, by simp only; omega, ?_⟩
  dsimp only
  rw [hst]
  exact QJe
 ·have b1 : ¬ ((2 : UInt8).toNat : Int) < 1 := by decide
  have b2 : ¬ (2 : Int) < ((2 : UInt8).toNat : Int) := by decide
  refine QVf ?_; refine Qmb ?_; refine JR ?_; refine QBa ?_; refine QD ?_; refine QOe ?_; refine QNe ?_
  refine ⟨(i + 2, o ++ [2 - 1]), ⟨by simp only; omega, by simp; omega, hgo⟩, by simp only; omega, ?_⟩
  dsimp only
  rw [hst]
  exact QJe
theorem XbJ (b : List UInt8) (ep : Int) (hb : b.length ≤ 1000000) (hz : ∀ x ∈ b, x ≠ 0) : Con Tryz.prog 50 [] [.d (Xg b), ai ep] [] (.tup [Yq (Yu b ep).1, ab (Yu b ep).2]) := by
 refine Xb (xs := [Yq (Yu b ep).1, ab (Yu b ep).2]) Tryz.func50 rfl Tryz.ntmps50 rfl rfl rfl (fun E => ?_)
 have c1 := XcW b hb hz
 have hlm : (b.map X7).length = b.length := by simp
 cases hu : Yf b with
 | none =>
  rw [X8Z hu]
  rw [hu] at c1
  simp only [Option.getD_none, Option.isSome_none, UK, List.map_nil] at c1 ⊢
  refine QPe ?_; refine Quc ?_
  (show AWP Tryz.prog E _ _ _; refine X1 ?_; exact (show Xq _ _ _ _ _ from ⟨_, Xl 100 (cs' := [ai 0, ai 0, .d (.sl 10 []), ai 0, ai 0, X9 [], X9 [], X9 [], X9 [], ab false]) rfl JM rfl, ⟨⟨100, 0, _, rfl, rfl, .inr ⟨10, _, rfl, rfl, rfl, rfl⟩⟩, rfl, trivial⟩, X3 _⟩))
 | some raw =>
 rw [hu] at c1
 simp only [Option.getD_some, Option.isSome_some] at c1
 rw [X6x hu]
 have hrl := X3k b.length b raw (Nat.le_refl _) hu
 have hrm : (raw.map X7).length = raw.length := by simp
 have c2 := Xd7 raw 0 (by omega)
 have hul := X4X raw 0
 unfold X1F
 generalize Ue raw 0 = U at *
 obtain ⟨c, z, e⟩ := U
 simp only at hul c2 ⊢
 clear hu
 by_cases he : e = 0
 case neg =>
  rw [if_pos (.inl he)]
  simp only [UK, List.map_nil]
  refine QWf ?_; refine Z9 (hcon := c2) ?_; refine Qbc ?_; refine Zv ?_; refine Qba ?_; refine Zn ?_; refine Quc ?_
  (show AWP Tryz.prog E _ _ _; refine X1 ?_; exact (show Xq _ _ _ _ _ from ⟨_, Xl 100 (cs' := [ai 0, ai 0, .d (.sl 10 []), ai 0, ai 0, X9 [], X9 [], X9 [], X9 [], ab false]) rfl JM rfl, ⟨⟨100, 0, _, rfl, rfl, .inr ⟨10, _, rfl, rfl, rfl, rfl⟩⟩, rfl, trivial⟩, X3 _⟩))
 by_cases hz : z = raw.length
 case neg =>
  have hz' : ¬ z = ((raw.map X7).length : Nat) := by rw [hrm]; exact hz
  rw [if_pos (.inr hz)]
  simp only [UK, List.map_nil]
  refine QWf ?_; refine QRe ?_; refine Zq ?_; refine Quc ?_
  (show AWP Tryz.prog E _ _ _; refine X1 ?_; exact (show Xq _ _ _ _ _ from ⟨_, Xl 100 (cs' := [ai 0, ai 0, .d (.sl 10 []), ai 0, ai 0, X9 [], X9 [], X9 [], X9 [], ab false]) rfl JM rfl, ⟨⟨100, 0, _, rfl, rfl, .inr ⟨10, _, rfl, rfl, rfl, rfl⟩⟩, rfl, trivial⟩, X3 _⟩))
 rw [if_neg (fun q => q.elim (fun q => q he) (fun q => q hz))]
 have hz' : z = ((raw.map X7).length : Nat) := by rw [hrm]; exact hz
 clear hz
 subst he
 have c3 := X2D c 0 (by omega)
 have hend := X0k c 0
 unfold X3i
 generalize Xf c 0 = V at *
 obtain ⟨n, at_, e3⟩ := V
 simp only at c3 hend ⊢
 by_cases he3 : e3 = 0
 case neg =>
  rw [if_pos (.inl he3)]
  clear hend
  simp only [UK, List.map_nil]
  refine QWf ?_; refine QSe ?_; refine Qbc ?_; refine Zv ?_; refine QOa ?_; refine Quc ?_
  (show AWP Tryz.prog E _ _ _; refine X1 ?_; exact (show Xq _ _ _ _ _ from ⟨_, Xl 100 (cs' := [ai 0, ai 0, .d (.sl 10 []), ai 0, ai 0, X9 [], X9 [], X9 [], X9 [], ab false]) rfl JM rfl, ⟨⟨100, 0, _, rfl, rfl, .inr ⟨10, _, rfl, rfl, rfl, rfl⟩⟩, rfl, trivial⟩, X3 _⟩))
 subst he3
 by_cases hn : n = ep
 case neg =>
  rw [if_pos (.inr hn)]
  clear hend
  simp only [UK, List.map_nil]
  refine QWf ?_; refine QTe ?_; refine Zq ?_; refine Quc ?_
  (show AWP Tryz.prog E _ _ _; refine X1 ?_; exact (show Xq _ _ _ _ _ from ⟨_, Xl 100 (cs' := [ai 0, ai 0, .d (.sl 10 []), ai 0, ai 0, X9 [], X9 [], X9 [], X9 [], ab false]) rfl JM rfl, ⟨⟨100, 0, _, rfl, rfl, .inr ⟨10, _, rfl, rfl, rfl, rfl⟩⟩, rfl, trivial⟩, X3 _⟩))
 rw [if_neg (fun q => q.elim (fun q => q rfl) (fun q => q hn))]
 obtain ⟨q, hq, hql⟩ := hend rfl
 simp only at hq hql
 subst hq
 rw [Int.toNat_natCast]
 have hcm : (c.map X7).length = c.length := by simp
 have hqm : q ≤ (c.map X7).length := by omega
 have hdr : ((c.map X7).take (c.map X7).length).drop q = (c.drop q).map X7 := by rw [List.take_length, List.map_drop]
 have c4 := XgA (c.drop q) (by rw [List.length_drop]; omega)
 have hne : ¬ ¬ n = ep := fun h => h hn
 generalize rdS (c.drop q) = D at *
 obtain ⟨X, e4⟩ := D
 simp only [UK] at c4 ⊢
 clear hul hrl
 refine QWf ?_; refine QTe ?_; refine Qfa ?_; refine Qi ?_; refine ZV (lb := q) (hb := (c.map X7).length) (ys := (c.drop q).map X7) ?_ (hys := by exact hdr); refine Z9 (hcon := c4) ?_; refine QCc ?_; refine Qfb ?_; refine Zl ?_; refine Qma ?_
 (show AWP Tryz.prog E _ _ _; refine X1 ?_; exact (show Xq _ _ _ _ _ from ⟨_, St.le_refl _, ⟨⟨100, 0, _, rfl, rfl, .inr ⟨10, _, rfl, rfl, rfl, rfl⟩⟩, rfl, trivial⟩, X3 _⟩))
theorem XgZ (b : List UInt8) (hb : b.length ≤ 1073741824) : V5 (rdS b).1 := by
 have h1 : V5 (rdX b).1 := by
  unfold rdX
  simp only
  split
  ·have hz := fun h => X1k (b := b) (a := (rnS b (rkI b 0 0 3).2.1 (rkI b 0 0 3).2.2).2.1) (e := (rnS b (rkI b 0 0 3).2.1 (rkI b 0 0 3).2.2).2.2) h
   have := X2s (b := b) (rnS b (rnS b (rkI b 0 0 3).2.1 (rkI b 0 0 3).2.2).2.1 (rnS b (rkI b 0 0 3).2.1 (rkI b 0 0 3).2.2).2.2).1.toNat _ _ (fun h => hz h)
   exact ⟨by simp only; omega, this.1⟩
  ·split <;> exact ⟨by simp, by simp⟩
 unfold rdS
 generalize rdX b = X at *
 obtain ⟨x, a, e⟩ := X
 by_cases he : e = 0
 ·subst he
  by_cases ha : a < b.length
  ·rw [X6V ha]; exact ⟨by simp, by simp⟩
  ·by_cases h3 : YJ x = 0
   ·rw [X3Y ha h3]; exact h1
   ·rw [X6t ha h3]; exact ⟨by simp, by simp⟩
 ·rw [X6i he]; exact ⟨by simp, by simp⟩
theorem Xg5 {l : List UInt8} (h : ∀ x ∈ l, x ≠ 0) : UV l = false := by
 unfold UV
 rw [List.any_eq_false]
 intro x hx
 simpa using h x hx
theorem Xge (d : Disk) (f t ep : Int) (hf : Ud d) : Con Tryz.prog 24 [] [XK d, ai f, ai t, ai ep] [] (.tup [.d (.sl 10 ((Yz d f t ep).1.map XG)), ai (Yz d f t ep).2.1, ai (Yz d f t ep).2.2]) := by
 refine Xb (xs := [.d (.sl 10 ((Yz d f t ep).1.map XG)), ai (Yz d f t ep).2.1, ai (Yz d f t ep).2.2]) Tryz.func24 rfl Tryz.ntmps24 rfl rfl rfl (fun E => ?_)
 have hc := Xav d f t ep 0
 by_cases he : XJ d f t ep 0 = 0
 case neg =>
  have e : Yz d f t ep = ([], 0, XJ d f t ep 0) := by unfold Yz; rw [if_pos he]
  rw [e]
  generalize XJ d f t ep 0 = r at *
  clear hf
  obtain ⟨secs, pend, on⟩ := d
  simp only [List.map_nil]
  refine QDa ?_; refine QMb ?_; refine Qnc ?_; refine QBa ?_; refine QZd ?_; refine Qv ?_; refine QAa ?_; refine Qf ?_; refine QMb ?_; exact X1 ⟨_, Xc 8 (AVal.le_nil 10), ⟨rfl, rfl, rfl, trivial⟩, X3 _⟩
 rw [he] at hc
 obtain ⟨hd, h1, h2, h3, _⟩ := X0X he
 have hs := Xgr d f t hd hf h1 (by omega) h3
 have e : Yz d f t ep = ((X08 ep (XO d f t)).1, (((X08 ep (XO d f t)).2 : Nat) : Int), 0) := by unfold Yz; rw [if_neg (by rw [he]; simp)]
 rw [e]
 have hbl : (XO d f t).length ≤ 200000 := by
  unfold XO
  rw [VQ hd _ _ (by omega)]
  have := hf.1
  omega
 clear e he hf hd h1 h2 h3
 generalize XO d f t = B at *
 unfold X08
 generalize hR : YS ep (B.length + 1) B 0 = R
 have hBm : (B.map X7).length = B.length := by simp
 obtain ⟨secs, pend, on⟩ := d
 refine QDa ?_; refine QMb ?_; refine Qnc ?_; refine QBa ?_; refine QZd ?_; refine QYd ?_; refine Qeb ?_; refine Qw ?_; refine Z9 (hcon := hs) ?_; refine Qc ?_; refine Qd ?_; refine Qib ?_
 clear hc hs
 refine Xm (Vp 13 130 10 rfl rfl rfl) ?_
 refine Xu (ι := Nat × Nat × List Rcd) (fun q => q.1 ≤ B.length ∧ q.2.1 ≤ q.1 ∧ q.2.2.length ≤ q.2.1 ∧ (∀ x ∈ (B.drop q.2.1).take (q.1 - q.2.1), x ≠ 0) ∧ (q.2.2 ++ (YS ep (B.length - q.2.1 + 1) (B.drop q.2.1) q.2.1).1, (YS ep (B.length - q.2.1 + 1) (B.drop q.2.1) q.2.1).2) = R) (fun q => ⟨60, [(3, ai ep), (12, .d (Xg B)), (13, .own 130 (q.2.2.map XG).length), (14, ai q.2.1), (15, ai q.1)], [(130, .row 10 (q.2.2.map XG))]⟩) (fun q => B.length - q.1) (0, 0, []) ⟨Nat.zero_le _, Nat.le_refl _, Nat.le_refl _, by simp, by rw [List.drop_zero, Nat.sub_zero, hR]; rfl⟩
  (Xa rfl JM ⟨rfl, trivial⟩) ?_
 rintro ⟨i, a, o⟩ ⟨hi, ha, ho, hnz, hg⟩
 simp only at hi ha ho hnz hg ⊢
 have hroom : (o.map XG).length ≤ 200000 := by rw [List.length_map]; omega
 by_cases hil : i < B.length
 case neg =>
  have hn : ¬ (i : Int) < (B.map X7).length := by omega
  rw [List.take_of_length_le (by rw [List.length_drop]; omega)] at hnz
  rw [X1h ep _ _ _ (fun h => by rw [Xg5 hnz] at h; simp at h)] at hg
  simp only [List.append_nil] at hg
  subst hg
  clear hnz
  refine Qub ?_; refine QWe ?_
  (show AWP Tryz.prog E _ _ _; refine X1 ?_; exact (show Xq _ _ _ _ _ from ⟨_, St.le_refl _, ⟨rfl, rfl, rfl, trivial⟩, X3 _⟩))
 have hn : (i : Int) < (B.map X7).length := by omega
 obtain ⟨x, hx⟩ := Xv (l := B) hil
 have hxc : (B.map X7)[i]? = some (X7 x) := YF hx
 have hxd : (B.drop a)[i - a]? = some x := by rw [List.getElem?_drop, show a + (i - a) = i by omega]; exact hx
 by_cases hx0 : x = 0
 case neg =>
  have hx0' : ¬ (x.toNat : Int) = 0 := fun q => hx0 (UInt8.toNat_inj.1 (show x.toNat = (0 : UInt8).toNat by have h : (0 : UInt8).toNat = 0 := rfl; omega))
  have hnz2 : ∀ y ∈ (B.drop a).take (i + 1 - a), y ≠ 0 := by
   rw [show i + 1 - a = (i - a) + 1 by omega, X2N hxd]
   intro y hy
   rw [List.mem_append, List.mem_singleton] at hy
   rcases hy with hy | rfl
   ·exact hnz y hy
   ·exact hx0
  clear hx hxd hnz hR
  refine QIe ?_; refine QAa ?_; refine Xn ?_; refine Qnb ?_; exact ⟨(i + 1, a, o), ⟨by simp only; omega, by simp only; omega, ho, hnz2, hg⟩, by simp only; omega, Xa rfl JM ⟨rfl, trivial⟩⟩
 subst hx0
 obtain ⟨k1, k2⟩ := X9X hnz hxd
 have hcr := XbJ ((B.drop a).take (i - a)) ep (by rw [List.length_take, List.length_drop]; omega) hnz
 have hsub : ((B.map X7).take i).drop a = ((B.drop a).take (i - a)).map X7 := by
  rw [← List.map_take, ← List.map_drop, List.drop_take]
 have hHl : ((B.drop a).take (i - a)).length = i - a := by rw [List.length_take, List.length_drop]; omega
 by_cases hok : (Yu ((B.drop a).take (i - a)) ep).2 = true
 case neg =>
  rw [X1h ep _ _ _ (fun h => hok (by rw [← k1]; exact h.2))] at hg
  simp only [List.append_nil] at hg
  subst hg
  have hok : (Yu ((B.drop a).take (i - a)) ep).2 = false := by simpa using hok
  rw [hok] at hcr
  generalize (Yu ((B.drop a).take (i - a)) ep).1 = X at *
  generalize (B.drop a).take (i - a) = H at *
  have hle : a ≤ i := ha
  have hib : i ≤ (B.map X7).length := by omega
  simp only [UK] at hcr
  clear k1 k2 hok hx hxd hnz hR
  refine QIe ?_; refine QDb ?_; refine QGb ?_; refine ZV (lb := a) (hb := i) (ys := H.map X7) ?_ (hys := by exact hsub); refine QYe ?_; refine Zu ?_; refine Qh ?_; refine Xn ?_; refine QWe ?_
  (show AWP Tryz.prog E _ _ _; refine X1 ?_; exact (show Xq _ _ _ _ _ from ⟨_, St.le_refl _, ⟨rfl, rfl, rfl, trivial⟩, X3 _⟩))
 rw [X22 ep _ _ _ ⟨k2, by rw [k1]; exact hok⟩, k1, hHl, List.drop_drop, show a + (i - a + 1) = i + 1 by omega] at hg
 rw [hok] at hcr
 generalize hX : (Yu ((B.drop a).take (i - a)) ep).1 = X at *
 generalize (B.drop a).take (i - a) = H at *
 have hle : a ≤ i := ha
 have hib : i ≤ (B.map X7).length := by omega
 have hst : (o ++ [X]).map XG = o.map XG ++ [XG X] := by simp
 have hg2 : ((o ++ [X]) ++ (YS ep (B.length - (i + 1) + 1) (B.drop (i + 1)) (i + 1)).1, (YS ep (B.length - (i + 1) + 1) (B.drop (i + 1)) (i + 1)).2) = R := by
  rw [← hg, X40 ep (B.length - a) (B.length - (i + 1) + 1) (B.drop (i + 1)) (i + 1) (by rw [List.length_drop]; omega) (by rw [List.length_drop]; omega)]
  simp
 clear hg k1 k2 hok hX hx hxd hnz hR
 simp only [UK] at hcr
 have hcx : XG X = [.v (.int .i64 X.kind), .v (.int .i64 X.ts), .sl 10 (X.changes.map XH), .v (.int .i64 X.rule.kind), .v (.int .i64 X.rule.n), .v (.string (X6 X.rule.name)), .v (.string (X6 X.rule.key)), .v (.string (X6 X.rule.src)), .v (.string (X6 X.rule.dst)), .v (.bool X.off)] := rfl
 rw [hcx] at hst
 refine QIe ?_; refine QDb ?_; refine QGb ?_; refine ZV (lb := a) (hb := i) (ys := H.map X7) ?_ (hys := by exact hsub); refine QYe ?_; refine Qgb ?_; refine Qf ?_; refine ZL ?_; refine Qj ?_; refine Qnb ?_; refine Qnb ?_
 refine ⟨(i + 1, i + 1, o ++ [X]), ⟨by simp only; omega, Nat.le_refl _, by simp; omega, by simp, hg2⟩, by simp only; omega, ?_⟩
 dsimp only
 rw [hst]
 exact Xa rfl ⟨JL, JL, AVal.le_of_eq (by refine Eq.trans (b := AVal.own 130 (_ + _)) rfl ?_; rw [List.length_append]), JL, JL, trivial⟩ ⟨rfl, trivial⟩
theorem X7V (ep : Int) : ∀ (n : Nat) (b : List UInt8) (a : Nat), b.length ≤ 1000000 → (∀ r ∈ (YS ep n b a).1, V5 r) ∧ (YS ep n b a).1.length ≤ n
 | 0, _, _, _ => by simp [YS]
 | n + 1, b, a, hb => by
  by_cases h : UV b = true ∧ (Yu (Y8 b) ep).2 = true
  ·rw [X22 ep b a n h]
   obtain ⟨k1, k2⟩ := X7V ep n (b.drop ((Y8 b).length + 1)) (a + ((Y8 b).length + 1)) (by rw [List.length_drop]; omega)
   refine ⟨fun r hr => ?_, by simpa using k2⟩
   rcases List.mem_cons.1 hr with rfl | hr
   ·have hlt := X6f h.1
    unfold Yu
    cases hu : Yf (Y8 b) with
    | none => exact ⟨by simp, by simp⟩
    | some raw =>
     have hul := X3k (Y8 b).length (Y8 b) raw (Nat.le_refl _) hu
     simp only
     unfold X1F
     split
     ·exact ⟨by simp, by simp⟩
     ·unfold X3i
      split
      ·exact ⟨by simp, by simp⟩
      ·have := X4X raw 0
       exact XgZ _ (by rw [List.length_drop]; omega)
   ·exact k1 r hr
  ·rw [X1h ep b a n h]
   exact ⟨by simp, by simp⟩
theorem XfS {d : Disk} {f t ep : Int} (hf : Ud d) : (∀ r ∈ (Yz d f t ep).1, V5 r) ∧ (Yz d f t ep).1.length ≤ 9223372036854775807 := by
 unfold Yz
 by_cases h : XJ d f t ep 0 = 0
 ·rw [if_neg (by rw [h]; simp)]
  obtain ⟨hd, h1, h2, h3, _⟩ := X0X h
  have hl : (XO d f t).length ≤ 200000 := by
   unfold XO
   rw [VQ hd _ _ (by omega)]
   have := hf.1
   omega
  obtain ⟨k1, k2⟩ := X7V ep ((XO d f t).length + 1) (XO d f t) 0 (by omega)
  exact ⟨k1, by unfold X08; simp only; omega⟩
 ·rw [if_pos h]
  exact ⟨by simp, by simp⟩
theorem Xem (d : Disk) (q : Ask) (hq : X48 q) : Con Tryz.prog 5 [] [XK d, X0A q] [] (ab true) := by
 refine Xb (xs := [ab true]) Tryz.func5 rfl Tryz.ntmps5 rfl rfl rfl (fun E => ?_)
 have hs := X8a d q hq
 have hl := X75
 by_cases hb : X0H d q = true
 case neg =>
  have hb : X0H d q = false := by simpa using hb
  rw [hb] at hs
  clear hq
  obtain ⟨secs, pend, on⟩ := d
  obtain ⟨f, t, ep, tail, other, pick, a, b, keep⟩ := q
  unfold X0A at *
  simp only at *
  refine Qnf ?_; refine Zu ?_; refine QOb ?_; refine Z9 (hcon := hl) ?_; refine Qc ?_
  (show AWP Tryz.prog E _ _ _; refine X1 ?_; exact (show Xq _ _ _ _ _ from ⟨_, St.le_refl _, ⟨rfl, trivial⟩, X3 _⟩))
 rw [hb] at hs
 have hf := X7b hb
 have h1 := X6p d q.f q.t q.ep hf
 have h2 := Xge d q.f q.t q.ep hf
 obtain ⟨k1, k2⟩ := XfS (f := q.f) (t := q.t) (ep := q.ep) hf
 have h3 := X7j (Yz d q.f q.t q.ep).1 k2 k1
 clear k1 k2
 generalize (Yz d q.f q.t q.ep).1 = L at *
 generalize (Yz d q.f q.t q.ep).2.1 = z at *
 generalize (Yz d q.f q.t q.ep).2.2 = e at *
 clear hq hb hf
 obtain ⟨secs, pend, on⟩ := d
 obtain ⟨f, t, ep, tail, other, pick, a, b, keep⟩ := q
 unfold X0A at *
 simp only at *
 refine Qnf ?_; refine Qgb ?_; refine Qeb ?_; refine Qhd ?_; refine QFa ?_; refine Z9 (hcon := h1) ?_; refine Qac ?_; refine ZF ?_; refine QMb ?_; refine Qeb ?_; refine Qhd ?_; refine QFa ?_; refine Z9 (hcon := h2) ?_; refine Qac ?_; refine ZF ?_; refine QMb ?_; refine X0 ?_
 clear hs h1 h2
 refine Qgc ?_; refine Z9 (hcon := h3) ?_; refine QBa ?_; refine Zl ?_; refine Zn ?_; refine QBa ?_; refine Zl ?_; refine QFc ?_; refine Z9 (hcon := hl) ?_; refine QQ ?_
 (show AWP Tryz.prog E _ _ _; refine X1 ?_; exact (show Xq _ _ _ _ _ from ⟨_, St.le_refl _, ⟨rfl, trivial⟩, X3 _⟩))
end Go.Fw

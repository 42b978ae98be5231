/- Entries read back; Scan. -/
import Derived.Test.YtpfldfkhgplcgaaGreatDoorK27
set_option maxHeartbeats 16000000
namespace Go.Fw
open Go Go.Proofs
set_option maxRecDepth 100000
set_option linter.unusedVariables false
set_option linter.unusedSimpArgs false
theorem Xdk (b : List UInt8) (hb : b.length ≤ 1000000) : Con Tryz.prog 70 [] [.d (Xg b)] [] (.tup [.d (Xg ((Yf b).getD [])), ab (Yf b).isSome]) := by
 refine Xb (xs := [.d (Xg ((Yf b).getD [])), ab (Yf b).isSome]) Tryz.func70 rfl Tryz.ntmps70 rfl rfl rfl (fun E => ?_)
 have hlm : (b.map X7).length = b.length := by simp
 generalize hR : Yf b = R
 refine Qb ?_; refine Qya ?_; refine Qib ?_; refine Xm (Vp 4 130 1 rfl rfl rfl) ?_
 refine Xu (ι := Nat × List UInt8) (fun q => q.1 ≤ b.length ∧ q.2.length ≤ q.1 ∧ (Yf (b.drop q.1)).map (fun l => q.2 ++ l) = R) (fun q => ⟨53, [(0, .d (Xg b)), (4, .own 130 (q.2.map X7).length), (5, ai q.1)], [(130, .row 1 (q.2.map X7))]⟩) (fun q => b.length - q.1) (0, []) ⟨Nat.zero_le _, Nat.le_refl _, by rw [List.drop_zero, hR]; cases R <;> rfl⟩
  (Xa rfl JM ⟨rfl, trivial⟩) ?_
 rintro ⟨i, o⟩ ⟨hi, ho, hg⟩
 simp only at hi ho hg ⊢
 have hroom : (o.map X7).length ≤ 1000000 := by rw [List.length_map]; omega
 by_cases hil : i < b.length
 case neg =>
  have hn : ¬ (i : Int) < (b.map X7).length := by omega
  rw [List.drop_of_length_le (by omega)] at hg
  have hg : some (o ++ []) = R := hg
  rw [List.append_nil] at hg
  subst hg
  simp only [Option.getD_some, Option.isSome_some]
  refine Qub ?_; refine Qf ?_; refine Qya ?_; refine Xm (Y4 130 rfl) ?_; refine Xm (U1 2 130 rfl rfl rfl) ?_
  (show AWP Tryz.prog E _ _ _; refine X1 ?_; exact (show Xq _ _ _ _ _ from ⟨_, St.le_refl _, ⟨rfl, rfl, trivial⟩, X3 _⟩))
 have hn : (i : Int) < (b.map X7).length := by omega
 obtain ⟨x, hx⟩ := Xv (l := b) hil
 have hxc : (b.map X7)[i]? = some (X7 x) := YF hx
 rw [X4H hx] at hg
 by_cases hx1 : x = 1
 case neg =>
  have hx1' : ¬ (x.toNat : Int) = 1 := fun q => hx1 (UInt8.toNat_inj.1 (show x.toNat = (1 : UInt8).toNat by have h : (1 : UInt8).toNat = 1 := rfl; omega))
  rw [X4d hx1, Option.map_map] at hg
  have hst : (o ++ [x]).map X7 = o.map X7 ++ [X7 x] := by simp
  clear hx
  refine QIe ?_; refine QAa ?_; refine QGb ?_; refine QD ?_; refine Qj ?_; refine Xn ?_; refine Qnb ?_
  refine ⟨(i + 1, o ++ [x]), ⟨hil, by simp; omega, ?_⟩, by simp only; omega, ?_⟩
  ·rw [← hg]; simp only; congr 1; funext l; simp
  dsimp only
  rw [hst]
  exact QJe
 subst hx1
 by_cases hil2 : i + 1 < b.length
 case neg =>
  have hn2 : (i : Int) + 1 = (b.map X7).length := by omega
  rw [List.drop_of_length_le (by omega), X55] at hg
  have hg : none = R := hg
  subst hg
  simp only [Option.getD_none, Option.isSome_none]
  clear hx
  refine QIe ?_; refine QDb ?_; refine Qf ?_; refine Zb ?_; refine Qc ?_; refine Qjb ?_; refine Zd ?_; refine Zl ?_; refine QKa ?_; refine QSc ?_; refine Zp ?_; refine QNa ?_; refine QOb ?_; refine Qya ?_
  (show AWP Tryz.prog E _ _ _; refine X1 ?_; exact (show Xq _ _ _ _ _ from ⟨_, Xc 2 (AVal.le_nil 1), ⟨rfl, rfl, trivial⟩, X3 _⟩))
 have hn2 : ¬ (i : Int) + 1 = (b.map X7).length := by omega
 obtain ⟨y, hy⟩ := Xv (l := b) hil2
 have hyc : (b.map X7)[i + 1]? = some (X7 y) := YF hy
 rw [X4H hy] at hg
 by_cases hy2 : y = 1 ∨ y = 2
 case neg =>
  rw [X5h hy2] at hg
  have hg : none = R := hg
  subst hg
  have a1 : ¬ (y.toNat : Int) = 1 := fun q => hy2 (.inl (UInt8.toNat_inj.1 (show y.toNat = (1 : UInt8).toNat by have h : (1 : UInt8).toNat = 1 := rfl; omega)))
  have a2 : ¬ (y.toNat : Int) = 2 := fun q => hy2 (.inr (UInt8.toNat_inj.1 (show y.toNat = (2 : UInt8).toNat by have h : (2 : UInt8).toNat = 2 := rfl; omega)))
  simp only [Option.getD_none, Option.isSome_none]
  clear hx hy
  refine QLe ?_; refine Zv ?_; refine QBa ?_; refine QD ?_; refine Zv ?_; refine QQd ?_; refine QOb ?_; refine Qya ?_
  (show AWP Tryz.prog E _ _ _; refine X1 ?_; exact (show Xq _ _ _ _ _ from ⟨_, Xc 2 (AVal.le_nil 1), ⟨rfl, rfl, trivial⟩, X3 _⟩))
 rw [X3C hy2, Option.map_map] at hg
 have hye := X8S hy2
 have hst : (o ++ [y - 1]).map X7 = o.map X7 ++ [X7 (y - 1)] := by simp
 have hgo : (Yf (b.drop (i + 1 + 1))).map (fun l => (o ++ [y - 1]) ++ l) = R := by rw [← hg]; congr 1; funext l; simp
 clear hx hy hg
 rcases hy2 with rfl | rfl
 ·refine QLe ?_; refine Zv ?_; refine Qba ?_; refine QJa ?_; refine Qfa ?_; refine JR ?_; refine QBa ?_; refine QD ?_; refine QMe ?_; refine QNe ?_
  refine ⟨(i + 2, o ++ [1 - 1]), ⟨by simp only; omega, by simp; omega, hgo⟩, by simp only; omega, ?_⟩
  dsimp only
  rw [hst]
  exact QJe
 ·refine QLe ?_; refine Zv ?_; refine QBa ?_; refine QD ?_; refine Zv ?_; refine Zn ?_; refine Qfa ?_; refine JR ?_; refine QBa ?_; refine QD ?_; refine QOe ?_; refine QNe ?_
  refine ⟨(i + 2, o ++ [2 - 1]), ⟨by simp only; omega, by simp; omega, hgo⟩, by simp only; omega, ?_⟩
  dsimp only
  rw [hst]
  exact QJe
theorem UK (X : Rcd) : Yq X = .agg [ai X.kind, ai X.ts, .d (.sl 10 (X.changes.map XH)), ai X.rule.kind, ai X.rule.n, X9 X.rule.name, X9 X.rule.key, X9 X.rule.src, X9 X.rule.dst, ab X.off] := by
 obtain ⟨kd, ts, l, ⟨k, n, name, key, src, dst⟩, off⟩ := X
 rfl
theorem XbU (b : List UInt8) (ep : Int) (hb : b.length ≤ 1000000) : Con Tryz.prog 48 [] [.d (Xg b), ai ep] [] (.tup [Yq (Yu b ep).1, ab (Yu b ep).2]) := by
 refine Xb (xs := [Yq (Yu b ep).1, ab (Yu b ep).2]) Tryz.func48 rfl Tryz.ntmps48 rfl rfl rfl (fun E => ?_)
 have c1 := Xdk b hb
 have hlm : (b.map X7).length = b.length := by simp
 cases hu : Yf b with
 | none =>
  rw [X8Z hu]
  rw [hu] at c1
  simp only [Option.getD_none, Option.isSome_none, UK, List.map_nil] at c1 ⊢
  refine QPe ?_; refine QOa ?_; refine Quc ?_
  (show AWP Tryz.prog E _ _ _; refine X1 ?_; exact (show Xq _ _ _ _ _ from ⟨_, Xl 100 (cs' := [ai 0, ai 0, .d (.sl 10 []), ai 0, ai 0, X9 [], X9 [], X9 [], X9 [], ab false]) rfl JM rfl, ⟨⟨100, 0, _, rfl, rfl, .inr ⟨10, _, rfl, rfl, rfl, rfl⟩⟩, rfl, trivial⟩, X3 _⟩))
 | some raw =>
 rw [hu] at c1
 simp only [Option.getD_some, Option.isSome_some] at c1
 by_cases hb0 : b = []
 ·subst hb0
  rw [X9z]
  have hl0 : ((([] : List UInt8).map X7).length : Int) = 0 := rfl
  simp only [UK, List.map_nil] at c1 ⊢
  refine QPe ?_; refine Qw ?_; refine Zd ?_; refine Zl ?_; refine Zq ?_; refine Quc ?_
  (show AWP Tryz.prog E _ _ _; refine X1 ?_; exact (show Xq _ _ _ _ _ from ⟨_, Xl 100 (cs' := [ai 0, ai 0, .d (.sl 10 []), ai 0, ai 0, X9 [], X9 [], X9 [], X9 [], ab false]) rfl JM rfl, ⟨⟨100, 0, _, rfl, rfl, .inr ⟨10, _, rfl, rfl, rfl, rfl⟩⟩, rfl, trivial⟩, X3 _⟩))
 have hl0 : ¬ ((b.map X7).length : Int) = 0 := by
  have : b.length ≠ 0 := fun e => hb0 (List.eq_nil_of_length_eq_zero e)
  omega
 rw [X6x hu]
 have hrl := X3k b.length b raw (Nat.le_refl _) hu
 have hrm : (raw.map X7).length = raw.length := by simp
 have c2 := Xby raw 0 (by omega)
 have hul := X4X raw 0
 unfold X1F
 generalize Ue raw 0 = U at *
 obtain ⟨c, z, e⟩ := U
 simp only at hul c2 ⊢
 clear hu hb0
 by_cases he : e = 0
 case neg =>
  rw [if_pos (.inl he)]
  simp only [UK, List.map_nil]
  refine QQe ?_; refine Z9 (hcon := c2) ?_; refine Qbc ?_; refine Zv ?_; refine Qba ?_; refine Zn ?_; refine Quc ?_
  (show AWP Tryz.prog E _ _ _; refine X1 ?_; exact (show Xq _ _ _ _ _ from ⟨_, Xl 100 (cs' := [ai 0, ai 0, .d (.sl 10 []), ai 0, ai 0, X9 [], X9 [], X9 [], X9 [], ab false]) rfl JM rfl, ⟨⟨100, 0, _, rfl, rfl, .inr ⟨10, _, rfl, rfl, rfl, rfl⟩⟩, rfl, trivial⟩, X3 _⟩))
 by_cases hz : z = raw.length
 case neg =>
  have hz' : ¬ z = ((raw.map X7).length : Nat) := by rw [hrm]; exact hz
  rw [if_pos (.inr hz)]
  simp only [UK, List.map_nil]
  refine QQe ?_; refine QRe ?_; refine Zq ?_; refine Quc ?_
  (show AWP Tryz.prog E _ _ _; refine X1 ?_; exact (show Xq _ _ _ _ _ from ⟨_, Xl 100 (cs' := [ai 0, ai 0, .d (.sl 10 []), ai 0, ai 0, X9 [], X9 [], X9 [], X9 [], ab false]) rfl JM rfl, ⟨⟨100, 0, _, rfl, rfl, .inr ⟨10, _, rfl, rfl, rfl, rfl⟩⟩, rfl, trivial⟩, X3 _⟩))
 rw [if_neg (fun q => q.elim (fun q => q he) (fun q => q hz))]
 have hz' : z = ((raw.map X7).length : Nat) := by rw [hrm]; exact hz
 clear hz
 subst he
 have c3 := X24 c 0 (by omega)
 have hend := X0k c 0
 unfold X3i
 generalize Xf c 0 = V at *
 obtain ⟨n, at_, e3⟩ := V
 simp only at c3 hend ⊢
 by_cases he3 : e3 = 0
 case neg =>
  rw [if_pos (.inl he3)]
  clear hend
  simp only [UK, List.map_nil]
  refine QQe ?_; refine QSe ?_; refine Qbc ?_; refine Zv ?_; refine QOa ?_; refine Quc ?_
  (show AWP Tryz.prog E _ _ _; refine X1 ?_; exact (show Xq _ _ _ _ _ from ⟨_, Xl 100 (cs' := [ai 0, ai 0, .d (.sl 10 []), ai 0, ai 0, X9 [], X9 [], X9 [], X9 [], ab false]) rfl JM rfl, ⟨⟨100, 0, _, rfl, rfl, .inr ⟨10, _, rfl, rfl, rfl, rfl⟩⟩, rfl, trivial⟩, X3 _⟩))
 subst he3
 by_cases hn : n = ep
 case neg =>
  rw [if_pos (.inr hn)]
  clear hend
  simp only [UK, List.map_nil]
  refine QQe ?_; refine QTe ?_; refine Zq ?_; refine Quc ?_
  (show AWP Tryz.prog E _ _ _; refine X1 ?_; exact (show Xq _ _ _ _ _ from ⟨_, Xl 100 (cs' := [ai 0, ai 0, .d (.sl 10 []), ai 0, ai 0, X9 [], X9 [], X9 [], X9 [], ab false]) rfl JM rfl, ⟨⟨100, 0, _, rfl, rfl, .inr ⟨10, _, rfl, rfl, rfl, rfl⟩⟩, rfl, trivial⟩, X3 _⟩))
 rw [if_neg (fun q => q.elim (fun q => q rfl) (fun q => q hn))]
 obtain ⟨q, hq, hql⟩ := hend rfl
 simp only at hq hql
 subst hq
 rw [Int.toNat_natCast]
 have hcm : (c.map X7).length = c.length := by simp
 have hqm : q ≤ (c.map X7).length := by omega
 have hdr : ((c.map X7).take (c.map X7).length).drop q = (c.drop q).map X7 := by rw [List.take_length, List.map_drop]
 have c4 := Xe4 (c.drop q) (by rw [List.length_drop]; omega)
 have hne : ¬ ¬ n = ep := fun h => h hn
 generalize rdS (c.drop q) = D at *
 obtain ⟨X, e4⟩ := D
 simp only [UK] at c4 ⊢
 clear hul hrl
 refine QQe ?_; refine QTe ?_; refine Qfa ?_; refine Qi ?_; refine ZV (lb := q) (hb := (c.map X7).length) (ys := (c.drop q).map X7) ?_ (hys := by exact hdr); refine Z9 (hcon := c4) ?_; refine QCc ?_; refine Qfb ?_; refine Zl ?_; refine Qma ?_
 (show AWP Tryz.prog E _ _ _; refine X1 ?_; exact (show Xq _ _ _ _ _ from ⟨_, St.le_refl _, ⟨⟨100, 0, _, rfl, rfl, .inr ⟨10, _, rfl, rfl, rfl, rfl⟩⟩, rfl, trivial⟩, X3 _⟩))
theorem Xfl (b : List UInt8) : Con Tryz.prog 47 [] [.d (Xg b), au8 0] [] (ai (Lib.indexByte b 0)) := by
 refine Xb (xs := [ai (Lib.indexByte b 0)]) Tryz.func47 rfl Tryz.ntmps47 rfl rfl rfl (fun E => ?_)
 refine Qwa ?_; refine Z0h (c := 0) ?_ (hf := by exact Tryz.func69) (h1 := by exact (by kernel_rfl)) (h2 := by exact (by kernel_rfl)) (h3 := by exact (by kernel_rfl)) (h4 := by exact (by kernel_rfl)); refine Qc ?_
 (show AWP Tryz.prog E _ _ _; refine X1 ?_; exact (show Xq _ _ _ _ _ from ⟨_, St.le_refl _, ⟨rfl, trivial⟩, X3 _⟩))
theorem X22 (ep : Int) (b : List UInt8) (a n : Nat) (h : UV b = true ∧ (Yu (Y8 b) ep).2 = true) : YS ep (n + 1) b a = ((Yu (Y8 b) ep).1 :: (YS ep n (b.drop ((Y8 b).length + 1)) (a + ((Y8 b).length + 1))).1, (YS ep n (b.drop ((Y8 b).length + 1)) (a + ((Y8 b).length + 1))).2) := by
 rw [YS, if_pos h]
theorem X1h (ep : Int) (b : List UInt8) (a n : Nat) (h : ¬ (UV b = true ∧ (Yu (Y8 b) ep).2 = true)) : YS ep (n + 1) b a = ([], a) := by
 rw [YS, if_neg h]
theorem X40 (ep : Int) : ∀ (n m : Nat) (b : List UInt8) (a : Nat), b.length < n → b.length < m → YS ep n b a = YS ep m b a
 | 0, _, b, _, h, _ => absurd h (Nat.not_lt_zero _)
 | _ + 1, 0, b, _, _, h => absurd h (Nat.not_lt_zero _)
 | n + 1, m + 1, b, a, h1, h2 => by
  by_cases h : UV b = true ∧ (Yu (Y8 b) ep).2 = true
  ·have hlt := X6f h.1
   rw [X22 ep b a n h, X22 ep b a m h, X40 ep n m (b.drop ((Y8 b).length + 1)) _ (by rw [List.length_drop]; omega) (by rw [List.length_drop]; omega)]
  ·rw [X1h ep b a n h, X1h ep b a m h]
theorem X6p (d : Disk) (f t ep : Int) (hf : Ud d) : Con Tryz.prog 23 [] [XK d, ai f, ai t, ai ep] [] (.tup [.d (.sl 10 ((Yz d f t ep).1.map XG)), ai (Yz d f t ep).2.1, ai (Yz d f t ep).2.2]) := by
 refine Xb (xs := [.d (.sl 10 ((Yz d f t ep).1.map XG)), ai (Yz d f t ep).2.1, ai (Yz d f t ep).2.2]) Tryz.func23 rfl Tryz.ntmps23 rfl rfl rfl (fun E => ?_)
 have hc := X5R d f t ep 0
 by_cases he : XJ d f t ep 0 = 0
 case neg =>
  have e : Yz d f t ep = ([], 0, XJ d f t ep 0) := by unfold Yz; rw [if_pos he]
  rw [e]
  generalize XJ d f t ep 0 = r at *
  clear hf
  obtain ⟨secs, pend, on⟩ := d
  simp only [List.map_nil]
  refine QUe ?_; refine Z1 ?_; refine QZd ?_; refine Qv ?_; refine QAa ?_; refine Qf ?_; refine QMb ?_; exact X1 ⟨_, Xc 8 (AVal.le_nil 10), ⟨rfl, rfl, rfl, trivial⟩, X3 _⟩
 rw [he] at hc
 obtain ⟨hd, h1, h2, h3, _⟩ := X0X he
 have hs := XaQ d f t hd hf h1 (by omega) h3
 have e : Yz d f t ep = ((X08 ep (XO d f t)).1, (((X08 ep (XO d f t)).2 : Nat) : Int), 0) := by unfold Yz; rw [if_neg (by rw [he]; simp)]
 rw [e]
 have hbl : (XO d f t).length ≤ 200000 := by
  unfold XO
  rw [VQ hd _ _ (by omega)]
  have := hf.1
  omega
 clear e he hf hd h1 h2 h3
 generalize XO d f t = B at *
 unfold X08
 generalize hR : YS ep (B.length + 1) B 0 = R
 have hBm : (B.map X7).length = B.length := by simp
 obtain ⟨secs, pend, on⟩ := d
 refine QUe ?_; refine Z1 ?_; refine QZd ?_; refine QYd ?_; refine Qeb ?_; refine ZL ?_; refine Z9 (hcon := hs) ?_; refine Qc ?_; refine Qd ?_; refine Qd ?_; refine X5 ?_
 clear hc hs
 refine Xm (Vp 14 130 10 rfl rfl rfl) ?_
 refine Xu (ι := Nat × List Rcd) (fun q => q.1 ≤ B.length ∧ q.2.length ≤ q.1 ∧ (q.2 ++ (YS ep (B.length - q.1 + 1) (B.drop q.1) q.1).1, (YS ep (B.length - q.1 + 1) (B.drop q.1) q.1).2) = R) (fun q => ⟨63, [(3, ai ep), (13, .d (Xg B)), (14, .own 130 (q.2.map XG).length), (15, ai q.1)], [(130, .row 10 (q.2.map XG))]⟩) (fun q => B.length - q.1) (0, []) ⟨Nat.zero_le _, Nat.le_refl _, by rw [List.drop_zero, Nat.sub_zero, hR]; rfl⟩
  (Xa rfl JM ⟨rfl, trivial⟩) ?_
 rintro ⟨i, o⟩ ⟨hi, ho, hg⟩
 simp only at hi ho hg ⊢
 have hroom : (o.map XG).length ≤ 200000 := by rw [List.length_map]; omega
 have him : i ≤ (B.map X7).length := by omega
 have hdr : ((B.map X7).take (B.map X7).length).drop i = (B.drop i).map X7 := by rw [List.take_length, List.map_drop]
 have hix := Xfl (B.drop i)
 have hdl : (B.drop i).length = B.length - i := by simp
 rcases Xbi (b := B.drop i) with ⟨k1, k2⟩ | ⟨k1, k2⟩
 ·rw [X1h ep _ _ _ (fun h => by rw [k1] at h; simp at h)] at hg
  simp only [List.append_nil] at hg
  subst hg
  rw [k2] at hix
  clear k1 k2
  refine QVe ?_; refine Qc ?_; refine Qn ?_; refine Qh ?_; refine QWe ?_
  (show AWP Tryz.prog E _ _ _; refine X1 ?_; exact (show Xq _ _ _ _ _ from ⟨_, St.le_refl _, ⟨rfl, rfl, rfl, trivial⟩, X3 _⟩))
 rw [k2] at hix
 have hlt := X6f k1
 have htk := Xg3 (B.drop i)
 have hcr := XbU (Y8 (B.drop i)) ep (by omega)
 have hsub : ((B.map X7).take (i + (Y8 (B.drop i)).length)).drop i = (Y8 (B.drop i)).map X7 := by
  conv => rhs; rw [htk]
  rw [List.map_take, List.map_drop, List.drop_take]
  congr 1
  omega
 by_cases hok : (Yu (Y8 (B.drop i)) ep).2 = true
 case neg =>
  rw [X1h ep _ _ _ (fun h => hok h.2)] at hg
  simp only [List.append_nil] at hg
  subst hg
  have hok : (Yu (Y8 (B.drop i)) ep).2 = false := by simpa using hok
  rw [hok] at hcr
  generalize (Yu (Y8 (B.drop i)) ep).1 = X at *
  generalize Y8 (B.drop i) = H at *
  have hiH : i + H.length ≤ (B.map X7).length := by omega
  have hle : i ≤ i + H.length := by omega
  have hnn : ¬ (H.length : Int) < 0 := by omega
  simp only [UK] at hcr
  clear k1 k2 htk hok
  refine QVe ?_; refine Qc ?_; refine Qn ?_; refine Qs ?_; refine QBa ?_; refine QXe ?_; refine ZV (lb := i) (hb := (i + H.length)) (ys := H.map X7) ?_ (hys := by exact hsub); refine QYe ?_; refine Zu ?_; refine Qh ?_; refine QWe ?_
  (show AWP Tryz.prog E _ _ _; refine X1 ?_; exact (show Xq _ _ _ _ _ from ⟨_, St.le_refl _, ⟨rfl, rfl, rfl, trivial⟩, X3 _⟩))
 rw [X22 ep _ _ _ ⟨k1, hok⟩] at hg
 rw [hok] at hcr
 generalize hX : (Yu (Y8 (B.drop i)) ep).1 = X at *
 generalize Y8 (B.drop i) = H at *
 have hiH : i + H.length ≤ (B.map X7).length := by omega
 have hle : i ≤ i + H.length := by omega
 have hnn : ¬ (H.length : Int) < 0 := by omega
 have hst : (o ++ [X]).map XG = o.map XG ++ [XG X] := by simp
 have hg2 : ((o ++ [X]) ++ (YS ep (B.length - (i + (H.length + 1)) + 1) (B.drop (i + (H.length + 1))) (i + (H.length + 1))).1, (YS ep (B.length - (i + (H.length + 1)) + 1) (B.drop (i + (H.length + 1))) (i + (H.length + 1))).2) = R := by
  rw [← hg, List.drop_drop, X40 ep (B.length - i) (B.length - (i + (H.length + 1)) + 1) (B.drop (i + (H.length + 1))) (i + (H.length + 1)) (by rw [List.length_drop]; omega) (by rw [List.length_drop]; omega)]
  simp
 clear hg k1 k2 htk hok hX
 simp only [UK] at hcr
 have hcx : XG X = [.v (.int .i64 X.kind), .v (.int .i64 X.ts), .sl 10 (X.changes.map XH), .v (.int .i64 X.rule.kind), .v (.int .i64 X.rule.n), .v (.string (X6 X.rule.name)), .v (.string (X6 X.rule.key)), .v (.string (X6 X.rule.src)), .v (.string (X6 X.rule.dst)), .v (.bool X.off)] := rfl
 rw [hcx] at hst
 refine QVe ?_; refine Qc ?_; refine Qn ?_; refine Qs ?_; refine QBa ?_; refine QXe ?_; refine ZV (lb := i) (hb := (i + H.length)) (ys := H.map X7) ?_ (hys := by exact hsub); refine QYe ?_; refine Qgb ?_; refine Qf ?_; refine ZL ?_; refine Qj ?_; refine Qgc ?_; refine Z4 (op := .add) (r' := .int .i64 ((H.length + 1 : Nat) : Int)) (u := .int .i64 (H.length : Nat)) (v := .int .i64 1) ?_ (hr' := by exact congrArg (Value.int .i64) (show ((H.length : Nat) : Int) + 1 = ((H.length + 1 : Nat) : Int) by omega)) (hr := by exact Vh (by unfold YP; omega)); refine Z4 (op := .add) (r' := .int .i64 ((i + (H.length + 1) : Nat) : Int)) (u := .int .i64 (i : Int)) (v := .int .i64 (H.length + 1 : Nat)) ?_ (hr' := by exact congrArg (Value.int .i64) (show (i : Int) + ((H.length + 1 : Nat) : Int) = ((i + (H.length + 1) : Nat) : Int) by omega)) (hr := by exact Vh (by unfold YP; omega)); refine Qc ?_
 refine ⟨(i + (H.length + 1), o ++ [X]), ⟨by simp only; omega, by simp; omega, hg2⟩, by simp only; omega, ?_⟩
 dsimp only
 rw [hst]
 exact Xa rfl ⟨JL, JL, AVal.le_of_eq (by refine Eq.trans (b := AVal.own 130 (_ + _)) rfl ?_; rw [List.length_append]), JL, trivial⟩ ⟨rfl, trivial⟩
end Go.Fw

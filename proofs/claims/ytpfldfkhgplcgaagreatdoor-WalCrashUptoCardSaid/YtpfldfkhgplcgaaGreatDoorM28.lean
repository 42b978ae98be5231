/- Entries read back; Scan. -/
import Derived.Test.YtpfldfkhgplcgaaGreatDoorM27
set_option maxHeartbeats 16000000
namespace Go.Fw
open Go Go.Proofs
set_option maxRecDepth 100000
set_option linter.unusedVariables false
set_option linter.unusedSimpArgs false
theorem XhU (b : List UInt8) (hb : b.length ≤ 1000000) : Con Tryz.prog 70 [] [.d (Xf b)] [] (.tup [.d (Xf ((YE b).getD [])), ab (YE b).isSome]) := by
 refine Xa (xs := [.d (Xf ((YE b).getD [])), ab (YE b).isSome]) Tryz.func70 rfl Tryz.ntmps70 rfl rfl rfl (fun E => ?_)
 have hlm : (b.map X6).length = b.length := by simp
 generalize hR : YE b = R
 refine Qb ?_; refine QAa ?_; refine Qjb ?_; refine Xi (UM 4 130 1 rfl rfl rfl) ?_
 refine Xu (ι := Nat × List UInt8) (fun q => q.1 ≤ b.length ∧ q.2.length ≤ q.1 ∧ (YE (b.drop q.1)).map (fun l => q.2 ++ l) = R) (fun q => ⟨53, [(0, .d (Xf b)), (4, .own 130 (q.2.map X6).length), (5, ai q.1)], [(130, .row 1 (q.2.map X6))]⟩) (fun q => b.length - q.1) (0, []) ⟨Nat.zero_le _, Nat.le_refl _, by rw [List.drop_zero, hR]; cases R <;> rfl⟩
  (X9 rfl JM ⟨rfl, trivial⟩) ?_
 rintro ⟨i, o⟩ ⟨hi, ho, hg⟩
 simp only at hi ho hg ⊢
 have hroom : (o.map X6).length ≤ 1000000 := by rw [List.length_map]; omega
 by_cases hil : i < b.length
 case neg =>
  have hn : ¬ (i : Int) < (b.map X6).length := by omega
  rw [List.drop_of_length_le (by omega)] at hg
  have hg : some (o ++ []) = R := hg
  rw [List.append_nil] at hg
  subst hg
  simp only [Option.getD_some, Option.isSome_some]
  refine Qvb ?_; refine Qf ?_; refine QAa ?_; refine QQd ?_; refine Xi (Yc 2 130 rfl rfl rfl) ?_
  (show AWP Tryz.prog E _ _ _; refine X1 ?_; exact (show Xn _ _ _ _ _ from ⟨_, St.le_refl _, ⟨rfl, rfl, trivial⟩, X3 _⟩))
 have hn : (i : Int) < (b.map X6).length := by omega
 obtain ⟨x, hx⟩ := Xx (l := b) hil
 have hxc : (b.map X6)[i]? = some (X6 x) := YR hx
 rw [X8h hx] at hg
 by_cases hx1 : x = 1
 case neg =>
  have hx1' : ¬ (x.toNat : Int) = 1 := fun q => hx1 (UInt8.toNat_inj.1 (show x.toNat = (1 : UInt8).toNat by have h : (1 : UInt8).toNat = 1 := rfl; omega))
  rw [X58 hx1, Option.map_map] at hg
  have hst : (o ++ [x]).map X6 = o.map X6 ++ [X6 x] := by simp
  clear hx
  refine Qpb ?_; refine Qkb ?_; refine QE ?_; refine Zv ?_; refine Qh ?_; refine QHb ?_; refine QE ?_; refine Qk ?_; refine Xp ?_; refine Qnb ?_
  refine ⟨(i + 1, o ++ [x]), ⟨hil, by simp; omega, ?_⟩, by simp only; omega, ?_⟩
  ·rw [← hg]; simp only; congr 1; funext l; simp
  dsimp only
  rw [hst]
  exact QAe
 subst hx1
 by_cases hil2 : i + 1 < b.length
 case neg =>
  have hn2 : (i : Int) + 1 = (b.map X6).length := by omega
  rw [List.drop_of_length_le (by omega), X8Z] at hg
  have hg : none = R := hg
  subst hg
  simp only [Option.getD_none, Option.isSome_none]
  clear hx
  refine Qpb ?_; refine Qkb ?_; refine QE ?_; refine QEb ?_; refine Qf ?_; refine Zb ?_; refine Qc ?_; refine Qkb ?_; refine QRb ?_; refine QMa ?_; refine QQc ?_; refine Zp ?_; refine QS ?_; refine QPb ?_; refine QAa ?_
  (show AWP Tryz.prog E _ _ _; refine X1 ?_; exact (show Xn _ _ _ _ _ from ⟨_, Xb 2 (AVal.le_nil 1), ⟨rfl, rfl, trivial⟩, X3 _⟩))
 have hn2 : ¬ (i : Int) + 1 = (b.map X6).length := by omega
 obtain ⟨y, hy⟩ := Xx (l := b) hil2
 have hyc : (b.map X6)[i + 1]? = some (X6 y) := YR hy
 rw [X8h hy] at hg
 by_cases hy2 : y = 1 ∨ y = 2
 case neg =>
  rw [Xad hy2] at hg
  have hg : none = R := hg
  subst hg
  have a1 : ¬ (y.toNat : Int) = 1 := fun q => hy2 (.inl (UInt8.toNat_inj.1 (show y.toNat = (1 : UInt8).toNat by have h : (1 : UInt8).toNat = 1 := rfl; omega)))
  have a2 : ¬ (y.toNat : Int) = 2 := fun q => hy2 (.inr (UInt8.toNat_inj.1 (show y.toNat = (2 : UInt8).toNat by have h : (2 : UInt8).toNat = 2 := rfl; omega)))
  simp only [Option.getD_none, Option.isSome_none]
  clear hx hy
  refine QBe ?_; refine Zv ?_; refine QCa ?_; refine QE ?_; refine Zv ?_; refine Zn ?_; refine Zq ?_; refine QPb ?_; refine QAa ?_
  (show AWP Tryz.prog E _ _ _; refine X1 ?_; exact (show Xn _ _ _ _ _ from ⟨_, Xb 2 (AVal.le_nil 1), ⟨rfl, rfl, trivial⟩, X3 _⟩))
 rw [X4e hy2, Option.map_map] at hg
 have hye := Xep hy2
 have hst : (o ++ [y - 1]).map X6 = o.map X6 ++ [X6 (y - 1)] := by simp
 have hgo : (YE (b.drop (i + 1 + 1))).map (fun l => (o ++ [y - 1]) ++ l) = R := by rw [← hg]; congr 1; funext l; simp
 clear hx hy hg
 rcases hy2 with rfl | rfl
 ·refine QBe ?_; refine Zv ?_; refine Qca ?_; refine QLa ?_; refine Qha ?_; refine QDa ?_; refine QE ?_; refine Z4 (op := .sub) (r' := .int .u8 (((1 : UInt8) - 1).toNat : Int)) (u := .int .u8 ((1 : UInt8).toNat : Int)) (v := .int .u8 1) ?_ (hr' := by exact hye) (hr := by exact X5j); refine Qk ?_; refine Ql ?_; refine QCe ?_; refine Qc ?_
  refine ⟨(i + 2, o ++ [1 - 1]), ⟨by simp only; omega, by simp; omega, hgo⟩, by simp only; omega, ?_⟩
  dsimp only
  rw [hst]
  exact QAe
 ·refine QBe ?_; refine Zv ?_; refine QCa ?_; refine QE ?_; refine Zv ?_; refine Zn ?_; refine Qha ?_; refine QDa ?_; refine QE ?_; refine Z4 (op := .sub) (r' := .int .u8 (((2 : UInt8) - 1).toNat : Int)) (u := .int .u8 ((2 : UInt8).toNat : Int)) (v := .int .u8 1) ?_ (hr' := by exact hye) (hr := by exact X5j); refine Qk ?_; refine Ql ?_; refine QCe ?_; refine Qc ?_
  refine ⟨(i + 2, o ++ [2 - 1]), ⟨by simp only; omega, by simp; omega, hgo⟩, by simp only; omega, ?_⟩
  dsimp only
  rw [hst]
  exact QAe
theorem X0v (X : Rcd) : Yz X = .agg [ai X.kind, ai X.ts, .d (.sl 10 (X.changes.map XT)), ai X.rule.kind, ai X.rule.n, Xc X.rule.name, Xc X.rule.key, Xc X.rule.src, Xc X.rule.dst, ab X.off] := by
 obtain ⟨kd, ts, l, ⟨k, n, name, key, src, dst⟩, off⟩ := X
 rfl
theorem XeC (b : List UInt8) (ep : Int) (hb : b.length ≤ 1000000) : Con Tryz.prog 48 [] [.d (Xf b), ai ep] [] (.tup [Yz (Ud b ep).1, ab (Ud b ep).2]) := by
 refine Xa (xs := [Yz (Ud b ep).1, ab (Ud b ep).2]) Tryz.func48 rfl Tryz.ntmps48 rfl rfl rfl (fun E => ?_)
 have c1 := XhU b hb
 have hlm : (b.map X6).length = b.length := by simp
 cases hu : YE b with
 | none =>
  rw [X85 hu]
  rw [hu] at c1
  simp only [Option.getD_none, Option.isSome_none, X0v, List.map_nil] at c1 ⊢
  refine Qka ?_; refine Qx ?_; refine Qoc ?_; refine Qbc ?_; refine QAa ?_; refine Qg ?_; refine Zu ?_; refine QQa ?_; refine Qtc ?_
  (show AWP Tryz.prog E _ _ _; refine X1 ?_; exact (show Xn _ _ _ _ _ from ⟨_, XJ 100 (cs' := [ai 0, ai 0, .d (.sl 10 []), ai 0, ai 0, Xc [], Xc [], Xc [], Xc [], ab false]) rfl JM rfl, ⟨⟨100, 0, _, rfl, rfl, .inr ⟨10, _, rfl, rfl, rfl, rfl⟩⟩, rfl, trivial⟩, X3 _⟩))
 | some raw =>
 rw [hu] at c1
 simp only [Option.getD_some, Option.isSome_some] at c1
 by_cases hb0 : b = []
 ·subst hb0
  rw [X9V]
  have hl0 : ((([] : List UInt8).map X6).length : Int) = 0 := rfl
  simp only [X0v, List.map_nil] at c1 ⊢
  refine QDe ?_; refine Zq ?_; refine Qtc ?_
  (show AWP Tryz.prog E _ _ _; refine X1 ?_; exact (show Xn _ _ _ _ _ from ⟨_, XJ 100 (cs' := [ai 0, ai 0, .d (.sl 10 []), ai 0, ai 0, Xc [], Xc [], Xc [], Xc [], ab false]) rfl JM rfl, ⟨⟨100, 0, _, rfl, rfl, .inr ⟨10, _, rfl, rfl, rfl, rfl⟩⟩, rfl, trivial⟩, X3 _⟩))
 have hl0 : ¬ ((b.map X6).length : Int) = 0 := by
  have : b.length ≠ 0 := fun e => hb0 (List.eq_nil_of_length_eq_zero e)
  omega
 rw [X4u hu]
 have hrl := X5Z b.length b raw (Nat.le_refl _) hu
 have hrm : (raw.map X6).length = raw.length := by simp
 have c2 := XgP raw 0 (by omega)
 have hul := X94 raw 0
 unfold X1Y
 generalize Uo raw 0 = U at *
 obtain ⟨c, z, e⟩ := U
 simp only at hul c2 ⊢
 clear hu hb0
 by_cases he : e = 0
 case neg =>
  rw [if_pos (.inl he)]
  simp only [X0v, List.map_nil]
  refine QDe ?_; refine Qha ?_; refine Qf ?_; refine Z9 (hcon := c2) ?_; refine Qdc ?_; refine Zv ?_; refine Qda ?_; refine Qtc ?_
  (show AWP Tryz.prog E _ _ _; refine X1 ?_; exact (show Xn _ _ _ _ _ from ⟨_, XJ 100 (cs' := [ai 0, ai 0, .d (.sl 10 []), ai 0, ai 0, Xc [], Xc [], Xc [], Xc [], ab false]) rfl JM rfl, ⟨⟨100, 0, _, rfl, rfl, .inr ⟨10, _, rfl, rfl, rfl, rfl⟩⟩, rfl, trivial⟩, X3 _⟩))
 by_cases hz : z = raw.length
 case neg =>
  have hz' : ¬ z = ((raw.map X6).length : Nat) := by rw [hrm]; exact hz
  rw [if_pos (.inr hz)]
  simp only [X0v, List.map_nil]
  refine QDe ?_; refine Qha ?_; refine Qf ?_; refine Z9 (hcon := c2) ?_; refine QEe ?_; refine Zd ?_; refine Zv ?_; refine Zq ?_; refine Qtc ?_
  (show AWP Tryz.prog E _ _ _; refine X1 ?_; exact (show Xn _ _ _ _ _ from ⟨_, XJ 100 (cs' := [ai 0, ai 0, .d (.sl 10 []), ai 0, ai 0, Xc [], Xc [], Xc [], Xc [], ab false]) rfl JM rfl, ⟨⟨100, 0, _, rfl, rfl, .inr ⟨10, _, rfl, rfl, rfl, rfl⟩⟩, rfl, trivial⟩, X3 _⟩))
 rw [if_neg (fun q => q.elim (fun q => q he) (fun q => q hz))]
 have hz' : z = ((raw.map X6).length : Nat) := by rw [hrm]; exact hz
 clear hz
 subst he
 have c3 := X2v c 0 (by omega)
 have hend := X1W c 0
 unfold X40
 generalize Xk c 0 = V at *
 obtain ⟨n, at_, e3⟩ := V
 simp only at c3 hend ⊢
 by_cases he3 : e3 = 0
 case neg =>
  rw [if_pos (.inl he3)]
  clear hend
  simp only [X0v, List.map_nil]
  refine QFe ?_; refine Qdc ?_; refine Zv ?_; refine QQa ?_; refine Qtc ?_
  (show AWP Tryz.prog E _ _ _; refine X1 ?_; exact (show Xn _ _ _ _ _ from ⟨_, XJ 100 (cs' := [ai 0, ai 0, .d (.sl 10 []), ai 0, ai 0, Xc [], Xc [], Xc [], Xc [], ab false]) rfl JM rfl, ⟨⟨100, 0, _, rfl, rfl, .inr ⟨10, _, rfl, rfl, rfl, rfl⟩⟩, rfl, trivial⟩, X3 _⟩))
 subst he3
 by_cases hn : n = ep
 case neg =>
  rw [if_pos (.inr hn)]
  clear hend
  simp only [X0v, List.map_nil]
  refine QFe ?_; refine QEe ?_; refine Zv ?_; refine Zq ?_; refine Qtc ?_
  (show AWP Tryz.prog E _ _ _; refine X1 ?_; exact (show Xn _ _ _ _ _ from ⟨_, XJ 100 (cs' := [ai 0, ai 0, .d (.sl 10 []), ai 0, ai 0, Xc [], Xc [], Xc [], Xc [], ab false]) rfl JM rfl, ⟨⟨100, 0, _, rfl, rfl, .inr ⟨10, _, rfl, rfl, rfl, rfl⟩⟩, rfl, trivial⟩, X3 _⟩))
 rw [if_neg (fun q => q.elim (fun q => q rfl) (fun q => q hn))]
 obtain ⟨q, hq, hql⟩ := hend rfl
 simp only at hq hql
 subst hq
 rw [Int.toNat_natCast]
 have hcm : (c.map X6).length = c.length := by simp
 have hqm : q ≤ (c.map X6).length := by omega
 have hdr : ((c.map X6).take (c.map X6).length).drop q = (c.drop q).map X6 := by rw [List.take_length, List.map_drop]
 have c4 := XhW (c.drop q) (by rw [List.length_drop]; omega)
 have hne : ¬ ¬ n = ep := fun h => h hn
 generalize rdS (c.drop q) = D at *
 obtain ⟨X, e4⟩ := D
 simp only [X0v] at c4 ⊢
 clear hul hrl
 refine QFe ?_; refine QEe ?_; refine Zv ?_; refine Qha ?_; refine Qi ?_; refine ZV (lb := q) (hb := (c.map X6).length) (ys := (c.drop q).map X6) ?_ (hys := by exact hdr); refine Z9 (hcon := c4) ?_; refine Qbc ?_; refine Qrc ?_; refine Qna ?_; refine Qgb ?_; refine Z1 ?_; refine Zl ?_; refine Qna ?_
 (show AWP Tryz.prog E _ _ _; refine X1 ?_; exact (show Xn _ _ _ _ _ from ⟨_, St.le_refl _, ⟨⟨100, 0, _, rfl, rfl, .inr ⟨10, _, rfl, rfl, rfl, rfl⟩⟩, rfl, trivial⟩, X3 _⟩))
theorem XfM (b : List UInt8) : Con Tryz.prog 47 [] [.d (Xf b), au8 0] [] (ai (Lib.indexByte b 0)) := by
 refine Xa (xs := [ai (Lib.indexByte b 0)]) Tryz.func47 rfl Tryz.ntmps47 rfl rfl rfl (fun E => ?_)
 refine Qd ?_; refine Qi ?_; refine Z0h (c := 0) ?_ (hf := by exact Tryz.func69) (h1 := by exact (by kernel_rfl)) (h2 := by exact (by kernel_rfl)) (h3 := by exact (by kernel_rfl)) (h4 := by exact (by kernel_rfl)); refine Qc ?_
 (show AWP Tryz.prog E _ _ _; refine X1 ?_; exact (show Xn _ _ _ _ _ from ⟨_, St.le_refl _, ⟨rfl, trivial⟩, X3 _⟩))
theorem X4W (ep : Int) (b : List UInt8) (a n : Nat) (h : Vw b = true ∧ (Ud (Y3 b) ep).2 = true) : UC ep (n + 1) b a = ((Ud (Y3 b) ep).1 :: (UC ep n (b.drop ((Y3 b).length + 1)) (a + ((Y3 b).length + 1))).1, (UC ep n (b.drop ((Y3 b).length + 1)) (a + ((Y3 b).length + 1))).2) := by
 rw [UC, if_pos h]
theorem X1V (ep : Int) (b : List UInt8) (a n : Nat) (h : ¬ (Vw b = true ∧ (Ud (Y3 b) ep).2 = true)) : UC ep (n + 1) b a = ([], a) := by
 rw [UC, if_neg h]
theorem X5y (ep : Int) : ∀ (n m : Nat) (b : List UInt8) (a : Nat), b.length < n → b.length < m → UC ep n b a = UC ep m b a
 | 0, _, b, _, h, _ => absurd h (Nat.not_lt_zero _)
 | _ + 1, 0, b, _, _, h => absurd h (Nat.not_lt_zero _)
 | n + 1, m + 1, b, a, h1, h2 => by
  by_cases h : Vw b = true ∧ (Ud (Y3 b) ep).2 = true
  ·have hlt := X6L h.1
   rw [X4W ep b a n h, X4W ep b a m h, X5y ep n m (b.drop ((Y3 b).length + 1)) _ (by rw [List.length_drop]; omega) (by rw [List.length_drop]; omega)]
  ·rw [X1V ep b a n h, X1V ep b a m h]
theorem X32 (d : Disk) (f t ep : Int) (hf : YW d) : Con Tryz.prog 23 [] [XK d, ai f, ai t, ai ep] [] (.tup [.d (.sl 10 ((Uk d f t ep).1.map Xq)), ai (Uk d f t ep).2.1, ai (Uk d f t ep).2.2]) := by
 refine Xa (xs := [.d (.sl 10 ((Uk d f t ep).1.map Xq)), ai (Uk d f t ep).2.1, ai (Uk d f t ep).2.2]) Tryz.func23 rfl Tryz.ntmps23 rfl rfl rfl (fun E => ?_)
 have hc := X68 d f t ep 0
 by_cases he : XI d f t ep 0 = 0
 case neg =>
  have e : Uk d f t ep = ([], 0, XI d f t ep 0) := by unfold Uk; rw [if_pos he]
  rw [e]
  generalize XI d f t ep 0 = r at *
  clear hf
  obtain ⟨secs, pend, on⟩ := d
  simp only [List.map_nil]
  refine QGe ?_; refine Z1 ?_; refine Z9 (hcon := hc) ?_; refine Qx ?_; refine Qte ?_; refine QNb ?_; exact X1 ⟨_, Xb 8 (AVal.le_nil 10), ⟨rfl, rfl, rfl, trivial⟩, X3 _⟩
 rw [he] at hc
 obtain ⟨hd, h1, h2, h3, _⟩ := X1u he
 have hs := Xar d f t hd hf h1 (by omega) h3
 have e : Uk d f t ep = ((X0P ep (Xz d f t)).1, (((X0P ep (Xz d f t)).2 : Nat) : Int), 0) := by unfold Uk; rw [if_neg (by rw [he]; simp)]
 rw [e]
 have hbl : (Xz d f t).length ≤ 200000 := by
  unfold Xz
  rw [VW hd _ _ (by omega)]
  have := hf.1
  omega
 clear e he hf hd h1 h2 h3
 generalize Xz d f t = B at *
 unfold X0P
 generalize hR : UC ep (B.length + 1) B 0 = R
 have hBm : (B.map X6).length = B.length := by simp
 obtain ⟨secs, pend, on⟩ := d
 refine QGe ?_; refine Z1 ?_; refine Z9 (hcon := hc) ?_; refine QOd ?_; refine Qgb ?_; refine ZL ?_; refine Z9 (hcon := hs) ?_; refine Qc ?_; refine Qd ?_; refine Qd ?_; refine X5 ?_
 clear hc hs
 refine Xi (UM 14 130 10 rfl rfl rfl) ?_
 refine Xu (ι := Nat × List Rcd) (fun q => q.1 ≤ B.length ∧ q.2.length ≤ q.1 ∧ (q.2 ++ (UC ep (B.length - q.1 + 1) (B.drop q.1) q.1).1, (UC ep (B.length - q.1 + 1) (B.drop q.1) q.1).2) = R) (fun q => ⟨63, [(3, ai ep), (13, .d (Xf B)), (14, .own 130 (q.2.map Xq).length), (15, ai q.1)], [(130, .row 10 (q.2.map Xq))]⟩) (fun q => B.length - q.1) (0, []) ⟨Nat.zero_le _, Nat.le_refl _, by rw [List.drop_zero, Nat.sub_zero, hR]; rfl⟩
  (X9 rfl JM ⟨rfl, trivial⟩) ?_
 rintro ⟨i, o⟩ ⟨hi, ho, hg⟩
 simp only at hi ho hg ⊢
 have hroom : (o.map Xq).length ≤ 200000 := by rw [List.length_map]; omega
 have him : i ≤ (B.map X6).length := by omega
 have hdr : ((B.map X6).take (B.map X6).length).drop i = (B.drop i).map X6 := by rw [List.take_length, List.map_drop]
 have hix := XfM (B.drop i)
 have hdl : (B.drop i).length = B.length - i := by simp
 rcases Xeq (b := B.drop i) with ⟨k1, k2⟩ | ⟨k1, k2⟩
 ·rw [X1V ep _ _ _ (fun h => by rw [k1] at h; simp at h)] at hg
  simp only [List.append_nil] at hg
  subst hg
  rw [k2] at hix
  clear k1 k2
  refine QHe ?_; refine Qw ?_; refine Z8 ?_; refine Qh ?_; refine Qi ?_; refine QNb ?_; refine QQd ?_; refine Xi (Yc 8 130 rfl rfl rfl) ?_
  (show AWP Tryz.prog E _ _ _; refine X1 ?_; exact (show Xn _ _ _ _ _ from ⟨_, St.le_refl _, ⟨rfl, rfl, rfl, trivial⟩, X3 _⟩))
 rw [k2] at hix
 have hlt := X6L k1
 have htk := Xa2 (B.drop i)
 have hcr := XeC (Y3 (B.drop i)) ep (by omega)
 have hsub : ((B.map X6).take (i + (Y3 (B.drop i)).length)).drop i = (Y3 (B.drop i)).map X6 := by
  conv => rhs; rw [htk]
  rw [List.map_take, List.map_drop, List.drop_take]
  congr 1
  omega
 by_cases hok : (Ud (Y3 (B.drop i)) ep).2 = true
 case neg =>
  rw [X1V ep _ _ _ (fun h => hok h.2)] at hg
  simp only [List.append_nil] at hg
  subst hg
  have hok : (Ud (Y3 (B.drop i)) ep).2 = false := by simpa using hok
  rw [hok] at hcr
  generalize (Ud (Y3 (B.drop i)) ep).1 = X at *
  generalize Y3 (B.drop i) = H at *
  have hiH : i + H.length ≤ (B.map X6).length := by omega
  have hle : i ≤ i + H.length := by omega
  have hnn : ¬ (H.length : Int) < 0 := by omega
  simp only [X0v] at hcr
  clear k1 k2 htk hok
  refine QHe ?_; refine Qw ?_; refine Z8 ?_; refine Qs ?_; refine Qf ?_; refine QCa ?_; refine QIe ?_; refine ZV (lb := i) (hb := (i + H.length)) (ys := H.map X6) ?_ (hys := by exact hsub); refine Z1 ?_; refine Z9 (hcon := hcr) ?_; refine Qbc ?_; refine Zw (γ := 100) ?_; refine Zy ?_; refine Qw ?_; refine Zu ?_; refine Qh ?_; refine Qi ?_; refine QNb ?_; refine QQd ?_; refine Xi (Yc 8 130 rfl rfl rfl) ?_
  (show AWP Tryz.prog E _ _ _; refine X1 ?_; exact (show Xn _ _ _ _ _ from ⟨_, St.le_refl _, ⟨rfl, rfl, rfl, trivial⟩, X3 _⟩))
 rw [X4W ep _ _ _ ⟨k1, hok⟩] at hg
 rw [hok] at hcr
 generalize hX : (Ud (Y3 (B.drop i)) ep).1 = X at *
 generalize Y3 (B.drop i) = H at *
 have hiH : i + H.length ≤ (B.map X6).length := by omega
 have hle : i ≤ i + H.length := by omega
 have hnn : ¬ (H.length : Int) < 0 := by omega
 have hst : (o ++ [X]).map Xq = o.map Xq ++ [Xq X] := by simp
 have hg2 : ((o ++ [X]) ++ (UC ep (B.length - (i + (H.length + 1)) + 1) (B.drop (i + (H.length + 1))) (i + (H.length + 1))).1, (UC ep (B.length - (i + (H.length + 1)) + 1) (B.drop (i + (H.length + 1))) (i + (H.length + 1))).2) = R := by
  rw [← hg, List.drop_drop, X5y ep (B.length - i) (B.length - (i + (H.length + 1)) + 1) (B.drop (i + (H.length + 1))) (i + (H.length + 1)) (by rw [List.length_drop]; omega) (by rw [List.length_drop]; omega)]
  simp
 clear hg k1 k2 htk hok hX
 simp only [X0v] at hcr
 have hcx : Xq X = [.v (.int .i64 X.kind), .v (.int .i64 X.ts), .sl 10 (X.changes.map XT), .v (.int .i64 X.rule.kind), .v (.int .i64 X.rule.n), .v (.string (X7 X.rule.name)), .v (.string (X7 X.rule.key)), .v (.string (X7 X.rule.src)), .v (.string (X7 X.rule.dst)), .v (.bool X.off)] := rfl
 rw [hcx] at hst
 refine QHe ?_; refine Qw ?_; refine Z8 ?_; refine Qs ?_; refine Qf ?_; refine QCa ?_; refine QIe ?_; refine ZV (lb := i) (hb := (i + H.length)) (ys := H.map X6) ?_ (hys := by exact hsub); refine Z1 ?_; refine Z9 (hcon := hcr) ?_; refine Qbc ?_; refine Zw (γ := 100) ?_; refine Zy ?_; refine Qw ?_; refine Qhb ?_; refine Qf ?_; refine ZL ?_; refine Qk ?_; refine Qgc ?_; refine Z4 (op := .add) (r' := .int .i64 ((H.length + 1 : Nat) : Int)) (u := .int .i64 (H.length : Nat)) (v := .int .i64 1) ?_ (hr' := by exact congrArg (Value.int .i64) (show ((H.length : Nat) : Int) + 1 = ((H.length + 1 : Nat) : Int) by omega)) (hr := by exact X0g (by unfold U6; omega)); refine Z4 (op := .add) (r' := .int .i64 ((i + (H.length + 1) : Nat) : Int)) (u := .int .i64 (i : Int)) (v := .int .i64 (H.length + 1 : Nat)) ?_ (hr' := by exact congrArg (Value.int .i64) (show (i : Int) + ((H.length + 1 : Nat) : Int) = ((i + (H.length + 1) : Nat) : Int) by omega)) (hr := by exact X0g (by unfold U6; omega)); refine Qc ?_
 refine ⟨(i + (H.length + 1), o ++ [X]), ⟨by simp only; omega, by simp; omega, hg2⟩, by simp only; omega, ?_⟩
 dsimp only
 rw [hst]
 exact QJe
end Go.Fw

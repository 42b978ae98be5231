/- The reference's Copy. -/
import Derived.Test.YtpfldfkhgplcgaaGreatDoorM29
import Derived.Test.YtpfldfkhgplcgaaGreatDoorM44
set_option maxHeartbeats 8000000
namespace Go.Fw
open Go Go.Proofs
set_option maxRecDepth 100000
set_option linter.unusedVariables false
set_option linter.unusedSimpArgs false
theorem X92 (d : Disk) (hl : UE d) : Con Tryz.prog 62 [] [XK d] [(130, .row 1 (d.sectors.map Yj)), (131, .row 2 (d.pending.map cWr))] (.agg [.own 130 d.sectors.length, .own 131 d.pending.length, ab d.on]) := by
 obtain ⟨secs, pend, on⟩ := d
 obtain ⟨hl1, hl2, hl3, hl4⟩ := hl
 simp only at hl1 hl2 hl3 hl4
 refine Xa (xs := [.agg [.own 130 secs.length, .own 131 pend.length, ab on]]) Tryz.func62 rfl Tryz.ntmps62 rfl rfl rfl (fun E => ?_)
 refine Qge ?_; refine QIa ?_; refine Zx ?_; refine QWd ?_; refine Qib ?_; refine Xi (X0a 102 0 130 1 (cs := [ani, ani, ab on]) rfl rfl rfl rfl rfl) ?_; refine Xi (X0a 102 1 131 2 (cs := [.own 130 0, ani, ab on]) rfl rfl rfl rfl rfl) ?_
 refine Xu (fun k : Nat => k ≤ secs.length) (fun k => ⟨56, [(1, .ptr 100 0), (2, .ptr 101 0), (3, .ptr 102 0), (4, ai k)], [(100, .box [.d (XE secs), .d (XA pend), ab on]), (101, .box [ani, ani, ab false]), (102, .box [.own 130 k, .own 131 0, ab on]), (130, .row 1 ((secs.take k).map Yj)), (131, .row 2 [])]⟩) (fun k => secs.length - k) 0 (by omega)
  (X9 rfl ⟨JL, JL, JL, JL, trivial⟩ ⟨rfl, rfl, rfl, rfl, rfl, trivial⟩) ?_
 intro k hk
 by_cases hlt : k < secs.length
 ·obtain ⟨s, hs⟩ := Xx (l := secs) (k := k) (by omega)
  have hsl : s.length ≤ 4096 := hl3 s (List.mem_of_getElem? hs)
  refine QWe ?_; refine QUc ?_; refine ZZ (len := 0) (γ := 103) ?_; refine QHa ?_; refine Z1 ?_; refine QE ?_; refine Z0g (γ := 103) ?_; refine Qpd ?_; refine Qhd ?_; refine Qnb ?_
  refine ⟨k + 1, by omega, by omega, X9 rfl ⟨JL, JL, JL, JL, trivial⟩ ⟨rfl, rfl, ?_, ?_, rfl, trivial⟩⟩
  ·refine Eq.trans (b := AObj.box [.own 130 _, .own 131 0, ab on]) rfl ?_
   congr 3; simp; omega
  ·refine Eq.trans (b := AObj.row 1 (_ ++ [[.sl 1 ([] ++ _)]])) rfl ?_
   rw [X4i hs]; simp
 obtain rfl : k = secs.length := by omega
 refine QVe ?_; refine Qib ?_
 refine Xu (fun k : Nat => k ≤ pend.length) (fun k => ⟨56, [(1, .ptr 100 0), (2, .ptr 101 0), (3, .ptr 102 0), (5, ai k)], [(100, .box [.d (XE secs), .d (XA pend), ab on]), (101, .box [ani, ani, ab false]), (102, .box [.own 130 secs.length, .own 131 k, ab on]), (130, .row 1 (secs.map Yj)), (131, .row 2 ((pend.take k).map cWr))]⟩) (fun k => pend.length - k) 0 (by omega)
  (X9 rfl ⟨JL, JL, JL, JL, trivial⟩ ⟨rfl, rfl, rfl, (by refine Eq.trans (b := AObj.row 1 _) rfl ?_; simp), rfl, trivial⟩) ?_
 intro k hk
 by_cases hlt : k < pend.length
 ·obtain ⟨w, hw⟩ := Xx (l := pend) (k := k) (by omega)
  have hwl : w.b.length ≤ 4096 := hl4 w (List.mem_of_getElem? hw)
  refine QWe ?_; refine JR ?_; refine Qed ?_; refine Z1 ?_; refine Zj ?_; refine ZN ?_; refine Zk ?_; refine ZZ (len := 0) (γ := 103) ?_; refine QHa ?_; refine Z1 ?_; refine Zj ?_; refine ZN ?_; refine Zk ?_; refine Z0g (γ := 103) ?_; refine Zx ?_; refine Qpd ?_; refine Qhd ?_; refine Qnb ?_
  refine ⟨k + 1, by omega, by omega, X9 rfl ⟨JL, JL, JL, JL, trivial⟩ ⟨rfl, rfl, ?_, rfl, ?_, trivial⟩⟩
  ·refine Eq.trans (b := AObj.box [.own 130 secs.length, .own 131 _, ab on]) rfl ?_
   congr 4; simp; omega
  ·refine Eq.trans (b := AObj.row 2 (_ ++ [[_, .sl 1 ([] ++ _)]])) rfl ?_
   rw [X4i hw]; simp
 obtain rfl : k = pend.length := by omega
 refine QVe ?_; refine Qjd ?_
 refine X1 ⟨_, St.le_refl _, ⟨⟨101, 0, _, rfl, rfl, .inr ⟨3, _, rfl, rfl, rfl, rfl⟩⟩, trivial⟩, Xj ⟨rfl, ?_, trivial⟩⟩
 refine Eq.trans (b := AObj.row 2 _) rfl ?_
 simp
theorem X7J (a b : List UInt8) (k : Nat) (ha : a.length ≤ 4096) (hb : b.length ≤ 4096) (hk : k ≤ a.length) (hk2 : k ≤ b.length) : Con Tryz.prog 81 [] [.d (Xf a), ai k, .d (Xf b)] [] (.d (Xf (a.take k ++ b.drop k))) := by
 refine Xa (xs := [.d (Xf (a.take k ++ b.drop k))]) Tryz.func81 rfl Tryz.ntmps81 rfl rfl rfl (fun E => ?_)
 refine Qd ?_; refine Qb ?_; refine ZZ (len := 0) (γ := 100) ?_; refine Qy ?_; refine Z0b ?_; refine Z6 ?_; refine Qx ?_; refine Qy ?_; refine Z0b ?_; refine Qj ?_; refine Xi (XL 100 rfl) ?_; refine Xi (Yc 6 100 rfl rfl (by simp)) ?_; exact X1 ⟨_, Xb 6 (y := .d (Xf (a.take k ++ b.drop k))) (AVal.le_of_eq (by refine Eq.trans (b := AVal.d (.sl 1 (([] ++ _) ++ _))) rfl ?_; simp [List.take_of_length_le])), ⟨rfl, trivial⟩, X3 _⟩
theorem Xga (d : Disk) (a : Int) (b : List UInt8) (hl : UE d) (hbl : b.length ≤ 4096) : Con Tryz.prog 38 [] [XK d, ai a, .d (Xf b)] [] (X1A (XK (YO d a b).1) (YO d a b).2) := by
 refine Xa (xs := [XK (YO d a b).1, ai (YO d a b).2]) Tryz.func38 rfl Tryz.ntmps38 rfl rfl rfl (fun E => ?_)
 by_cases hu : YF d = 0
 ·have hp := hl.2.1
  by_cases h1 : a < 0
  ·rw [show YO d a b = (Y8, 1) by simp [YO, hu]; omega]
   repeat first | refine X0 ?_ | (refine JR ?_; (repeat first | refine Z1 ?_ | refine Z0 ?_ | refine ZL ?_ | refine Z8 ?_ | refine Zv ?_ | refine Zw (γ := 101) ?_ | refine ZA (γ := 100) ?_ | refine Zy ?_ | refine Zx ?_ | refine Zn ?_ | refine Zo ?_ | refine Z9 (hcon := X0h d) ?_); refine JD ?_) | refine JT ?_ | refine JF ?_ | refine X4 ?_
   exact Qme
  by_cases h2 : (d.sectors.length : Int) ≤ a
  ·rw [show YO d a b = (Y8, 1) by simp [YO, hu]; omega]
   refine Qtf ?_; refine Qoe ?_; refine QQa ?_; refine Qtc ?_; exact Qme
  by_cases h3 : b.length ≠ 64
  ·rw [show YO d a b = (Y8, 1) by simp [YO, hu]; omega]
   refine Qtf ?_; refine Qpe ?_; refine Zq ?_; refine Qtc ?_; exact Qme
  have h3 : b.length = 64 := by simpa using h3
  rw [show YO d a b = (⟨d.sectors, d.pending ++ [⟨a, b⟩], d.on⟩, 0) by simp only [YO, hu]; rw [if_neg (by simp), if_pos ⟨by omega, by omega, h3⟩]]
  repeat first | refine X0 ?_ | (refine JR ?_; (repeat first | refine Z0g (γ := 103) ?_ | refine Z1 ?_ | refine Z0 ?_ | refine ZB ?_ | refine ZC ?_ | refine ZL ?_ | refine Zd ?_ | refine Z8 ?_ | refine Z2 ?_ | refine Zv ?_ | refine Zw (γ := 101) ?_ | refine Zw (γ := 102) ?_ | refine ZA (γ := 100) ?_ | refine Zy ?_ | refine Zx ?_ | refine Zq ?_ | refine ZZ (len := 0) (γ := 103) ?_ | refine Z5 ?_ | refine Z6 ?_ | refine Z9 (hcon := X0h d) ?_ | refine Z9 (hcon := X92 d hl) ?_); refine JD ?_) | refine JF ?_ | refine X4 ?_
  refine QQd ?_; refine Xi (XL 131 rfl) ?_; refine Xi (Vn 101 0 130 (cs := [.own 130 d.sectors.length, .own 131 ((d.pending.map cWr).length + 1), ab d.on]) (sz := 1) (xs := d.sectors.map Yj) rfl rfl rfl (by simp)) ?_
  refine Xi (Vn 101 1 131 (cs := [.d (XE d.sectors), .own 131 ((d.pending.map cWr).length + 1), ab d.on]) (sz := 2) (xs := (d.pending ++ [(⟨a, b⟩ : Wr)]).map cWr) rfl rfl (by refine Eq.trans (b := AObj.froz 2 (_ ++ [[_, .sl 1 ([] ++ _)]])) rfl ?_; simp) (by simp)) ?_
  exact Qke
 ·rw [show YO d a b = (Y8, YF d) by simp [YO, hu]]
  refine Qtf ?_; exact Qne
theorem XhL (d : Disk) (a : Int) (hl : UE d) : Con Tryz.prog 74 [] [XK d, ai a] [] (X1A (.d (Xf (Yn d a).1)) (Yn d a).2) := by
 refine Xa (xs := [.d (Xf (Yn d a).1), ai (Yn d a).2]) Tryz.func74 rfl Tryz.ntmps74 rfl rfl rfl (fun E => ?_)
 by_cases hu : YF d = 0
 ·have hp := hl.2.1
  by_cases h1 : a < 0
  ·rw [show Yn d a = ([], 1) by simp [Yn, hu]; omega]
   repeat first | refine X0 ?_ | (refine JR ?_; (repeat first | refine Z1 ?_ | refine Z0 ?_ | refine ZL ?_ | refine Z8 ?_ | refine Zv ?_ | refine ZA (γ := 100) ?_ | refine Zn ?_ | refine Zo ?_ | refine Z9 (hcon := X0h d) ?_); refine JD ?_) | refine JT ?_ | refine JF ?_ | refine X4 ?_
   exact Qse
  by_cases h2 : (d.sectors.length : Int) ≤ a
  ·rw [show Yn d a = ([], 1) by simp [Yn, hu]; omega]
   refine QFa ?_; refine QAa ?_; refine Qkc ?_; refine Z9 (hcon := X0h d) ?_; refine Qoe ?_; refine QPb ?_; refine QAa ?_; exact Qse
  obtain ⟨k, rfl⟩ : ∃ k : Nat, a = k := ⟨a.toNat, by omega⟩
  obtain ⟨s, hs⟩ := Xx (l := d.sectors) (k := k) (by omega)
  have hsl := hl.2.2.1 s (List.mem_of_getElem? hs)
  repeat first | refine X0 ?_ | (refine JR ?_; (repeat first | refine Z1 ?_ | refine Z0 ?_ | refine ZB ?_ | refine ZC ?_ | refine ZL ?_ | refine Zk ?_ | refine Zd ?_ | refine Z8 ?_ | refine Z2 ?_ | refine Zv ?_ | refine ZA (γ := 100) ?_ | refine Zq ?_ | refine Zj ?_ | refine Z9 (hcon := X0h d) ?_); refine JD ?_) | refine JF ?_ | refine X5 ?_ | refine X4 ?_
  have hok := X13 (X56 hu).1
  have hs64 := hok.1 s (List.mem_of_getElem? hs)
  rw [show Yn d (k : Int) = (YZ d.pending k s d.pending.length, 0) by unfold Yn; rw [if_neg (by simpa using hu), if_pos (by omega), Int.toNat_natCast, hs]; rfl]
  refine Xu (fun j : Nat => j ≤ d.pending.length) (fun j => ⟨52, [(1, ai k), (2, .ptr 100 0), (7, .d (Xf (YZ d.pending k s j))), (8, ai j)], [(100, .box [.d (XE d.sectors), .d (XA d.pending), ab d.on])]⟩) (fun j => d.pending.length - j) 0 (by omega)
   (X9 rfl ⟨JL, JL, JL, JL, trivial⟩ ⟨rfl, trivial⟩) ?_
  intro j hj
  by_cases hlt : j < d.pending.length
  ·obtain ⟨⟨at_, b⟩, hw⟩ := Xx (l := d.pending) (k := j) hlt
   by_cases hat : at_ = (k : Int)
   ·subst hat
    refine QXe ?_; refine Qsb ?_; refine Zl ?_; refine Qh ?_; refine QUc ?_; refine Z1 ?_; refine Zj ?_; refine ZN ?_; refine Zk ?_; refine Qc ?_; refine Qnb ?_
    refine ⟨j + 1, by omega, by omega, X9 rfl ⟨JL, JL, (by refine AVal.le_of_eq ?_; refine Eq.trans (b := AVal.d (Xf b)) rfl ?_; simp [YZ, hw]), JL, trivial⟩ ⟨rfl, trivial⟩⟩
   ·refine QXe ?_; refine Qsb ?_; refine Qqb ?_; refine Qnb ?_
    refine ⟨j + 1, by omega, by omega, X9 rfl ⟨JL, JL, (by refine AVal.le_of_eq ?_; refine Eq.trans (b := AVal.d (Xf (YZ d.pending k s j))) rfl ?_; simp [YZ, hw, hat]), JL, trivial⟩ ⟨rfl, trivial⟩⟩
  obtain rfl : j = d.pending.length := by omega
  have hbl := X3E (a := (k : Int)) hok hs64 d.pending.length
  refine QVe ?_; refine Qb ?_; refine ZZ (len := 0) (γ := 101) ?_; refine Z1 ?_; refine Z6 ?_; refine QAa ?_; refine Xi (XL 101 rfl) ?_; refine Xi (Yc 4 101 rfl rfl (by simp)) ?_; exact X1 ⟨_, Xb 4 (y := .d (Xf (YZ d.pending k s d.pending.length))) (AVal.le_of_eq (by refine Eq.trans (b := AVal.d (.sl 1 ([] ++ _))) rfl ?_; simp)), ⟨rfl, rfl, trivial⟩, X3 _⟩
 ·rw [show Yn d a = ([], YF d) by simp [Yn, hu]]
  refine QFa ?_; refine QAa ?_; refine Qkc ?_; refine Z9 (hcon := X0h d) ?_; refine Qx ?_; refine Qte ?_; refine QAa ?_; exact Qse
theorem X6h {α β : Type} (f : α → β) : ∀ {l : List α} {a : Nat} (y : α), a < l.length → (l.map f).take a ++ [f y] ++ (l.map f).drop (a + 1) = (l.set a y).map f
 | x :: l, 0, y, _ => by simp
 | x :: l, a + 1, y, h => by
  have := X6h f (l := l) (a := a) y (by simpa using h)
  simpa using this
theorem Xdn (d : Disk) (keep : List Int) (hl : UE d) (hok : okW d.sectors d.pending) : Con Tryz.prog 63 [] [XK d, .d (Vb keep)] [] (XK ⟨YC d (Y7 keep), [], d.on⟩) := by
 have hp := hl.2.1
 refine Xa (xs := [XK ⟨YC d (Y7 keep), [], d.on⟩]) Tryz.func63 rfl Tryz.ntmps63 rfl rfl rfl (fun E => ?_)
 refine Qge ?_; refine Qgb ?_; refine Z9 (hcon := X92 d hl) ?_; refine QWd ?_; refine Qib ?_
 refine Xu (fun k : Nat => k ≤ d.pending.length) (fun k => ⟨50, [(1, .d (Vb keep)), (2, .ptr 100 0), (4, .ptr 101 0), (5, .ptr 102 0), (6, ai k)], [(100, .box [.d (XE d.sectors), .d (XA d.pending), ab d.on]), (101, .box [ani, ani, ab false]), (102, .box [.own 130 d.sectors.length, .own 131 d.pending.length, ab d.on]), (130, .row 1 ((YA d.sectors d.pending (Y7 keep) k).map Yj)), (131, .row 2 (d.pending.map cWr))]⟩) (fun k => d.pending.length - k) 0 (by omega)
  (X9 rfl ⟨JL, JL, JL, JL, JL, trivial⟩ ⟨rfl, rfl, rfl, rfl, rfl, trivial⟩) ?_
 intro k hk
 by_cases hlt : k < d.pending.length
 ·obtain ⟨⟨at_, b⟩, hw⟩ := Xx (l := d.pending) (k := k) (by omega)
  obtain ⟨b1, b2, b3⟩ := hok.2 _ (List.mem_of_getElem? hw)
  simp only at b1 b2 b3
  obtain ⟨a, rfl⟩ : ∃ a : Nat, at_ = a := ⟨at_.toNat, by omega⟩
  have hpl := X05 d.sectors d.pending (Y7 keep) k
  obtain ⟨r, hr⟩ := Xx (l := YA d.sectors d.pending (Y7 keep) k) (k := a) (by omega)
  have hrl := X0T (Y7 keep) hok k r (List.mem_of_getElem? hr)
  have hc := X27 (Y7 keep k)
  have hst := X5B hw hr
  by_cases hkk : k < keep.length
  ·obtain ⟨x, hx⟩ := Xx (l := keep) (k := k) hkk
   have hks : Y7 keep k = x := by simp [Y7, hx]
   rw [hks] at hc hst
   refine QWe ?_; refine Qd ?_; refine Qkb ?_; refine Qob ?_; refine Qh ?_; refine Qgc ?_; refine QE ?_; refine Zz ?_; refine X7a (X0b x) (X5u x) rfl rfl rfl (by (first | ((exact True.intro)) | ((exact ⟨rfl, rfl⟩)) | ((exact ⟨rfl, congrArg ab (by (first | ((rfl)) | ((assumption)) | ((simp only [List.length_map, List.length_take, List.length_append, decide_eq_true_eq, decide_eq_false_iff_not, ne_eq, Classical.not_not]; omega)) | ((simp <;> fail)) | ((simp [*] <;> fail)) | ((simp; omega)) | fail))⟩)) | fail)) ?_; refine Qc ?_; refine QYa ?_; refine Qhe ?_; refine Qfd ?_; refine QKa ?_; refine QHa ?_; refine ZO ?_; refine ZQ ?_; refine Z9 (hcon := X7J b r (X0b x) (by omega) (by omega) (by omega) (by omega)) ?_; refine ZO ?_; refine ZP ?_; refine JD ?_; refine Qnb ?_
   refine ⟨k + 1, by omega, by omega, X9 rfl ⟨JL, JL, JL, JL, JL, trivial⟩ ⟨rfl, rfl, rfl, ?_, rfl, trivial⟩⟩
   refine Eq.trans (b := AObj.row 1 (List.take a _ ++ [Yj _] ++ List.drop (a + 1) _)) rfl ?_
   rw [X6h Yj _ (by omega), hst]
  ·have hks : Y7 keep k = 0 := by simp [Y7, Nat.not_lt.1 hkk]
   rw [hks] at hc hst
   repeat first | refine X0 ?_ | (refine JR ?_; (repeat first | refine Z1 ?_ | refine Z0 ?_ | refine ZB ?_ | refine ZC ?_ | refine ZK ?_ | refine Zd ?_ | refine Z8 ?_ | refine Zb ?_ | refine Zw (γ := 103) ?_ | refine Zy ?_ | refine Zj ?_ | refine ZO ?_ | refine ZQ ?_ | refine ZP ?_ | refine Z9 (hcon := X7J b r 0 (by omega) (by omega) (by omega) (by omega)) ?_); refine JD ?_) | refine JT ?_ | refine JF ?_ | refine X5 ?_ | refine X4 ?_
   refine ⟨k + 1, by omega, by omega, X9 rfl ⟨JL, JL, JL, JL, JL, trivial⟩ ⟨rfl, rfl, rfl, ?_, rfl, trivial⟩⟩
   refine Eq.trans (b := AObj.row 1 (List.take a _ ++ [Yj _] ++ List.drop (a + 1) _)) rfl ?_
   rw [X6h Yj _ (by omega), hst]; rfl
 obtain rfl : k = d.pending.length := by omega
 refine QVe ?_; refine Qb ?_; refine Qhd ?_; refine Qjd ?_; refine QQd ?_; refine Xi (Vn 101 0 130 (cs := [.own 130 d.sectors.length, ani, ab d.on]) (sz := 1) (xs := (YC d (Y7 keep)).map Yj) rfl rfl rfl (by rw [List.length_map]; exact (X05 _ _ _ _).symm)) ?_; exact X1 ⟨_, XJ 101 (cs := [.d (XE (YC d (Y7 keep))), ani, ab d.on]) (cs' := [.d (XE (YC d (Y7 keep))), .d (XA []), ab d.on]) rfl ⟨AVal.le_refl _, AVal.le_nil 2, AVal.le_refl _, trivial⟩ rfl, ⟨⟨101, 0, _, rfl, rfl, .inr ⟨3, _, rfl, rfl, rfl, rfl⟩⟩, trivial⟩, X3 _⟩
theorem Xaa {rows : List (List UInt8)} {pend : List Wr} {kv kv' : Nat → Int} : ∀ n, (∀ k, k < n → kv k = kv' k) → YA rows pend kv n = YA rows pend kv' n
 | 0, _ => rfl
 | n + 1, h => by
  simp only [YA]
  rw [Xaa n (fun k hk => h k (by omega)), h n (by omega)]
theorem Xev (d : Disk) : YC d (Y7 (List.replicate d.pending.length 64)) = YC d (fun _ => 64) :=
 Xaa _ fun k hk => by simp [Y7, hk]
theorem XcL (d : Disk) (hl : UE d) : Con Tryz.prog 39 [] [XK d] [] (X1A (XK (Yv d).1) (Yv d).2) := by
 refine Xa (xs := [XK (Yv d).1, ai (Yv d).2]) Tryz.func39 rfl Tryz.ntmps39 rfl rfl rfl (fun E => ?_)
 by_cases hu : YF d = 0
 ·have hp := hl.2.1
  have hok := X13 (X56 hu).1
  rw [show Yv d = (⟨YC d (Y7 (List.replicate d.pending.length 64)), [], d.on⟩, 0) by rw [Xev]; simp [Yv, hu]]
  refine Qtf ?_; refine QOd ?_; refine Qjb ?_; refine Xi (UM 5 132 1 rfl rfl rfl) ?_
  refine Xu (fun k : Nat => k ≤ d.pending.length) (fun k => ⟨26, [(1, .ptr 100 0), (2, .ptr 101 0), (5, .own 132 k), (6, ai k)], [(100, .box [.d (XE d.sectors), .d (XA d.pending), ab d.on]), (101, .box [ani, ani, ab false]), (132, .row 1 ((List.replicate k 64).map X2J))]⟩) (fun k => d.pending.length - k) 0 (by omega)
   (X9 rfl ⟨JL, JL, JL, JL, trivial⟩ ⟨rfl, rfl, rfl, trivial⟩) ?_
  intro k hk
  by_cases hlt : k < d.pending.length
  ·refine QWe ?_; refine Ql ?_; refine Qk ?_; refine Qnb ?_
   refine ⟨k + 1, by omega, by omega, X9 rfl ⟨JL, JL, JL, JL, trivial⟩ ⟨rfl, rfl, ?_, trivial⟩⟩
   refine Eq.trans (b := AObj.row 1 (_ ++ [X2J 64])) rfl ?_
   rw [List.replicate_succ', List.map_append]; rfl
  obtain rfl : k = d.pending.length := by omega
  refine Xi (XL 132 rfl) ?_; refine Xi (Yc 5 132 rfl rfl (by simp)) ?_; refine QVe ?_; refine Qgb ?_; refine Z1 ?_; refine Z9 (hcon := Xdn d (List.replicate d.pending.length 64) hl hok) ?_; exact Qle
 ·rw [show Yv d = (Y8, YF d) by simp [Yv, hu]]
  refine Qtf ?_; exact Qne
theorem Xb0 (x : Disk) : Con Tryz.prog 13 [] [XK x, XK x] [] (ab true) := by
 obtain ⟨s, p, on⟩ := x
 refine Xa (xs := [ab true]) Tryz.func13 rfl Tryz.ntmps13 rfl rfl rfl (fun E => ?_)
 repeat first | refine X0 ?_ | (refine JR ?_; (repeat first | refine Z1 ?_ | refine Z0 ?_ | refine ZB ?_ | refine ZC ?_ | refine Zd ?_ | refine Zv ?_ | refine Z00 ?_ | refine ZA (γ := 100) ?_ | refine ZA (γ := 101) ?_ | refine Zq ?_); refine JD ?_) | refine JF ?_ | refine X5 ?_ | refine X4 ?_
 refine Xu (fun k : Nat => k ≤ s.length) (fun k => ⟨87, [(2, .ptr 100 0), (3, .ptr 101 0), (5, ai k)], [(100, .box [.d (XE s), .d (XA p), ab on]), (101, .box [.d (XE s), .d (XA p), ab on])]⟩) (fun k => s.length - k) 0 (by omega)
  (X9 rfl ⟨JL, JL, JL, trivial⟩ ⟨rfl, rfl, trivial⟩) ?_
 intro k hk
 refine Xa9 100 0 (cs := [.d (XE s), .d (XA p), ab on]) (sz := 1) (xs := s.map Yj) rfl rfl fun hle => ?_
 rw [List.length_map] at hle
 by_cases hlt : k < s.length
 ·obtain ⟨b, hb⟩ := Xx (l := s) hlt
  refine QXe ?_; refine QE ?_; refine ZW ?_; refine QHa ?_; refine Z1 ?_; refine QE ?_; refine ZW ?_; refine ZM ?_; refine Qs ?_; refine Qnb ?_; exact ⟨k + 1, by omega, by omega, X9 rfl ⟨JL, JL, JL, trivial⟩ ⟨rfl, rfl, trivial⟩⟩
 obtain rfl : k = s.length := by omega
 refine QVe ?_; refine Qib ?_
 refine Xu (fun k : Nat => k ≤ p.length) (fun k => ⟨87, [(2, .ptr 100 0), (3, .ptr 101 0), (6, ai k)], [(100, .box [.d (XE s), .d (XA p), ab on]), (101, .box [.d (XE s), .d (XA p), ab on])]⟩) (fun k => p.length - k) 0 (by omega)
  (X9 rfl ⟨JL, JL, JL, trivial⟩ ⟨rfl, rfl, trivial⟩) ?_
 intro k hk
 refine Xa9 100 1 (cs := [.d (XE s), .d (XA p), ab on]) (sz := 2) (xs := p.map cWr) rfl rfl fun hle => ?_
 rw [List.length_map] at hle
 by_cases hlt : k < p.length
 ·obtain ⟨w, hw⟩ := Xx (l := p) hlt
  repeat first | refine X0 ?_ | (refine JR ?_; (repeat first | refine Z1 ?_ | refine Z0 ?_ | refine ZB ?_ | refine ZN ?_ | refine ZC ?_ | refine Zk ?_ | refine Zd ?_ | refine Z8 ?_ | refine Zv ?_ | refine ZM ?_ | refine Zb ?_ | refine Zq ?_ | refine Zj ?_ | refine ZW ?_); refine JD ?_) | refine JT ?_ | refine JF ?_ | refine X5 ?_ | refine X4 ?_
  exact ⟨k + 1, by omega, by omega, X9 rfl ⟨JL, JL, JL, trivial⟩ ⟨rfl, rfl, trivial⟩⟩
 obtain rfl : k = p.length := by omega
 refine QVe ?_; exact Qia
theorem XcM (d : Disk) (f t ep tail : Int) : Con Tryz.prog 37 [] [XK d, ai f, ai t, ai ep, ai tail] [] (ai (XI d f t ep tail)) := by
 refine Xa (xs := [ai (XI d f t ep tail)]) Tryz.func37 rfl Tryz.ntmps37 rfl rfl rfl (fun E => ?_)
 have hv := X3Q d
 by_cases q1 : Yp d = false
 ·have e : XI d f t ep tail = 1 := by unfold XI; rw [if_pos q1]
  rw [e]
  rw [q1] at hv
  obtain ⟨secs, pend, on⟩ := d
  refine Qlc ?_; refine Z9 (hcon := hv) ?_; refine Zu ?_; refine Qq ?_
  (show AWP Tryz.prog E _ _ _; refine X1 ?_; exact (show Xn _ _ _ _ _ from ⟨_, St.le_refl _, ⟨rfl, trivial⟩, X3 _⟩))
 have q1' : Yp d = true := by simpa using q1
 rw [q1'] at hv
 have hsl := (X0E q1').2.1
 by_cases q2 : d.on = false
 ·have e : XI d f t ep tail = 22 := by unfold XI; rw [if_neg q1, if_pos q2]
  rw [e]
  obtain ⟨secs, pend, on⟩ := d
  simp only at q2
  subst q2
  refine Qlc ?_; refine Z9 (hcon := hv) ?_; refine Qhb ?_; refine Qzb ?_; refine Zu ?_; refine Qq ?_
  (show AWP Tryz.prog E _ _ _; refine X1 ?_; exact (show Xn _ _ _ _ _ from ⟨_, St.le_refl _, ⟨rfl, trivial⟩, X3 _⟩))
 have hm : (d.sectors.map Yj).length = d.sectors.length := by simp
 have e3 : f < 0 ∨ t ≤ f ∨ (d.sectors.length : Int) < t → XI d f t ep tail = 1 := fun h => by unfold XI; rw [if_neg q1, if_neg q2, if_pos h]
 have e4 : ¬ (f < 0 ∨ t ≤ f ∨ (d.sectors.length : Int) < t) → ep < 0 ∨ 1000000000000000 < ep ∨ tail < 0 ∨ (t - f) * 64 < tail → XI d f t ep tail = 1 := fun h h' => by unfold XI; rw [if_neg q1, if_neg q2, if_neg h, if_pos h']
 have e5 : ¬ (f < 0 ∨ t ≤ f ∨ (d.sectors.length : Int) < t) → ¬ (ep < 0 ∨ 1000000000000000 < ep ∨ tail < 0 ∨ (t - f) * 64 < tail) → XI d f t ep tail = 0 := fun h h' => by unfold XI; rw [if_neg q1, if_neg q2, if_neg h, if_neg h']
 generalize XI d f t ep tail = r at *
 obtain ⟨secs, pend, on⟩ := d
 obtain rfl : on = true := by simpa using q2
 simp only at hm hsl e3 e4 e5
 clear q1 q2 q1'
 by_cases a1 : f < 0
 ·obtain rfl := e3 (.inl a1)
  clear e3 e4 e5
  refine Quf ?_; refine QOb ?_; refine QQa ?_; refine Qca ?_; refine QS ?_; refine QIb ?_; refine QIb ?_; refine QIb ?_; refine Qvf ?_
  (show AWP Tryz.prog E _ _ _; refine X1 ?_; exact (show Xn _ _ _ _ _ from ⟨_, St.le_refl _, ⟨rfl, trivial⟩, X3 _⟩))
 by_cases a2 : t ≤ f
 ·obtain rfl := e3 (.inr (.inl a2))
  clear e3 e4 e5
  refine Quf ?_; refine QOb ?_; refine QCa ?_; refine Z2 ?_; refine Zq ?_; refine Qca ?_; refine QS ?_; refine QIb ?_; refine QIb ?_; refine QIb ?_; refine Qvf ?_
  (show AWP Tryz.prog E _ _ _; refine X1 ?_; exact (show Xn _ _ _ _ _ from ⟨_, St.le_refl _, ⟨rfl, trivial⟩, X3 _⟩))
 by_cases a3 : (secs.length : Int) < t
 ·obtain rfl := e3 (.inr (.inr a3))
  have a3' : ((secs.map Yj).length : Int) < t := by omega
  clear e3 e4 e5
  refine Qwf ?_; refine Qba ?_; refine QIb ?_; refine QIb ?_; refine QIb ?_; refine Qvf ?_
  (show AWP Tryz.prog E _ _ _; refine X1 ?_; exact (show Xn _ _ _ _ _ from ⟨_, St.le_refl _, ⟨rfl, trivial⟩, X3 _⟩))
 have a3' : ¬ ((secs.map Yj).length : Int) < t := by omega
 have e4 := e4 (by omega)
 have e5 := e5 (by omega)
 clear e3
 by_cases b1 : ep < 0
 ·obtain rfl := e4 (.inl b1)
  clear e4 e5
  refine Qwf ?_; refine Qfa ?_; refine Z8 ?_; refine Zq ?_; refine QIb ?_; refine QIb ?_; refine Qvf ?_
  (show AWP Tryz.prog E _ _ _; refine X1 ?_; exact (show Xn _ _ _ _ _ from ⟨_, St.le_refl _, ⟨rfl, trivial⟩, X3 _⟩))
 by_cases b2 : 1000000000000000 < ep
 ·obtain rfl := e4 (.inr (.inl b2))
  clear e4 e5
  refine Qxf ?_; refine Qba ?_; refine QIb ?_; refine Qvf ?_
  (show AWP Tryz.prog E _ _ _; refine X1 ?_; exact (show Xn _ _ _ _ _ from ⟨_, St.le_refl _, ⟨rfl, trivial⟩, X3 _⟩))
 by_cases b3 : tail < 0
 ·obtain rfl := e4 (.inr (.inr (.inl b3)))
  clear e4 e5
  refine Qxf ?_; refine Qfa ?_; refine Z8 ?_; refine Zq ?_; refine Qvf ?_
  (show AWP Tryz.prog E _ _ _; refine X1 ?_; exact (show Xn _ _ _ _ _ from ⟨_, St.le_refl _, ⟨rfl, trivial⟩, X3 _⟩))
 by_cases b4 : (t - f) * 64 < tail
 ·obtain rfl := e4 (.inr (.inr (.inr b4)))
  clear e4 e5
  refine Qxf ?_; refine Qfa ?_; refine Z8 ?_; refine QZ ?_; refine Qy ?_; refine ZR ?_; refine Z0f ?_; refine Qba ?_; refine Qq ?_
  (show AWP Tryz.prog E _ _ _; refine X1 ?_; exact (show Xn _ _ _ _ _ from ⟨_, St.le_refl _, ⟨rfl, trivial⟩, X3 _⟩))
 obtain rfl := e5 (by omega)
 clear e4 e5
 refine Qxf ?_; refine Qfa ?_; refine Z8 ?_; refine QZ ?_; refine Qy ?_; refine ZR ?_; refine Z0f ?_; refine Zs ?_; refine Qjf ?_
 (show AWP Tryz.prog E _ _ _; refine X1 ?_; exact (show Xn _ _ _ _ _ from ⟨_, St.le_refl _, ⟨rfl, trivial⟩, X3 _⟩))
theorem XeI (d : Disk) (f t : Int) (hd : DOk d) (hf : YW d) (h1 : 0 ≤ f) (h2 : f ≤ t) (h3 : t ≤ d.sectors.length) : Con Tryz.prog 49 [] [XK d, ai f, ai t] [(130, .row 1 ((Xz d f t).map X6))] (.own 130 ((Xz d f t).map X6).length) := by
 refine Xa (xs := [.own 130 ((Xz d f t).map X6).length]) Tryz.func49 rfl Tryz.ntmps49 rfl rfl rfl (fun E => ?_)
 obtain ⟨F, rfl⟩ : ∃ F : Nat, f = F := ⟨f.toNat, by omega⟩
 obtain ⟨N, rfl⟩ : ∃ N : Nat, t = ((F + N : Nat) : Int) := ⟨(t - F).toNat, by omega⟩
 have hS : Xz d (F : Nat) ((F + N : Nat) : Int) = Yd d F N := by
  unfold Xz
  rw [Int.toNat_natCast, show (((F + N : Nat) : Int) - (F : Nat)).toNat = N by omega]
 rw [hS]
 have hr := fun a => XhL d a (X4z hd.v hf)
 have hlen := fun i (hi : i ≤ N) => VW hd i F (by omega)
 have hmore := X7p d
 have hl1 := fun i (hi : i < N) => X3L hd (a := F + i) (by omega)
 have hsl := hf.1
 clear hS hf hd
 obtain ⟨secs, pend, on⟩ := d
 generalize hB : Yd ⟨secs, pend, on⟩ F = B at *
 refine QGa ?_; refine Qo ?_; refine Qc ?_; refine X5 ?_; refine Xi (UM 7 130 1 rfl rfl rfl) ?_
 refine Xu (fun i : Nat => i ≤ N) (fun i => ⟨27, [(2, ai ((F + N : Nat) : Int)), (3, .ptr 100 0), (7, .own 130 ((B i).map X6).length), (8, ai ((F + i : Nat) : Int))], [(100, .box [.d (XE secs), .d (XA pend), ab on]), (130, .row 1 ((B i).map X6))]⟩) (fun i => N - i) 0 (Nat.zero_le _)
  (X9 rfl ⟨JL, JL, (by rw [← hB]; exact AVal.le_refl _), JL, trivial⟩ ⟨rfl, (by rw [← hB]; rfl), trivial⟩) ?_
 intro i hi
 have hbl := hlen i hi
 have hroom : ((B i).map X6).length ≤ 1000000 := by rw [List.length_map]; omega
 by_cases hil : i < N
 case neg =>
  obtain rfl : i = N := by omega
  have hn : ¬ ((F + i : Nat) : Int) < ((F + i : Nat) : Int) := by omega
  refine Qkb ?_; refine Z8 ?_; refine Qm ?_; refine Qz ?_
  (show AWP Tryz.prog E _ _ _; refine X1 ?_; exact (show Xn _ _ _ _ _ from ⟨_, St.le_refl _, ⟨rfl, trivial⟩, Xj ⟨rfl, trivial⟩⟩))
 have hn : ((F + i : Nat) : Int) < ((F + N : Nat) : Int) := by omega
 have hr1 := hr ((F + i : Nat) : Int)
 have hst : B (i + 1) = B i ++ (Yn ⟨secs, pend, on⟩ ((F + i : Nat) : Int)).1 := by rw [← hB]; exact hmore i F
 have hrl := hl1 i hil
 generalize (Yn ⟨secs, pend, on⟩ ((F + i : Nat) : Int)).1 = R at *
 generalize (Yn ⟨secs, pend, on⟩ ((F + i : Nat) : Int)).2 = R2 at *
 have hrm : (R.map X6).length ≤ 64 := by rw [List.length_map]; omega
 clear hr hmore hlen hl1 hB
 refine Qkb ?_; refine Z8 ?_; refine Qlb ?_; refine Qgb ?_; refine Z1 ?_; refine Z9 (hcon := hr1) ?_; refine Qbc ?_; refine QAa ?_; refine Qgc ?_; refine Qj ?_; refine Qnb ?_
 refine ⟨i + 1, hil, by omega, ?_⟩
 dsimp only
 rw [hst, List.map_append]
 exact X9 rfl ⟨JL, JL, AVal.le_of_eq (by refine Eq.trans (b := AVal.own 130 (_ + _)) rfl ?_; simp only [List.length_append, List.length_map]), JL, trivial⟩ ⟨rfl, rfl, trivial⟩
end Go.Fw

/- Ninth part: the walk's rule for a call; weakening of states; more operations. -/
import Derived.Laws.BytesString
import Derived.Test.YtpfldfkhgplcgaaGreatDoorK31
set_option maxHeartbeats 16000000
namespace Go.Fw
open Go
set_option linter.unusedVariables false
set_option linter.unusedSimpArgs false
section
variable {P : Program} {ops : Array Oper} {draw : Bool} {K : St → Prop} {rest : List Oper} {l : Ya} {S : St}
variable {d : Nat} {ty : TypeId} {pos : String} {aft : Array Edge} {gd : Option (Nat × Bool)}
end
theorem X8Q {P : Program} {E : Env} {c : Code} {S : St} {Q : Exit → St → Prop} (γ j : Nat) {sz : Nat} {cs : List AVal} {xs : List (List D)} (hL : S.obj γ = .box cs) (hj : cs[j]? = some (.d (.sl sz xs))) (h : xs.length ≤ 9223372036854775807 → AWP P E c S Q) : AWP P E c S Q := by
 refine ⟨fun a w hs => ?_⟩
 obtain ⟨g, hg⟩ := hs
 have ho := hg.1.obj γ
 rw [hL] at ho
 obtain ⟨vs, e, fr, _, _, h3, _⟩ := ho
 obtain ⟨u, _, hu⟩ := UH h3 j _ hj
 simp only [AVal.sat] at hu
 exact (h (X5B hu)).run a w ⟨g, hg⟩
open Go Go.Proofs
set_option maxRecDepth 100000
def UW (keep : List Int) (i : Nat) : Int := (keep[i]?).getD 0
theorem X7d (d : Disk) (hl : UY d) : Con Tryz.prog 62 [] [XK d] [(130, .row 1 (d.sectors.map XZ)), (131, .row 2 (d.pending.map cWr))] (.agg [.own 130 d.sectors.length, .own 131 d.pending.length, ab d.on]) := by
 obtain ⟨secs, pend, on⟩ := d
 obtain ⟨hl1, hl2, hl3, hl4⟩ := hl
 simp only at hl1 hl2 hl3 hl4
 refine Xb (xs := [.agg [.own 130 secs.length, .own 131 pend.length, ab on]]) Tryz.func62 rfl Tryz.ntmps62 rfl rfl rfl (fun E => ?_)
 refine Qpe ?_; refine Qhb ?_; refine Xm (Vx 102 0 130 1 (cs := [ani, ani, ab on]) rfl rfl rfl rfl rfl) ?_; refine Xm (Vx 102 1 131 2 (cs := [.own 130 0, ani, ab on]) rfl rfl rfl rfl rfl) ?_
 refine Xu (fun k : Nat => k ≤ secs.length) (fun k => ⟨56, [(1, .ptr 100 0), (2, .ptr 101 0), (3, .ptr 102 0), (4, ai k)], [(100, .box [.d (XB secs), .d (XC pend), ab on]), (101, .box [ani, ani, ab false]), (102, .box [.own 130 k, .own 131 0, ab on]), (130, .row 1 ((secs.take k).map XZ)), (131, .row 2 [])]⟩) (fun k => secs.length - k) 0 (by omega)
  (Xa rfl ⟨JL, JL, JL, JL, trivial⟩ ⟨rfl, rfl, rfl, rfl, rfl, trivial⟩) ?_
 intro k hk
 by_cases hlt : k < secs.length
 ·obtain ⟨s, hs⟩ := Xv (l := secs) (k := k) (by omega)
  have hsl : s.length ≤ 4096 := hl3 s (List.mem_of_getElem? hs)
  refine Qcf ?_; refine QWc ?_; refine ZZ (len := 0) (γ := 103) ?_; refine QFa ?_; refine Z1 ?_; refine QD ?_; refine Z0g (γ := 103) ?_; refine Qud ?_
  refine ⟨k + 1, by omega, by omega, Xa rfl ⟨JL, JL, JL, JL, trivial⟩ ⟨rfl, rfl, ?_, ?_, rfl, trivial⟩⟩
  ·refine Eq.trans (b := AObj.box [.own 130 _, .own 131 0, ab on]) rfl ?_
   congr 3; simp; omega
  ·refine Eq.trans (b := AObj.row 1 (_ ++ [[.sl 1 ([] ++ _)]])) rfl ?_
   rw [X4A hs]; simp
 obtain rfl : k = secs.length := by omega
 refine Qef ?_; refine Qhb ?_
 refine Xu (fun k : Nat => k ≤ pend.length) (fun k => ⟨56, [(1, .ptr 100 0), (2, .ptr 101 0), (3, .ptr 102 0), (5, ai k)], [(100, .box [.d (XB secs), .d (XC pend), ab on]), (101, .box [ani, ani, ab false]), (102, .box [.own 130 secs.length, .own 131 k, ab on]), (130, .row 1 (secs.map XZ)), (131, .row 2 ((pend.take k).map cWr))]⟩) (fun k => pend.length - k) 0 (by omega)
  (Xa rfl ⟨JL, JL, JL, JL, trivial⟩ ⟨rfl, rfl, rfl, (by refine Eq.trans (b := AObj.row 1 _) rfl ?_; simp), rfl, trivial⟩) ?_
 intro k hk
 by_cases hlt : k < pend.length
 ·obtain ⟨w, hw⟩ := Xv (l := pend) (k := k) (by omega)
  have hwl : w.b.length ≤ 4096 := hl4 w (List.mem_of_getElem? hw)
  refine Qcf ?_; refine QWc ?_; refine QFa ?_; refine Z1 ?_; refine Qrb ?_; refine ZZ (len := 0) (γ := 103) ?_; refine QFa ?_; refine Z1 ?_; refine Qrb ?_; refine Z0g (γ := 103) ?_; refine Zx ?_; refine Qud ?_
  refine ⟨k + 1, by omega, by omega, Xa rfl ⟨JL, JL, JL, JL, trivial⟩ ⟨rfl, rfl, ?_, rfl, ?_, trivial⟩⟩
  ·refine Eq.trans (b := AObj.box [.own 130 secs.length, .own 131 _, ab on]) rfl ?_
   congr 4; simp; omega
  ·refine Eq.trans (b := AObj.row 2 (_ ++ [[_, .sl 1 ([] ++ _)]])) rfl ?_
   rw [X4A hw]; simp
 obtain rfl : k = pend.length := by omega
 refine Qef ?_; refine Qmd ?_
 refine X1 ⟨_, St.le_refl _, ⟨⟨101, 0, _, rfl, rfl, .inr ⟨3, _, rfl, rfl, rfl, rfl⟩⟩, trivial⟩, Xh ⟨rfl, ?_, trivial⟩⟩
 refine Eq.trans (b := AObj.row 2 _) rfl ?_
 simp
theorem X9C (a b : List UInt8) (k : Nat) (ha : a.length ≤ 4096) (hb : b.length ≤ 4096) (hk : k ≤ a.length) (hk2 : k ≤ b.length) : Con Tryz.prog 81 [] [.d (Xg a), ai k, .d (Xg b)] [] (.d (Xg (a.take k ++ b.drop k))) := by
 refine Xb (xs := [.d (Xg (a.take k ++ b.drop k))]) Tryz.func81 rfl Tryz.ntmps81 rfl rfl rfl (fun E => ?_)
 refine Qd ?_; refine Qb ?_; refine ZZ (len := 0) (γ := 100) ?_; refine Qw ?_; refine Z0b ?_; refine Z6 ?_; refine Qv ?_; refine Qw ?_; refine Z0b ?_; refine Qkc ?_; refine Xm (Y4 100 rfl) ?_; refine Xm (U1 6 100 rfl rfl (by simp)) ?_; exact X1 ⟨_, Xc 6 (y := .d (Xg (a.take k ++ b.drop k))) (AVal.le_of_eq (by refine Eq.trans (b := AVal.d (.sl 1 (([] ++ _) ++ _))) rfl ?_; simp [List.take_of_length_le])), ⟨rfl, trivial⟩, X3 _⟩
theorem Xbm (d : Disk) (a : Int) (b : List UInt8) (hl : UY d) (hbl : b.length ≤ 4096) : Con Tryz.prog 38 [] [XK d, ai a, .d (Xg b)] [] (X0T (XK (Yw d a b).1) (Yw d a b).2) := by
 refine Xb (xs := [XK (Yw d a b).1, ai (Yw d a b).2]) Tryz.func38 rfl Tryz.ntmps38 rfl rfl rfl (fun E => ?_)
 by_cases hu : Yo d = 0
 ·have hp := hl.2.1
  by_cases h1 : a < 0
  ·rw [show Yw d a b = (Ub, 1) by simp [Yw, hu]; omega]
   repeat first | refine X0 ?_ | (refine JR ?_; (repeat first | refine Z1 ?_ | refine Z0 ?_ | refine ZL ?_ | refine Z8 ?_ | refine Zv ?_ | refine Zw (γ := 101) ?_ | refine ZA (γ := 100) ?_ | refine Zy ?_ | refine Zx ?_ | refine Zn ?_ | refine Zo ?_ | refine Z9 (hcon := X0g d) ?_); refine JD ?_) | refine JT ?_ | refine JF ?_ | refine X4 ?_
   exact Qte
  by_cases h2 : (d.sectors.length : Int) ≤ a
  ·rw [show Yw d a b = (Ub, 1) by simp [Yw, hu]; omega]
   refine Qlf ?_; refine Qve ?_; refine QOa ?_; refine Quc ?_; exact Qte
  by_cases h3 : b.length ≠ 64
  ·rw [show Yw d a b = (Ub, 1) by simp [Yw, hu]; omega]
   refine Qlf ?_; refine Qwe ?_; refine Zq ?_; refine Quc ?_; exact Qte
  have h3 : b.length = 64 := by simpa using h3
  rw [show Yw d a b = (⟨d.sectors, d.pending ++ [⟨a, b⟩], d.on⟩, 0) by simp only [Yw, hu]; rw [if_neg (by simp), if_pos ⟨by omega, by omega, h3⟩]]
  repeat first | refine X0 ?_ | (refine JR ?_; (repeat first | refine Z0g (γ := 103) ?_ | refine Z1 ?_ | refine Z0 ?_ | refine ZB ?_ | refine ZC ?_ | refine ZL ?_ | refine Zd ?_ | refine Z8 ?_ | refine Z2 ?_ | refine Zv ?_ | refine Zw (γ := 101) ?_ | refine Zw (γ := 102) ?_ | refine ZA (γ := 100) ?_ | refine Zy ?_ | refine Zx ?_ | refine Zq ?_ | refine ZZ (len := 0) (γ := 103) ?_ | refine Z5 ?_ | refine Z6 ?_ | refine Z9 (hcon := X0g d) ?_ | refine Z9 (hcon := X7d d hl) ?_); refine JD ?_) | refine JF ?_ | refine X4 ?_
  refine Xm (Y4 130 rfl) ?_; refine Xm (Y4 131 rfl) ?_; refine Xm (Ut 101 0 130 (cs := [.own 130 d.sectors.length, .own 131 ((d.pending.map cWr).length + 1), ab d.on]) (sz := 1) (xs := d.sectors.map XZ) rfl rfl rfl (by simp)) ?_
  refine Xm (Ut 101 1 131 (cs := [.d (XB d.sectors), .own 131 ((d.pending.map cWr).length + 1), ab d.on]) (sz := 2) (xs := (d.pending ++ [(⟨a, b⟩ : Wr)]).map cWr) rfl rfl (by refine Eq.trans (b := AObj.froz 2 (_ ++ [[_, .sl 1 ([] ++ _)]])) rfl ?_; simp) (by simp)) ?_
  exact Qre
 ·rw [show Yw d a b = (Ub, Yo d) by simp [Yw, hu]]
  refine Qlf ?_; exact Que
theorem X6A {α β : Type} (f : α → β) : ∀ {l : List α} {a : Nat} (y : α), a < l.length → (l.map f).take a ++ [f y] ++ (l.map f).drop (a + 1) = (l.set a y).map f
 | x :: l, 0, y, _ => by simp
 | x :: l, a + 1, y, h => by
  have := X6A f (l := l) (a := a) y (by simpa using h)
  simpa using this
theorem Xfs (d : Disk) (keep : List Int) (hl : UY d) (hok : okW d.sectors d.pending) : Con Tryz.prog 63 [] [XK d, .d (X2W keep)] [] (XK ⟨Vi d (UW keep), [], d.on⟩) := by
 have hp := hl.2.1
 refine Xb (xs := [XK ⟨Vi d (UW keep), [], d.on⟩]) Tryz.func63 rfl Tryz.ntmps63 rfl rfl rfl (fun E => ?_)
 refine Qsc ?_; refine JD ?_; refine Qeb ?_; refine Z9 (hcon := X7d d hl) ?_; refine Qbe ?_; refine Qhb ?_
 refine Xu (fun k : Nat => k ≤ d.pending.length) (fun k => ⟨50, [(1, .d (X2W keep)), (2, .ptr 100 0), (4, .ptr 101 0), (5, .ptr 102 0), (6, ai k)], [(100, .box [.d (XB d.sectors), .d (XC d.pending), ab d.on]), (101, .box [ani, ani, ab false]), (102, .box [.own 130 d.sectors.length, .own 131 d.pending.length, ab d.on]), (130, .row 1 ((U5 d.sectors d.pending (UW keep) k).map XZ)), (131, .row 2 (d.pending.map cWr))]⟩) (fun k => d.pending.length - k) 0 (by omega)
  (Xa rfl ⟨JL, JL, JL, JL, JL, trivial⟩ ⟨rfl, rfl, rfl, rfl, rfl, trivial⟩) ?_
 intro k hk
 by_cases hlt : k < d.pending.length
 ·obtain ⟨⟨at_, b⟩, hw⟩ := Xv (l := d.pending) (k := k) (by omega)
  obtain ⟨b1, b2, b3⟩ := hok.2 _ (List.mem_of_getElem? hw)
  simp only at b1 b2 b3
  obtain ⟨a, rfl⟩ : ∃ a : Nat, at_ = a := ⟨at_.toNat, by omega⟩
  have hpl := X1e d.sectors d.pending (UW keep) k
  obtain ⟨r, hr⟩ := Xv (l := U5 d.sectors d.pending (UW keep) k) (k := a) (by omega)
  have hrl := X2J (UW keep) hok k r (List.mem_of_getElem? hr)
  have hc := X3A (UW keep k)
  have hst := X8P hw hr
  by_cases hkk : k < keep.length
  ·obtain ⟨x, hx⟩ := Xv (l := keep) (k := k) hkk
   have hks : UW keep k = x := by simp [UW, hx]
   rw [hks] at hc hst
   refine Qcf ?_; refine Qd ?_; refine Qjb ?_; refine Qob ?_; refine Qh ?_; refine Qgc ?_; refine QD ?_; refine Zz ?_; refine X79 (X07 x) (X7x x) rfl rfl rfl (by (first | ((exact True.intro)) | ((exact ⟨rfl, rfl⟩)) | ((exact ⟨rfl, congrArg ab (by (first | ((rfl)) | ((assumption)) | ((simp only [List.length_map, List.length_take, List.length_append, decide_eq_true_eq, decide_eq_false_iff_not, ne_eq, Classical.not_not]; omega)) | ((simp <;> fail)) | ((simp [*] <;> fail)) | ((simp; omega)) | fail))⟩)) | fail)) ?_; refine Qc ?_; refine QWa ?_; refine QSa ?_; refine Zw (γ := 103) ?_; refine QTa ?_; refine QWc ?_; refine Qhd ?_; refine QIa ?_; refine QFa ?_; refine ZO ?_; refine ZQ ?_; refine Z9 (hcon := X9C b r (X07 x) (by omega) (by omega) (by omega) (by omega)) ?_; refine ZO ?_; refine ZP ?_; refine JD ?_; refine Qnb ?_
   refine ⟨k + 1, by omega, by omega, Xa rfl ⟨JL, JL, JL, JL, JL, trivial⟩ ⟨rfl, rfl, rfl, ?_, rfl, trivial⟩⟩
   refine Eq.trans (b := AObj.row 1 (List.take a _ ++ [XZ _] ++ List.drop (a + 1) _)) rfl ?_
   rw [X6A XZ _ (by omega), hst]
  ·have hks : UW keep k = 0 := by simp [UW, Nat.not_lt.1 hkk]
   rw [hks] at hc hst
   repeat first | refine X0 ?_ | (refine JR ?_; (repeat first | refine Z1 ?_ | refine Z0 ?_ | refine ZB ?_ | refine ZC ?_ | refine ZK ?_ | refine Zd ?_ | refine Z8 ?_ | refine Zb ?_ | refine Zw (γ := 103) ?_ | refine Zy ?_ | refine Zj ?_ | refine ZO ?_ | refine ZQ ?_ | refine ZP ?_ | refine Z9 (hcon := X9C b r 0 (by omega) (by omega) (by omega) (by omega)) ?_); refine JD ?_) | refine JT ?_ | refine JF ?_ | refine X5 ?_ | refine X4 ?_
   refine ⟨k + 1, by omega, by omega, Xa rfl ⟨JL, JL, JL, JL, JL, trivial⟩ ⟨rfl, rfl, rfl, ?_, rfl, trivial⟩⟩
   refine Eq.trans (b := AObj.row 1 (List.take a _ ++ [XZ _] ++ List.drop (a + 1) _)) rfl ?_
   rw [X6A XZ _ (by omega), hst]; rfl
 obtain rfl : k = d.pending.length := by omega
 refine Qef ?_; refine Qb ?_; refine Qjd ?_; refine Qmd ?_; refine Xm (Y4 130 rfl) ?_; refine Xm (Ut 101 0 130 (cs := [.own 130 d.sectors.length, ani, ab d.on]) (sz := 1) (xs := (Vi d (UW keep)).map XZ) rfl rfl rfl (by rw [List.length_map]; exact (X1e _ _ _ _).symm)) ?_; exact X1 ⟨_, Xl 101 (cs := [.d (XB (Vi d (UW keep))), ani, ab d.on]) (cs' := [.d (XB (Vi d (UW keep))), .d (XC []), ab d.on]) rfl ⟨AVal.le_refl _, AVal.le_nil 2, AVal.le_refl _, trivial⟩ rfl, ⟨⟨101, 0, _, rfl, rfl, .inr ⟨3, _, rfl, rfl, rfl, rfl⟩⟩, trivial⟩, X3 _⟩
theorem X96 {rows : List (List UInt8)} {pend : List Wr} {kv kv' : Nat → Int} : ∀ n, (∀ k, k < n → kv k = kv' k) → U5 rows pend kv n = U5 rows pend kv' n
 | 0, _ => rfl
 | n + 1, h => by
  simp only [U5]
  rw [X96 n (fun k hk => h k (by omega)), h n (by omega)]
theorem Xgj (d : Disk) : Vi d (UW (List.replicate d.pending.length 64)) = Vi d (fun _ => 64) :=
 X96 _ fun k hk => by simp [UW, hk]
theorem Xgu (d : Disk) (hl : UY d) : Con Tryz.prog 39 [] [XK d] [] (X0T (XK (Yh d).1) (Yh d).2) := by
 refine Xb (xs := [XK (Yh d).1, ai (Yh d).2]) Tryz.func39 rfl Tryz.ntmps39 rfl rfl rfl (fun E => ?_)
 by_cases hu : Yo d = 0
 ·have hp := hl.2.1
  have hok := X2g (X3K hu).1
  rw [show Yh d = (⟨Vi d (UW (List.replicate d.pending.length 64)), [], d.on⟩, 0) by rw [Xgj]; simp [Yh, hu]]
  refine Qlf ?_; refine QYd ?_; refine Qib ?_; refine Xm (Vp 5 132 1 rfl rfl rfl) ?_
  refine Xu (fun k : Nat => k ≤ d.pending.length) (fun k => ⟨26, [(1, .ptr 100 0), (2, .ptr 101 0), (5, .own 132 k), (6, ai k)], [(100, .box [.d (XB d.sectors), .d (XC d.pending), ab d.on]), (101, .box [ani, ani, ab false]), (132, .row 1 ((List.replicate k 64).map X2A))]⟩) (fun k => d.pending.length - k) 0 (by omega)
   (Xa rfl ⟨JL, JL, JL, JL, trivial⟩ ⟨rfl, rfl, rfl, trivial⟩) ?_
  intro k hk
  by_cases hlt : k < d.pending.length
  ·refine Qcf ?_; refine Qk ?_; refine Qj ?_; refine Qnb ?_
   refine ⟨k + 1, by omega, by omega, Xa rfl ⟨JL, JL, JL, JL, trivial⟩ ⟨rfl, rfl, ?_, trivial⟩⟩
   refine Eq.trans (b := AObj.row 1 (_ ++ [X2A 64])) rfl ?_
   rw [List.replicate_succ', List.map_append]; rfl
  obtain rfl : k = d.pending.length := by omega
  refine Xm (Y4 132 rfl) ?_; refine Xm (U1 5 132 rfl rfl (by simp)) ?_; refine Qef ?_; refine Qfb ?_; refine Z9 (hcon := Xfs d (List.replicate d.pending.length 64) hl hok) ?_; exact Qse
 ·rw [show Yh d = (Ub, Yo d) by simp [Yh, hu]]
  refine Qlf ?_; exact Que
theorem Xf1 (x : Disk) : Con Tryz.prog 13 [] [XK x, XK x] [] (ab true) := by
 obtain ⟨s, p, on⟩ := x
 refine Xb (xs := [ab true]) Tryz.func13 rfl Tryz.ntmps13 rfl rfl rfl (fun E => ?_)
 repeat first | refine X0 ?_ | (refine JR ?_; (repeat first | refine Z1 ?_ | refine Z0 ?_ | refine ZB ?_ | refine ZC ?_ | refine Zd ?_ | refine Zv ?_ | refine Z00 ?_ | refine ZA (γ := 100) ?_ | refine ZA (γ := 101) ?_ | refine Zq ?_); refine JD ?_) | refine JF ?_ | refine X5 ?_ | refine X4 ?_
 refine Xu (fun k : Nat => k ≤ s.length) (fun k => ⟨87, [(2, .ptr 100 0), (3, .ptr 101 0), (5, ai k)], [(100, .box [.d (XB s), .d (XC p), ab on]), (101, .box [.d (XB s), .d (XC p), ab on])]⟩) (fun k => s.length - k) 0 (by omega)
  (Xa rfl ⟨JL, JL, JL, trivial⟩ ⟨rfl, rfl, trivial⟩) ?_
 intro k hk
 refine X8Q 100 0 (cs := [.d (XB s), .d (XC p), ab on]) (sz := 1) (xs := s.map XZ) rfl rfl fun hle => ?_
 rw [List.length_map] at hle
 by_cases hlt : k < s.length
 ·obtain ⟨b, hb⟩ := Xv (l := s) hlt
  refine Qdf ?_; refine QD ?_; refine ZW ?_; refine QFa ?_; refine Z1 ?_; refine QD ?_; refine ZW ?_; refine ZM ?_; refine Qr ?_; refine Qnb ?_; exact ⟨k + 1, by omega, by omega, Xa rfl ⟨JL, JL, JL, trivial⟩ ⟨rfl, rfl, trivial⟩⟩
 obtain rfl : k = s.length := by omega
 refine Qef ?_; refine Qhb ?_
 refine Xu (fun k : Nat => k ≤ p.length) (fun k => ⟨87, [(2, .ptr 100 0), (3, .ptr 101 0), (6, ai k)], [(100, .box [.d (XB s), .d (XC p), ab on]), (101, .box [.d (XB s), .d (XC p), ab on])]⟩) (fun k => p.length - k) 0 (by omega)
  (Xa rfl ⟨JL, JL, JL, trivial⟩ ⟨rfl, rfl, trivial⟩) ?_
 intro k hk
 refine X8Q 100 1 (cs := [.d (XB s), .d (XC p), ab on]) (sz := 2) (xs := p.map cWr) rfl rfl fun hle => ?_
 rw [List.length_map] at hle
 by_cases hlt : k < p.length
 ·obtain ⟨w, hw⟩ := Xv (l := p) hlt
  repeat first | refine X0 ?_ | (refine JR ?_; (repeat first | refine Z1 ?_ | refine Z0 ?_ | refine ZB ?_ | refine ZN ?_ | refine ZC ?_ | refine Zk ?_ | refine Zd ?_ | refine Z8 ?_ | refine Zv ?_ | refine ZM ?_ | refine Zb ?_ | refine Zq ?_ | refine Zj ?_ | refine ZW ?_); refine JD ?_) | refine JT ?_ | refine JF ?_ | refine X5 ?_ | refine X4 ?_
  exact ⟨k + 1, by omega, by omega, Xa rfl ⟨JL, JL, JL, trivial⟩ ⟨rfl, rfl, trivial⟩⟩
 obtain rfl : k = p.length := by omega
 refine Qef ?_; exact Qga
theorem Xbe (f t tail : Int) : Con Tryz.prog 15 [] [ai f, ai t, ai tail] [] (ai (X01 f t tail)) := by
 refine Xb (xs := [ai (X01 f t tail)]) Tryz.func15 rfl Tryz.ntmps15 rfl rfl rfl (fun E => ?_)
 have e1 : f < 0 ∨ t ≤ f ∨ 4096 < t ∨ tail < 0 ∨ (t - f) * 64 < tail → X01 f t tail = 0 := fun h => if_pos h
 have e2 : ¬ (f < 0 ∨ t ≤ f ∨ 4096 < t ∨ tail < 0 ∨ (t - f) * 64 < tail) → X01 f t tail = (t - f) * 64 - tail := fun h => if_neg h
 generalize X01 f t tail = r at *
 by_cases a1 : f < 0
 ·obtain rfl := e1 (.inl a1)
  refine Qo ?_; refine QOa ?_; refine QBe ?_; refine Qgf ?_
  (show AWP Tryz.prog E _ _ _; refine X1 ?_; exact (show Xq _ _ _ _ _ from ⟨_, St.le_refl _, ⟨rfl, trivial⟩, X3 _⟩))
 by_cases a2 : t ≤ f
 ·obtain rfl := e1 (.inr (.inl a2))
  refine Qd ?_; refine QNb ?_; refine Z2 ?_; refine Zq ?_; refine QBe ?_; refine Qgf ?_
  (show AWP Tryz.prog E _ _ _; refine X1 ?_; exact (show Xq _ _ _ _ _ from ⟨_, St.le_refl _, ⟨rfl, trivial⟩, X3 _⟩))
 by_cases a3 : 4096 < t
 ·obtain rfl := e1 (.inr (.inr (.inl a3)))
  refine Qmf ?_; refine Qaa ?_; refine QHb ?_; refine Qgf ?_
  (show AWP Tryz.prog E _ _ _; refine X1 ?_; exact (show Xq _ _ _ _ _ from ⟨_, St.le_refl _, ⟨rfl, trivial⟩, X3 _⟩))
 by_cases a4 : tail < 0
 ·obtain rfl := e1 (.inr (.inr (.inr (.inl a4))))
  refine Qmf ?_; refine QDe ?_; refine Qgf ?_
  (show AWP Tryz.prog E _ _ _; refine X1 ?_; exact (show Xq _ _ _ _ _ from ⟨_, St.le_refl _, ⟨rfl, trivial⟩, X3 _⟩))
 by_cases a5 : (t - f) * 64 < tail
 ·obtain rfl := e1 (.inr (.inr (.inr (.inr a5))))
  clear e1 e2
  refine Qmf ?_; refine Qjf ?_; refine Qaa ?_; refine Qp ?_
  (show AWP Tryz.prog E _ _ _; refine X1 ?_; exact (show Xq _ _ _ _ _ from ⟨_, St.le_refl _, ⟨rfl, trivial⟩, X3 _⟩))
 obtain rfl := e2 (by omega)
 clear e1 e2
 refine Qmf ?_; refine Qjf ?_; refine Qmb ?_; refine Qi ?_; refine ZR ?_; refine Z0f ?_; refine Z1 ?_; refine ZR ?_; refine Qc ?_
 (show AWP Tryz.prog E _ _ _; refine X1 ?_; exact (show Xq _ _ _ _ _ from ⟨_, St.le_refl _, ⟨rfl, trivial⟩, X3 _⟩))
theorem Xgl (d : Disk) (f t : Int) (hf : Ud d) : Con Tryz.prog 12 [] [XK d, ai f, ai t] [] (X0T (XK (YD d f t).1) (YD d f t).2) := by
 refine Xb (xs := [XK (YD d f t).1, ai (YD d f t).2]) Tryz.func12 rfl Tryz.ntmps12 rfl rfl rfl (fun E => ?_)
 have hc := Xav d f t 0 0
 by_cases he : XJ d f t 0 0 = 0
 case neg =>
  have e : YD d f t = (Ub, XJ d f t 0 0) := by unfold YD; rw [if_pos he]
  rw [e]
  generalize XJ d f t 0 0 = r at *
  clear hf
  obtain ⟨secs, pend, on⟩ := d
  refine Qtc ?_; refine Qw ?_; refine QZd ?_; exact Que
 have e : YD d f t = ((Yh (Yb d f.toNat (List.replicate (t - f).toNat YU))).1, 0) := by unfold YD; rw [if_neg (by rw [he]; simp)]
 rw [e]
 clear e
 rw [he] at hc
 obtain ⟨hd, h1, h2, h3, _⟩ := X0X he
 clear he
 obtain ⟨F, rfl⟩ : ∃ F : Nat, f = F := ⟨f.toNat, by omega⟩
 obtain ⟨N, rfl⟩ : ∃ N : Nat, t = ((F + N : Nat) : Int) := ⟨(t - F).toNat, by omega⟩
 rw [Int.toNat_natCast, show (((F + N : Nat) : Int) - (F : Nat)).toNat = N by omega]
 obtain ⟨D, hD⟩ : ∃ D : Nat → Disk, ∀ i, Yb d F (List.replicate i YU) = D i := ⟨_, fun _ => rfl⟩
 have hD0 : d = D 0 := hD 0
 have hDs : ∀ i, D (i + 1) = Ui (D i) (F + i) YU := fun i => by rw [← hD, ← hD]; exact X9U YU d F i
 have hok : ∀ i, i ≤ N → DOk (D i) ∧ (D i).sectors.length = d.sectors.length ∧ (D i).pending.length ≤ 4096 := fun i hi => by
  rw [← hD]
  obtain ⟨k1, k2, k3⟩ := X17 (List.replicate i YU) d F
  refine ⟨X1K _ d F hd (by rw [List.length_replicate]; omega) fun c hcm => ?_, by rw [k1], ?_⟩
  ·rw [List.eq_of_mem_replicate hcm]; rfl
  ·rw [k3, List.length_replicate]; have := hf.1; have := hf.2; omega
 rw [hD]
 clear hD hd
 have hsl : d.sectors.length ≤ 2000 := hf.1
 subst hD0
 clear hf
 refine Qtc ?_; refine Qw ?_; refine QZd ?_; refine QYd ?_; refine Qg ?_; refine Qc ?_; refine X5 ?_
 clear hc
 refine Xu (fun i : Nat => i ≤ N) (fun i => ⟨38, [(2, ai ((F + N : Nat) : Int)), (3, .ptr 100 0), (6, .ptr 101 0), (9, ai ((F + i : Nat) : Int))], [(100, .box [.d (XB (D i).sectors), .d (XC (D i).pending), ab (D i).on]), (101, .box [ani, ani, ab false])]⟩) (fun i => N - i) 0 (Nat.zero_le _)
  (Xa rfl JM ⟨rfl, rfl, trivial⟩) ?_
 intro i hi
 obtain ⟨o1, o2, o3⟩ := hok i hi
 by_cases hil : i < N
 case neg =>
  obtain rfl : i = N := by omega
  have hn : ¬ ((F + i : Nat) : Int) < ((F + i : Nat) : Int) := by omega
  have hs := Xgu (D i) (X0p o1.v o3)
  have hX2 : (Yh (D i)).2 = 0 := by rw [X5O o1]
  rw [hX2] at hs
  generalize (Yh (D i)).1 = X at *
  clear hok hDs o1 o2 o3 hX2
  obtain ⟨xs, xp, xo⟩ := X
  refine Qld ?_; refine Ql ?_; refine Qeb ?_; refine Z9 (hcon := hs) ?_; refine ZF ?_; refine ZF ?_; refine Qma ?_
  (show AWP Tryz.prog E _ _ _; refine X1 ?_; exact (show Xq _ _ _ _ _ from ⟨_, St.le_refl _, ⟨⟨101, 0, _, rfl, rfl, .inr ⟨3, _, rfl, rfl, rfl, rfl⟩⟩, rfl, trivial⟩, X3 _⟩))
 have hn : ((F + i : Nat) : Int) < ((F + N : Nat) : Int) := by omega
 have hw := Xbm (D i) ((F + i : Nat) : Int) YU (X0p o1.v o3) (by decide)
 rw [X6B o1 (by omega) (by decide), ← hDs] at hw
 clear hok hDs o1 o2 o3
 refine Qld ?_; refine Qkb ?_; refine Qfb ?_; refine ZS ?_; refine Z9 (hcon := hw) ?_; refine Qac ?_; refine Zw (γ := 102) ?_; refine Qma ?_; refine JR ?_; refine ZL ?_; refine QTa ?_; refine Qnb ?_; exact ⟨i + 1, hil, by omega, Xa rfl JM ⟨rfl, rfl, trivial⟩⟩
theorem Xh1 (d : Disk) (q : Ask) (hq : X48 q) : Con Tryz.prog 3 [] [XK d, X0A q] [] (ab true) := by
 refine Xb (xs := [ab true]) Tryz.func3 rfl Tryz.ntmps3 rfl rfl rfl (fun E => ?_)
 have hs := X8a d q hq
 have hl := X75
 by_cases hb : X0H d q = true
 case neg =>
  have hb : X0H d q = false := by simpa using hb
  rw [hb] at hs
  clear hq
  obtain ⟨secs, pend, on⟩ := d
  obtain ⟨f, t, ep, tail, other, pick, a, b, keep⟩ := q
  unfold X0A at *
  simp only at *
  refine Qnf ?_; refine Zu ?_; refine QOb ?_; refine Z9 (hcon := hl) ?_; refine Qc ?_
  (show AWP Tryz.prog E _ _ _; refine X1 ?_; exact (show Xq _ _ _ _ _ from ⟨_, St.le_refl _, ⟨rfl, trivial⟩, X3 _⟩))
 rw [hb] at hs
 have hf := X7b hb
 have h1 := X9y d q.f q.t hf
 have h2 := Xgl d q.f q.t hf
 have h3 := Xf1 (YD d q.f q.t).1
 have h4 := Xaf q.f q.t q.tail
 have h5 := Xbe q.f q.t q.tail
 generalize (YD d q.f q.t).1 = X at *
 generalize (YD d q.f q.t).2 = e at *
 generalize X01 q.f q.t q.tail = r at *
 clear hq hb hf
 obtain ⟨secs, pend, on⟩ := d
 obtain ⟨xs, xp, xo⟩ := X
 obtain ⟨f, t, ep, tail, other, pick, a, b, keep⟩ := q
 unfold X0A at *
 simp only at *
 refine Qnf ?_; refine Qgb ?_; refine Qeb ?_; refine Qhd ?_; refine Z9 (hcon := h1) ?_; refine Qac ?_; refine Zw (γ := 102) ?_; refine Qma ?_; refine Qeb ?_; refine Qhd ?_; refine Z9 (hcon := h2) ?_; refine Qac ?_; refine Zw (γ := 103) ?_; refine Qma ?_; refine X0 ?_
 clear hs h1 h2
 refine JR ?_; refine ZL ?_; refine ZL ?_; refine Z9 (hcon := h3) ?_; refine QBa ?_; refine Zl ?_; refine QLa ?_; refine Qhd ?_; refine Z9 (hcon := h4) ?_; refine Qhd ?_; refine QFa ?_; refine Z9 (hcon := h5) ?_; refine Zl ?_; refine QFc ?_; refine Z9 (hcon := hl) ?_; refine Zn ?_; refine Z0 ?_
 refine .done (fun _ => by kernel_rfl) ?_
 (show AWP Tryz.prog E _ _ _; refine X1 ?_; exact (show Xq _ _ _ _ _ from ⟨_, St.le_refl _, ⟨rfl, trivial⟩, X3 _⟩))
end Go.Fw

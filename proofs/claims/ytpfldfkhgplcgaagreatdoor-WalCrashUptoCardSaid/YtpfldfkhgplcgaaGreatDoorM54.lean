/- Plain laws: the checksum tells one changed byte; frames read back. -/
import Derived.Test.YtpfldfkhgplcgaaGreatDoorM32
import Derived.Test.YtpfldfkhgplcgaaGreatDoorM36
import Derived.Test.YtpfldfkhgplcgaaGreatDoorM37
import Derived.Test.YtpfldfkhgplcgaaGreatDoorM53
set_option maxHeartbeats 8000000
namespace Go.Fw
open Go
set_option linter.unusedVariables false
theorem Xc4 {a b c d a' b' c' d' : UInt8} (h : a.toNat + 256 * b.toNat + 65536 * c.toNat + 16777216 * d.toNat = a'.toNat + 256 * b'.toNat + 65536 * c'.toNat + 16777216 * d'.toNat) : a = a' ∧ b = b' ∧ c = c' ∧ d = d' := by
 have h1 := a.toNat_lt; have h2 := b.toNat_lt; have h3 := c.toNat_lt; have h4 := d.toNat_lt
 have h5 := a'.toNat_lt; have h6 := b'.toNat_lt; have h7 := c'.toNat_lt; have h8 := d'.toNat_lt
 refine ⟨UInt8.toNat_inj.1 ?_, UInt8.toNat_inj.1 ?_, UInt8.toNat_inj.1 ?_, UInt8.toNat_inj.1 ?_⟩ <;> omega
theorem Xg8 {b : List UInt8} {a e : Int} {x : List UInt8} (h : Uo b a = (x, e, 0)) : only b a e (XD x) := by
 unfold Uo at h
 simp only at h
 split at h
 ·rename_i h0; exact absurd (congrArg (fun r => r.2.2) h) h0
 rename_i h0
 split at h
 ·exact Qa
 rename_i h1
 split at h
 ·exact Qa
 rename_i h2
 have h0 : (Xk b a).2.2 = 0 := by simpa using h0
 obtain ⟨⟨k1, k2, k3, k4⟩, k5, k6, k7⟩ := X1C (b := b) (a := a) (n := (Xk b a).1) (e := (Xk b a).2.1) (by rw [← h0])
 generalize (Xk b a).1 = n at *
 generalize (Xk b a).2.1 = f at *
 simp only [Prod.mk.injEq] at h
 obtain ⟨rfl, rfl, _⟩ := h
 have hl : ((b.drop f.toNat).take n.toNat).length = n.toNat := by simp; omega
 have h2 : X0k b (f + n).toNat = XZ ((b.drop f.toNat).take n.toNat) := by simpa using h2
 have h4 : (b.drop (f + n).toNat).take 4 = YS ((b.drop f.toNat).take n.toNat) := by
  generalize hx : (b.drop f.toNat).take n.toNat = x at *
  generalize hk : (f + n).toNat = k at *
  obtain ⟨q0, g0⟩ := Xx (l := b) (k := k) (by omega)
  obtain ⟨q1, g1⟩ := Xx (l := b) (k := k + 1) (by omega)
  obtain ⟨q2, g2⟩ := Xx (l := b) (k := k + 2) (by omega)
  obtain ⟨q3, g3⟩ := Xx (l := b) (k := k + 3) (by omega)
  have hs := X23 x
  have hb := Xao (p := []) (q := []) x
  simp only [List.nil_append, List.append_nil, List.length_nil] at hb
  rw [← hb] at h2
  unfold X0k at h2
  simp only [g0, g1, g2, g3, Option.getD_some, YS, Nat.zero_add, List.getElem?_cons_zero, List.getElem?_cons_succ] at h2
  obtain ⟨e0, e1, e2, e3⟩ := Xc4 h2
  apply List.ext_getElem?
  intro i
  rw [List.getElem?_take]
  split
  ·rename_i hi
   rw [List.getElem?_drop]
   rcases i with _ | _ | _ | _ | i
   ·rw [Nat.add_zero, g0, e0]; rfl
   ·rw [g1, e1]; rfl
   ·rw [g2, e2]; rfl
   ·rw [g3, e3]; rfl
   ·omega
  ·rename_i hi
   rw [List.getElem?_eq_none (by rw [X06]; omega)]
 refine ⟨k1, by omega, by omega, ?_⟩
 rw [show (f + n + 4 - a).toNat = (f - a).toNat + (n.toNat + 4) by omega, List.take_add, k4, List.drop_drop, show a.toNat + (f - a).toNat = f.toNat by omega, List.take_add, List.drop_drop, show f.toNat + n.toNat = (f + n).toNat by omega, h4]
 unfold XD
 rw [hl, show ((n.toNat : Nat) : Int) = n by omega, List.append_assoc]
open Go Go.Proofs
set_option maxRecDepth 100000
set_option linter.unusedSimpArgs false
theorem Xf1 (keep : List Int) (i : Nat) : Con Tryz.prog 56 [(1, .box [.d (Vb keep)])] [ai i, .ptr 1 0] [(1, .box [.d (Vb keep)])] (ai (Y7 keep i)) := by
 refine Xa (xs := [ai (Y7 keep i)]) Tryz.func56 rfl Tryz.ntmps56 rfl rfl rfl (fun E => ?_)
 by_cases h : keep.length ≤ i
 ·refine Qo ?_; refine ZC ?_; refine Zd ?_; refine Z2 ?_; refine Qq ?_; exact X1 ⟨_, Xb 3 (AVal.le_of_eq (by refine Eq.trans (b := ai _) rfl ?_; simp [Y7, h])), ⟨rfl, trivial⟩, Xj ⟨rfl, trivial⟩⟩
 ·obtain ⟨x, hx⟩ := Xx (l := keep) (k := i) (by omega)
  refine Qo ?_; refine ZC ?_; refine Zd ?_; refine Z2 ?_; refine Qs ?_; refine Qb ?_; refine ZC ?_; refine Z1 ?_; refine QF ?_; exact X1 ⟨_, Xb 3 (AVal.le_of_eq (by refine Eq.trans (b := ai _) rfl ?_; simp [Y7, hx])), ⟨rfl, trivial⟩, Xj ⟨rfl, trivial⟩⟩
theorem Xgz (keep : List Int) (rows : List (List UInt8)) (pend : List Wr) (hok : okW rows pend) (hl : rows.length ≤ 4096) (hp : pend.length ≤ 4096) : Con Tryz.prog 80 [(0, .mat 1 (rows.map fun s => s.map X6)), (1, .box [.d (Vb keep)])] [.agg [.d (XA pend)], .own 0 rows.length, .fn 56 [.ptr 1 0]]
  [(0, .mat 1 ((YA rows pend (Y7 keep) pend.length).map fun s => s.map X6)), (1, .box [.d (Vb keep)])] (.own 0 rows.length) := by
 refine Xa (xs := [.own 0 rows.length]) Tryz.func80 rfl Tryz.ntmps80 rfl rfl rfl (fun E => ?_)
 refine QAb ?_; refine QA ?_
 refine Xu (fun k : Nat => k ≤ pend.length) (fun k => ⟨35, [(1, .own 0 rows.length), (2, .fn 56 [.ptr 1 0]), (11, .d (XA pend)), (12, ai (pend.map cWr).length), (13, ai k)], [(100, .box [.d (XA pend)]), (0, .mat 1 ((YA rows pend (Y7 keep) k).map fun s => s.map X6)), (1, .box [.d (Vb keep)])]⟩) (fun k => pend.length - k) 0 (by omega)
  (X9 rfl ⟨JL, JL, JL, JL, JL, trivial⟩ ⟨rfl, rfl, rfl, trivial⟩) ?_
 intro k hk
 refine QB ?_
 refine VB rfl (fun h => ?_) (fun h => ?_)
 ·have h := of_decide_eq_true h
  simp only [List.length_map] at h
  obtain ⟨⟨at_, b⟩, hw⟩ := Xx (l := pend) (k := k) (by omega)
  obtain ⟨b1, b2, b3⟩ := hok.2 _ (List.mem_of_getElem? hw)
  simp only at b1 b2 b3
  obtain ⟨a, rfl⟩ : ∃ a : Nat, at_ = a := ⟨at_.toNat, by omega⟩
  have hpl := X05 rows pend (Y7 keep) k
  obtain ⟨r, hr⟩ := Xx (l := YA rows pend (Y7 keep) k) (k := a) (by omega)
  have hrl := X0T (Y7 keep) hok k r (List.mem_of_getElem? hr)
  have hc := X27 (Y7 keep k)
  refine QC ?_; refine Qf ?_; refine QVa ?_; refine Qrc ?_; refine Z0 ?_; refine QWa ?_; refine Qi ?_; refine ZG (hcon := Xf1 keep k) ?_; refine Zz ?_; refine X7a (X0b (Y7 keep k)) (X5u (Y7 keep k)) rfl rfl rfl (by (first | ((exact True.intro)) | ((exact ⟨rfl, rfl⟩)) | ((exact ⟨rfl, congrArg ab (by (first | ((rfl)) | ((assumption)) | ((simp only [List.length_map, List.length_take, List.length_append, decide_eq_true_eq, decide_eq_false_iff_not, ne_eq, Classical.not_not]; omega)) | ((simp <;> fail)) | ((simp [*] <;> fail)) | ((simp; omega)) | fail))⟩)) | fail)) ?_; refine Qc ?_; refine JR ?_; refine QKa ?_; refine Z09 ?_; refine Z0a ?_; refine QHa ?_; refine Z1 ?_; refine Z0b ?_; refine Z0c ?_; refine JD ?_; refine QK ?_
  refine ⟨k + 1, by omega, by omega, X9 rfl ⟨JL, JL, JL, JL, JL, trivial⟩ ⟨rfl, ?_, rfl, trivial⟩⟩
  refine Eq.trans (b := AObj.mat 1 (List.set _ _ _)) rfl ?_
  rw [X5B hw hr, List.map_set]
  congr 2
  exact X9A (X27 (Y7 keep k)) b3 hrl
 have h := of_decide_eq_false h
 simp only [List.length_map] at h
 obtain rfl : k = pend.length := by omega
 refine Xp ?_; refine Qz ?_; exact X1 ⟨_, St.le_refl _, ⟨rfl, trivial⟩, Xj ⟨rfl, rfl, trivial⟩⟩
theorem Xd6 (keep : List Int) (rows : List (List UInt8)) (pend : List Wr) (hok : okW rows pend) (hl : rows.length ≤ 4096) (hp : pend.length ≤ 4096) : Con Tryz.prog 80 [(1, .mat 1 (rows.map fun s => s.map X6)), (2, .box [.d (Vb keep)])] [.agg [.d (XA pend)], .own 1 rows.length, .fn 56 [.ptr 2 0]]
  [(1, .mat 1 ((YA rows pend (Y7 keep) pend.length).map fun s => s.map X6)), (2, .box [.d (Vb keep)])] (.own 1 rows.length) := by
 have h := UX 0 2 (UX 0 1 (Xgz keep rows pend hok hl hp))
 exact h
theorem Xdi (keep : List Int) (rows : List (List UInt8)) (pend : List Wr) (on : Bool) (hok : okW rows pend) (hl : rows.length ≤ 4096) (hp : pend.length ≤ 4096) : Con Tryz.prog 55 [(0, .row 2 (pend.map cWr)), (1, .mat 1 (rows.map fun s => s.map X6)), (2, .box [.d (Vb keep)])] [.agg [.own 0 pend.length, .own 1 rows.length, ab on], .fn 56 [.ptr 2 0]]
  [(0, .froz 2 (pend.map cWr)), (1, .mat 1 ((YA rows pend (Y7 keep) pend.length).map fun s => s.map X6)), (122, .row 2 []), (2, .box [.d (Vb keep)])] (.agg [.own 122 0, .own 1 rows.length, ab on]) := by
 refine Xa (xs := [.agg [.own 122 0, .own 1 rows.length, ab on]]) Tryz.func55 rfl Tryz.ntmps55 rfl rfl rfl (fun E => ?_)
 refine Qge ?_; refine Xi (XL 0 rfl) ?_; refine Xi (Vn 100 0 0 (cs := [.own 0 pend.length, .own 1 rows.length, ab on]) (sz := 2) (xs := pend.map cWr) rfl rfl rfl (by simp)) ?_; refine Qb ?_; refine ZB ?_; refine ZL ?_; refine QHa ?_; refine Z1 ?_; refine Z9 (hcon := Xd6 keep rows pend hok hl hp) ?_; refine Qhd ?_; refine Qb ?_; refine ZB ?_; refine Qhd ?_; refine Qjd ?_; refine Xi (X0a 101 0 122 2 (cs := [ani, .own 1 rows.length, ab on]) rfl rfl rfl rfl rfl) ?_; exact X1 ⟨_, St.le_refl _, ⟨⟨101, 0, _, rfl, rfl, .inr ⟨3, _, rfl, rfl, rfl, rfl⟩⟩, trivial⟩, Xj ⟨rfl, rfl, rfl, rfl, trivial⟩⟩
theorem Xcg (keep : List Int) (rows : List (List UInt8)) (pend : List Wr) (on : Bool) (hok : okW rows pend) (hl : rows.length ≤ 4096) (hp : pend.length ≤ 4096) : Con Tryz.prog 55 [(120, .row 2 (pend.map cWr)), (121, .mat 1 (rows.map fun s => s.map X6)), (101, .box [.d (Vb keep)])] [.agg [.own 120 pend.length, .own 121 rows.length, ab on], .fn 56 [.ptr 101 0]]
  [(120, .froz 2 (pend.map cWr)), (121, .mat 1 ((YA rows pend (Y7 keep) pend.length).map fun s => s.map X6)), (122, .row 2 []), (101, .box [.d (Vb keep)])] (.agg [.own 122 0, .own 121 rows.length, ab on]) := by
 have h := UX 2 101 (UX 1 121 (UX 0 120 (Xdi keep rows pend on hok hl hp)))
 exact h
def YU (d : Disk) (keep : List Int) : Disk := if Yp d then ⟨YC d (Y7 keep), [], false⟩ else d
def U1 (d : Disk) : Disk := if Yp d then ⟨d.sectors, d.pending, true⟩ else d
theorem Xhg (d : Disk) (hl : UE d) : Con Tryz.prog 28 [] [XK d] [] (XK (U1 d)) := by
 refine Xa (xs := [XK (U1 d)]) Tryz.func28 rfl Tryz.ntmps28 rfl rfl rfl (fun E => ?_)
 cases hv : Yp d with
 | true =>
  rw [show U1 d = ⟨d.sectors, d.pending, true⟩ by simp [U1, hv]]
  refine Qge ?_; refine Qje ?_; refine QWd ?_; refine Qkc ?_; refine Z9 (hcon := X1a d) ?_; refine Qh ?_; refine JR ?_; refine Qhd ?_; refine Qgb ?_; refine Z9 (hcon := X5g ⟨d.sectors, d.pending, true⟩) ?_; exact Qqe
 | false =>
  rw [show U1 d = d by simp [U1, hv]]
  refine Qge ?_; refine Qje ?_; refine QWd ?_; refine Qkc ?_; refine Z9 (hcon := X1a d) ?_; refine Qs ?_; refine Qgb ?_; refine Z9 (hcon := X5g d) ?_; exact Qqe
theorem XgB (d : Disk) (keep : List Int) (hl : UE d) : Con Tryz.prog 29 [] [XK d, .d (Vb keep)] [] (XK (YU d keep)) := by
 refine Xa (xs := [XK (YU d keep)]) Tryz.func29 rfl Tryz.ntmps29 rfl rfl rfl (fun E => ?_)
 cases hv : Yp d with
 | true =>
  have hok := X13 hv
  rw [show YU d keep = ⟨YC d (Y7 keep), [], false⟩ by simp [YU, hv]]
  refine QFa ?_; refine ZA (γ := 101) ?_; refine Zw (γ := 102) ?_; refine JD ?_; refine Qje ?_; refine Zw (γ := 103) ?_; refine QWa ?_; refine Qkc ?_; refine Z9 (hcon := X1a d) ?_; refine Qhb ?_; refine Qgb ?_; refine Z0d ?_; refine Z9 (hcon := Xcg keep d.sectors d.pending d.on hok hl.1 hl.2.1) ?_; refine QWa ?_; refine Qb ?_; refine Qhd ?_; refine Qgb ?_; refine Z9 (hcon := X88 (YC d (Y7 keep)) d.sectors.length (X05 _ _ _ _) false) ?_; refine QWa ?_; exact QKf
 | false =>
  rw [show YU d keep = d by simp [YU, hv]]
  refine QFa ?_; refine ZA (γ := 101) ?_; refine Zw (γ := 102) ?_; refine JD ?_; refine Qje ?_; refine Zw (γ := 103) ?_; refine QWa ?_; refine Qkc ?_; refine Z9 (hcon := X1a d) ?_; refine Zu ?_; refine Qh ?_; refine Qgb ?_; refine Z9 (hcon := X5g d) ?_; refine QWa ?_; exact QKf
theorem X8m : ∀ (l : List UInt8), ∀ x ∈ Y3 l, x ≠ 0
 | [], x, h => by simp [Y3] at h
 | y :: r, x, h => by
  unfold Y3 at h
  rw [List.takeWhile_cons] at h
  by_cases hy : (y != 0) = true
  ·rw [if_pos hy, List.mem_cons] at h
   rcases h with rfl | h
   ·simpa using hy
   ·exact X8m r x h
  ·rw [if_neg hy] at h
   simp at h
theorem Xhh {x : UInt8} (h : x.toNat ≤ 1) : x + 1 - 1 = x := by
 have hx : x = 0 ∨ x = 1 := by
  have : x.toNat = 0 ∨ x.toNat = 1 := by omega
  rcases this with e | e
  ·left; exact UInt8.toNat_inj.1 e
  ·right; exact UInt8.toNat_inj.1 e
 rcases hx with rfl | rfl <;> rfl
theorem X7f : ∀ (F : List UInt8) (q : Nat), q < (XC F).length → YE ((XC F).take q) = none ∨ ∃ m, m < F.length ∧ YE ((XC F).take q) = some (F.take m)
 | [], q, h => by simp [XC] at h
 | x :: r, 0, _ => .inr ⟨0, by simp, by simp [YE]⟩
 | x :: r, q + 1, h => by
  rw [XC] at h ⊢
  unfold VZ at h ⊢
  by_cases hx : x.toNat ≤ 1
  ·rw [if_pos hx] at h ⊢
   cases q with
   | zero => left; simp [YE]
   | succ q =>
    have e : ([1, x + 1] ++ XC r).take (q + 1 + 1) = 1 :: (x + 1) :: (XC r).take q := rfl
    have hy : x + 1 = 1 ∨ x + 1 = 2 := by
     have : x.toNat = 0 ∨ x.toNat = 1 := by omega
     rcases this with q | q
     ·left; rw [show x = 0 from UInt8.toNat_inj.1 q]; rfl
     ·right; rw [show x = 1 from UInt8.toNat_inj.1 q]; rfl
    rw [e, X4e hy, Xhh hx]
    have hq : q < (XC r).length := by simp only [List.length_append, List.length_cons, List.length_nil] at h; omega
    rcases X7f r q hq with k | ⟨m, hm, k⟩
    ·left; rw [k]; rfl
    ·right; exact ⟨m + 1, by simpa using hm, by rw [k]; rfl⟩
  ·rw [if_neg hx] at h ⊢
   have hx1 : x ≠ 1 := by rintro rfl; exact hx (by decide)
   have e : ([x] ++ XC r).take (q + 1) = x :: (XC r).take q := rfl
   rw [e, X58 hx1]
   have hq : q < (XC r).length := by simp only [List.length_append, List.length_cons, List.length_nil] at h; omega
   rcases X7f r q hq with k | ⟨m, hm, k⟩
   ·left; rw [k]; rfl
   ·right; exact ⟨m + 1, by simpa using hm, by rw [k]; rfl⟩
theorem Xh1 {s : List UInt8} (hs0 : s.length ≤ 1000000) {m : Nat} (hm : m < (XD s).length) : (Uo ((XD s).take m) 0).2.2 ≠ 0 ∨ (Uo ((XD s).take m) 0).2.1 ≠ ((XD s).take m).length := by
 have hs : (s.length : Int) ≤ 9223372036854775807 := by omega
 by_cases h : (Uo ((XD s).take m) 0).2.2 = 0
 case neg => exact .inl h
 right
 intro h2
 obtain ⟨x, e, er⟩ : ∃ x e, Uo ((XD s).take m) 0 = (x, e, 0) := ⟨_, _, Prod.ext rfl (Prod.ext rfl h)⟩
 rw [er] at h2
 simp only at h2
 obtain ⟨o1, o2, o3, o4⟩ := Xg8 er
 have hml : ((XD s).take m).length = m := by rw [List.length_take]; omega
 have hx : (XD s).take m = XD x := by
  rw [← o4, Int.toNat_zero, List.drop_zero, h2, Int.sub_zero, Int.toNat_natCast, List.take_length]
 have hsp : XD s = XD x ++ (XD s).drop m := by rw [← hx, List.take_append_drop]
 have hxl : (x.length : Int) ≤ 9223372036854775807 := by
  have h3 := congrArg List.length hx
  rw [hml] at h3
  have h4 : x.length ≤ (XD x).length := by unfold XD; simp only [List.length_append]; omega
  have h6 := X94 ((XD s).take m) 0
  rw [er] at h6
  simp only at h6
  have h7 := X3c hs [] []
  simp only [List.nil_append, List.append_nil, List.length_nil] at h7
  have h8 : (XD s).length ≤ s.length + 14 := by
   unfold XD
   rw [List.length_append, List.length_append, X06]
   have := X2d (n := (s.length : Int)) (by omega) (by omega)
   omega
  have h9 : x.length + 4 ≤ (XD x).length := by unfold XD; simp only [List.length_append, X06]; omega
  omega
 have hb1 := X3c hxl [] ((XD s).drop m)
 have hb2 := X3c hs [] []
 simp only [List.nil_append, List.append_nil, List.length_nil] at hb1 hb2
 rw [← hsp, hb2] at hb1
 have h10 := congrArg (fun p => p.2.1) hb1
 simp only at h10
 have h11 := congrArg List.length hx
 rw [hml] at h11
 omega
theorem XeS {ep : Int} {r : Rcd} (h1 : 0 ≤ ep) (h2 : ep ≤ 1000000000000000) (hr : X10 r) {q : Nat} (hq : q < (XC (XD (Y4 ep r))).length) : (Ud ((XC (XD (Y4 ep r))).take q) ep).2 = false := by
 have hbl := X2s h1 h2 hr.2
 rcases X7f _ q hq with k | ⟨m, hm, k⟩
 ·rw [X85 k]
 ·rw [X4u k]
  unfold X1Y
  rw [if_pos (Xh1 (by omega) hm)]
def X5a (Z A : List UInt8) : Prop := Z.length = A.length ∧ ∀ (p : Nat) (z x : UInt8), Z[p]? = some z → A[p]? = some x → z = x ∨ z = 0
theorem Xht {Z A : List UInt8} (h : X5a Z A) (k : Nat) : X5a (Z.drop k) (A.drop k) := by
 refine ⟨by rw [List.length_drop, List.length_drop, h.1], fun p z x hz hx => ?_⟩
 rw [List.getElem?_drop] at hz hx
 exact h.2 _ z x hz hx
theorem Xb3 {ep : Int} (h1 : 0 ≤ ep) (h2 : ep ≤ 1000000000000000) : ∀ (l : List Rcd) (z : Nat) (Z : List UInt8) (a n : Nat), (∀ r ∈ l, X10 r) → X5a Z (Xg ep l ++ List.replicate z 0) → Z.length < n →
  ∃ k, k ≤ l.length ∧ UC ep n Z a = (l.take k, a + (Xg ep (l.take k)).length)
 | [], z, Z, a, n, _, ht, hn => by
  refine ⟨0, Nat.le_refl _, ?_⟩
  have hZ : Z = List.replicate z 0 := by
   apply List.ext_getElem?
   intro p
   have hl : Z.length = z := by rw [ht.1]; simp [Xg]
   by_cases hp : p < z
   ·rw [List.getElem?_replicate, if_pos hp]
    have hz : Z[p]? = some Z[p] := List.getElem?_eq_getElem (by omega)
    rcases ht.2 p Z[p] 0 hz (by simp [Xg, hp]) with q | q <;> rw [hz, q]
   ·rw [List.getElem?_eq_none (by omega), List.getElem?_eq_none (by simp; omega)]
  subst hZ
  cases n with
  | zero => omega
  | succ n => rw [Xbs]; simp [Xg]
 | r :: l, z, Z, a, n, hv, ht, hn => by
  have hrl : (Yi ep r).length = (XC (XD (Y4 ep r))).length + 1 := by unfold Yi; simp
  have eA : Xg ep (r :: l) ++ List.replicate z 0 = Yi ep r ++ (Xg ep l ++ List.replicate z 0) := by rw [Xg, List.append_assoc]
  rw [eA] at ht
  have hZl : Z.length = (Yi ep r).length + (Xg ep l ++ List.replicate z 0).length := by rw [ht.1, List.length_append]
  by_cases hw : Z.take (XC (XD (Y4 ep r))).length = XC (XD (Y4 ep r))
  ·-- the entry is whole
   have hE : Z.take (Yi ep r).length = Yi ep r := by
    have hz0 : Z[(XC (XD (Y4 ep r))).length]? = some 0 := by
     have hz : Z[(XC (XD (Y4 ep r))).length]? = some Z[(XC (XD (Y4 ep r))).length] := List.getElem?_eq_getElem (by omega)
     have hx : (Yi ep r ++ (Xg ep l ++ List.replicate z 0))[(XC (XD (Y4 ep r))).length]? = some 0 := by unfold Yi; simp
     rcases ht.2 _ _ 0 hz hx with q | q <;> rw [hz, q]
    rw [hrl, X3v hz0, hw]
    rfl
   have hsp : Z = Xg ep [r] ++ Z.drop (Yi ep r).length := by
    conv => lhs; rw [← List.take_append_drop (Yi ep r).length Z]
    rw [hE, Xg, Xg, List.append_nil]
   have htd := Xht ht (Yi ep r).length
   rw [List.drop_left' rfl] at htd
   obtain ⟨k, hk, e⟩ := Xb3 h1 h2 l z (Z.drop (Yi ep r).length) (a + (Xg ep [r]).length) ((Z.drop (Yi ep r).length).length + 1) (fun x hx => hv x (by simp [hx])) htd (Nat.lt_succ_self _)
   refine ⟨k + 1, by simpa using hk, ?_⟩
   rw [hsp] at hn
   have hsf := X50 h1 h2 [r] (Z.drop (Yi ep r).length) a n ((Z.drop (Yi ep r).length).length + 1) (fun x hx => by simp only [List.mem_singleton] at hx; subst hx; exact hv x (by simp)) hn (Nat.lt_succ_self _)
   rw [← hsp, e] at hsf
   rw [hsf, List.take_succ_cons]
   simp only [Xg, List.length_append, List.length_nil, List.append_nil, List.cons_append, List.nil_append, Nat.add_zero, Nat.add_assoc]
  ·-- a byte of it is lost
   refine ⟨0, Nat.zero_le _, ?_⟩
   cases n with
   | zero => omega
   | succ n =>
    have hstop : ¬ (Vw Z = true ∧ (Ud (Y3 Z) ep).2 = true) := by
     rintro ⟨g1, g2⟩
     have hlt := X6L g1
     have htk := Xa2 Z
     have hnz : ∀ x ∈ Y3 Z, x ≠ 0 := by
      exact X8m Z
     have hle : ∀ p, p < (Y3 Z).length → p < (XC (XD (Y4 ep r))).length → (Y3 Z)[p]? = (XC (XD (Y4 ep r)))[p]? := by
      intro p hp hpe
      have hz : Z[p]? = some (Y3 Z)[p] := by
       have h3 : (Y3 Z)[p]? = some (Y3 Z)[p] := List.getElem?_eq_getElem hp
       have h4 : (Y3 Z)[p]? = Z[p]? := by
        conv => lhs; rw [htk]
        rw [List.getElem?_take, if_pos hp]
       rw [← h4, h3]
      have hx : (Yi ep r ++ (Xg ep l ++ List.replicate z 0))[p]? = some (XC (XD (Y4 ep r)))[p] := by
       unfold Yi
       rw [List.append_assoc, List.getElem?_append_left hpe]
       exact List.getElem?_eq_getElem hpe
      rcases ht.2 p _ _ hz hx with q | q
      ·rw [List.getElem?_eq_getElem hp, List.getElem?_eq_getElem hpe, q]
      ·exact absurd q (hnz _ (List.getElem_mem hp))
     by_cases hc : (Y3 Z).length < (XC (XD (Y4 ep r))).length
     ·have hpre : Y3 Z = (XC (XD (Y4 ep r))).take (Y3 Z).length := by
       apply List.ext_getElem?
       intro p
       by_cases hp : p < (Y3 Z).length
       ·rw [List.getElem?_take, if_pos hp]
        exact hle p hp (by omega)
       ·rw [List.getElem?_eq_none (by omega), List.getElem?_take, if_neg hp]
      have := XeS h1 h2 (hv r (by simp)) hc
      rw [← hpre, g2] at this
      simp at this
     ·apply hw
      apply List.ext_getElem?
      intro p
      by_cases hp : p < (XC (XD (Y4 ep r))).length
      ·rw [List.getElem?_take, if_pos hp, ← hle p (by omega) hp]
       conv => rhs; rw [htk]
       rw [List.getElem?_take, if_pos (by omega)]
      ·rw [List.getElem?_take, if_neg hp, List.getElem?_eq_none (by omega)]
    rw [X1V ep Z a n hstop]
    simp [Xg]
theorem Xb9 {rows : List (List UInt8)} {pend : List Wr} {kv : Nat → Int} (hok : ∀ w ∈ pend, 0 ≤ w.at_ ∧ w.b.length = 64) : ∀ (n k p : Nat) (r : List UInt8) (X : UInt8), (YA rows pend kv n)[k]? = some r → r[p]? = some X →
  (∃ s, rows[k]? = some s ∧ s[p]? = some X) ∨ ∃ i w, i < n ∧ pend[i]? = some w ∧ w.at_ = k ∧ w.b[p]? = some X
 | 0, k, p, r, X, h, hp => .inl ⟨r, h, hp⟩
 | n + 1, k, p, r, X, h, hp => by
  have up : ∀ r', (YA rows pend kv n)[k]? = some r' → r'[p]? = some X → (∃ s, rows[k]? = some s ∧ s[p]? = some X) ∨ ∃ i w, i < n + 1 ∧ pend[i]? = some w ∧ w.at_ = k ∧ w.b[p]? = some X := fun r' h1 h2 => by
   rcases Xb9 hok n k p r' X h1 h2 with h3 | ⟨i, w, h3, h4⟩
   ·exact .inl h3
   ·exact .inr ⟨i, w, by omega, h4⟩
  simp only [YA] at h
  split at h
  ·rename_i w hw
   have h0 := hok w (List.mem_of_getElem? hw)
   simp only [X1X] at h
   by_cases hk : w.at_.toNat = k
   ·rw [hk, List.getElem?_set_self'] at h
    cases ho : (YA rows pend kv n)[k]? with
    | none => rw [ho] at h; simp at h
    | some o =>
     rw [ho] at h
     simp at h
     subst h
     rw [List.getElem?_append] at hp
     split at hp
     ·rename_i hlt
      rw [List.getElem?_take] at hp
      split at hp
      ·exact .inr ⟨n, w, by omega, hw, by omega, hp⟩
      ·simp at hp
     ·rename_i hge
      rw [List.getElem?_drop] at hp
      simp only [List.length_take] at hp hge
      have hb := X27 (kv n)
      refine up o ho ?_
      rw [← hp]; congr 1; omega
   ·rw [List.getElem?_set_ne hk] at h
    exact up r h hp
  ·exact up r h hp
theorem XgJ (bs : List (List UInt8)) : ∀ (d : Disk) (a i : Nat) (w : Wr), d.pending = [] → (XH d a bs).pending[i]? = some w → ∃ b, bs[i]? = some b ∧ w = ⟨((a + i : Nat) : Int), b⟩ := by
 have gen : ∀ (bs : List (List UInt8)) (d : Disk) (a : Nat), (XH d a bs).pending = d.pending ++ (bs.zipIdx a).map fun p => (⟨((p.2 : Nat) : Int), p.1⟩ : Wr) := by
  intro bs
  induction bs with
  | nil => intro d a; simp [XH]
  | cons x bs ih =>
   intro d a
   rw [XH, ih]
   simp [Uq, List.zipIdx_cons]
 intro d a i w hd hw
 rw [gen, hd, List.nil_append, List.getElem?_map] at hw
 cases hz : (bs.zipIdx a)[i]? with
 | none => rw [hz] at hw; simp at hw
 | some p =>
  rw [hz] at hw
  simp only [Option.map_some, Option.some.injEq] at hw
  rw [List.getElem?_zipIdx] at hz
  cases hb : bs[i]? with
  | none => rw [hb] at hz; simp at hz
  | some b =>
   rw [hb] at hz
   simp only [Option.map_some, Option.some.injEq] at hz
   subst hz
   exact ⟨b, rfl, hw.symm⟩
theorem X3Z {d : Disk} (h : DOk d) : ∀ (n f p : Nat), f + n ≤ d.sectors.length → p < 64 * n → (Yd d f n)[p]? = (Ui d (f + p / 64))[p % 64]?
 | 0, f, p, _, hp => by omega
 | n + 1, f, p, hf, hp => by
  have hl := X3L h (a := f) (by omega)
  rw [Yd, List.getElem?_append]
  by_cases q : p < 64
  ·rw [if_pos (by omega), X4Q h (by omega)]
   rw [show p / 64 = 0 by omega, show p % 64 = p by omega, Nat.add_zero]
  ·rw [if_neg (by omega), hl, X3Z h n (f + 1) (p - 64) (by omega) (by omega)]
   rw [show f + 1 + (p - 64) / 64 = f + p / 64 by omega, show (p - 64) % 64 = p % 64 by omega]
theorem X4s {d : Disk} (hp : d.pending = []) {k : Nat} (hk : k < d.sectors.length) : Ui d k = d.sectors[k] := by
 unfold Ui
 rw [hp, List.getElem?_eq_getElem hk]
 rfl
theorem XcC {d : Disk} (hd : DOk d) (hp : d.pending = []) {a : Nat} {bs : List (List UInt8)} (hb : a + bs.length ≤ d.sectors.length) (hc : ∀ c ∈ bs, c.length = 64) (i : Nat) (keep : List Int) {k p : Nat} (hk : k < d.sectors.length) {X : UInt8}
  (hx : (Ui (U1 (YU (XH d a (bs.take i)) keep)) k)[p]? = some X) : (Ui d k)[p]? = some X ∨ (Ui (Yv (XH d a bs)).1 k)[p]? = some X := by
 have hct : ∀ c ∈ bs.take i, c.length = 64 := fun c hcc => hc c (List.mem_of_mem_take hcc)
 have hlt : (bs.take i).length ≤ bs.length := by rw [List.length_take]; omega
 have h1 := X0N (bs.take i) d a hd (by omega) hct
 have h2 := X0N bs d a hd hb hc
 have hsl := (X0n (bs.take i) d a).1
 have hsl2 := (X0n bs d a).1
 obtain ⟨v1, v2, v3, v4⟩ := X0E h1.v
 have hsett : (YC (XH d a (bs.take i)) (Y7 keep)).length = d.sectors.length := by unfold YC; rw [X05, hsl]
 have hcr : YU (XH d a (bs.take i)) keep = ⟨YC (XH d a (bs.take i)) (Y7 keep), [], false⟩ := if_pos h1.v
 have hpv : Yp ⟨YC (XH d a (bs.take i)) (Y7 keep), [], false⟩ = true := by
  have hs : ∀ s ∈ YC (XH d a (bs.take i)) (Y7 keep), s.length = 64 := X0T _ (X13 h1.v) _
  obtain ⟨w1, w2, _⟩ := X0E hd.v
  unfold Yp
  simp only [decide_eq_true_eq]
  exact QQe
 have hpw : U1 (YU (XH d a (bs.take i)) keep) = ⟨YC (XH d a (bs.take i)) (Y7 keep), [], true⟩ := by rw [hcr]; exact if_pos hpv
 rw [hpw] at hx
 rw [X4s rfl (by show k < (YC _ _).length; rw [hsett]; exact hk)] at hx
 have hg : (YA (XH d a (bs.take i)).sectors (XH d a (bs.take i)).pending (Y7 keep) (XH d a (bs.take i)).pending.length)[k]? = some (YC (XH d a (bs.take i)) (Y7 keep))[k] := List.getElem?_eq_getElem (show k < (YC (XH d a (bs.take i)) (Y7 keep)).length by rw [hsett]; exact hk)
 rcases Xb9 (fun w hw => ⟨(v4 w hw).1, (v4 w hw).2.2⟩) _ k p _ X hg hx with ⟨s, hs, hsp⟩ | ⟨j, w, hj, hw, hwk, hwp⟩
 ·left
  rw [X4s hp hk]
  rw [hsl, List.getElem?_eq_getElem hk] at hs
  cases hs
  exact hsp
 ·right
  obtain ⟨b, hbj, rfl⟩ := XgJ (bs.take i) d a j w hp hw
  have hbj2 : bs[j]? = some b := by
   rw [List.getElem?_take] at hbj
   split at hbj
   ·exact hbj
   ·simp at hbj
  have hka : a + j = k := by simp only at hwk; omega
  rw [X9S h2 (by rw [hsl2]; exact hk), ← hka, (X4f bs d a k).2 j b hbj2]
  exact hwp
theorem X5F {d : Disk} (h : DOk d) (keep : List Int) : DOk (U1 (YU d keep)) ∧ (U1 (YU d keep)).sectors.length = d.sectors.length ∧ (U1 (YU d keep)).pending = [] := by
 obtain ⟨w1, w2, _⟩ := X0E h.v
 have hl : (YC d (Y7 keep)).length = d.sectors.length := X05 _ _ _ _
 have hs : ∀ s ∈ YC d (Y7 keep), s.length = 64 := X0T _ (X13 h.v) _
 have hcr : YU d keep = ⟨YC d (Y7 keep), [], false⟩ := if_pos h.v
 have hv : ∀ on : Bool, Yp ⟨YC d (Y7 keep), [], on⟩ = true := fun on => by
  unfold Yp
  simp only [decide_eq_true_eq]
  exact QQe
 have hpw : U1 (YU d keep) = ⟨YC d (Y7 keep), [], true⟩ := by rw [hcr]; exact if_pos (hv false)
 rw [hpw]
 exact ⟨⟨hv true, rfl⟩, hl, rfl⟩
theorem Xe1 {d : Disk} {f t ep tail : Int} {l m : List Rcd} (h : Log d f t ep l tail) (he : (XB d f t ep tail m).2.2 = 0) (hv : ∀ r ∈ l ++ m, X10 r) (i : Nat) (keep : List Int) :
  ∃ k, k ≤ m.length ∧ Uk (U1 (YU (XH d (f.toNat + tail.toNat / 64) ((YI d f t tail (Xg ep m)).take i)) keep)) f t ep = (l ++ m.take k, tail + (Xg ep (m.take k)).length, 0) := by
 have L2 := h.app he
 rw [X0m] at he
 obtain ⟨s1, s2, s3, s4⟩ := X0A he
 obtain ⟨g1, g2, g3⟩ := X2H h.few he
 have hf0 := h.f0
 have hft := h.ft
 have h24 := h.t24
 have hl24 := h.len
 have htl := h.tl
 obtain ⟨k1, k2, k3⟩ := X2p (A := Xg ep m) h.ok hf0 hft (by omega) (by omega) s3
 have hct : ∀ c ∈ (YI d f t tail (Xg ep m)).take i, c.length = 64 := fun c hc => k2 c (List.mem_of_mem_take hc)
 have hlt : ((YI d f t tail (Xg ep m)).take i).length ≤ (YI d f t tail (Xg ep m)).length := by rw [List.length_take]; omega
 have hlw := X0N _ d (f.toNat + tail.toNat / 64) h.ok (by omega) hct
 obtain ⟨c1, c2, c3⟩ := X5F hlw keep
 have hcl : (XH d (f.toNat + tail.toNat / 64) ((YI d f t tail (Xg ep m)).take i)).sectors.length = 24 := by rw [(X0n _ d _).1]; exact hl24
 have hbyte := fun {k p : Nat} (hk : k < d.sectors.length) {X : UInt8} hx => XcC (k := k) (p := p) (X := X) h.ok h.pend k1 k2 i keep hk hx
 rw [← g3] at hbyte
 have hYo := L2.ok
 have hYl := L2.len
 have hstrY := L2.str
 have hroomY := L2.room
 generalize (XB d f t ep tail m).1 = Y at *
 rw [g2] at hroomY
 generalize U1 (YU (XH d (f.toNat + tail.toNat / 64) ((YI d f t tail (Xg ep m)).take i)) keep) = x at *
 have hxl : x.sectors.length = 24 := by omega
 have hN : f.toNat + (t - f).toNat ≤ 24 := by omega
 have hxS : (Xz x f t).length = 64 * (t - f).toNat := by unfold Xz; exact VW c1 _ _ (by omega)
 have hdS := h.str
 have hEl : (Xg ep (l ++ m)).length = (Xg ep l).length + (Xg ep m).length := by rw [X0Z, List.length_append]
 have hb : ∀ (p : Nat) (X : UInt8), (Xz x f t)[p]? = some X → (Xz d f t)[p]? = some X ∨ (Xz Y f t)[p]? = some X := fun p X hX => by
  have hp : p < 64 * (t - f).toNat := by rw [← hxS]; exact (List.getElem?_eq_some_iff.1 hX).1
  unfold Xz at hX ⊢
  rw [X3Z c1 _ _ _ (by omega) hp] at hX
  rw [X3Z h.ok _ _ _ (by omega) hp, X3Z hYo _ _ _ (by omega) hp]
  exact hbyte (by omega) hX
 have hle1 : (Xg ep l).length + (Xg ep m).length ≤ (t - f).toNat * 64 := by omega
 have hZ : X5a ((Xz x f t).drop (Xg ep l).length) (Xg ep m ++ List.replicate ((t - f).toNat * 64 - (Xg ep (l ++ m)).length) 0) := by
  refine ⟨by rw [List.length_drop, hxS, List.length_append, List.length_replicate, hEl]; omega, fun p z y hz hy => ?_⟩
  rw [List.getElem?_drop] at hz
  rcases hb _ z hz with q | q
  ·right
   rw [hdS, List.getElem?_append_right (by omega), List.getElem?_replicate] at q
   split at q
   ·simp at q; exact q.symm
   ·simp at q
  ·left
   rw [hstrY, X0Z, List.append_assoc, List.getElem?_append_right (by omega), Nat.add_sub_cancel_left] at q
   rw [X0Z] at hy
   rw [hy] at q
   simpa using q.symm
 have hfr : (Xz x f t).take (Xg ep l).length = Xg ep l := by
  apply List.ext_getElem?
  intro p
  by_cases hp : p < (Xg ep l).length
  ·rw [List.getElem?_take, if_pos hp]
   have hz : (Xz x f t)[p]? = some (Xz x f t)[p] := List.getElem?_eq_getElem (by omega)
   rcases hb _ _ hz with q | q
   ·rw [hdS, List.getElem?_append_left hp] at q
    rw [hz, q]
   ·rw [hstrY, X0Z, List.append_assoc, List.getElem?_append_left hp] at q
    rw [hz, q]
  ·rw [List.getElem?_take, if_neg hp, List.getElem?_eq_none (by omega)]
 have hsp : XI x f t ep 0 = 0 := by
  unfold XI
  rw [if_neg (by rw [c1.v]; simp), if_neg (by rw [c1.on]; simp), if_neg (by omega), if_neg (by have := h.ep0; have := h.ep1; omega)]
 have hsplit : Xz x f t = Xg ep l ++ (Xz x f t).drop (Xg ep l).length := by
  conv => lhs; rw [← List.take_append_drop (Xg ep l).length (Xz x f t)]
  rw [hfr]
 obtain ⟨k, hk, e⟩ := Xb3 h.ep0 h.ep1 m _ ((Xz x f t).drop (Xg ep l).length) (0 + (Xg ep l).length) (((Xz x f t).drop (Xg ep l).length).length + 1) (fun r hr => hv r (by simp [hr])) hZ (Nat.lt_succ_self _)
 refine ⟨k, hk, ?_⟩
 have hsf := X50 h.ep0 h.ep1 l ((Xz x f t).drop (Xg ep l).length) 0 ((Xz x f t).length + 1) (((Xz x f t).drop (Xg ep l).length).length + 1) (fun r hr => hv r (by simp [hr])) (by rw [← hsplit]; exact Nat.lt_succ_self _) (Nat.lt_succ_self _)
 rw [← hsplit, e] at hsf
 unfold Uk X0P
 rw [if_neg (by rw [hsp]; simp), hsf]
 refine Prod.ext rfl (Prod.ext ?_ rfl)
 simp only
 omega
theorem Log.trace {d : Disk} {f t ep tail : Int} {l m : List Rcd} (h : Log d f t ep l tail) (he : (XB d f t ep tail m).2.2 = 0) :
  (Xr d f t ep tail m).1.length = (YI d f t tail (Xg ep m)).length + 2 ∧
  (∀ i, i ≤ (YI d f t tail (Xg ep m)).length → (Xr d f t ep tail m).1[i]? = some (XH d (f.toNat + tail.toNat / 64) ((YI d f t tail (Xg ep m)).take i))) ∧
  (Xr d f t ep tail m).1[(YI d f t tail (Xg ep m)).length + 1]? = some (XB d f t ep tail m).1 := by
 rw [X0m] at he
 obtain ⟨s1, s2, s3, s4⟩ := X0A he
 obtain ⟨g1, g2, g3⟩ := X2H h.few he
 rw [g3, s4]
 unfold VK
 simp only
 generalize YI d f t tail (Xg ep m) = C
 generalize f.toNat + tail.toNat / 64 = a
 have hrl := X3s C d a
 refine ⟨by rw [List.length_append, hrl]; rfl, fun i hi => ?_, by rw [List.getElem?_append_right (by omega), hrl, Nat.sub_self]; rfl⟩
 rw [List.getElem?_append_left (by omega)]
 clear s1 s2 s3 s4 g1 g2 g3 he hrl h
 induction C generalizing d a i with
 | nil =>
  obtain rfl : i = 0 := by simpa using hi
  rfl
 | cons b C ih =>
  cases i with
  | zero => rfl
  | succ i =>
   rw [Va, List.getElem?_cons_succ, List.take_succ_cons, XH]
   exact ih _ _ (by simpa using hi)
theorem Log.crash {d : Disk} {f t ep tail : Int} {l : List Rcd} (h : Log d f t ep l tail) (keep : List Int) : Log (U1 (YU d keep)) f t ep l tail := by
 obtain ⟨c1, c2, c3⟩ := X5F h.ok keep
 have h4 := h.len
 have hs : (U1 (YU d keep)).sectors = d.sectors := by
  obtain ⟨w1, w2, _⟩ := X0E h.ok.v
  have hcr : YU d keep = ⟨YC d (Y7 keep), [], false⟩ := if_pos h.ok.v
  have hse : YC d (Y7 keep) = d.sectors := by
   unfold YC
   rw [h.pend]
   rfl
  have hp : ∀ x : Disk, (U1 x).sectors = x.sectors := fun x => by
   unfold U1
   split <;> rfl
  rw [hp, hcr]
  exact hse
 refine ⟨c1, ⟨by omega, by rw [c3]; simp⟩, c3, by omega, h.f0, h.ft, h.t24, h.ep0, h.ep1, h.tl, h.room, ?_, h.ents⟩
 rw [← h.str]
 unfold Xz
 have hf0 := h.f0; have hft := h.ft; have ht24 := h.t24
 refine X4Z c1 h.ok c2.symm _ _ (by omega) fun k _ hk => ?_
 rw [X4s c3 (by omega), X4s h.pend (by omega)]
 simp only [hs]
theorem Log.torn {d : Disk} {f t ep tail : Int} {l m : List Rcd} (h : Log d f t ep l tail) (he : (XB d f t ep tail m).2.2 = 0) (hv : ∀ r ∈ l ++ m, (U7 r).length ≤ 60000) (i : Nat) (hi : i < (Xr d f t ep tail m).1.length) (keep : List Int) :
  ∃ x k, (Xr d f t ep tail m).1[i]? = some x ∧ k ≤ m.length ∧ (i + 1 = (Xr d f t ep tail m).1.length → k = m.length) ∧
   Uk (U1 (YU x keep)) f t ep = (l ++ m.take k, tail + (Xg ep (m.take k)).length, 0) := by
 obtain ⟨t1, t2, t3⟩ := h.trace he
 have hem : Y2 m = 0 := by
  rw [h.err] at he
  by_cases q : Y2 m = 0
  ·exact q
  ·rw [if_pos q] at he; exact he
 have hlv : ∀ r ∈ l ++ m, X10 r := fun r hr => ⟨X3i (X70 h.ents hem) r hr, hv r hr⟩
 rw [t1] at hi ⊢
 by_cases hl : i ≤ (YI d f t tail (Xg ep m)).length
 ·obtain ⟨k, hk, e⟩ := Xe1 h he hlv i keep
  exact ⟨_, k, t2 i hl, hk, fun q => by omega, e⟩
 ·obtain rfl : i = (YI d f t tail (Xg ep m)).length + 1 := by omega
  have L2 := (h.app he).crash keep
  refine ⟨_, m.length, t3, Nat.le_refl _, fun _ => rfl, ?_⟩
  rw [List.take_length, L2.scan hv]
  rw [X0m] at he
  obtain ⟨g1, g2, g3⟩ := X2H h.few he
  rw [g2]
theorem X7G : ∀ {l : List Rcd}, (∀ r ∈ l, Yy r = 0) → Y2 l = 0
 | [], _ => rfl
 | r :: l, h => by
  rw [Y2, if_neg (by rw [h r (by simp)]; simp)]
  exact X7G fun x hx => h x (by simp [hx])
theorem Xij {l : List Rcd} (h : Y2 l = 0) (k : Nat) : Y2 (l.take k) = 0 :=
 X7G fun r hr => X3i h r (List.mem_of_mem_take hr)
theorem Log.steps {d : Disk} {f t ep tail : Int} {l m : List Rcd} (h : Log d f t ep l tail) (he : (XB d f t ep tail m).2.2 = 0) {i : Nat} {x : Disk} (hx : (Xr d f t ep tail m).1[i]? = some x) (keep : List Int) :
  UE x ∧ UE (YU x keep) ∧ YW (U1 (YU x keep)) := by
 rw [X0m] at he
 obtain ⟨k1, k2, k3⟩ := X8R h.few he x (List.mem_of_getElem? hx)
 obtain ⟨c1, c2, c3⟩ := X5F k1 keep
 have hlen := h.len
 have hw : YW (U1 (YU x keep)) := ⟨by rw [c2, k3, hlen]; omega, by rw [c3]; simp⟩
 have hp : ∀ y : Disk, (U1 y).sectors = y.sectors ∧ (U1 y).pending = y.pending := fun y => by
  unfold U1
  split <;> exact ⟨rfl, rfl⟩
 have hL := X4z c1.v hw
 have hs := hp (YU x keep)
 generalize YU x keep = y at *
 refine ⟨k2, ?_, hw⟩
 obtain ⟨a1, a2, a3, a4⟩ := hL
 rw [hs.1] at a1 a3
 rw [hs.2] at a2 a4
 exact ⟨a1, a2, a3, a4⟩
end Go.Fw

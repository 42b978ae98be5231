/- Numbers compared by their digits, in plain Lean. -/
import Derived.Test.YtonekjkmnhfjmaaGreatDoorK36
set_option maxHeartbeats 32000000
namespace Go.Fw
open Go
set_option linter.unusedVariables false
set_option linter.unusedSimpArgs false
def Uf (x y : List Nat) : Nat → Int
 | 0 => 0
 | k + 1 => if (x[k]?).getD 0 < (y[k]?).getD 0 then -1 else if (y[k]?).getD 0 < (x[k]?).getD 0 then 1 else Uf x y k
theorem X8r {x y : List Nat} : ∀ {k : Nat}, Uf x y k = 0 → ∀ j, j < k → (x[j]?).getD 0 = (y[j]?).getD 0
 | 0, _, j, hj => by omega
 | k + 1, h, j, hj => by
  rw [Uf] at h
  split at h
  ·simp at h
  ·split at h
   ·simp at h
   ·by_cases q : j = k
    ·subst q; omega
    ·exact X8r h j (by omega)
theorem X8P (x : List Nat) : ∀ k, Uf x x k = 0
 | 0 => rfl
 | k + 1 => by rw [Uf, if_neg (by omega), if_neg (by omega)]; exact X8P x k
theorem XaO : ∀ {n a b : Nat}, a < 1000 ^ n → b < 1000 ^ n → Yx n a = Yx n b → a = b
 | 0, a, b, ha, hb, _ => by simp at ha hb; omega
 | n + 1, a, b, ha, hb, h => by
  simp only [Yx, List.cons.injEq] at h
  have := XaO (n := n) (a := a / 1000) (b := b / 1000) (by rw [Nat.pow_succ] at ha; omega) (by rw [Nat.pow_succ] at hb; omega) h.2
  omega
theorem Xhr {x y : List Nat} (hl : x.length = y.length) (h : Uf x y x.length = 0) : x = y := by
 apply List.ext_getElem hl
 intro i h1 h2
 have := X8r h i h1
 rw [List.getElem?_eq_getElem h1, List.getElem?_eq_getElem h2] at this
 exact this
def UE (x y : List Nat) : Nat → List Nat × Nat
 | 0 => (List.replicate x.length 0, 0)
 | k + 1 => let p := UE x y k; let a := (x[k]?).getD 0; let b := (y[k]?).getD 0 + p.2; (p.1.set k (if a < b then a + 1000 - b else a - b), if a < b then 1 else 0)
theorem XbQ (x y : List Nat) : ∀ k, (UE x y k).1.length = x.length
 | 0 => by simp [UE]
 | k + 1 => by simp only [UE, List.length_set]; exact XbQ x y k
theorem XfO (x y : List Nat) : ∀ k, (UE x y k).2 ≤ 1
 | 0 => by simp [UE]
 | k + 1 => by simp only [UE]; split <;> omega
def VF (x y : List Nat) : List Nat := (UE x y x.length).1
def X22 (n m : Int) : Int :=
 let a := Yi n; let b := -Yi m
 if a = b ∨ b = 0 then a else if a = 0 then b else
  let c := Uf (Yx 14 (n.natAbs * 1)) (Yx 14 (m.natAbs * 1)) 14
  if c = 0 then 0 else if 0 < c then a else b
theorem X0Y (n : Int) : (n < 0 ∧ Yi n = -1) ∨ (0 < n ∧ Yi n = 1) ∨ (n = 0 ∧ Yi n = 0) := by
 unfold Yi
 split
 ·exact .inl ⟨by assumption, rfl⟩
 ·split
  ·exact .inr (.inl ⟨by assumption, rfl⟩)
  ·exact .inr (.inr ⟨by omega, rfl⟩)
theorem XcV {n m : Int} (hn : n.natAbs ≤ 1000000000000000) (hm : m.natAbs ≤ 1000000000000000) : decide (X22 n m = 0) = decide (n = m) := by
 rw [decide_eq_decide]
 unfold X22
 simp only
 have e14 : (1000 : Nat) ^ 14 = 1000000000000000000000000000000000000000000 := by decide
 constructor
 ·intro h
  split at h
  ·rename_i q
   rcases X0Y n with ⟨a, e⟩ | ⟨a, e⟩ | ⟨a, e⟩ <;> rcases X0Y m with ⟨b, f⟩ | ⟨b, f⟩ | ⟨b, f⟩ <;> omega
  ·split at h
   ·rcases X0Y n with ⟨a, e⟩ | ⟨a, e⟩ | ⟨a, e⟩ <;> rcases X0Y m with ⟨b, f⟩ | ⟨b, f⟩ | ⟨b, f⟩ <;> omega
   ·split at h
    ·rename_i q1 q2 q3
     have h1 := Xhr (x := Yx 14 (n.natAbs * 1)) (y := Yx 14 (m.natAbs * 1)) (by rw [X0S, X0S]) (by rw [X0S]; exact q3)
     have h2 := XaO (by omega) (by omega) h1
     rcases X0Y n with ⟨a, e⟩ | ⟨a, e⟩ | ⟨a, e⟩ <;> rcases X0Y m with ⟨b, f⟩ | ⟨b, f⟩ | ⟨b, f⟩ <;> omega
    ·split at h <;> rcases X0Y n with ⟨a, e⟩ | ⟨a, e⟩ | ⟨a, e⟩ <;> rcases X0Y m with ⟨b, f⟩ | ⟨b, f⟩ | ⟨b, f⟩ <;> omega
 ·rintro rfl
  rcases X0Y n with ⟨a, e⟩ | ⟨a, e⟩ | ⟨a, e⟩ <;> rw [e] <;> simp [X8P]
open Go Go.Proofs
set_option maxRecDepth 100000
theorem Xho (x y : List Nat) (hl : y.length = x.length) (hx : x.length ≤ 1000) : Con Tryz.prog 303 [] [.d (Yn x), .d (Yn y)] [] (ai (Uf x y x.length)) := by
 refine Xc (xs := [ai (Uf x y x.length)]) Tryz.func303 rfl Tryz.ntmps303 rfl rfl rfl (fun E => ?_)
 have hlx : (x.map XZ).length = x.length := by simp
 generalize hG : Uf x y x.length = G
 refine QU ?_; refine Z3 ?_; refine Z03 ?_; refine Qb ?_; refine X4 ?_
 refine Xz (fun i : Nat => i ≤ x.length ∧ Uf x y i = G) (fun i => ⟨31, [(0, .d (Yn x)), (1, .d (Yn y)), (5, ai ((i : Int) - 1))], []⟩) (fun i => i) x.length ⟨Nat.le_refl _, hG⟩
  (X6 rfl ⟨JL, JL, JL, trivial⟩ trivial) ?_
 rintro i ⟨hi, hg⟩
 cases i with
 | zero =>
  rw [Uf] at hg
  subst hg
  refine Qh ?_; refine Zm ?_; refine Qab ?_; exact QY
 | succ j =>
  have e : (((j + 1 : Nat) : Int) - 1) = (j : Int) := by omega
  rw [e]
  obtain ⟨a, ha⟩ := Xs (l := x) (k := j) (by omega)
  obtain ⟨b, hb⟩ := Xs (l := y) (k := j) (by omega)
  have hxm : (x.map XZ)[j]? = some (XZ a) := Xx ha
  have hym : (y.map XZ)[j]? = some (XZ b) := Xx hb
  rw [Uf, ha, hb] at hg
  simp only [Option.getD_some] at hg
  clear ha hb
  by_cases h1 : a < b
  ·have h1' : (a : Int) < (b : Nat) := by omega
   rw [if_pos h1] at hg
   subst hg
   refine Qh ?_; refine Zm ?_; refine Qbb ?_; refine Ql ?_; refine Qhc ?_; refine Qq ?_; refine Qhc ?_; refine Zq ?_; exact QZ
  have h1' : ¬ (a : Int) < (b : Nat) := by omega
  rw [if_neg h1] at hg
  by_cases h2 : b < a
  ·have h2' : (b : Int) < (a : Nat) := by omega
   rw [if_pos h2] at hg
   subst hg
   refine QSd ?_; exact QZ
  have h2' : ¬ (b : Int) < (a : Nat) := by omega
  rw [if_neg h2] at hg
  refine QSd ?_; refine Qj ?_; refine Qfb ?_; refine Z03 ?_; refine Qb ?_; exact ⟨j, ⟨by omega, hg⟩, by omega, X6 rfl ⟨JL, JL, JL, trivial⟩ trivial⟩
theorem X9t (x y : List Nat) (hx : V3 x) (hy : V3 y) (hl : y.length = x.length) (hn : x.length ≤ 1000) : Con Tryz.prog 304 [] [.d (Yn x), .d (Yn y)] [] (.d (Yn (VF x y))) := by
 have hlx : (x.map XZ).length = x.length := by simp
 have own : Con Tryz.prog 304 [] [.d (Yn x), .d (Yn y)] [(130, .row 1 ((VF x y).map XZ))] (.own 130 ((VF x y).map XZ).length) := by
  refine Xc (xs := [.own 130 ((VF x y).map XZ).length]) Tryz.func304 rfl Tryz.ntmps304 rfl rfl rfl (fun E => ?_)
  refine QB ?_; refine Z3 ?_; refine Zv (γ := 130) ?_; refine Qb ?_; refine QXc ?_
  refine Xz (fun k : Nat => k ≤ x.length) (fun k => ⟨40, [(0, .d (Yn x)), (1, .d (Yn y)), (5, .own 130 (x.map XZ).length), (6, ai (-((UE x y k).2 : Nat) : Int)), (7, ai k)], [(130, .row 1 ((UE x y k).1.map XZ))]⟩) (fun k => x.length - k) 0 (by omega)
   (X6 rfl ⟨JL, JL, JL, JL, JL, trivial⟩ ⟨?_, trivial⟩) ?_
  ·refine congrArg (AObj.row 1) ?_; refine Eq.trans (b := List.replicate (x.map XZ).length (XZ 0)) rfl ?_; rw [hlx]; exact X8c x.length
  intro k hk
  have hpl := XbQ x y k
  have hpm : ((UE x y k).1.map XZ).length = x.length := by rw [List.length_map, hpl]
  by_cases hkx : k < x.length
  case neg =>
   obtain rfl : k = x.length := by omega
   refine Qgd ?_; refine Qzb ?_; exact X1 ⟨_, Xr 4 (y := .own 130 ((VF x y).map XZ).length) (AVal.le_of_eq (by refine Eq.trans (b := .own 130 (x.map XZ).length) rfl ?_; congr 1; rw [hlx]; exact hpm.symm)), ⟨rfl, trivial⟩, XX ⟨rfl, trivial⟩⟩
  obtain ⟨a, ha⟩ := Xs (l := x) hkx
  obtain ⟨b, hb⟩ := Xs (l := y) (k := k) (by omega)
  have hxm : (x.map XZ)[k]? = some (XZ a) := Xx ha
  have hym : (y.map XZ)[k]? = some (XZ b) := Xx hb
  have hc := XfO x y k
  have ha1 := X1B hx ha
  have hb1 := X1B hy hb
  have hsucc : UE x y (k + 1) = ((UE x y k).1.set k (if a < b + (UE x y k).2 then a + 1000 - (b + (UE x y k).2) else a - (b + (UE x y k).2)), if a < b + (UE x y k).2 then 1 else 0) := by
   simp only [UE, ha, hb, Option.getD_some]
  clear ha hb
  generalize UE x y k = p at *
  obtain ⟨l, c⟩ := p
  simp only at hpl hpm hc hsucc
  have n1 : Xv (-(c : Nat) + (a : Nat)) := by unfold Xv; omega
  have n2 : Xv (-(c : Nat) + (a : Nat) - (b : Nat)) := by unfold Xv; omega
  by_cases hlt : a < b + c
  ·have h1' : (-(c : Nat) + (a : Nat) - (b : Nat) : Int) < 0 := by omega
   have e1 : (-(c : Nat) + (a : Nat) - (b : Nat) : Int) + 1000 = ((a + 1000 - (b + c) : Nat) : Int) := by omega
   rw [if_pos hlt, if_pos hlt] at hsucc
   generalize a + 1000 - (b + c) = z at *
   have n3 : Xv ((-(c : Nat) + (a : Nat) - (b : Nat) : Int) + 1000) := by unfold Xv; omega
   refine QZc ?_; refine Qr ?_; refine Qhc ?_; refine Qrh ?_; refine Qq ?_; refine Qhc ?_; refine Zp (op := .sub) (r' := .int .i64 (-(c : Nat) + (a : Nat) - (b : Nat) : Int)) (u := .int .i64 (-(c : Nat) + (a : Nat) : Int)) (v := .int .i64 (b : Nat)) ?_ (hr := by exact XQ n2); refine QC ?_; refine Zq ?_; refine Qv ?_; refine Qq ?_; refine Z9 (op := .add) (r' := .int .i64 (z : Nat)) (u := .int .i64 (-(c : Nat) + (a : Nat) - (b : Nat) : Int)) (v := .int .i64 1000) ?_ (hr' := by exact congrArg (Value.int .i64) e1) (hr := by exact Yk n3); refine Z00 ?_; refine Z01 ?_; refine JD ?_; refine JR ?_; refine Qb ?_; refine Qgb ?_
   refine ⟨k + 1, by omega, by omega, ?_⟩
   dsimp only
   rw [hsucc]
   refine X6 rfl ⟨JL, JL, JL, JL, JL, trivial⟩ ⟨?_, trivial⟩
   exact congrArg (AObj.row 1) (X54 (by omega))
  ·have h1' : ¬ (-(c : Nat) + (a : Nat) - (b : Nat) : Int) < 0 := by omega
   have e1 : (-(c : Nat) + (a : Nat) - (b : Nat) : Int) = ((a - (b + c) : Nat) : Int) := by omega
   rw [if_neg hlt, if_neg hlt] at hsucc
   generalize a - (b + c) = z at *
   rw [e1] at h1'
   refine QZc ?_; refine Qr ?_; refine Qhc ?_; refine Qrh ?_; refine Qq ?_; refine Qhc ?_; refine Z9 (op := .sub) (r' := .int .i64 (z : Nat)) (u := .int .i64 (-(c : Nat) + (a : Nat) : Int)) (v := .int .i64 (b : Nat)) ?_ (hr' := by exact congrArg (Value.int .i64) e1) (hr := by exact XQ n2); refine QC ?_; refine Zq ?_; refine JD ?_; refine JF ?_; refine Qr ?_; refine Z00 ?_; refine Z01 ?_; refine JD ?_; refine JR ?_; refine Qb ?_; refine Qgb ?_
   refine ⟨k + 1, by omega, by omega, ?_⟩
   dsimp only
   rw [hsucc]
   refine X6 rfl ⟨JL, JL, JL, JL, JL, trivial⟩ ⟨?_, trivial⟩
   exact congrArg (AObj.row 1) (X54 (by omega))
 exact own.data (by simp)
theorem XfS (s b : Int) (x y : List Nat) (hx : V3 x) (hy : V3 y) (hl : x.length = 14) (hm : y.length = 14) : Con Tryz.prog 244 [] [ai s, .d (Yn x), ai b, .d (Yn y)] [] (.tup [ai (if s = b ∨ b = 0 then s else if s = 0 then b else if Uf x y x.length = 0 then 0 else if 0 < Uf x y x.length then s else b), .d (Yn (if s = b ∨ b = 0 then UJ x y else if s = 0 then y else if Uf x y x.length = 0 then UJ UU UU else if 0 < Uf x y x.length then VF x y else VF y x))]) := by
 refine Xc (xs := [ai (if s = b ∨ b = 0 then s else if s = 0 then b else if Uf x y x.length = 0 then 0 else if 0 < Uf x y x.length then s else b), .d (Yn (if s = b ∨ b = 0 then UJ x y else if s = 0 then y else if Uf x y x.length = 0 then UJ UU UU else if 0 < Uf x y x.length then VF x y else VF y x))]) Tryz.func244 rfl Tryz.ntmps244 rfl rfl rfl (fun E => ?_)
 have hp := X52 x y hx hy (by omega) (by omega)
 have hz := X52 UU UU (X3b 14) (X3b 14) rfl (by decide)
 have ho := Xho x y (by omega) (by omega)
 have h1 := X9t x y hx hy (by omega) (by omega)
 have h2 := X9t y x hy hx (by omega) (by omega)
 generalize Uf x y x.length = c at *
 generalize UJ x y = p at *
 generalize UJ UU UU = z at *
 generalize VF x y = m1 at *
 generalize VF y x = m2 at *
 by_cases c1 : s = b
 ·rw [if_pos (.inl c1), if_pos (.inl c1)]
  refine QTd ?_; refine Z4 ?_; refine QJ ?_; refine ZB ?_; exact QVd
 by_cases c2 : b = 0
 ·rw [if_pos (.inr c2), if_pos (.inr c2)]
  refine QTd ?_; refine QWa ?_; exact QVd
 have hc : ¬ (s = b ∨ b = 0) := fun h => h.elim c1 c2
 rw [if_neg hc, if_neg hc]
 by_cases c3 : s = 0
 ·rw [if_pos c3, if_pos c3]
  refine QTd ?_; refine Z4 ?_; refine QVa ?_; refine Qga ?_; refine Qh ?_; refine Z4 ?_; refine Qm ?_; refine Qe ?_; exact QUd
 rw [if_neg c3, if_neg c3]
 by_cases c4 : c = 0
 ·rw [if_pos c4, if_pos c4]
  exact QXd
 rw [if_neg c4, if_neg c4]
 by_cases c5 : 0 < c
 ·rw [if_pos c5, if_pos c5]
  refine QWd ?_; refine Qk ?_; refine QFb ?_; refine Qv ?_; refine Qq ?_; refine QAb ?_; exact QUd
 rw [if_neg c5, if_neg c5]
 refine QWd ?_; refine Qk ?_; refine QFb ?_; refine Qj ?_; refine Qr ?_; refine Zr (hcon := h2) ?_; exact QUd
theorem XhV (n m : Int) (hn : n.natAbs ≤ 1000000000000000) (hm : m.natAbs ≤ 1000000000000000) : Con Tryz.prog 185 [] [UA n 1, UA m 1] [] (ai (X22 n m)) := by
 refine Xc (xs := [ai (X22 n m)]) Tryz.func185 rfl Tryz.ntmps185 rfl rfl rfl (fun E => ?_)
 have hv := X3O n 1
 have hw := X3O m 1
 rw [show UX n 1 = true by unfold UX; simp; omega] at hv
 rw [show UX m 1 = true by unfold UX; simp; omega] at hw
 have s1 := X3N n
 have s2 := X3N m
 have z1 := X30 n (by omega)
 have z2 := X30 m (by omega)
 have t1 := X3Q n.natAbs 1 (by omega) (by omega)
 have t2 := X3Q m.natAbs 1 (by omega) (by omega)
 have hs := XfS (Yi n) (-Yi m) (Yx 14 (n.natAbs * 1)) (Yx 14 (m.natAbs * 1)) (X3s _ _) (X3s _ _) (X0S _ _) (X0S _ _)
 rw [X0S] at hs
 have hr1 := X73 n
 have hr2 := X73 m
 unfold X22
 simp only
 generalize hd1 : Yx 14 (n.natAbs * 1) = x at *
 generalize hd2 : Yx 14 (m.natAbs * 1) = y at *
 generalize Uf x y 14 = c at *
 generalize (if Yi n = -Yi m ∨ -Yi m = 0 then Yi n else if Yi n = 0 then -Yi m else if c = 0 then 0 else if 0 < c then Yi n else -Yi m) = res at *
 generalize (if Yi n = -Yi m ∨ -Yi m = 0 then UJ x y else if Yi n = 0 then y else if c = 0 then UJ UU UU else if 0 < c then VF x y else VF y x) = mag at *
 generalize Yi n = sa at *
 generalize Yi m = sb at *
 generalize n.natAbs = N at *
 generalize m.natAbs = M at *
 have q1 : -1 ≤ sb ∧ sb ≤ 1 := by omega
 clear hr1 hr2 hd1 hd2
 refine Qae ?_; refine Qce ?_; refine QZd ?_; refine Zr (hcon := hw) ?_; refine QUc ?_; refine QJb ?_; refine Zr (hcon := s1) ?_; refine QIb ?_; refine Zr (hcon := z1) ?_; refine QIb ?_; refine Zr (hcon := t1) ?_; refine QIb ?_; refine Zr (hcon := s2) ?_; refine Zd ?_; refine QIb ?_; refine Zr (hcon := z2) ?_; refine QIb ?_; refine Zr (hcon := t2) ?_; refine Zr (hcon := hs) ?_; refine Qfe ?_; exact QCb
theorem Xcv : X0b Tryz.prog 205 = some [.i .i64, .i .i64] := by kernel_rfl
theorem X6k (b : Bool) : Con Tryz.prog 329 [] [ab b] [] (ai (if b then 2 else 0)) := by
 refine Xc (xs := [ai (if b then 2 else 0)]) Tryz.func329 rfl Tryz.ntmps329 rfl rfl rfl (fun E => ?_)
 cases b with
 | true =>
  refine QU ?_; exact QZ
 | false =>
  refine QU ?_; exact QMd
theorem X9I (v : Val) (h : XV v = true) : Con Tryz.prog 328 [] [Xm v] [] (.tup [UA (if v.kind = 2 then v.n else 0) (if v.kind = 2 then 1 else 0), ab (decide (v.kind = 2))]) := by
 refine Xc (xs := [UA (if v.kind = 2 then v.n else 0) (if v.kind = 2 then 1 else 0), ab (decide (v.kind = 2))]) Tryz.func328 rfl Tryz.ntmps328 rfl rfl rfl (fun E => ?_)
 have hv := X2i v
 obtain ⟨k, n, d, s, l⟩ := v
 obtain ⟨p1, p2, p3, p4, p5, p6, p7, p8⟩ := X0Z h
 rw [p1] at hv
 simp only [Xm, Val.kind, Val.n] at hv ⊢
 clear h p1
 by_cases hk : k = 2
 ·subst hk
  simp only [if_true, eq_self_iff_true, decide_true]
  refine Qoe ?_; refine Qb ?_; refine Qma ?_; refine QCc ?_; refine QCe ?_; refine Qme ?_; refine QJb ?_; refine ZJ ?_; refine QCa ?_
  (show AWP Tryz.prog E _ _ _; refine X1 ?_; exact (show Xd _ _ _ _ _ from ⟨_, St.le_refl _, ⟨⟨101, 0, _, rfl, rfl, .inr ⟨2, _, rfl, rfl, rfl, rfl⟩⟩, rfl, trivial⟩, X3 _⟩))
 simp only [hk, if_false, decide_false]
 have h3 : k ≠ 3 := by omega
 refine Qoe ?_; refine Qb ?_; refine Qma ?_; refine QCc ?_; refine QJ ?_; refine QVe ?_; refine QCc ?_; refine QJ ?_; refine QVe ?_; refine X2 ?_; refine QDa ?_
 (show AWP Tryz.prog E _ _ _; refine X1 ?_; exact (show Xd _ _ _ _ _ from ⟨_, St.le_refl _, ⟨⟨101, 0, _, rfl, rfl, .inr ⟨2, _, rfl, rfl, rfl, rfl⟩⟩, rfl, trivial⟩, X3 _⟩))
theorem Xh3 (a b : Val) (ha : XV a = true) (hb : XV b = true) : Con Tryz.prog 306 [] [Xm a, Xm b] [] (ai (if eqV a b then 2 else 0)) := by
 refine Xc (xs := [ai (if eqV a b then 2 else 0)]) Tryz.func306 rfl Tryz.ntmps306 rfl rfl rfl (fun E => ?_)
 have na := X9I a ha
 have nb := X9I b hb
 obtain ⟨e, he⟩ : ∃ e, e = eqV a b := ⟨_, rfl⟩
 rw [← he]
 obtain ⟨k, n, d, s, l⟩ := a
 obtain ⟨k', n', d', s', l'⟩ := b
 obtain ⟨p1, p2, p3, p4, p5, p6, p7, p8⟩ := X0Z ha
 obtain ⟨q1, q2, q3, q4, q5, q6, q7, q8⟩ := X0Z hb
 skip
 skip
 skip
 unfold eqV at he
 simp only [Xm, Val.kind, Val.n, Val.d, Val.s] at *
 clear ha hb p1 q1
 have hk0 : k ≠ 0 := by omega
 have hk0' : k' ≠ 0 := by omega
 have hk8 : k ≠ 8 := by omega
 have hk7 : k ≠ 7 := by omega
 by_cases ck : k = k'
 case neg =>
  obtain rfl : e = false := he.trans (decide_eq_false (fun h => ck h.1))
  clear he
  by_cases c2 : k = 2
  ·have c2' : ¬ k' = 2 := fun e => ck (by omega)
   subst c2
   simp only [if_true, eq_self_iff_true, decide_true] at na
   simp only [c2', if_false, decide_false] at nb
   simp only [UA] at na nb
   refine Qsh ?_; refine Qr ?_; refine QPa ?_; refine JF ?_; refine Qje ?_; refine ZH ?_; refine Qb ?_; refine JT ?_; refine Qc ?_
   (show AWP Tryz.prog E _ _ _; refine X1 ?_; exact (show Xd _ _ _ _ _ from ⟨_, St.le_refl _, ⟨rfl, trivial⟩, X3 _⟩))
  simp only [c2, if_false, decide_false] at na
  generalize (if k' = 2 then n' else 0) = z1 at *
  generalize (if k' = 2 then (1 : Int) else 0) = z2 at *
  generalize decide (k' = 2) = z3 at *
  simp only [UA] at na nb
  refine Qth ?_; refine Qb ?_; refine JT ?_; refine Qc ?_
  (show AWP Tryz.prog E _ _ _; refine X1 ?_; exact (show Xd _ _ _ _ _ from ⟨_, St.le_refl _, ⟨rfl, trivial⟩, X3 _⟩))
 subst ck
 by_cases c2 : k = 2
 ·subst c2
  simp only [if_true, eq_self_iff_true, decide_true] at na nb
  obtain rfl : s = [] := p5 (by omega)
  obtain rfl : s' = [] := q5 (by omega)
  have hy := X6k (decide (n = n'))
  obtain rfl : e = decide (n = n') := he.trans (by simp)
  clear he
  simp only [UA] at na nb
  have hz : Vc [.int .i64 n, .int .i64 1] [.int .i64 n', .int .i64 1] = decide (n = n') := by rw [Bool.eq_iff_iff]; simp [Vc, X0k]
  refine Qsh ?_; refine Qr ?_; refine Qme ?_; refine Qne ?_; refine Z0z (us := [.int .i64 n, .int .i64 1]) (vs := [.int .i64 n', .int .i64 1]) (r := decide (n = n')) ?_ (hk := by exact Xcv) (hr := by exact hz); refine Quh ?_
  (show AWP Tryz.prog E _ _ _; refine X1 ?_; exact (show Xd _ _ _ _ _ from ⟨_, St.le_refl _, ⟨rfl, trivial⟩, X3 _⟩))
 simp only [c2, if_false, decide_false] at na nb
 simp only [UA] at na nb
 by_cases hn : n = n'
 ·have hy := X6k (decide (s = s'))
  obtain rfl : e = decide (s = s') := he.trans (by simp [hn])
  clear he
  refine Qth ?_; refine Qb ?_; refine JF ?_; refine QJb ?_; refine ZH ?_; refine Qoc ?_; refine Qme ?_; refine Qje ?_; refine Z4 ?_; refine QRb ?_; refine ZF ?_; refine ZB ?_; refine Quh ?_
  (show AWP Tryz.prog E _ _ _; refine X1 ?_; exact (show Xd _ _ _ _ _ from ⟨_, St.le_refl _, ⟨rfl, trivial⟩, X3 _⟩))
 ·have hy := X6k false
  obtain rfl : e = false := he.trans (by simp [hn])
  clear he
  rw [show (if false = true then (2 : Int) else 0) = 0 from rfl] at hy
  refine Qth ?_; refine Qb ?_; refine JF ?_; refine QJb ?_; refine ZH ?_; refine Qoc ?_; refine Qme ?_; refine Qje ?_; refine Z4 ?_; refine QW ?_; refine Qra ?_; refine Quh ?_
  (show AWP Tryz.prog E _ _ _; refine X1 ?_; exact (show Xd _ _ _ _ _ from ⟨_, St.le_refl _, ⟨rfl, trivial⟩, X3 _⟩))
theorem XcJ (a b : Val) (ha : XV a = true) (hb : XV b = true) (oa : Ym a) (ob : Ym b) : Con Tryz.prog 261 [] [Xm a, Xm b] [] (ai (if eqV a b then 2 else 0)) := by
 refine Xc (xs := [ai (if eqV a b then 2 else 0)]) Tryz.func261 rfl Tryz.ntmps261 rfl rfl rfl (fun E => ?_)
 have va := X1u a oa
 have vb := X1u b ob
 have na := X68 a oa
 have nb := X68 b ob
 unfold X04 X7A at na nb
 obtain ⟨e, he⟩ : ∃ e, e = eqV a b := ⟨_, rfl⟩
 rw [← he]
 obtain ⟨k, n, d, s, l⟩ := a
 obtain ⟨k', n', d', s', l'⟩ := b
 obtain ⟨p1, p2, p3, p4, p5, p6, p7, p8⟩ := X0Z ha
 obtain ⟨q1, q2, q3, q4, q5, q6, q7, q8⟩ := X0Z hb
 rw [p1] at va na
 rw [q1] at vb nb
 rw [if_neg (by simp)] at na nb
 unfold eqV at he
 simp only [Xm, Val.kind, Val.n, Val.d, Val.s] at *
 clear ha hb p1 q1 oa ob
 have hk0 : k ≠ 0 := by omega
 have hk0' : k' ≠ 0 := by omega
 have hk8 : k ≠ 8 := by omega
 have hk7 : k ≠ 7 := by omega
 by_cases ck : k = k'
 case neg =>
  obtain rfl : e = false := he.trans (decide_eq_false (fun h => ck h.1))
  clear he
  by_cases c2 : k = 2
  ·have c2' : ¬ k' = 2 := fun e => ck (by omega)
   have c3' : ¬ k' = 3 := by omega
   subst c2
   simp only [if_true, eq_self_iff_true, UA] at na
   simp only [c2', c3', if_false, UA] at nb
   refine Qwh ?_; refine Qh ?_; refine Qq ?_; refine ZB ?_; refine Qj ?_; refine Que ?_; refine ZH ?_; refine Qcf ?_
   (show AWP Tryz.prog E _ _ _; refine X1 ?_; exact (show Xd _ _ _ _ _ from ⟨_, St.le_refl _, ⟨rfl, trivial⟩, X3 _⟩))
  have c3 : ¬ k = 3 := by omega
  simp only [c2, c3, if_false, UA] at na
  generalize (if k' = 2 then (n', (1 : Int), true) else if k' = 3 then (n', d', true) else (0, 0, false)) = z at *
  obtain ⟨z1, z2, z3⟩ := z
  simp only [UA] at na nb
  refine Qwh ?_; refine Ql ?_; refine ZC ?_; refine Qxc ?_; refine QIb ?_; refine ZH ?_; refine Qcf ?_
  (show AWP Tryz.prog E _ _ _; refine X1 ?_; exact (show Xd _ _ _ _ _ from ⟨_, St.le_refl _, ⟨rfl, trivial⟩, X3 _⟩))
 subst ck
 by_cases c2 : k = 2
 ·subst c2
  simp only [if_true, eq_self_iff_true, UA] at na nb
  obtain rfl : s = [] := p5 (by omega)
  obtain rfl : s' = [] := q5 (by omega)
  have r1 := p8 rfl
  have r2 := q8 rfl
  have hc := XhV n n' (by omega) (by omega)
  have hz := XcV (n := n) (m := n') (by omega) (by omega)
  obtain rfl : e = decide (n = n') := he.trans (by simp)
  clear he
  rw [← hz]
  clear hz
  have hy := X4J (decide (X22 n n' = 0))
  generalize X22 n n' = q at *
  refine Qwh ?_; refine Qh ?_; refine Qq ?_; refine ZB ?_; refine Qm ?_; refine Qne ?_; refine Qte ?_; refine Z4 ?_; refine Quh ?_
  (show AWP Tryz.prog E _ _ _; refine X1 ?_; exact (show Xd _ _ _ _ _ from ⟨_, St.le_refl _, ⟨rfl, trivial⟩, X3 _⟩))
 have c3 : ¬ k = 3 := by omega
 simp only [c2, c3, if_false, UA] at na nb
 by_cases c4 : k = 4
 ·obtain rfl : n = 0 := p6 c4
  obtain rfl : n' = 0 := q6 c4
  have hy := X4J (decide (s = s'))
  obtain rfl : e = decide (s = s') := he.trans (by simp)
  clear he
  refine Qwh ?_; refine Ql ?_; refine ZC ?_; refine Qxc ?_; refine QIb ?_; refine QOd ?_; refine Qre ?_; refine Qm ?_; refine Qxh ?_; refine Quh ?_
  (show AWP Tryz.prog E _ _ _; refine X1 ?_; exact (show Xd _ _ _ _ _ from ⟨_, St.le_refl _, ⟨rfl, trivial⟩, X3 _⟩))
 obtain rfl : s = [] := p5 c4
 obtain rfl : s' = [] := q5 c4
 have hy := X4J (decide (n = n'))
 obtain rfl : e = decide (n = n') := he.trans (by simp)
 clear he
 refine Qwh ?_; refine Ql ?_; refine ZC ?_; refine Qxc ?_; refine QIb ?_; refine QOd ?_; refine Qre ?_; refine Qye ?_; refine ZH ?_; refine Qoc ?_; refine ZB ?_; refine Qm ?_; refine Qje ?_; refine Z4 ?_; refine Quh ?_
 (show AWP Tryz.prog E _ _ _; refine X1 ?_; exact (show Xd _ _ _ _ _ from ⟨_, St.le_refl _, ⟨rfl, trivial⟩, X3 _⟩))
theorem Xga (a b : Val) (ha : XV a = true) (hb : XV b = true) : Con Tryz.prog 251 [] [Xm a, Xm b] [] (ai (if eqV a b then 2 else 0)) := by
 refine Xc (xs := [ai (if eqV a b then 2 else 0)]) Tryz.func251 rfl Tryz.ntmps251 rfl rfl rfl (fun E => ?_)
 have hc := Xh3 a b ha hb
 have va := X2i a
 have vb := X2i b
 generalize (if eqV a b then (2 : Int) else 0) = z at *
 obtain ⟨k, n, d, s, l⟩ := a
 obtain ⟨k', n', d', s', l'⟩ := b
 obtain ⟨p1, p2, p3, p4, p5, p6, p7, p8⟩ := X0Z ha
 obtain ⟨q1, q2, q3, q4, q5, q6, q7, q8⟩ := X0Z hb
 rw [p1] at va
 rw [q1] at vb
 simp only [Xm] at *
 clear ha hb p1 q1
 have hk0 : k ≠ 0 := by omega
 have hk0' : k' ≠ 0 := by omega
 refine Qvh ?_; refine Qne ?_; refine Qte ?_; refine Qb ?_
 (show AWP Tryz.prog E _ _ _; refine X1 ?_; exact (show Xd _ _ _ _ _ from ⟨_, St.le_refl _, ⟨rfl, trivial⟩, X3 _⟩))
end Go.Fw

/- Binary searches over rows whose keys rise. -/
import Derived.Test.YtonekjkmnhfjmaaGreatDoorK13
import Derived.Test.YtonekjkmnhfjmaaGreatDoorK24
import Derived.Test.YtonekjkmnhfjmaaGreatDoorK26
import Derived.Test.YtonekjkmnhfjmaaGreatDoorK27
set_option maxHeartbeats 16000000
namespace Go.Fw
open Go Go.Proofs
set_option maxRecDepth 100000
set_option linter.unusedVariables false
set_option linter.unusedSimpArgs false
abbrev RN := Int × D × D
def cRN (x : RN) : List D := [.v (.int .i64 x.1), x.2.1, x.2.2]
abbrev kRN (x : RN) : Int := x.1
abbrev RE := Int × Int × Int × List UInt8 × D
def cRE (x : RE) : List D := [.v (.int .i64 x.1), .v (.int .i64 x.2.1), .v (.int .i64 x.2.2.1), .v (.string (X5 x.2.2.2.1)), x.2.2.2.2]
abbrev kRE (x : RE) : Int := x.1
theorem X4v {α κ : Type} {lt : κ → κ → Bool} {key : α → κ} {l : List α} {n : κ} {i : Nat} (h : i ≤ l.length) (h1 : ∀ k x, k < i → l[k]? = some x → lt (key x) n = true) (h2 : ∀ x, l[i]? = some x → lt (key x) n = false) : Xg lt key l n = i :=
 X6d h (fun k x hk hx => h1 k x hk hx) (fun x hx => h2 x hx)
theorem XfW {s t : List UInt8} (h : Op.bytesLess s t = true) : Y8 s t = -1 := if_pos h
theorem Xea {s t : List UInt8} (h : ¬ Op.bytesLess s t = true) : ¬ Y8 s t < 0 := by
 unfold Y8
 rw [if_neg h]
 split <;> decide
theorem Xgo {s t : List UInt8} : decide (Y8 s t = 0) = decide (s = t) := by
 unfold Y8
 by_cases h : Op.bytesLess s t = true
 ·rw [if_pos h, decide_eq_false (by decide), decide_eq_false (fun e => by rw [e, X43] at h; cases h)]
 ·rw [if_neg h]
  by_cases h' : s = t
  ·rw [if_pos h', decide_eq_true rfl, decide_eq_true h']
  ·rw [if_neg h', decide_eq_false (by decide), decide_eq_false h']
theorem X1d {α κ : Type} {lt : κ → κ → Bool} {key : α → κ} {l : List α} (hr : Y0 lt key l) {i j : Nat} {x y : α} (hx : l[i]? = some x) (hy : l[j]? = some y) (h : i < j) : lt (key x) (key y) = true := by
 have hi := (List.getElem?_eq_some_iff.1 hx)
 have hj := (List.getElem?_eq_some_iff.1 hy)
 obtain ⟨hi, rfl⟩ := hi
 obtain ⟨hj, rfl⟩ := hj
 exact (List.pairwise_iff_getElem.1 hr) i j hi hj h
theorem Xaw (x : RN) (n : Int) : Con Tryz.prog 279 [] [.agg [ai x.1, .d x.2.1, .d x.2.2], ai n] [] (ai (XL x.1 n)) := by
 refine Xc (xs := [ai (XL x.1 n)]) Tryz.func279 rfl Tryz.ntmps279 rfl rfl rfl (fun E => ?_)
 have hc := X1G x.1 n
 generalize XL x.1 n = q at *
 obtain ⟨id, p, q'⟩ := x
 exact QBf
theorem Xi0 (l : List RN) (n : Int) (hl : l.length ≤ 4294967296) (hr : Y0 ltI kRN l) : Con Tryz.prog 157 [] [.d (.sl 3 (l.map cRN)), ai n, .fn 279 []] [] (.tup [ai (Xg ltI kRN l n), ab (Xl kRN l n)]) := by
 refine Xc (xs := [ai (Xg ltI kRN l n), ab (Xl kRN l n)]) Tryz.func157 rfl Tryz.ntmps157 rfl rfl rfl (fun E => ?_)
 have hlm : (l.map cRN).length = l.length := by simp
 refine QCf ?_
 refine Xz (ι := Nat × Nat) (fun q => q.1 ≤ q.2 ∧ q.2 ≤ l.length ∧ (∀ (k : Nat) (x : RN), k < q.1 → l[k]? = some x → ltI (kRN x) n = true) ∧ (∀ (k : Nat) (x : RN), q.2 ≤ k → l[k]? = some x → ltI (kRN x) n = false)) (fun q => ⟨49, [(0, .d (.sl 3 (l.map cRN))), (1, ai n), (2, .fn 279 []), (8, ai (l.map cRN).length), (9, ai q.1), (10, ai q.2)], []⟩) (fun q => q.2 - q.1) (0, l.length)
  ⟨Nat.zero_le _, Nat.le_refl _, fun k x h => absurd h (Nat.not_lt_zero _), fun k x h hx => absurd (List.getElem?_eq_some_iff.1 hx).1 (Nat.not_lt.2 h)⟩
  (X6 rfl ⟨JL, JL, JL, JL, JL, AVal.le_of_eq (by show ai _ = ai _; rw [hlm]), trivial⟩ trivial) ?_
 rintro ⟨i, j⟩ ⟨h1, h2, h3, h4⟩
 simp only at h1 h2 h3 h4
 by_cases hij : i < j
 case neg =>
  obtain rfl : i = j := by omega
  have hlow := X4v h2 h3 (fun x hx => h4 i x (Nat.le_refl _) hx)
  have hhas := V0 (k := n) YM hr
  rw [hlow] at hhas
  rw [hlow, hhas]
  have hij' : ¬ (i : Int) < (i : Nat) := by omega
  by_cases hil : i < l.length
  ·have hil' : (i : Int) < (l.map cRN).length := by omega
   obtain ⟨x, hx⟩ := Xs (l := l) hil
   have hxc : (l.map cRN)[i]? = some (cRN x) := Xx hx
   have hc := Xaw x n
   have hd : decide (∃ y, l[i]? = some y ∧ kRN y = n) = decide (XL (kRN x) n = 0) := by rw [X77, hx]; simp
   rw [hd]
   generalize XL (kRN x) n = c at *
   clear hhas hlow hd hx h3 h4 hr
   obtain ⟨id, p, q'⟩ := x
   simp only [cRN, kRN] at hc hxc
   refine QEf ?_
   first | exact X1 ⟨_, St.le_refl _, ⟨rfl, rfl, trivial⟩, X3 _⟩ | exact X1 ⟨_, St.le_refl _, ⟨⟨rfl, rfl, trivial⟩, trivial⟩, X3 _⟩
  ·have hil' : ¬ (i : Int) < (l.map cRN).length := by omega
   have hd : decide (∃ y, l[i]? = some y ∧ kRN y = n) = false := by
    refine decide_eq_false ?_
    rintro ⟨y, hy, _⟩
    exact hil (List.getElem?_eq_some_iff.1 hy).1
   rw [hd]
   clear hhas hlow hd h3 h4 hr
   refine QFf ?_
   first | exact X1 ⟨_, St.le_refl _, ⟨rfl, rfl, trivial⟩, X3 _⟩ | exact X1 ⟨_, St.le_refl _, ⟨⟨rfl, rfl, trivial⟩, trivial⟩, X3 _⟩
 have hij' : (i : Int) < (j : Nat) := by omega
 obtain ⟨x, hx⟩ := Xs (l := l) (k := (i + j) / 2) (by omega)
 have hxc : (l.map cRN)[(i + j) / 2]? = some (cRN x) := Xx hx
 have hc := Xaw x n
 have e2 : n64 ((i + j) / 2 ^ 1) = n64 ((i + j) / 2) := rfl
 by_cases hlt : ltI (kRN x) n = true
 ·have hinv : ∀ (k : Nat) (y : RN), k < (i + j) / 2 + 1 → l[k]? = some y → ltI (kRN y) n = true := fun k y hk hy => by
   by_cases e : k = (i + j) / 2
   ·subst e; rw [hx] at hy; injection hy with hy; subst hy; exact hlt
   ·exact YM.tr _ _ _ (X1d hr hy hx (by omega)) hlt
  rw [X67 (by simpa [ltI] using hlt)] at hc
  clear hlt hr h3 hx
  obtain ⟨id, p, q'⟩ := x
  simp only [cRN, kRN] at hc hxc
  refine QGf ?_; (refine Zp (op := .add) (r' := ni (i + j)) (u := ni i) (v := ni j) ?_ (hr := by exact V1 (by rw [Yg]; omega)))
  (refine Zn (u := ni (i + j)) (r := n64 (i + j)) ?_ (hr := by exact Uy rfl rfl (by rw [X0H]; omega)))
  refine QHf ?_; (refine Zn (u := n64 ((i + j) / 2)) (r := ni ((i + j) / 2)) ?_ (hr := by exact Uy rfl rfl (by rw [Yg]; omega))); exact QJf
 ·have hinv : ∀ (k : Nat) (y : RN), (i + j) / 2 ≤ k → l[k]? = some y → ltI (kRN y) n = false := fun k y hk hy => by
   by_cases e : k = (i + j) / 2
   ·subst e; rw [hx] at hy; injection hy with hy; subst hy; simpa using hlt
   ·have h5 := X1d hr hx hy (by omega)
    by_cases q : ltI (kRN y) n = true
    ·exact absurd (YM.tr _ _ _ h5 q) hlt
    ·simpa using q
  have hge := X5y (x := kRN x) (y := n) (by simpa [ltI] using hlt)
  clear hlt hr h4 hx
  generalize XL (kRN x) n = c at *
  obtain ⟨id, p, q'⟩ := x
  simp only [cRN, kRN] at hc hxc
  refine QGf ?_; (refine Zp (op := .add) (r' := ni (i + j)) (u := ni i) (v := ni j) ?_ (hr := by exact V1 (by rw [Yg]; omega)))
  (refine Zn (u := ni (i + j)) (r := n64 (i + j)) ?_ (hr := by exact Uy rfl rfl (by rw [X0H]; omega)))
  refine QHf ?_; (refine Zn (u := n64 ((i + j) / 2)) (r := ni ((i + j) / 2)) ?_ (hr := by exact Uy rfl rfl (by rw [Yg]; omega))); exact QLf
theorem X8a (x : RE) (n : Int) : Con Tryz.prog 291 [] [.agg [ai x.1, ai x.2.1, ai x.2.2.1, .d (.v (.string (X5 x.2.2.2.1))), .d x.2.2.2.2], ai n] [] (ai (XL x.1 n)) := by
 refine Xc (xs := [ai (XL x.1 n)]) Tryz.func291 rfl Tryz.ntmps291 rfl rfl rfl (fun E => ?_)
 have hc := X1G x.1 n
 generalize XL x.1 n = q at *
 obtain ⟨id, s, t, ty, p⟩ := x
 exact QBf
theorem Xc3 (l : List RE) (n : Int) (hl : l.length ≤ 4294967296) (hr : Y0 ltI kRE l) : Con Tryz.prog 290 [] [.d (.sl 5 (l.map cRE)), ai n, .fn 291 []] [] (.tup [ai (Xg ltI kRE l n), ab (Xl kRE l n)]) := by
 refine Xc (xs := [ai (Xg ltI kRE l n), ab (Xl kRE l n)]) Tryz.func290 rfl Tryz.ntmps290 rfl rfl rfl (fun E => ?_)
 have hlm : (l.map cRE).length = l.length := by simp
 refine QCf ?_
 refine Xz (ι := Nat × Nat) (fun q => q.1 ≤ q.2 ∧ q.2 ≤ l.length ∧ (∀ (k : Nat) (x : RE), k < q.1 → l[k]? = some x → ltI (kRE x) n = true) ∧ (∀ (k : Nat) (x : RE), q.2 ≤ k → l[k]? = some x → ltI (kRE x) n = false)) (fun q => ⟨49, [(0, .d (.sl 5 (l.map cRE))), (1, ai n), (2, .fn 291 []), (8, ai (l.map cRE).length), (9, ai q.1), (10, ai q.2)], []⟩) (fun q => q.2 - q.1) (0, l.length)
  ⟨Nat.zero_le _, Nat.le_refl _, fun k x h => absurd h (Nat.not_lt_zero _), fun k x h hx => absurd (List.getElem?_eq_some_iff.1 hx).1 (Nat.not_lt.2 h)⟩
  (X6 rfl ⟨JL, JL, JL, JL, JL, AVal.le_of_eq (by show ai _ = ai _; rw [hlm]), trivial⟩ trivial) ?_
 rintro ⟨i, j⟩ ⟨h1, h2, h3, h4⟩
 simp only at h1 h2 h3 h4
 by_cases hij : i < j
 case neg =>
  obtain rfl : i = j := by omega
  have hlow := X4v h2 h3 (fun x hx => h4 i x (Nat.le_refl _) hx)
  have hhas := V0 (k := n) YM hr
  rw [hlow] at hhas
  rw [hlow, hhas]
  have hij' : ¬ (i : Int) < (i : Nat) := by omega
  by_cases hil : i < l.length
  ·have hil' : (i : Int) < (l.map cRE).length := by omega
   obtain ⟨x, hx⟩ := Xs (l := l) hil
   have hxc : (l.map cRE)[i]? = some (cRE x) := Xx hx
   have hc := X8a x n
   have hd : decide (∃ y, l[i]? = some y ∧ kRE y = n) = decide (XL (kRE x) n = 0) := by rw [X77, hx]; simp
   rw [hd]
   generalize XL (kRE x) n = c at *
   clear hhas hlow hd hx h3 h4 hr
   obtain ⟨id, s, t, ty, p⟩ := x
   simp only [cRE, kRE] at hc hxc
   refine QEf ?_
   first | exact X1 ⟨_, St.le_refl _, ⟨rfl, rfl, trivial⟩, X3 _⟩ | exact X1 ⟨_, St.le_refl _, ⟨⟨rfl, rfl, trivial⟩, trivial⟩, X3 _⟩
  ·have hil' : ¬ (i : Int) < (l.map cRE).length := by omega
   have hd : decide (∃ y, l[i]? = some y ∧ kRE y = n) = false := by
    refine decide_eq_false ?_
    rintro ⟨y, hy, _⟩
    exact hil (List.getElem?_eq_some_iff.1 hy).1
   rw [hd]
   clear hhas hlow hd h3 h4 hr
   refine QFf ?_
   first | exact X1 ⟨_, St.le_refl _, ⟨rfl, rfl, trivial⟩, X3 _⟩ | exact X1 ⟨_, St.le_refl _, ⟨⟨rfl, rfl, trivial⟩, trivial⟩, X3 _⟩
 have hij' : (i : Int) < (j : Nat) := by omega
 obtain ⟨x, hx⟩ := Xs (l := l) (k := (i + j) / 2) (by omega)
 have hxc : (l.map cRE)[(i + j) / 2]? = some (cRE x) := Xx hx
 have hc := X8a x n
 have e2 : n64 ((i + j) / 2 ^ 1) = n64 ((i + j) / 2) := rfl
 by_cases hlt : ltI (kRE x) n = true
 ·have hinv : ∀ (k : Nat) (y : RE), k < (i + j) / 2 + 1 → l[k]? = some y → ltI (kRE y) n = true := fun k y hk hy => by
   by_cases e : k = (i + j) / 2
   ·subst e; rw [hx] at hy; injection hy with hy; subst hy; exact hlt
   ·exact YM.tr _ _ _ (X1d hr hy hx (by omega)) hlt
  rw [X67 (by simpa [ltI] using hlt)] at hc
  clear hlt hr h3 hx
  obtain ⟨id, s, t, ty, p⟩ := x
  simp only [cRE, kRE] at hc hxc
  refine QGf ?_; (refine Zp (op := .add) (r' := ni (i + j)) (u := ni i) (v := ni j) ?_ (hr := by exact V1 (by rw [Yg]; omega)))
  (refine Zn (u := ni (i + j)) (r := n64 (i + j)) ?_ (hr := by exact Uy rfl rfl (by rw [X0H]; omega)))
  refine QHf ?_; (refine Zn (u := n64 ((i + j) / 2)) (r := ni ((i + j) / 2)) ?_ (hr := by exact Uy rfl rfl (by rw [Yg]; omega))); exact QJf
 ·have hinv : ∀ (k : Nat) (y : RE), (i + j) / 2 ≤ k → l[k]? = some y → ltI (kRE y) n = false := fun k y hk hy => by
   by_cases e : k = (i + j) / 2
   ·subst e; rw [hx] at hy; injection hy with hy; subst hy; simpa using hlt
   ·have h5 := X1d hr hx hy (by omega)
    by_cases q : ltI (kRE y) n = true
    ·exact absurd (YM.tr _ _ _ h5 q) hlt
    ·simpa using q
  have hge := X5y (x := kRE x) (y := n) (by simpa [ltI] using hlt)
  clear hlt hr h4 hx
  generalize XL (kRE x) n = c at *
  obtain ⟨id, s, t, ty, p⟩ := x
  simp only [cRE, kRE] at hc hxc
  refine QGf ?_; (refine Zp (op := .add) (r' := ni (i + j)) (u := ni i) (v := ni j) ?_ (hr := by exact V1 (by rw [Yg]; omega)))
  (refine Zn (u := ni (i + j)) (r := n64 (i + j)) ?_ (hr := by exact Uy rfl rfl (by rw [X0H]; omega)))
  refine QHf ?_; (refine Zn (u := n64 ((i + j) / 2)) (r := ni ((i + j) / 2)) ?_ (hr := by exact Uy rfl rfl (by rw [Yg]; omega))); exact QLf
theorem X9i (x : Prp) (n : List UInt8) : Con Tryz.prog 287 [] [.agg ((X7 x).map .d), .d (.v (.string (X5 n)))] [] (ai (Y8 x.key n)) := by
 refine Xc (xs := [ai (Y8 x.key n)]) Tryz.func287 rfl Tryz.ntmps287 rfl rfl rfl (fun E => ?_)
 have hc := X3c x.key n
 generalize Y8 x.key n = q at *
 obtain ⟨key, ⟨k0, k1, k2, k3, k4⟩⟩ := x
 simp only [X7, Y5, List.map_cons, List.map_nil] at *
 exact QBf
theorem X7V (l : List Prp) (n : List UInt8) (hl : l.length ≤ 4294967296) (hr : Y0 ltS Prp.key l) : Con Tryz.prog 286 [] [.d (.sl 6 (l.map X7)), .d (.v (.string (X5 n))), .fn 287 []] [] (.tup [ai (Xg ltS Prp.key l n), ab (Xl Prp.key l n)]) := by
 refine Xc (xs := [ai (Xg ltS Prp.key l n), ab (Xl Prp.key l n)]) Tryz.func286 rfl Tryz.ntmps286 rfl rfl rfl (fun E => ?_)
 have hlm : (l.map X7).length = l.length := by simp
 refine QCf ?_
 refine Xz (ι := Nat × Nat) (fun q => q.1 ≤ q.2 ∧ q.2 ≤ l.length ∧ (∀ (k : Nat) (x : Prp), k < q.1 → l[k]? = some x → ltS (Prp.key x) n = true) ∧ (∀ (k : Nat) (x : Prp), q.2 ≤ k → l[k]? = some x → ltS (Prp.key x) n = false)) (fun q => ⟨49, [(0, .d (.sl 6 (l.map X7))), (1, .d (.v (.string (X5 n)))), (2, .fn 287 []), (8, ai (l.map X7).length), (9, ai q.1), (10, ai q.2)], []⟩) (fun q => q.2 - q.1) (0, l.length)
  ⟨Nat.zero_le _, Nat.le_refl _, fun k x h => absurd h (Nat.not_lt_zero _), fun k x h hx => absurd (List.getElem?_eq_some_iff.1 hx).1 (Nat.not_lt.2 h)⟩
  (X6 rfl ⟨JL, JL, JL, JL, JL, AVal.le_of_eq (by show ai _ = ai _; rw [hlm]), trivial⟩ trivial) ?_
 rintro ⟨i, j⟩ ⟨h1, h2, h3, h4⟩
 simp only at h1 h2 h3 h4
 by_cases hij : i < j
 case neg =>
  obtain rfl : i = j := by omega
  have hlow := X4v h2 h3 (fun x hx => h4 i x (Nat.le_refl _) hx)
  have hhas := V0 (k := n) Vo hr
  rw [hlow] at hhas
  rw [hlow, hhas]
  have hij' : ¬ (i : Int) < (i : Nat) := by omega
  by_cases hil : i < l.length
  ·have hil' : (i : Int) < (l.map X7).length := by omega
   obtain ⟨x, hx⟩ := Xs (l := l) hil
   have hxc : (l.map X7)[i]? = some (X7 x) := Xx hx
   have hc := X9i x n
   have hd : decide (∃ y, l[i]? = some y ∧ Prp.key y = n) = decide (Y8 (Prp.key x) n = 0) := by rw [Xgo, hx]; simp
   rw [hd]
   generalize Y8 (Prp.key x) n = c at *
   clear hhas hlow hd hx h3 h4 hr
   obtain ⟨key, ⟨k0, k1, k2, k3, k4⟩⟩ := x
   simp only [X7, Y5, List.map_cons, List.map_nil] at hc hxc
   refine QEf ?_
   first | exact X1 ⟨_, St.le_refl _, ⟨rfl, rfl, trivial⟩, X3 _⟩ | exact X1 ⟨_, St.le_refl _, ⟨⟨rfl, rfl, trivial⟩, trivial⟩, X3 _⟩
  ·have hil' : ¬ (i : Int) < (l.map X7).length := by omega
   have hd : decide (∃ y, l[i]? = some y ∧ Prp.key y = n) = false := by
    refine decide_eq_false ?_
    rintro ⟨y, hy, _⟩
    exact hil (List.getElem?_eq_some_iff.1 hy).1
   rw [hd]
   clear hhas hlow hd h3 h4 hr
   refine QFf ?_
   first | exact X1 ⟨_, St.le_refl _, ⟨rfl, rfl, trivial⟩, X3 _⟩ | exact X1 ⟨_, St.le_refl _, ⟨⟨rfl, rfl, trivial⟩, trivial⟩, X3 _⟩
 have hij' : (i : Int) < (j : Nat) := by omega
 obtain ⟨x, hx⟩ := Xs (l := l) (k := (i + j) / 2) (by omega)
 have hxc : (l.map X7)[(i + j) / 2]? = some (X7 x) := Xx hx
 have hc := X9i x n
 have e2 : n64 ((i + j) / 2 ^ 1) = n64 ((i + j) / 2) := rfl
 by_cases hlt : ltS (Prp.key x) n = true
 ·have hinv : ∀ (k : Nat) (y : Prp), k < (i + j) / 2 + 1 → l[k]? = some y → ltS (Prp.key y) n = true := fun k y hk hy => by
   by_cases e : k = (i + j) / 2
   ·subst e; rw [hx] at hy; injection hy with hy; subst hy; exact hlt
   ·exact Vo.tr _ _ _ (X1d hr hy hx (by omega)) hlt
  rw [XfW hlt] at hc
  clear hlt hr h3 hx
  obtain ⟨key, ⟨k0, k1, k2, k3, k4⟩⟩ := x
  simp only [X7, Y5, List.map_cons, List.map_nil] at hc hxc
  refine QGf ?_; (refine Zp (op := .add) (r' := ni (i + j)) (u := ni i) (v := ni j) ?_ (hr := by exact V1 (by rw [Yg]; omega)))
  (refine Zn (u := ni (i + j)) (r := n64 (i + j)) ?_ (hr := by exact Uy rfl rfl (by rw [X0H]; omega)))
  refine QHf ?_; (refine Zn (u := n64 ((i + j) / 2)) (r := ni ((i + j) / 2)) ?_ (hr := by exact Uy rfl rfl (by rw [Yg]; omega))); exact QJf
 ·have hinv : ∀ (k : Nat) (y : Prp), (i + j) / 2 ≤ k → l[k]? = some y → ltS (Prp.key y) n = false := fun k y hk hy => by
   by_cases e : k = (i + j) / 2
   ·subst e; rw [hx] at hy; injection hy with hy; subst hy; simpa using hlt
   ·have h5 := X1d hr hx hy (by omega)
    by_cases q : ltS (Prp.key y) n = true
    ·exact absurd (Vo.tr _ _ _ h5 q) hlt
    ·simpa using q
  have hge := Xea hlt
  clear hlt hr h4 hx
  generalize Y8 (Prp.key x) n = c at *
  obtain ⟨key, ⟨k0, k1, k2, k3, k4⟩⟩ := x
  simp only [X7, Y5, List.map_cons, List.map_nil] at hc hxc
  refine QGf ?_; (refine Zp (op := .add) (r' := ni (i + j)) (u := ni i) (v := ni j) ?_ (hr := by exact V1 (by rw [Yg]; omega)))
  (refine Zn (u := ni (i + j)) (r := n64 (i + j)) ?_ (hr := by exact Uy rfl rfl (by rw [X0H]; omega)))
  refine QHf ?_; (refine Zn (u := n64 ((i + j) / 2)) (r := ni ((i + j) / 2)) ?_ (hr := by exact Uy rfl rfl (by rw [Yg]; omega))); exact QLf
theorem Xi4 (s t : List UInt8) : Con Tryz.prog 282 [] [.d (.v (.string (X5 s))), .d (.v (.string (X5 t)))] [] (ab (Op.bytesLess s t)) := by
 refine Xc (xs := [ab (Op.bytesLess s t)]) Tryz.func282 rfl Tryz.ntmps282 rfl rfl rfl (fun E => ?_)
 have h1 := X2Q s
 have h2 := X2Q t
 refine QB ?_; refine QAb ?_; refine QLb ?_; refine Qt ?_; refine Z0d ?_; exact QNb
theorem XgT (s : List UInt8) : Con Tryz.prog 283 [] [.d (.v (.string (X5 s)))] [] (ab false) := by
 refine Xc (xs := [ab false]) Tryz.func283 rfl Tryz.ntmps283 rfl rfl rfl (fun E => ?_)
 refine Qf ?_; refine ZY ?_; refine Qb ?_
 (show AWP Tryz.prog E _ _ _; refine X1 ?_; exact (show Xd _ _ _ _ _ from ⟨_, Xr 2 (AVal.le_of_eq (by show ab _ = ab _; simp)), ⟨rfl, trivial⟩, X3 _⟩))
theorem X33 (l : List (List UInt8)) (n : List UInt8) (hl : l.length ≤ 4294967296) (hr : Y0 ltS XB l) : Con Tryz.prog 231 [] [.d (.sl 1 (l.map Xa)), .d (.v (.string (X5 n)))] [] (.tup [ai (Xg ltS XB l n), ab (Xl XB l n)]) := by
 refine Xc (xs := [ai (Xg ltS XB l n), ab (Xl XB l n)]) Tryz.func231 rfl Tryz.ntmps231 rfl rfl rfl (fun E => ?_)
 have hlm : (l.map Xa).length = l.length := by simp
 refine QCf ?_
 refine Xz (ι := Nat × Nat) (fun q => q.1 ≤ q.2 ∧ q.2 ≤ l.length ∧ (∀ (k : Nat) (x : List UInt8), k < q.1 → l[k]? = some x → ltS x n = true) ∧ (∀ (k : Nat) (x : List UInt8), q.2 ≤ k → l[k]? = some x → ltS x n = false)) (fun q => ⟨54, [(0, .d (.sl 1 (l.map Xa))), (1, .d (.v (.string (X5 n)))), (6, ai (l.map Xa).length), (7, ai q.1), (8, ai q.2)], []⟩) (fun q => q.2 - q.1) (0, l.length)
  ⟨Nat.zero_le _, Nat.le_refl _, fun k x h => absurd h (Nat.not_lt_zero _), fun k x h hx => absurd (List.getElem?_eq_some_iff.1 hx).1 (Nat.not_lt.2 h)⟩
  (X6 rfl ⟨JL, JL, JL, JL, AVal.le_of_eq (by show ai _ = ai _; rw [hlm]), trivial⟩ trivial) ?_
 rintro ⟨i, j⟩ ⟨h1, h2, h3, h4⟩
 simp only at h1 h2 h3 h4
 by_cases hij : i < j
 case neg =>
  obtain rfl : i = j := by omega
  have hlow := X4v (key := XB) h2 h3 (fun x hx => h4 i x (Nat.le_refl _) hx)
  have hhas := V0 (k := n) Vo hr
  rw [hlow] at hhas
  rw [hlow, hhas]
  have hij' : ¬ (i : Int) < (i : Nat) := by omega
  by_cases hil : i < l.length
  ·have hil' : (i : Int) < (l.map Xa).length := by omega
   obtain ⟨x, hx⟩ := Xs (l := l) hil
   have hxc : (l.map Xa)[i]? = some [.v (.string (X5 x))] := Xx hx
   have hn1 := XgT x
   by_cases hxn : x = n
   ·have hd : decide (∃ y, l[i]? = some y ∧ XB y = n) = true := decide_eq_true ⟨x, hx, hxn⟩
    rw [hd]
    clear hhas hlow hd hx h3 h4 hr
    subst hxn
    refine QDf ?_; refine Qag ?_; refine ZF ?_; refine QMb ?_; refine ZD ?_; refine ZD ?_; refine QK ?_; refine ZB ?_; refine QBb ?_
    first | exact X1 ⟨_, St.le_refl _, ⟨rfl, rfl, trivial⟩, X3 _⟩ | exact X1 ⟨_, St.le_refl _, ⟨⟨rfl, rfl, trivial⟩, trivial⟩, X3 _⟩
   ·have hd : decide (∃ y, l[i]? = some y ∧ XB y = n) = false := decide_eq_false (by rintro ⟨y, hy, e⟩; rw [hx] at hy; cases hy; exact hxn e)
    rw [hd]
    clear hhas hlow hd hx h3 h4 hr
    refine QDf ?_; refine Qag ?_; refine ZF ?_; refine Qt ?_; refine Qhc ?_; refine Zr (hcon := hn1) ?_; refine QJ ?_; refine ZE ?_; refine ZE ?_; refine ZB ?_; refine QBb ?_
    first | exact X1 ⟨_, St.le_refl _, ⟨rfl, rfl, trivial⟩, X3 _⟩ | exact X1 ⟨_, St.le_refl _, ⟨⟨rfl, rfl, trivial⟩, trivial⟩, X3 _⟩
  ·have hil' : ¬ (i : Int) < (l.map Xa).length := by omega
   have hd : decide (∃ y, l[i]? = some y ∧ XB y = n) = false := by
    refine decide_eq_false ?_
    rintro ⟨y, hy, _⟩
    exact hil (List.getElem?_eq_some_iff.1 hy).1
   rw [hd]
   clear hhas hlow hd h3 h4 hr
   refine QDf ?_; refine QMb ?_; refine Qqa ?_; refine Qpa ?_; refine ZD ?_; refine Qra ?_; refine QBb ?_
   first | exact X1 ⟨_, St.le_refl _, ⟨rfl, rfl, trivial⟩, X3 _⟩ | exact X1 ⟨_, St.le_refl _, ⟨⟨rfl, rfl, trivial⟩, trivial⟩, X3 _⟩
 have hij' : (i : Int) < (j : Nat) := by omega
 obtain ⟨x, hx⟩ := Xs (l := l) (k := (i + j) / 2) (by omega)
 have hxc : (l.map Xa)[(i + j) / 2]? = some [.v (.string (X5 x))] := Xx hx
 have hc := Xi4 x n
 have e2 : n64 ((i + j) / 2 ^ 1) = n64 ((i + j) / 2) := rfl
 by_cases hlt : ltS x n = true
 ·have hinv : ∀ (k : Nat) (y : List UInt8), k < (i + j) / 2 + 1 → l[k]? = some y → ltS y n = true := fun k y hk hy => by
   by_cases e : k = (i + j) / 2
   ·subst e; rw [hx] at hy; injection hy with hy; subst hy; exact hlt
   ·exact Vo.tr _ _ _ (X1d hr hy hx (by omega)) hlt
  rw [show Op.bytesLess x n = true from hlt] at hc
  clear hlt hr h3 hx
  refine QGf ?_; (refine Zp (op := .add) (r' := ni (i + j)) (u := ni i) (v := ni j) ?_ (hr := by exact V1 (by rw [Yg]; omega)))
  (refine Zn (u := ni (i + j)) (r := n64 (i + j)) ?_ (hr := by exact Uy rfl rfl (by rw [X0H]; omega)))
  refine QHf ?_; (refine Zn (u := n64 ((i + j) / 2)) (r := ni ((i + j) / 2)) ?_ (hr := by exact Uy rfl rfl (by rw [Yg]; omega))); refine QD ?_; refine Qhc ?_; refine Z1 ?_; refine Qte ?_; exact QIf
 ·have hinv : ∀ (k : Nat) (y : List UInt8), (i + j) / 2 ≤ k → l[k]? = some y → ltS y n = false := fun k y hk hy => by
   by_cases e : k = (i + j) / 2
   ·subst e; rw [hx] at hy; injection hy with hy; subst hy; simpa using hlt
   ·have h5 := X1d hr hx hy (by omega)
    by_cases q : ltS y n = true
    ·exact absurd (Vo.tr _ _ _ h5 q) hlt
    ·simpa using q
  rw [show Op.bytesLess x n = false by simpa using hlt] at hc
  clear hlt hr h4 hx
  refine QGf ?_; (refine Zp (op := .add) (r' := ni (i + j)) (u := ni i) (v := ni j) ?_ (hr := by exact V1 (by rw [Yg]; omega)))
  (refine Zn (u := ni (i + j)) (r := n64 (i + j)) ?_ (hr := by exact Uy rfl rfl (by rw [X0H]; omega)))
  refine QHf ?_; (refine Zn (u := n64 ((i + j) / 2)) (r := ni ((i + j) / 2)) ?_ (hr := by exact Uy rfl rfl (by rw [Yg]; omega))); refine QD ?_; refine Qhc ?_; refine Z1 ?_; refine Qte ?_; exact QKf
def Ue (e : Int) : List PanicEntry := [{ v := .iface 194 (.int .i64 e), recovered := false }]
theorem YJ (e : Int) : Con Tryz.prog 228 [] [ab true, ai e] [] (.tup []) := by
 refine Xc (xs := []) Tryz.func228 rfl Tryz.ntmps228 rfl rfl rfl (fun E => ?_)
 refine Qd ?_; refine QUc ?_; exact ⟨_, St.le_refl _, trivial, X3 _⟩
theorem Vk (e : Int) : YV Tryz.prog 228 [] [ab false, ai e] (Ue e) := by
 refine V4 Tryz.func228 rfl Tryz.ntmps228 rfl (fun E => ?_)
 refine Qd ?_; refine Zd ?_; refine Qm ?_; refine Xe2 2 rfl (fun _ => rfl) ?_; refine Z1 ?_; refine Z0g ?_; exact .done (fun h => Bool.noConfusion h) rfl
abbrev edL (rn : List RN) (re : List RE) (nn ne : Int) : List (Nat × AObj) := [(0, .box [.own 3 rn.length, .own 4 re.length, ai nn, ai ne]), (3, .row 3 (rn.map cRN)), (4, .row 5 (re.map cRE))]
theorem Up (rn : List RN) (re : List RE) (nn ne : Int) (id : Int) (hl : rn.length ≤ 4294967296) (hr : Y0 ltI kRN rn) :
  Con Tryz.prog 227 (edL rn re nn ne) [.ptr 0 0, ai id] (edL rn re nn ne) (.tup [ai (Xg ltI kRN rn id), ab (Xl kRN rn id)]) := by
 refine Xc (xs := [ai (Xg ltI kRN rn id), ab (Xl kRN rn id)]) Tryz.func227 rfl Tryz.ntmps227 rfl rfl rfl (fun E => ?_)
 have hc := X0R 3 (Xi0 rn id hl hr)
 rw [List.length_map] at hc
 generalize Xg ltI kRN rn id = a at *
 generalize Xl kRN rn id = b at *
 refine Qa ?_; refine Z0 ?_; refine QC ?_; refine Qcg ?_; refine Z1 ?_; refine Qte ?_; refine ZR ?_; refine ZR ?_; refine QBb ?_; exact X1 ⟨_, St.le_refl _, ⟨rfl, rfl, trivial⟩, XX ⟨rfl, rfl, rfl, trivial⟩⟩
theorem X0N (rn : List RN) (re : List RE) (nn ne : Int) (id : Int) (hl : re.length ≤ 4294967296) (hr : Y0 ltI kRE re) :
  Con Tryz.prog 235 (edL rn re nn ne) [.ptr 0 0, ai id] (edL rn re nn ne) (.tup [ai (Xg ltI kRE re id), ab (Xl kRE re id)]) := by
 refine Xc (xs := [ai (Xg ltI kRE re id), ab (Xl kRE re id)]) Tryz.func235 rfl Tryz.ntmps235 rfl rfl rfl (fun E => ?_)
 have hc := X0R 4 (Xc3 re id hl hr)
 rw [List.length_map] at hc
 generalize Xg ltI kRE re id = a at *
 generalize Xl kRE re id = b at *
 refine Qa ?_; refine Z0 ?_; refine QC ?_; refine Qcg ?_; refine Z1 ?_; refine Qte ?_; refine ZR ?_; refine ZR ?_; refine QBb ?_; exact X1 ⟨_, St.le_refl _, ⟨rfl, rfl, trivial⟩, XX ⟨rfl, rfl, rfl, trivial⟩⟩
theorem X6F (p : Prp) : (X7 p).length = 6 := by obtain ⟨k, ⟨a, b, c, d, e⟩⟩ := p; rfl
theorem XiO (ps : List Prp) : ∀ x ∈ ps.map X7, x.length = 6 := fun x hx => by obtain ⟨p, _, rfl⟩ := List.mem_map.1 hx; exact X6F p
theorem XbD {sz i o : Nat} {xs : List (List D)} {T : List (Option D)} {a b c b' : List D} (h : ∀ x ∈ xs, x.length = sz) (hx : xs[i]? = some (a ++ b ++ c)) (ho : a.length = o) (hb : b'.length = b.length) :
  Xy (fl (xs.set i (a ++ b' ++ c)) ++ T) none = (Xy (fl xs ++ T) none).take (i * sz + o) ++ b'.map .d ++ (Xy (fl xs ++ T) none).drop (i * sz + o + (b'.map AVal.d).length) := by
 have hi : i < xs.length := (List.getElem?_eq_some_iff.1 hx).1
 have hxi : xs[i] = a ++ b ++ c := by rw [List.getElem?_eq_getElem hi] at hx; simpa using hx
 have hl : (a ++ b ++ c).length = sz := by rw [← hxi]; exact h _ (List.getElem_mem hi)
 have e1 : xs = xs.take i ++ (a ++ b ++ c) :: xs.drop (i + 1) := by rw [← hxi, ← List.drop_eq_getElem_cons hi, List.take_append_drop]
 have lt : (xs.take i).length = i := by rw [List.length_take]; omega
 have e2 : xs.set i (a ++ b' ++ c) = xs.take i ++ (a ++ b' ++ c) :: xs.drop (i + 1) := by
  conv => lhs; rw [e1]
  rw [List.set_append_right _ _ (by omega), lt, Nat.sub_self]; rfl
 have f1 : ∀ m : List D, Xy (fl (xs.take i ++ (a ++ m ++ c) :: xs.drop (i + 1)) ++ T) none = ((fl (xs.take i)).map oA ++ a.map .d) ++ (m.map .d ++ (c.map .d ++ ((fl (xs.drop (i + 1))).map oA ++ T.map oA))) := by
  intro m
  have hc : ∀ l : List D, (l.map some).map oA = l.map .d := fun l => by rw [List.map_map]; rfl
  rw [show xs.take i ++ (a ++ m ++ c) :: xs.drop (i + 1) = xs.take i ++ ([a ++ m ++ c] ++ xs.drop (i + 1)) from rfl, X20, X20]
  simp only [Xy, List.map_append, List.append_assoc]
  have : (fl [a ++ (m ++ c)]).map oA = a.map .d ++ (m.map .d ++ c.map .d) := by simp only [fl, List.flatten_cons, List.flatten_nil, List.append_nil, hc, List.map_append]
  rw [this]
  simp only [List.append_assoc]
 have la : ((fl (xs.take i)).map oA ++ a.map AVal.d).length = i * sz + o := by
  have : ((fl (xs.take i)).map oA).length = i * sz := by rw [List.length_map, Yl (UG h i), lt]
  rw [List.length_append, this, List.length_map, ho]
 have part : ∀ (A M M' R : List AVal) (n : Nat), A.length = n → M'.length = M.length → A ++ (M' ++ R) = (A ++ (M ++ R)).take n ++ M' ++ (A ++ (M ++ R)).drop (n + M'.length) := by
  intro A M M' R n h1 h2
  rw [List.take_left' h1, ← List.drop_drop, List.drop_left' h1, h2, List.drop_left' rfl, List.append_assoc]
 have e3 := f1 b
 rw [← e1] at e3
 rw [e2, f1 b', e3]
 exact part _ _ _ _ _ la (by rw [List.length_map, List.length_map, hb])
section
variable (ps : List Prp) (key : List UInt8) (v : Val)
theorem XbX (hr : Y0 ltS Prp.key ps) (hl : ps.length ≤ 16) (hok : (XP ps key v).length ≤ 16) :
  Con Tryz.prog 234 [(1, .row 6 (ps.map X7))] [.own 1 ps.length, .d (.v (.string (X5 key))), Xm v] [(1, .dead), (110, .row 6 ((XP ps key v).map X7))] (.own 110 (XP ps key v).length) := by
 refine Xc (xs := [.own 110 (XP ps key v).length]) Tryz.func234 rfl Tryz.ntmps234 rfl rfl rfl (fun E => ?_)
 have hc := X0R 1 (X7V ps key (by omega) hr)
 rw [List.length_map] at hc
 have hz := X7m v
 have hb := V0 (k := key) Vo hr
 have hle := X3g (lt := ltS) (key := Prp.key) ps key
 have h6 := XiO ps
 have hlm : (ps.map X7).length = ps.length := List.length_map ..
 by_cases b : Xl Prp.key ps key = true
 case pos =>
  rw [b] at hc hb
  obtain ⟨x, hx, hk⟩ := decide_eq_true_iff.1 hb.symm
  have hi : Xg ltS Prp.key ps key < ps.length := (List.getElem?_eq_some_iff.1 hx).1
  by_cases z : YA v = true
  ·have eS : XP ps key v = ps.take (Xg ltS Prp.key ps key) ++ ps.drop (Xg ltS Prp.key ps key + 1) := by
    unfold XP
    rw [if_pos z, X3x Vo hr hx hk, List.append_nil]
   rw [z] at hz
   have eL : (XP ps key v).length = ps.length - 1 := by rw [eS, List.length_append, List.length_take, List.length_drop]; omega
   have eM : (XP ps key v).map X7 = (ps.map X7).take (Xg ltS Prp.key ps key) ++ (ps.map X7).drop (Xg ltS Prp.key ps key + 1) := by rw [eS, List.map_append, List.map_take, List.map_drop]
   rw [eL, eM]
   have hd := Xia (ps.map X7) (Xg ltS Prp.key ps key) h6 (by omega) (by omega)
   rw [hlm] at hd
   clear hb hx hk eS eL eM z hok hr h6 hlm
   generalize Xg ltS Prp.key ps key = i at *
   generalize ps.map X7 = xs at *
   obtain ⟨k0, k1, k2, k3, k4⟩ := v
   simp only [Xm, US] at *
   refine Qeg ?_; refine Qq ?_; refine Qme ?_; refine Qr ?_; (refine Zp (op := .add) (r' := .int .i64 ((i + 1 : Nat) : Int)) (u := .int .i64 (i : Nat)) (v := .int .i64 1) ?_ (hr := by exact Yk (by unfold Xv; omega))); refine Zr (hcon := hd) ?_; refine Qb ?_
   (show AWP Tryz.prog E _ _ _; refine X1 ?_; exact (show Xd _ _ _ _ _ from ⟨_, St.le_refl _, ⟨rfl, trivial⟩, XX ⟨rfl, rfl, trivial⟩⟩))
  ·have z : YA v = false := by simpa using z
   have eS : XP ps key v = ps.take (Xg ltS Prp.key ps key) ++ [⟨key, v⟩] ++ ps.drop (Xg ltS Prp.key ps key + 1) := by
    unfold XP
    rw [if_neg (by simp [z]), X3x Vo hr hx hk]
   rw [z] at hz
   have hxi : ps[Xg ltS Prp.key ps key]? = some x := hx
   obtain ⟨xk, xv⟩ := x
   obtain rfl : xk = key := hk
   have eL : (XP ps xk v).length = ps.length := by rw [eS, List.length_append, List.length_append, List.length_take, List.length_drop, List.length_singleton]; omega
   generalize hI : Xg ltS Prp.key ps xk = i at *
   have e1 : ps.take i ++ [⟨xk, v⟩] ++ ps.drop (i + 1) = ps.set i ⟨xk, v⟩ := by
    conv => rhs; rw [← List.take_append_drop i ps, List.drop_eq_getElem_cons hi]
    rw [List.set_append_right _ _ (by rw [List.length_take]; omega), List.length_take, Nat.min_eq_left (by omega), Nat.sub_self, List.append_assoc]; rfl
   have eM : (XP ps xk v).map X7 = (ps.map X7).set i (X7 ⟨xk, v⟩) := by rw [eS, e1, List.map_set]
   rw [eL, eM]
   have hxc : (ps.map X7)[i]? = some ([.v (.string (X5 xk))] ++ Y5 xv ++ []) := by rw [List.getElem?_map, hxi]; simp [X7]
   have hv5 : (Y5 v).length = (Y5 xv).length := by cases v; cases xv; rfl
   have hpp := fun T => XbD (T := T) (b' := Y5 v) h6 hxc rfl hv5
   have hset : ∀ y ∈ (ps.map X7).set i (X7 ⟨xk, v⟩), y.length = 6 := fun y hy => by
    rcases List.mem_or_eq_of_mem_set hy with hy | rfl
    ·exact h6 y hy
    ·exact X6F _
   have hfl := fun T => List.take_left' (l₂ := T) (Yl hset)
   rw [List.length_set, hlm] at hfl
   have hsl : ((ps.map X7).set i (X7 ⟨xk, v⟩)).length = ps.length := by rw [List.length_set, hlm]
   have hcp : X7 ⟨xk, v⟩ = [.v (.string (X5 xk))] ++ Y5 v ++ [] := by simp [X7]
   clear hb hx eS eL eM z hok hr hxc e1 hxi hI
   rw [← hcp] at hpp
   generalize hX' : (ps.map X7).set i (X7 ⟨xk, v⟩) = X' at *
   generalize ps.map X7 = xs at *
   obtain ⟨k0, k1, k2, k3, k4⟩ := v
   simp only [Xm, US] at *
   refine QHb ?_; refine Qe ?_; refine Qte ?_; refine Qdg ?_; refine Qma ?_; refine X0 ?_
   show AWP Tryz.prog E _ _ _
   refine X0n 0 1 120 rfl (by omega) rfl hlm.symm rfl rfl (fun c k hc1 hc2 hc3 _ => ?_)
   have hpp : Xy (fl X' ++ List.replicate k none) none = (Xy (fl xs ++ List.replicate k none) none).take (0 + i * 6 + 1) ++ [ai k0, ai k1, ai k2, .d (.v (.string (X5 k3))), .d (.sl 5 (XG k4))] ++ (Xy (fl xs ++ List.replicate k none) none).drop (0 + i * 6 + 1 + 5) := by rw [Nat.zero_add]; exact hpp _
   have hfl := hfl (List.replicate k none)
   have hT : (List.replicate k (none : Option D)).length = k := List.length_replicate
   generalize List.replicate k (none : Option D) = T at *
   have hlen : (List.map some xs.flatten ++ T).length = xs.length * 6 + k := by rw [List.length_append, hT]; exact congrArg (· + k) (Yl h6)
   have hlen' : (List.map some X'.flatten ++ T).length = xs.length * 6 + k := by rw [List.length_append, hT]; exact (congrArg (· + k) (Yl hset)).trans (by rw [hsl, hlm])
   have hcap : c * 6 ≤ (fl X' ++ T).length := by show c * 6 ≤ (List.map some X'.flatten ++ T).length; omega
   have hbd : 0 + i * 6 + 1 + 5 ≤ (List.map some xs.flatten ++ T).length := by omega
   refine JR ?_; refine ZX ?_; refine Zr (hcon := hz) ?_; refine Qfg ?_; refine JT ?_; refine Qe ?_; refine ZX ?_; refine Z0i (sz := 6) ?_; refine ZN ?_; (refine Z0j (cs' := fl X' ++ T) (ho' := none) ?_ (hcs := ?hcs105); (case hcs105 => exact hpp)); refine Qw ?_
   show AWP Tryz.prog E _ _ _
   refine Xk (Vi 6 120 110 X' (by conv => lhs; whnf) (by conv => lhs; whnf) hfl hsl hset (by omega) hc2 hcap rfl rfl) ?_
   (show AWP Tryz.prog E _ _ _; refine X1 ?_; exact (show Xd _ _ _ _ _ from ⟨_, St.le_refl _, ⟨rfl, trivial⟩, XX ⟨rfl, rfl, trivial⟩⟩))
 have b : Xl Prp.key ps key = false := by simpa using b
 rw [b] at hc
 by_cases z : YA v = true
 ·have eS : XP ps key v = ps := by
   unfold XP
   rw [if_pos z, X2c b, List.append_nil, List.take_append_drop]
  rw [z] at hz
  rw [eS]
  clear hb z hok hr h6 eS b
  generalize Xg ltS Prp.key ps key = i at *
  generalize ps.map X7 = xs at *
  obtain ⟨k0, k1, k2, k3, k4⟩ := v
  simp only [Xm, US] at *
  refine Qeg ?_; refine Qq ?_; refine QPa ?_; refine JF ?_; refine QTc ?_; refine Zr (hcon := hz) ?_; refine Qb ?_; refine JT ?_; refine Qzb ?_
  show AWP Tryz.prog E _ _ _
  refine Xk (X3i 6 1 110 rfl rfl hlm.symm rfl rfl) ?_
  (show AWP Tryz.prog E _ _ _; refine X1 ?_; exact (show Xd _ _ _ _ _ from ⟨_, St.le_refl _, ⟨rfl, trivial⟩, XX ⟨rfl, rfl, trivial⟩⟩))
 have z : YA v = false := by simpa using z
 have eS : XP ps key v = ps.take (Xg ltS Prp.key ps key) ++ [⟨key, v⟩] ++ ps.drop (Xg ltS Prp.key ps key) := by
  unfold XP
  rw [if_neg (by simp [z]), X2c b]
 rw [z] at hz
 have eL : (XP ps key v).length = ps.length + 1 := by rw [eS, List.length_append, List.length_append, List.length_take, List.length_drop, List.length_singleton]; omega
 have eM : (XP ps key v).map X7 = (ps.map X7).take (Xg ltS Prp.key ps key) ++ X7 ⟨key, v⟩ :: (ps.map X7).drop (Xg ltS Prp.key ps key) := by
  rw [eS, List.map_append, List.map_append, List.map_take, List.map_drop, List.append_assoc]; rfl
 have hlt : (ps.length : Int) < 16 := by omega
 rw [eL, eM]
 have hd := Xds (ps.map X7) (Xg ltS Prp.key ps key) (X7 ⟨key, v⟩) h6 (X6F _) (by omega) (by omega)
 have hm := YJ 20
 rw [hlm] at hd
 clear hb eS eL eM z hok hr h6 b
 generalize Xg ltS Prp.key ps key = i at *
 generalize ps.map X7 = xs at *
 obtain ⟨k0, k1, k2, k3, k4⟩ := v
 simp only [Xm, US, X7, Y5] at *
 have hlt' : (xs.length : Int) < 16 := by omega
 have hlm' : ps.length = xs.length := hlm.symm
 refine Qeg ?_; refine Qfg ?_; refine JF ?_; refine X2 ?_; refine Qd ?_; refine Z5 ?_; refine Z0k (op := .lss) (r' := .bool true) (u := .int .i64 (xs.length : Nat)) (v := .int .i64 16) ?_ (hr' := by exact congrArg Value.bool (decide_eq_true hlt')); refine Zr (hcon := hm) ?_; refine Qg ?_; refine Qq ?_; refine ZX ?_; refine ZJ ?_; refine Zo ?_; refine Zr (hcon := hd) ?_; refine Qb ?_
 (show AWP Tryz.prog E _ _ _; refine X1 ?_; exact (show Xd _ _ _ _ _ from ⟨_, St.le_refl _, ⟨rfl, trivial⟩, XX ⟨rfl, rfl, trivial⟩⟩))
theorem X8D (hr : Y0 ltS Prp.key ps) (hl : ps.length ≤ 16) (hok : ¬ (XP ps key v).length ≤ 16) :
  YV Tryz.prog 234 [(121, .row 6 (ps.map X7))] [.own 121 ps.length, .d (.v (.string (X5 key))), Xm v] (Ue 20) := by
 refine V4 Tryz.func234 rfl Tryz.ntmps234 rfl (fun E => ?_)
 have hc := X0R 121 (X7V ps key (by omega) hr)
 rw [List.length_map] at hc
 have hz := X7m v
 have hlm : (ps.map X7).length = ps.length := List.length_map ..
 have z : YA v = false := by
  by_cases z : YA v = true
  ·refine absurd ?_ hok
   unfold XP
   rw [if_pos z]
   have := X1j (lt := ltS) (key := Prp.key) (l := ps) (k := key) (ns := [])
   simp only [List.length_nil] at this
   omega
  ·simpa using z
 have b : Xl Prp.key ps key = false := by
  by_cases b : Xl Prp.key ps key = true
  ·refine absurd ?_ hok
   unfold XP
   rw [if_neg (by simp [z]), X5P Vo hr b]; exact hl
  ·simpa using b
 have h16 : ¬ (ps.length : Int) < 16 := by
  intro q
  refine hok ?_
  unfold XP
  rw [if_neg (by simp [z])]
  have := X1j (lt := ltS) (key := Prp.key) (l := ps) (k := key) (ns := [⟨key, v⟩])
  simp only [List.length_singleton] at this
  omega
 rw [z] at hz
 rw [b] at hc
 clear z b hok hr
 generalize Xg ltS Prp.key ps key = i at *
 generalize ps.map X7 = xs at *
 obtain ⟨k0, k1, k2, k3, k4⟩ := v
 simp only [Xm, US] at *
 refine Qeg ?_; refine Qfg ?_; refine JF ?_; refine X2 ?_; refine X0 ?_; refine Vr 3 rfl (fun _ => rfl) ?_
 have h16' : ¬ (xs.length : Int) < 16 := by omega
 have hlm' : ps.length = xs.length := hlm.symm
 refine Z1 ?_; refine Z5 ?_; refine Z0k (op := .lss) (r' := .bool false) (u := .int .i64 (xs.length : Nat)) (v := .int .i64 16) ?_ (hr' := by exact congrArg Value.bool (decide_eq_false h16'))
 (refine .done (fun h => Bool.noConfusion h) ?_; apply Vp (hcon := Vk 20); (case hxs => exact rfl); (case hys => conv => lhs; whnf); (case hle => ((repeat (first | exact trivial | refine ⟨(by (first | ((exact AVal.le_refl _)) | ((exact AVal.le_nil _)) | ((refine AVal.le_agg ?_; ((repeat (first | exact trivial | refine ⟨(by (first | ((exact AVal.le_refl _)) | ((exact AVal.le_nil _)) | ((refine AVal.le_of_eq ?_; (conv => lhs; whnf); (first | ((rfl)) | ((simp <;> fail)) | fail))) | fail)), ?_⟩ | fail)) <;> fail))) | ((refine AVal.le_of_eq ?_; (conv => lhs; whnf); (first | ((rfl)) | ((simp <;> fail)) | fail))) | fail)), ?_⟩ | fail)) <;> fail)); (case hf => exact rfl); (case hLi => (repeat (first | exact trivial | refine ⟨rfl, ?_⟩ | fail)) <;> fail))
end
end Go.Fw

/- Binary searches over rows whose keys rise. -/
import Derived.Test.YtonekjkmnhfjmaaGreatDoorM28
import Derived.Test.YtonekjkmnhfjmaaGreatDoorM29
set_option maxHeartbeats 16000000
namespace Go.Fw
open Go Go.Proofs
set_option maxRecDepth 100000
set_option linter.unusedVariables false
set_option linter.unusedSimpArgs false
abbrev RN := Int × D × D
def cRN (x : RN) : List D := [.v (.int .i64 x.1), x.2.1, x.2.2]
abbrev kRN (x : RN) : Int := x.1
abbrev RE := Int × Int × Int × List UInt8 × D
def cRE (x : RE) : List D := [.v (.int .i64 x.1), .v (.int .i64 x.2.1), .v (.int .i64 x.2.2.1), .v (.string (X5 x.2.2.2.1)), x.2.2.2.2]
abbrev kRE (x : RE) : Int := x.1
theorem X48 {α κ : Type} {lt : κ → κ → Bool} {key : α → κ} {l : List α} {n : κ} {i : Nat} (h : i ≤ l.length) (h1 : ∀ k x, k < i → l[k]? = some x → lt (key x) n = true) (h2 : ∀ x, l[i]? = some x → lt (key x) n = false) : Xf lt key l n = i :=
 X5k h (fun k x hk hx => h1 k x hk hx) (fun x hx => h2 x hx)
theorem XdQ {s t : List UInt8} (h : Op.bytesLess s t = true) : Vf s t = -1 := if_pos h
theorem Xd7 {s t : List UInt8} (h : ¬ Op.bytesLess s t = true) : ¬ Vf s t < 0 := by
 unfold Vf
 rw [if_neg h]
 split <;> decide
theorem Xdp {s t : List UInt8} : decide (Vf s t = 0) = decide (s = t) := by
 unfold Vf
 by_cases h : Op.bytesLess s t = true
 ·rw [if_pos h, decide_eq_false (by decide), decide_eq_false (fun e => by rw [e, X3x] at h; cases h)]
 ·rw [if_neg h]
  by_cases h' : s = t
  ·rw [if_pos h', decide_eq_true rfl, decide_eq_true h']
  ·rw [if_neg h', decide_eq_false (by decide), decide_eq_false h']
theorem X14 {α κ : Type} {lt : κ → κ → Bool} {key : α → κ} {l : List α} (hr : Y0 lt key l) {i j : Nat} {x y : α} (hx : l[i]? = some x) (hy : l[j]? = some y) (h : i < j) : lt (key x) (key y) = true := by
 have hi := (List.getElem?_eq_some_iff.1 hx)
 have hj := (List.getElem?_eq_some_iff.1 hy)
 obtain ⟨hi, rfl⟩ := hi
 obtain ⟨hj, rfl⟩ := hj
 exact (List.pairwise_iff_getElem.1 hr) i j hi hj h
theorem X7z (x : RN) (n : Int) : Con Tryz.prog 279 [] [.agg [ai x.1, .d x.2.1, .d x.2.2], ai n] [] (ai (XW x.1 n)) := by
 refine Xc (xs := [ai (XW x.1 n)]) Tryz.func279 rfl Tryz.ntmps279 rfl rfl rfl (fun E => ?_)
 have hc := X3j x.1 n
 generalize XW x.1 n = q at *
 obtain ⟨id, p, q'⟩ := x
 exact QGe
theorem XbI (l : List RN) (n : Int) (hl : l.length ≤ 4294967296) (hr : Y0 ltI kRN l) : Con Tryz.prog 157 [] [.d (.sl 3 (l.map cRN)), ai n, .fn 279 []] [] (.tup [ai (Xf ltI kRN l n), ab (Xn kRN l n)]) := by
 refine Xc (xs := [ai (Xf ltI kRN l n), ab (Xn kRN l n)]) Tryz.func157 rfl Tryz.ntmps157 rfl rfl rfl (fun E => ?_)
 have hlm : (l.map cRN).length = l.length := by simp
 refine QHe ?_
 refine Xz (ι := Nat × Nat) (fun q => q.1 ≤ q.2 ∧ q.2 ≤ l.length ∧ (∀ (k : Nat) (x : RN), k < q.1 → l[k]? = some x → ltI (kRN x) n = true) ∧ (∀ (k : Nat) (x : RN), q.2 ≤ k → l[k]? = some x → ltI (kRN x) n = false)) (fun q => ⟨49, [(0, .d (.sl 3 (l.map cRN))), (1, ai n), (2, .fn 279 []), (8, ai (l.map cRN).length), (9, ai q.1), (10, ai q.2)], []⟩) (fun q => q.2 - q.1) (0, l.length)
  ⟨Nat.zero_le _, Nat.le_refl _, fun k x h => absurd h (Nat.not_lt_zero _), fun k x h hx => absurd (List.getElem?_eq_some_iff.1 hx).1 (Nat.not_lt.2 h)⟩
  (X7 rfl ⟨JL, JL, JL, JL, JL, AVal.le_of_eq (by show ai _ = ai _; rw [hlm]), trivial⟩ trivial) ?_
 rintro ⟨i, j⟩ ⟨h1, h2, h3, h4⟩
 simp only at h1 h2 h3 h4
 by_cases hij : i < j
 case neg =>
  obtain rfl : i = j := by omega
  have hlow := X48 h2 h3 (fun x hx => h4 i x (Nat.le_refl _) hx)
  have hhas := UC (k := n) YB hr
  rw [hlow] at hhas
  rw [hlow, hhas]
  have hij' : ¬ (i : Int) < (i : Nat) := by omega
  by_cases hil : i < l.length
  ·have hil' : (i : Int) < (l.map cRN).length := by omega
   obtain ⟨x, hx⟩ := Xu (l := l) hil
   have hxc : (l.map cRN)[i]? = some (cRN x) := XD hx
   have hc := X7z x n
   have hd : decide (∃ y, l[i]? = some y ∧ kRN y = n) = decide (XW (kRN x) n = 0) := by rw [X76, hx]; simp
   rw [hd]
   generalize XW (kRN x) n = c at *
   clear hhas hlow hd hx h3 h4 hr
   obtain ⟨id, p, q'⟩ := x
   simp only [cRN, kRN] at hc hxc
   refine QJe ?_
   first | exact X1 ⟨_, St.le_refl _, ⟨rfl, rfl, trivial⟩, X3 _⟩ | exact X1 ⟨_, St.le_refl _, ⟨⟨rfl, rfl, trivial⟩, trivial⟩, X3 _⟩
  ·have hil' : ¬ (i : Int) < (l.map cRN).length := by omega
   have hd : decide (∃ y, l[i]? = some y ∧ kRN y = n) = false := by
    refine decide_eq_false ?_
    rintro ⟨y, hy, _⟩
    exact hil (List.getElem?_eq_some_iff.1 hy).1
   rw [hd]
   clear hhas hlow hd h3 h4 hr
   refine QKe ?_
   first | exact X1 ⟨_, St.le_refl _, ⟨rfl, rfl, trivial⟩, X3 _⟩ | exact X1 ⟨_, St.le_refl _, ⟨⟨rfl, rfl, trivial⟩, trivial⟩, X3 _⟩
 have hij' : (i : Int) < (j : Nat) := by omega
 obtain ⟨x, hx⟩ := Xu (l := l) (k := (i + j) / 2) (by omega)
 have hxc : (l.map cRN)[(i + j) / 2]? = some (cRN x) := XD hx
 have hc := X7z x n
 have e2 : n64 ((i + j) / 2 ^ 1) = n64 ((i + j) / 2) := rfl
 by_cases hlt : ltI (kRN x) n = true
 ·have hinv : ∀ (k : Nat) (y : RN), k < (i + j) / 2 + 1 → l[k]? = some y → ltI (kRN y) n = true := fun k y hk hy => by
   by_cases e : k = (i + j) / 2
   ·subst e; rw [hx] at hy; injection hy with hy; subst hy; exact hlt
   ·exact YB.tr _ _ _ (X14 hr hy hx (by omega)) hlt
  rw [X56 (by simpa [ltI] using hlt)] at hc
  clear hlt hr h3 hx
  obtain ⟨id, p, q'⟩ := x
  simp only [cRN, kRN] at hc hxc
  refine QLe ?_; (refine Z7 (op := .add) (r' := ni (i + j)) (u := ni i) (v := ni j) ?_ (hr := by exact UF (by rw [Y4]; omega)))
  (refine Z3 (u := ni (i + j)) (r := n64 (i + j)) ?_ (hr := by exact Uj rfl rfl (by rw [X0z]; omega)))
  refine QMe ?_; (refine Z3 (u := n64 ((i + j) / 2)) (r := ni ((i + j) / 2)) ?_ (hr := by exact Uj rfl rfl (by rw [Y4]; omega))); exact QOe
 ·have hinv : ∀ (k : Nat) (y : RN), (i + j) / 2 ≤ k → l[k]? = some y → ltI (kRN y) n = false := fun k y hk hy => by
   by_cases e : k = (i + j) / 2
   ·subst e; rw [hx] at hy; injection hy with hy; subst hy; simpa using hlt
   ·have h5 := X14 hr hx hy (by omega)
    by_cases q : ltI (kRN y) n = true
    ·exact absurd (YB.tr _ _ _ h5 q) hlt
    ·simpa using q
  have hge := X5J (x := kRN x) (y := n) (by simpa [ltI] using hlt)
  clear hlt hr h4 hx
  generalize XW (kRN x) n = c at *
  obtain ⟨id, p, q'⟩ := x
  simp only [cRN, kRN] at hc hxc
  refine QLe ?_; (refine Z7 (op := .add) (r' := ni (i + j)) (u := ni i) (v := ni j) ?_ (hr := by exact UF (by rw [Y4]; omega)))
  (refine Z3 (u := ni (i + j)) (r := n64 (i + j)) ?_ (hr := by exact Uj rfl rfl (by rw [X0z]; omega)))
  refine QMe ?_; (refine Z3 (u := n64 ((i + j) / 2)) (r := ni ((i + j) / 2)) ?_ (hr := by exact Uj rfl rfl (by rw [Y4]; omega))); exact QQe
theorem X9H (x : RE) (n : Int) : Con Tryz.prog 291 [] [.agg [ai x.1, ai x.2.1, ai x.2.2.1, .d (.v (.string (X5 x.2.2.2.1))), .d x.2.2.2.2], ai n] [] (ai (XW x.1 n)) := by
 refine Xc (xs := [ai (XW x.1 n)]) Tryz.func291 rfl Tryz.ntmps291 rfl rfl rfl (fun E => ?_)
 have hc := X3j x.1 n
 generalize XW x.1 n = q at *
 obtain ⟨id, s, t, ty, p⟩ := x
 exact QGe
theorem Xci (l : List RE) (n : Int) (hl : l.length ≤ 4294967296) (hr : Y0 ltI kRE l) : Con Tryz.prog 290 [] [.d (.sl 5 (l.map cRE)), ai n, .fn 291 []] [] (.tup [ai (Xf ltI kRE l n), ab (Xn kRE l n)]) := by
 refine Xc (xs := [ai (Xf ltI kRE l n), ab (Xn kRE l n)]) Tryz.func290 rfl Tryz.ntmps290 rfl rfl rfl (fun E => ?_)
 have hlm : (l.map cRE).length = l.length := by simp
 refine QHe ?_
 refine Xz (ι := Nat × Nat) (fun q => q.1 ≤ q.2 ∧ q.2 ≤ l.length ∧ (∀ (k : Nat) (x : RE), k < q.1 → l[k]? = some x → ltI (kRE x) n = true) ∧ (∀ (k : Nat) (x : RE), q.2 ≤ k → l[k]? = some x → ltI (kRE x) n = false)) (fun q => ⟨49, [(0, .d (.sl 5 (l.map cRE))), (1, ai n), (2, .fn 291 []), (8, ai (l.map cRE).length), (9, ai q.1), (10, ai q.2)], []⟩) (fun q => q.2 - q.1) (0, l.length)
  ⟨Nat.zero_le _, Nat.le_refl _, fun k x h => absurd h (Nat.not_lt_zero _), fun k x h hx => absurd (List.getElem?_eq_some_iff.1 hx).1 (Nat.not_lt.2 h)⟩
  (X7 rfl ⟨JL, JL, JL, JL, JL, AVal.le_of_eq (by show ai _ = ai _; rw [hlm]), trivial⟩ trivial) ?_
 rintro ⟨i, j⟩ ⟨h1, h2, h3, h4⟩
 simp only at h1 h2 h3 h4
 by_cases hij : i < j
 case neg =>
  obtain rfl : i = j := by omega
  have hlow := X48 h2 h3 (fun x hx => h4 i x (Nat.le_refl _) hx)
  have hhas := UC (k := n) YB hr
  rw [hlow] at hhas
  rw [hlow, hhas]
  have hij' : ¬ (i : Int) < (i : Nat) := by omega
  by_cases hil : i < l.length
  ·have hil' : (i : Int) < (l.map cRE).length := by omega
   obtain ⟨x, hx⟩ := Xu (l := l) hil
   have hxc : (l.map cRE)[i]? = some (cRE x) := XD hx
   have hc := X9H x n
   have hd : decide (∃ y, l[i]? = some y ∧ kRE y = n) = decide (XW (kRE x) n = 0) := by rw [X76, hx]; simp
   rw [hd]
   generalize XW (kRE x) n = c at *
   clear hhas hlow hd hx h3 h4 hr
   obtain ⟨id, s, t, ty, p⟩ := x
   simp only [cRE, kRE] at hc hxc
   refine QJe ?_
   first | exact X1 ⟨_, St.le_refl _, ⟨rfl, rfl, trivial⟩, X3 _⟩ | exact X1 ⟨_, St.le_refl _, ⟨⟨rfl, rfl, trivial⟩, trivial⟩, X3 _⟩
  ·have hil' : ¬ (i : Int) < (l.map cRE).length := by omega
   have hd : decide (∃ y, l[i]? = some y ∧ kRE y = n) = false := by
    refine decide_eq_false ?_
    rintro ⟨y, hy, _⟩
    exact hil (List.getElem?_eq_some_iff.1 hy).1
   rw [hd]
   clear hhas hlow hd h3 h4 hr
   refine QKe ?_
   first | exact X1 ⟨_, St.le_refl _, ⟨rfl, rfl, trivial⟩, X3 _⟩ | exact X1 ⟨_, St.le_refl _, ⟨⟨rfl, rfl, trivial⟩, trivial⟩, X3 _⟩
 have hij' : (i : Int) < (j : Nat) := by omega
 obtain ⟨x, hx⟩ := Xu (l := l) (k := (i + j) / 2) (by omega)
 have hxc : (l.map cRE)[(i + j) / 2]? = some (cRE x) := XD hx
 have hc := X9H x n
 have e2 : n64 ((i + j) / 2 ^ 1) = n64 ((i + j) / 2) := rfl
 by_cases hlt : ltI (kRE x) n = true
 ·have hinv : ∀ (k : Nat) (y : RE), k < (i + j) / 2 + 1 → l[k]? = some y → ltI (kRE y) n = true := fun k y hk hy => by
   by_cases e : k = (i + j) / 2
   ·subst e; rw [hx] at hy; injection hy with hy; subst hy; exact hlt
   ·exact YB.tr _ _ _ (X14 hr hy hx (by omega)) hlt
  rw [X56 (by simpa [ltI] using hlt)] at hc
  clear hlt hr h3 hx
  obtain ⟨id, s, t, ty, p⟩ := x
  simp only [cRE, kRE] at hc hxc
  refine QLe ?_; (refine Z7 (op := .add) (r' := ni (i + j)) (u := ni i) (v := ni j) ?_ (hr := by exact UF (by rw [Y4]; omega)))
  (refine Z3 (u := ni (i + j)) (r := n64 (i + j)) ?_ (hr := by exact Uj rfl rfl (by rw [X0z]; omega)))
  refine QMe ?_; (refine Z3 (u := n64 ((i + j) / 2)) (r := ni ((i + j) / 2)) ?_ (hr := by exact Uj rfl rfl (by rw [Y4]; omega))); exact QOe
 ·have hinv : ∀ (k : Nat) (y : RE), (i + j) / 2 ≤ k → l[k]? = some y → ltI (kRE y) n = false := fun k y hk hy => by
   by_cases e : k = (i + j) / 2
   ·subst e; rw [hx] at hy; injection hy with hy; subst hy; simpa using hlt
   ·have h5 := X14 hr hx hy (by omega)
    by_cases q : ltI (kRE y) n = true
    ·exact absurd (YB.tr _ _ _ h5 q) hlt
    ·simpa using q
  have hge := X5J (x := kRE x) (y := n) (by simpa [ltI] using hlt)
  clear hlt hr h4 hx
  generalize XW (kRE x) n = c at *
  obtain ⟨id, s, t, ty, p⟩ := x
  simp only [cRE, kRE] at hc hxc
  refine QLe ?_; (refine Z7 (op := .add) (r' := ni (i + j)) (u := ni i) (v := ni j) ?_ (hr := by exact UF (by rw [Y4]; omega)))
  (refine Z3 (u := ni (i + j)) (r := n64 (i + j)) ?_ (hr := by exact Uj rfl rfl (by rw [X0z]; omega)))
  refine QMe ?_; (refine Z3 (u := n64 ((i + j) / 2)) (r := ni ((i + j) / 2)) ?_ (hr := by exact Uj rfl rfl (by rw [Y4]; omega))); exact QQe
theorem Xam (x : Prp) (n : List UInt8) : Con Tryz.prog 287 [] [.agg ((X6 x).map .d), .d (.v (.string (X5 n)))] [] (ai (Vf x.key n)) := by
 refine Xc (xs := [ai (Vf x.key n)]) Tryz.func287 rfl Tryz.ntmps287 rfl rfl rfl (fun E => ?_)
 have hc := Xc2 x.key n
 generalize Vf x.key n = q at *
 obtain ⟨key, ⟨k0, k1, k2, k3, k4⟩⟩ := x
 simp only [X6, Y1, List.map_cons, List.map_nil] at *
 exact QGe
theorem X9G (l : List Prp) (n : List UInt8) (hl : l.length ≤ 4294967296) (hr : Y0 ltS Prp.key l) : Con Tryz.prog 286 [] [.d (.sl 6 (l.map X6)), .d (.v (.string (X5 n))), .fn 287 []] [] (.tup [ai (Xf ltS Prp.key l n), ab (Xn Prp.key l n)]) := by
 refine Xc (xs := [ai (Xf ltS Prp.key l n), ab (Xn Prp.key l n)]) Tryz.func286 rfl Tryz.ntmps286 rfl rfl rfl (fun E => ?_)
 have hlm : (l.map X6).length = l.length := by simp
 refine QHe ?_
 refine Xz (ι := Nat × Nat) (fun q => q.1 ≤ q.2 ∧ q.2 ≤ l.length ∧ (∀ (k : Nat) (x : Prp), k < q.1 → l[k]? = some x → ltS (Prp.key x) n = true) ∧ (∀ (k : Nat) (x : Prp), q.2 ≤ k → l[k]? = some x → ltS (Prp.key x) n = false)) (fun q => ⟨49, [(0, .d (.sl 6 (l.map X6))), (1, .d (.v (.string (X5 n)))), (2, .fn 287 []), (8, ai (l.map X6).length), (9, ai q.1), (10, ai q.2)], []⟩) (fun q => q.2 - q.1) (0, l.length)
  ⟨Nat.zero_le _, Nat.le_refl _, fun k x h => absurd h (Nat.not_lt_zero _), fun k x h hx => absurd (List.getElem?_eq_some_iff.1 hx).1 (Nat.not_lt.2 h)⟩
  (X7 rfl ⟨JL, JL, JL, JL, JL, AVal.le_of_eq (by show ai _ = ai _; rw [hlm]), trivial⟩ trivial) ?_
 rintro ⟨i, j⟩ ⟨h1, h2, h3, h4⟩
 simp only at h1 h2 h3 h4
 by_cases hij : i < j
 case neg =>
  obtain rfl : i = j := by omega
  have hlow := X48 h2 h3 (fun x hx => h4 i x (Nat.le_refl _) hx)
  have hhas := UC (k := n) V6 hr
  rw [hlow] at hhas
  rw [hlow, hhas]
  have hij' : ¬ (i : Int) < (i : Nat) := by omega
  by_cases hil : i < l.length
  ·have hil' : (i : Int) < (l.map X6).length := by omega
   obtain ⟨x, hx⟩ := Xu (l := l) hil
   have hxc : (l.map X6)[i]? = some (X6 x) := XD hx
   have hc := Xam x n
   have hd : decide (∃ y, l[i]? = some y ∧ Prp.key y = n) = decide (Vf (Prp.key x) n = 0) := by rw [Xdp, hx]; simp
   rw [hd]
   generalize Vf (Prp.key x) n = c at *
   clear hhas hlow hd hx h3 h4 hr
   obtain ⟨key, ⟨k0, k1, k2, k3, k4⟩⟩ := x
   simp only [X6, Y1, List.map_cons, List.map_nil] at hc hxc
   refine QJe ?_
   first | exact X1 ⟨_, St.le_refl _, ⟨rfl, rfl, trivial⟩, X3 _⟩ | exact X1 ⟨_, St.le_refl _, ⟨⟨rfl, rfl, trivial⟩, trivial⟩, X3 _⟩
  ·have hil' : ¬ (i : Int) < (l.map X6).length := by omega
   have hd : decide (∃ y, l[i]? = some y ∧ Prp.key y = n) = false := by
    refine decide_eq_false ?_
    rintro ⟨y, hy, _⟩
    exact hil (List.getElem?_eq_some_iff.1 hy).1
   rw [hd]
   clear hhas hlow hd h3 h4 hr
   refine QKe ?_
   first | exact X1 ⟨_, St.le_refl _, ⟨rfl, rfl, trivial⟩, X3 _⟩ | exact X1 ⟨_, St.le_refl _, ⟨⟨rfl, rfl, trivial⟩, trivial⟩, X3 _⟩
 have hij' : (i : Int) < (j : Nat) := by omega
 obtain ⟨x, hx⟩ := Xu (l := l) (k := (i + j) / 2) (by omega)
 have hxc : (l.map X6)[(i + j) / 2]? = some (X6 x) := XD hx
 have hc := Xam x n
 have e2 : n64 ((i + j) / 2 ^ 1) = n64 ((i + j) / 2) := rfl
 by_cases hlt : ltS (Prp.key x) n = true
 ·have hinv : ∀ (k : Nat) (y : Prp), k < (i + j) / 2 + 1 → l[k]? = some y → ltS (Prp.key y) n = true := fun k y hk hy => by
   by_cases e : k = (i + j) / 2
   ·subst e; rw [hx] at hy; injection hy with hy; subst hy; exact hlt
   ·exact V6.tr _ _ _ (X14 hr hy hx (by omega)) hlt
  rw [XdQ hlt] at hc
  clear hlt hr h3 hx
  obtain ⟨key, ⟨k0, k1, k2, k3, k4⟩⟩ := x
  simp only [X6, Y1, List.map_cons, List.map_nil] at hc hxc
  refine QLe ?_; (refine Z7 (op := .add) (r' := ni (i + j)) (u := ni i) (v := ni j) ?_ (hr := by exact UF (by rw [Y4]; omega)))
  (refine Z3 (u := ni (i + j)) (r := n64 (i + j)) ?_ (hr := by exact Uj rfl rfl (by rw [X0z]; omega)))
  refine QMe ?_; (refine Z3 (u := n64 ((i + j) / 2)) (r := ni ((i + j) / 2)) ?_ (hr := by exact Uj rfl rfl (by rw [Y4]; omega))); exact QOe
 ·have hinv : ∀ (k : Nat) (y : Prp), (i + j) / 2 ≤ k → l[k]? = some y → ltS (Prp.key y) n = false := fun k y hk hy => by
   by_cases e : k = (i + j) / 2
   ·subst e; rw [hx] at hy; injection hy with hy; subst hy; simpa using hlt
   ·have h5 := X14 hr hx hy (by omega)
    by_cases q : ltS (Prp.key y) n = true
    ·exact absurd (V6.tr _ _ _ h5 q) hlt
    ·simpa using q
  have hge := Xd7 hlt
  clear hlt hr h4 hx
  generalize Vf (Prp.key x) n = c at *
  obtain ⟨key, ⟨k0, k1, k2, k3, k4⟩⟩ := x
  simp only [X6, Y1, List.map_cons, List.map_nil] at hc hxc
  refine QLe ?_; (refine Z7 (op := .add) (r' := ni (i + j)) (u := ni i) (v := ni j) ?_ (hr := by exact UF (by rw [Y4]; omega)))
  (refine Z3 (u := ni (i + j)) (r := n64 (i + j)) ?_ (hr := by exact Uj rfl rfl (by rw [X0z]; omega)))
  refine QMe ?_; (refine Z3 (u := n64 ((i + j) / 2)) (r := ni ((i + j) / 2)) ?_ (hr := by exact Uj rfl rfl (by rw [Y4]; omega))); exact QQe
theorem XgX (s t : List UInt8) : Con Tryz.prog 282 [] [.d (.v (.string (X5 s))), .d (.v (.string (X5 t)))] [] (ab (Op.bytesLess s t)) := by
 refine Xc (xs := [ab (Op.bytesLess s t)]) Tryz.func282 rfl Tryz.ntmps282 rfl rfl rfl (fun E => ?_)
 have h1 := X2X s
 have h2 := X2X t
 refine Qe ?_; refine Z9 (hcon := h1) ?_; refine QWa ?_; refine QX ?_; refine Z01 ?_; refine Zq ?_; exact QNa
theorem Xf6 (s : List UInt8) : Con Tryz.prog 283 [] [.d (.v (.string (X5 s)))] [] (ab false) := by
 refine Xc (xs := [ab false]) Tryz.func283 rfl Tryz.ntmps283 rfl rfl rfl (fun E => ?_)
 refine QHa ?_; refine ZM ?_; refine Qb ?_
 (show AWP Tryz.prog E _ _ _; refine X1 ?_; exact (show Xd _ _ _ _ _ from ⟨_, XF 2 (AVal.le_of_eq (by show ab _ = ab _; simp)), ⟨rfl, trivial⟩, X3 _⟩))
theorem X3d (l : List (List UInt8)) (n : List UInt8) (hl : l.length ≤ 4294967296) (hr : Y0 ltS XC l) : Con Tryz.prog 231 [] [.d (.sl 1 (l.map Xb)), .d (.v (.string (X5 n)))] [] (.tup [ai (Xf ltS XC l n), ab (Xn XC l n)]) := by
 refine Xc (xs := [ai (Xf ltS XC l n), ab (Xn XC l n)]) Tryz.func231 rfl Tryz.ntmps231 rfl rfl rfl (fun E => ?_)
 have hlm : (l.map Xb).length = l.length := by simp
 refine QHe ?_
 refine Xz (ι := Nat × Nat) (fun q => q.1 ≤ q.2 ∧ q.2 ≤ l.length ∧ (∀ (k : Nat) (x : List UInt8), k < q.1 → l[k]? = some x → ltS x n = true) ∧ (∀ (k : Nat) (x : List UInt8), q.2 ≤ k → l[k]? = some x → ltS x n = false)) (fun q => ⟨54, [(0, .d (.sl 1 (l.map Xb))), (1, .d (.v (.string (X5 n)))), (6, ai (l.map Xb).length), (7, ai q.1), (8, ai q.2)], []⟩) (fun q => q.2 - q.1) (0, l.length)
  ⟨Nat.zero_le _, Nat.le_refl _, fun k x h => absurd h (Nat.not_lt_zero _), fun k x h hx => absurd (List.getElem?_eq_some_iff.1 hx).1 (Nat.not_lt.2 h)⟩
  (X7 rfl ⟨JL, JL, JL, JL, AVal.le_of_eq (by show ai _ = ai _; rw [hlm]), trivial⟩ trivial) ?_
 rintro ⟨i, j⟩ ⟨h1, h2, h3, h4⟩
 simp only at h1 h2 h3 h4
 by_cases hij : i < j
 case neg =>
  obtain rfl : i = j := by omega
  have hlow := X48 (key := XC) h2 h3 (fun x hx => h4 i x (Nat.le_refl _) hx)
  have hhas := UC (k := n) V6 hr
  rw [hlow] at hhas
  rw [hlow, hhas]
  have hij' : ¬ (i : Int) < (i : Nat) := by omega
  by_cases hil : i < l.length
  ·have hil' : (i : Int) < (l.map Xb).length := by omega
   obtain ⟨x, hx⟩ := Xu (l := l) hil
   have hxc : (l.map Xb)[i]? = some [.v (.string (X5 x))] := XD hx
   have hn1 := Xf6 x
   by_cases hxn : x = n
   ·have hd : decide (∃ y, l[i]? = some y ∧ XC y = n) = true := decide_eq_true ⟨x, hx, hxn⟩
    rw [hd]
    clear hhas hlow hd hx h3 h4 hr
    subst hxn
    refine QOc ?_; refine QMa ?_; refine Qf ?_; refine Qta ?_; refine QXc ?_; refine Z1 ?_; refine Zr ?_; refine QXa ?_; refine Qj ?_; refine Qk ?_; refine Zn ?_; refine QKa ?_
    first | exact X1 ⟨_, St.le_refl _, ⟨rfl, rfl, trivial⟩, X3 _⟩ | exact X1 ⟨_, St.le_refl _, ⟨⟨rfl, rfl, trivial⟩, trivial⟩, X3 _⟩
   ·have hd : decide (∃ y, l[i]? = some y ∧ XC y = n) = false := decide_eq_false (by rintro ⟨y, hy, e⟩; rw [hx] at hy; cases hy; exact hxn e)
    rw [hd]
    clear hhas hlow hd hx h3 h4 hr
    refine QOc ?_; refine QMa ?_; refine Qf ?_; refine Qta ?_; refine QXc ?_; refine Z1 ?_; refine Zr ?_; refine Qf ?_; refine QXc ?_; refine Z9 (hcon := hn1) ?_; refine Qr ?_; refine Zq ?_; refine Zn ?_; refine QKa ?_
    first | exact X1 ⟨_, St.le_refl _, ⟨rfl, rfl, trivial⟩, X3 _⟩ | exact X1 ⟨_, St.le_refl _, ⟨⟨rfl, rfl, trivial⟩, trivial⟩, X3 _⟩
  ·have hil' : ¬ (i : Int) < (l.map Xb).length := by omega
   have hd : decide (∃ y, l[i]? = some y ∧ XC y = n) = false := by
    refine decide_eq_false ?_
    rintro ⟨y, hy, _⟩
    exact hil (List.getElem?_eq_some_iff.1 hy).1
   rw [hd]
   clear hhas hlow hd h3 h4 hr
   refine QOc ?_; refine QMa ?_; refine Qf ?_; refine Z8 ?_; refine QXa ?_; refine Zo ?_; refine QT ?_; refine QT ?_; refine Zp ?_; refine QU ?_; refine QKa ?_
   first | exact X1 ⟨_, St.le_refl _, ⟨rfl, rfl, trivial⟩, X3 _⟩ | exact X1 ⟨_, St.le_refl _, ⟨⟨rfl, rfl, trivial⟩, trivial⟩, X3 _⟩
 have hij' : (i : Int) < (j : Nat) := by omega
 obtain ⟨x, hx⟩ := Xu (l := l) (k := (i + j) / 2) (by omega)
 have hxc : (l.map Xb)[(i + j) / 2]? = some [.v (.string (X5 x))] := XD hx
 have hc := XgX x n
 have e2 : n64 ((i + j) / 2 ^ 1) = n64 ((i + j) / 2) := rfl
 by_cases hlt : ltS x n = true
 ·have hinv : ∀ (k : Nat) (y : List UInt8), k < (i + j) / 2 + 1 → l[k]? = some y → ltS y n = true := fun k y hk hy => by
   by_cases e : k = (i + j) / 2
   ·subst e; rw [hx] at hy; injection hy with hy; subst hy; exact hlt
   ·exact V6.tr _ _ _ (X14 hr hy hx (by omega)) hlt
  rw [show Op.bytesLess x n = true from hlt] at hc
  clear hlt hr h3 hx
  refine QLe ?_; (refine Z7 (op := .add) (r' := ni (i + j)) (u := ni i) (v := ni j) ?_ (hr := by exact UF (by rw [Y4]; omega)))
  (refine Z3 (u := ni (i + j)) (r := n64 (i + j)) ?_ (hr := by exact Uj rfl rfl (by rw [X0z]; omega)))
  refine QMe ?_; (refine Z3 (u := n64 ((i + j) / 2)) (r := ni ((i + j) / 2)) ?_ (hr := by exact Uj rfl rfl (by rw [Y4]; omega))); refine QQ ?_; refine QXc ?_; refine QFe ?_; exact QNe
 ·have hinv : ∀ (k : Nat) (y : List UInt8), (i + j) / 2 ≤ k → l[k]? = some y → ltS y n = false := fun k y hk hy => by
   by_cases e : k = (i + j) / 2
   ·subst e; rw [hx] at hy; injection hy with hy; subst hy; simpa using hlt
   ·have h5 := X14 hr hx hy (by omega)
    by_cases q : ltS y n = true
    ·exact absurd (V6.tr _ _ _ h5 q) hlt
    ·simpa using q
  rw [show Op.bytesLess x n = false by simpa using hlt] at hc
  clear hlt hr h4 hx
  refine QLe ?_; (refine Z7 (op := .add) (r' := ni (i + j)) (u := ni i) (v := ni j) ?_ (hr := by exact UF (by rw [Y4]; omega)))
  (refine Z3 (u := ni (i + j)) (r := n64 (i + j)) ?_ (hr := by exact Uj rfl rfl (by rw [X0z]; omega)))
  refine QMe ?_; (refine Z3 (u := n64 ((i + j) / 2)) (r := ni ((i + j) / 2)) ?_ (hr := by exact Uj rfl rfl (by rw [Y4]; omega))); refine QQ ?_; refine QXc ?_; refine QFe ?_; exact QPe
def YW (e : Int) : List PanicEntry := [{ v := .iface 194 (.int .i64 e), recovered := false }]
theorem Yy (e : Int) : Con Tryz.prog 228 [] [ab true, ai e] [] (.tup []) := by
 refine Xc (xs := []) Tryz.func228 rfl Tryz.ntmps228 rfl rfl rfl (fun E => ?_)
 refine Qd ?_; refine QYb ?_; exact ⟨_, St.le_refl _, trivial, X3 _⟩
theorem V9 (e : Int) : YI Tryz.prog 228 [] [ab false, ai e] (YW e) := by
 refine UL Tryz.func228 rfl Tryz.ntmps228 rfl (fun E => ?_)
 refine Qd ?_; refine Zu ?_; refine Qx ?_; refine Xhq 2 rfl (fun _ => rfl) ?_; refine Z1 ?_; refine Z0s ?_; exact .done (fun h => Bool.noConfusion h) rfl
abbrev edL (rn : List RN) (re : List RE) (nn ne : Int) : List (Nat × AObj) := [(0, .box [.own 3 rn.length, .own 4 re.length, ai nn, ai ne]), (3, .row 3 (rn.map cRN)), (4, .row 5 (re.map cRE))]
theorem Uc (rn : List RN) (re : List RE) (nn ne : Int) (id : Int) (hl : rn.length ≤ 4294967296) (hr : Y0 ltI kRN rn) :
  Con Tryz.prog 227 (edL rn re nn ne) [.ptr 0 0, ai id] (edL rn re nn ne) (.tup [ai (Xf ltI kRN rn id), ab (Xn kRN rn id)]) := by
 refine Xc (xs := [ai (Xf ltI kRN rn id), ab (Xn kRN rn id)]) Tryz.func227 rfl Tryz.ntmps227 rfl rfl rfl (fun E => ?_)
 have hc := X0O 3 (XbI rn id hl hr)
 rw [List.length_map] at hc
 generalize Xf ltI kRN rn id = a at *
 generalize Xn kRN rn id = b at *
 refine Qa ?_; refine Z0 ?_; refine QQ ?_; refine Qxf ?_; refine QFe ?_; refine ZF ?_; refine ZF ?_; refine QKa ?_; exact X1 ⟨_, St.le_refl _, ⟨rfl, rfl, trivial⟩, XZ ⟨rfl, rfl, rfl, trivial⟩⟩
theorem X0l (rn : List RN) (re : List RE) (nn ne : Int) (id : Int) (hl : re.length ≤ 4294967296) (hr : Y0 ltI kRE re) :
  Con Tryz.prog 235 (edL rn re nn ne) [.ptr 0 0, ai id] (edL rn re nn ne) (.tup [ai (Xf ltI kRE re id), ab (Xn kRE re id)]) := by
 refine Xc (xs := [ai (Xf ltI kRE re id), ab (Xn kRE re id)]) Tryz.func235 rfl Tryz.ntmps235 rfl rfl rfl (fun E => ?_)
 have hc := X0O 4 (Xci re id hl hr)
 rw [List.length_map] at hc
 generalize Xf ltI kRE re id = a at *
 generalize Xn kRE re id = b at *
 refine Qa ?_; refine Z0 ?_; refine QQ ?_; refine Qxf ?_; refine QFe ?_; refine ZF ?_; refine ZF ?_; refine QKa ?_; exact X1 ⟨_, St.le_refl _, ⟨rfl, rfl, trivial⟩, XZ ⟨rfl, rfl, rfl, trivial⟩⟩
theorem X6C (p : Prp) : (X6 p).length = 6 := by obtain ⟨k, ⟨a, b, c, d, e⟩⟩ := p; rfl
theorem Xdo (ps : List Prp) : ∀ x ∈ ps.map X6, x.length = 6 := fun x hx => by obtain ⟨p, _, rfl⟩ := List.mem_map.1 hx; exact X6C p
theorem Xbl {sz i o : Nat} {xs : List (List D)} {T : List (Option D)} {a b c b' : List D} (h : ∀ x ∈ xs, x.length = sz) (hx : xs[i]? = some (a ++ b ++ c)) (ho : a.length = o) (hb : b'.length = b.length) :
  XA (fl (xs.set i (a ++ b' ++ c)) ++ T) none = (XA (fl xs ++ T) none).take (i * sz + o) ++ b'.map .d ++ (XA (fl xs ++ T) none).drop (i * sz + o + (b'.map AVal.d).length) := by
 have hi : i < xs.length := (List.getElem?_eq_some_iff.1 hx).1
 have hxi : xs[i] = a ++ b ++ c := by rw [List.getElem?_eq_getElem hi] at hx; simpa using hx
 have hl : (a ++ b ++ c).length = sz := by rw [← hxi]; exact h _ (List.getElem_mem hi)
 have e1 : xs = xs.take i ++ (a ++ b ++ c) :: xs.drop (i + 1) := by rw [← hxi, ← List.drop_eq_getElem_cons hi, List.take_append_drop]
 have lt : (xs.take i).length = i := by rw [List.length_take]; omega
 have e2 : xs.set i (a ++ b' ++ c) = xs.take i ++ (a ++ b' ++ c) :: xs.drop (i + 1) := by
  conv => lhs; rw [e1]
  rw [List.set_append_right _ _ (by omega), lt, Nat.sub_self]; rfl
 have f1 : ∀ m : List D, XA (fl (xs.take i ++ (a ++ m ++ c) :: xs.drop (i + 1)) ++ T) none = ((fl (xs.take i)).map oA ++ a.map .d) ++ (m.map .d ++ (c.map .d ++ ((fl (xs.drop (i + 1))).map oA ++ T.map oA))) := by
  intro m
  have hc : ∀ l : List D, (l.map some).map oA = l.map .d := fun l => by rw [List.map_map]; rfl
  rw [show xs.take i ++ (a ++ m ++ c) :: xs.drop (i + 1) = xs.take i ++ ([a ++ m ++ c] ++ xs.drop (i + 1)) from rfl, X1w, X1w]
  simp only [XA, List.map_append, List.append_assoc]
  have : (fl [a ++ (m ++ c)]).map oA = a.map .d ++ (m.map .d ++ c.map .d) := by simp only [fl, List.flatten_cons, List.flatten_nil, List.append_nil, hc, List.map_append]
  rw [this]
  simp only [List.append_assoc]
 have la : ((fl (xs.take i)).map oA ++ a.map AVal.d).length = i * sz + o := by
  have : ((fl (xs.take i)).map oA).length = i * sz := by rw [List.length_map, Yc (Ur h i), lt]
  rw [List.length_append, this, List.length_map, ho]
 have part : ∀ (A M M' R : List AVal) (n : Nat), A.length = n → M'.length = M.length → A ++ (M' ++ R) = (A ++ (M ++ R)).take n ++ M' ++ (A ++ (M ++ R)).drop (n + M'.length) := by
  intro A M M' R n h1 h2
  rw [List.take_left' h1, ← List.drop_drop, List.drop_left' h1, h2, List.drop_left' rfl, List.append_assoc]
 have e3 := f1 b
 rw [← e1] at e3
 rw [e2, f1 b', e3]
 exact part _ _ _ _ _ la (by rw [List.length_map, List.length_map, hb])
section
variable (ps : List Prp) (key : List UInt8) (v : Val)
theorem X9j (hr : Y0 ltS Prp.key ps) (hl : ps.length ≤ 16) (hok : (XV ps key v).length ≤ 16) :
  Con Tryz.prog 234 [(1, .row 6 (ps.map X6))] [.own 1 ps.length, .d (.v (.string (X5 key))), XG v] [(1, .dead), (110, .row 6 ((XV ps key v).map X6))] (.own 110 (XV ps key v).length) := by
 refine Xc (xs := [.own 110 (XV ps key v).length]) Tryz.func234 rfl Tryz.ntmps234 rfl rfl rfl (fun E => ?_)
 have hc := X0O 1 (X9G ps key (by omega) hr)
 rw [List.length_map] at hc
 have hz := X5E v
 have hb := UC (k := key) V6 hr
 have hle := X3r (lt := ltS) (key := Prp.key) ps key
 have h6 := Xdo ps
 have hlm : (ps.map X6).length = ps.length := List.length_map ..
 by_cases b : Xn Prp.key ps key = true
 case pos =>
  rw [b] at hc hb
  obtain ⟨x, hx, hk⟩ := decide_eq_true_iff.1 hb.symm
  have hi : Xf ltS Prp.key ps key < ps.length := (List.getElem?_eq_some_iff.1 hx).1
  by_cases z : Yo v = true
  ·have eS : XV ps key v = ps.take (Xf ltS Prp.key ps key) ++ ps.drop (Xf ltS Prp.key ps key + 1) := by
    unfold XV
    rw [if_pos z, X2L V6 hr hx hk, List.append_nil]
   rw [z] at hz
   have eL : (XV ps key v).length = ps.length - 1 := by rw [eS, List.length_append, List.length_take, List.length_drop]; omega
   have eM : (XV ps key v).map X6 = (ps.map X6).take (Xf ltS Prp.key ps key) ++ (ps.map X6).drop (Xf ltS Prp.key ps key + 1) := by rw [eS, List.map_append, List.map_take, List.map_drop]
   rw [eL, eM]
   have hd := Xhj (ps.map X6) (Xf ltS Prp.key ps key) h6 (by omega) (by omega)
   rw [hlm] at hd
   clear hb hx hk eS eL eM z hok hr h6 hlm
   generalize Xf ltS Prp.key ps key = i at *
   generalize ps.map X6 = xs at *
   obtain ⟨k0, k1, k2, k3, k4⟩ := v
   simp only [XG, UJ] at *
   refine Qzf ?_; refine Qf ?_; refine Qna ?_; refine JT ?_; refine QUc ?_; (refine Z7 (op := .add) (r' := .int .i64 ((i + 1 : Nat) : Int)) (u := .int .i64 (i : Nat)) (v := .int .i64 1) ?_ (hr := by exact Yk (by unfold Xw; omega))); refine Z9 (hcon := hd) ?_; refine Qb ?_
   (show AWP Tryz.prog E _ _ _; refine X1 ?_; exact (show Xd _ _ _ _ _ from ⟨_, St.le_refl _, ⟨rfl, trivial⟩, XZ ⟨rfl, rfl, trivial⟩⟩))
  ·have z : Yo v = false := by simpa using z
   have eS : XV ps key v = ps.take (Xf ltS Prp.key ps key) ++ [⟨key, v⟩] ++ ps.drop (Xf ltS Prp.key ps key + 1) := by
    unfold XV
    rw [if_neg (by simp [z]), X2L V6 hr hx hk]
   rw [z] at hz
   have hxi : ps[Xf ltS Prp.key ps key]? = some x := hx
   obtain ⟨xk, xv⟩ := x
   obtain rfl : xk = key := hk
   have eL : (XV ps xk v).length = ps.length := by rw [eS, List.length_append, List.length_append, List.length_take, List.length_drop, List.length_singleton]; omega
   generalize hI : Xf ltS Prp.key ps xk = i at *
   have e1 : ps.take i ++ [⟨xk, v⟩] ++ ps.drop (i + 1) = ps.set i ⟨xk, v⟩ := by
    conv => rhs; rw [← List.take_append_drop i ps, List.drop_eq_getElem_cons hi]
    rw [List.set_append_right _ _ (by rw [List.length_take]; omega), List.length_take, Nat.min_eq_left (by omega), Nat.sub_self, List.append_assoc]; rfl
   have eM : (XV ps xk v).map X6 = (ps.map X6).set i (X6 ⟨xk, v⟩) := by rw [eS, e1, List.map_set]
   rw [eL, eM]
   have hxc : (ps.map X6)[i]? = some ([.v (.string (X5 xk))] ++ Y1 xv ++ []) := by rw [List.getElem?_map, hxi]; simp [X6]
   have hv5 : (Y1 v).length = (Y1 xv).length := by cases v; cases xv; rfl
   have hpp := fun T => Xbl (T := T) (b' := Y1 v) h6 hxc rfl hv5
   have hset : ∀ y ∈ (ps.map X6).set i (X6 ⟨xk, v⟩), y.length = 6 := fun y hy => by
    rcases List.mem_or_eq_of_mem_set hy with hy | rfl
    ·exact h6 y hy
    ·exact X6C _
   have hfl := fun T => List.take_left' (l₂ := T) (Yc hset)
   rw [List.length_set, hlm] at hfl
   have hsl : ((ps.map X6).set i (X6 ⟨xk, v⟩)).length = ps.length := by rw [List.length_set, hlm]
   have hcp : X6 ⟨xk, v⟩ = [.v (.string (X5 xk))] ++ Y1 v ++ [] := by simp [X6]
   clear hb hx eS eL eM z hok hr hxc e1 hxi hI
   rw [← hcp] at hpp
   generalize hX' : (ps.map X6).set i (X6 ⟨xk, v⟩) = X' at *
   generalize ps.map X6 = xs at *
   obtain ⟨k0, k1, k2, k3, k4⟩ := v
   simp only [XG, UJ] at *
   refine Qoc ?_; refine QFe ?_; refine Qyf ?_; refine QO ?_; refine X0 ?_
   show AWP Tryz.prog E _ _ _
   refine X0r 0 1 120 rfl (by omega) rfl hlm.symm rfl rfl (fun c k hc1 hc2 hc3 _ => ?_)
   have hpp : XA (fl X' ++ List.replicate k none) none = (XA (fl xs ++ List.replicate k none) none).take (0 + i * 6 + 1) ++ [ai k0, ai k1, ai k2, .d (.v (.string (X5 k3))), .d (.sl 5 (Xx k4))] ++ (XA (fl xs ++ List.replicate k none) none).drop (0 + i * 6 + 1 + 5) := by rw [Nat.zero_add]; exact hpp _
   have hfl := hfl (List.replicate k none)
   have hT : (List.replicate k (none : Option D)).length = k := List.length_replicate
   generalize List.replicate k (none : Option D) = T at *
   have hlen : (List.map some xs.flatten ++ T).length = xs.length * 6 + k := by rw [List.length_append, hT]; exact congrArg (· + k) (Yc h6)
   have hlen' : (List.map some X'.flatten ++ T).length = xs.length * 6 + k := by rw [List.length_append, hT]; exact (congrArg (· + k) (Yc hset)).trans (by rw [hsl, hlm])
   have hcap : c * 6 ≤ (fl X' ++ T).length := by show c * 6 ≤ (List.map some X'.flatten ++ T).length; omega
   have hbd : 0 + i * 6 + 1 + 5 ≤ (List.map some xs.flatten ++ T).length := by omega
   refine JR ?_; refine ZL ?_; refine Z9 (hcon := hz) ?_; refine QAf ?_; refine Qmd ?_; refine QJa ?_; refine JT ?_; refine Qd ?_; refine Qpb ?_; refine Z0t (sz := 6) ?_; refine ZB ?_; (refine Z0u (cs' := fl X' ++ T) (ho' := none) ?_ (hcs := ?hcs105); (case hcs105 => exact hpp)); refine Qqf ?_
   show AWP Tryz.prog E _ _ _
   refine Xm (UW 6 120 110 X' (by conv => lhs; whnf) (by conv => lhs; whnf) hfl hsl hset (by omega) hc2 hcap rfl rfl) ?_
   (show AWP Tryz.prog E _ _ _; refine X1 ?_; exact (show Xd _ _ _ _ _ from ⟨_, St.le_refl _, ⟨rfl, trivial⟩, XZ ⟨rfl, rfl, trivial⟩⟩))
 have b : Xn Prp.key ps key = false := by simpa using b
 rw [b] at hc
 by_cases z : Yo v = true
 ·have eS : XV ps key v = ps := by
   unfold XV
   rw [if_pos z, X28 b, List.append_nil, List.take_append_drop]
  rw [z] at hz
  rw [eS]
  clear hb z hok hr h6 eS b
  generalize Xf ltS Prp.key ps key = i at *
  generalize ps.map X6 = xs at *
  obtain ⟨k0, k1, k2, k3, k4⟩ := v
  simp only [XG, UJ] at *
  refine Qzf ?_; refine Qf ?_; refine Qna ?_; refine JF ?_; refine QWb ?_; refine Z9 (hcon := hz) ?_; refine Qb ?_; refine JT ?_; refine QJa ?_
  show AWP Tryz.prog E _ _ _
  refine Xm (X33 6 1 110 rfl rfl hlm.symm rfl rfl) ?_
  (show AWP Tryz.prog E _ _ _; refine X1 ?_; exact (show Xd _ _ _ _ _ from ⟨_, St.le_refl _, ⟨rfl, trivial⟩, XZ ⟨rfl, rfl, trivial⟩⟩))
 have z : Yo v = false := by simpa using z
 have eS : XV ps key v = ps.take (Xf ltS Prp.key ps key) ++ [⟨key, v⟩] ++ ps.drop (Xf ltS Prp.key ps key) := by
  unfold XV
  rw [if_neg (by simp [z]), X28 b]
 rw [z] at hz
 have eL : (XV ps key v).length = ps.length + 1 := by rw [eS, List.length_append, List.length_append, List.length_take, List.length_drop, List.length_singleton]; omega
 have eM : (XV ps key v).map X6 = (ps.map X6).take (Xf ltS Prp.key ps key) ++ X6 ⟨key, v⟩ :: (ps.map X6).drop (Xf ltS Prp.key ps key) := by
  rw [eS, List.map_append, List.map_append, List.map_take, List.map_drop, List.append_assoc]; rfl
 have hlt : (ps.length : Int) < 16 := by omega
 rw [eL, eM]
 have hd := XgV (ps.map X6) (Xf ltS Prp.key ps key) (X6 ⟨key, v⟩) h6 (X6C _) (by omega) (by omega)
 have hm := Yy 20
 rw [hlm] at hd
 clear hb eS eL eM z hok hr h6 b
 generalize Xf ltS Prp.key ps key = i at *
 generalize ps.map X6 = xs at *
 obtain ⟨k0, k1, k2, k3, k4⟩ := v
 simp only [XG, UJ, X6, Y1] at *
 have hlt' : (xs.length : Int) < 16 := by omega
 have hlm' : ps.length = xs.length := hlm.symm
 refine Qzf ?_; refine QAf ?_; refine Qmd ?_; refine Qd ?_; refine Qmd ?_; refine X2 ?_; refine Qd ?_; refine Z0c ?_; refine Z0v (op := .lss) (r' := .bool true) (u := .int .i64 (xs.length : Nat)) (v := .int .i64 16) ?_ (hr' := by exact congrArg Value.bool (decide_eq_true hlt')); refine Z9 (hcon := hm) ?_; refine Qlf ?_; refine Qf ?_; refine ZL ?_; refine Zx ?_; refine Z5 ?_; refine Z9 (hcon := hd) ?_; refine Qb ?_
 (show AWP Tryz.prog E _ _ _; refine X1 ?_; exact (show Xd _ _ _ _ _ from ⟨_, St.le_refl _, ⟨rfl, trivial⟩, XZ ⟨rfl, rfl, trivial⟩⟩))
theorem Xai (hr : Y0 ltS Prp.key ps) (hl : ps.length ≤ 16) (hok : ¬ (XV ps key v).length ≤ 16) :
  YI Tryz.prog 234 [(121, .row 6 (ps.map X6))] [.own 121 ps.length, .d (.v (.string (X5 key))), XG v] (YW 20) := by
 refine UL Tryz.func234 rfl Tryz.ntmps234 rfl (fun E => ?_)
 have hc := X0O 121 (X9G ps key (by omega) hr)
 rw [List.length_map] at hc
 have hz := X5E v
 have hlm : (ps.map X6).length = ps.length := List.length_map ..
 have z : Yo v = false := by
  by_cases z : Yo v = true
  ·refine absurd ?_ hok
   unfold XV
   rw [if_pos z]
   have := X0W (lt := ltS) (key := Prp.key) (l := ps) (k := key) (ns := [])
   simp only [List.length_nil] at this
   omega
  ·simpa using z
 have b : Xn Prp.key ps key = false := by
  by_cases b : Xn Prp.key ps key = true
  ·refine absurd ?_ hok
   unfold XV
   rw [if_neg (by simp [z]), X5f V6 hr b]; exact hl
  ·simpa using b
 have h16 : ¬ (ps.length : Int) < 16 := by
  intro q
  refine hok ?_
  unfold XV
  rw [if_neg (by simp [z])]
  have := X0W (lt := ltS) (key := Prp.key) (l := ps) (k := key) (ns := [⟨key, v⟩])
  simp only [List.length_singleton] at this
  omega
 rw [z] at hz
 rw [b] at hc
 clear z b hok hr
 generalize Xf ltS Prp.key ps key = i at *
 generalize ps.map X6 = xs at *
 obtain ⟨k0, k1, k2, k3, k4⟩ := v
 simp only [XG, UJ] at *
 refine Qzf ?_; refine QAf ?_; refine Qmd ?_; refine Qd ?_; refine Qmd ?_; refine X2 ?_; refine X0 ?_; refine Va 3 rfl (fun _ => rfl) ?_
 have h16' : ¬ (xs.length : Int) < 16 := by omega
 have hlm' : ps.length = xs.length := hlm.symm
 refine Z1 ?_; refine Z0c ?_; refine Z0v (op := .lss) (r' := .bool false) (u := .int .i64 (xs.length : Nat)) (v := .int .i64 16) ?_ (hr' := by exact congrArg Value.bool (decide_eq_false h16'))
 (refine .done (fun h => Bool.noConfusion h) ?_; apply V4 (hcon := V9 20); (case hxs => exact rfl); (case hys => conv => lhs; whnf); (case hle => ((repeat (first | exact trivial | refine ⟨(by (first | ((exact AVal.le_refl _)) | ((exact AVal.le_nil _)) | ((refine AVal.le_agg ?_; ((repeat (first | exact trivial | refine ⟨(by (first | ((exact AVal.le_refl _)) | ((exact AVal.le_nil _)) | ((refine AVal.le_of_eq ?_; (conv => lhs; whnf); (first | ((rfl)) | ((simp <;> fail)) | fail))) | fail)), ?_⟩ | fail)) <;> fail))) | ((refine AVal.le_of_eq ?_; (conv => lhs; whnf); (first | ((rfl)) | ((simp <;> fail)) | fail))) | fail)), ?_⟩ | fail)) <;> fail)); (case hf => exact rfl); (case hLi => (repeat (first | exact trivial | refine ⟨rfl, ?_⟩ | fail)) <;> fail))
end
end Go.Fw

/- The order of rules, valid schemas; the program's and the reference's. -/
import Derived.Test.YtonekjkmnhfjmaaGreatDoorK23
set_option maxHeartbeats 16000000
namespace Go.Fw
open Go Go.Proofs
set_option maxRecDepth 100000
set_option linter.unusedVariables false
set_option linter.unusedSimpArgs false
theorem X3c (s t : List UInt8) : Con Tryz.prog 255 [] [.d (.v (.string (X5 s))), .d (.v (.string (X5 t)))] [] (ai (Y8 s t)) := by
 refine Xc (xs := [ai (Y8 s t)]) Tryz.func255 rfl Tryz.ntmps255 rfl rfl rfl (fun E => ?_)
 have n1 := X2Q s
 have n2 := X2Q t
 unfold Y8
 cases h1 : Op.bytesLess s t with
 | true =>
  rw [if_pos rfl]
  refine Qlf ?_; refine Z0d ?_; exact QZ
 | false =>
  rw [if_neg (by simp)]
  by_cases h2 : s = t
  ·rw [if_pos h2]
   have h3 : (!(Op.bytesLess s t || decide (s = t))) = false := by simp [h2]
   refine Qlf ?_; refine Z0d ?_; refine QLd ?_; refine Z0e ?_; exact QMd
  ·rw [if_neg h2]
   have h3 : (!(Op.bytesLess s t || decide (s = t))) = true := by simp [h1, h2]
   refine Qlf ?_; refine Z0d ?_; refine QLd ?_; refine Z0e ?_; exact QZ
theorem X4M (s t : List UInt8) : Con Tryz.prog 259 [] [.d (.v (.string (X5 s))), .d (.v (.string (X5 t)))] [] (ai (Y8 s t)) := by
 refine Xc (xs := [ai (Y8 s t)]) Tryz.func259 rfl Tryz.ntmps259 rfl rfl rfl (fun E => ?_)
 unfold Y8
 cases h1 : Op.bytesLess s t with
 | true =>
  rw [if_pos rfl]
  refine Qc ?_; refine Ql ?_; refine Z0d ?_; exact QZ
 | false =>
  rw [if_neg (by simp)]
  by_cases h2 : s = t
  ·rw [if_pos h2]
   have h3 : (!(Op.bytesLess s t || decide (s = t))) = false := by simp [h2]
   refine Qc ?_; refine Ql ?_; refine Z0d ?_; refine QLd ?_; refine Z0e ?_; exact QMd
  ·rw [if_neg h2]
   have h3 : (!(Op.bytesLess s t || decide (s = t))) = true := by simp [h1, h2]
   refine Qc ?_; refine Ql ?_; refine Z0d ?_; refine QLd ?_; refine Z0e ?_; exact QZ
theorem Xce (a b : Rul) : UY a b = orI [XL a.kind b.kind, Y8 a.name b.name, Y8 a.key b.key, XL a.n b.n, Y8 a.src b.src, Y8 a.dst b.dst] := by
 unfold UY XL
 simp only [orI]
 repeat' split
 all_goals first | rfl | omega | simp_all
theorem Xha (a b : Rul) : Con Tryz.prog 193 [] [XU a, XU b] [] (ai (UY a b)) := by
 refine Xc (xs := [ai (UY a b)]) Tryz.func193 rfl Tryz.ntmps193 rfl rfl rfl (fun E => ?_)
 have c1 := X1G a.kind b.kind
 have c2 := X3c a.name b.name
 have c3 := X3c a.key b.key
 have c4 := X1G a.n b.n
 have c5 := X3c a.src b.src
 have c6 := X3c a.dst b.dst
 have co := XbB [XL a.kind b.kind, Y8 a.name b.name, Y8 a.key b.key, XL a.n b.n, Y8 a.src b.src, Y8 a.dst b.dst] (by simp)
 rw [← Xce] at co
 simp only [List.map_cons, List.map_nil] at co
 generalize UY a b = o at *
 generalize XL a.kind b.kind = r1 at *
 generalize Y8 a.name b.name = r2 at *
 generalize Y8 a.key b.key = r3 at *
 generalize XL a.n b.n = r4 at *
 generalize Y8 a.src b.src = r5 at *
 generalize Y8 a.dst b.dst = r6 at *
 obtain ⟨k, n, name, key, src, dst⟩ := a
 obtain ⟨k', n', name', key', src', dst'⟩ := b
 simp only [XU] at *
 refine QYd ?_; refine Qje ?_; refine Zr (hcon := c1) ?_; refine Qke ?_; refine Zr (hcon := c2) ?_; refine Qke ?_; refine Zr (hcon := c3) ?_; refine Qke ?_; refine Zr (hcon := c4) ?_; refine Qke ?_; refine Zr (hcon := c5) ?_; refine Qke ?_; refine Zr (hcon := c6) ?_; refine Zo ?_; refine Zr (hcon := co) ?_; exact QCb
theorem XfU (a b : Rul) : Con Tryz.prog 195 [] [XU a, XU b] [] (ai (UY a b)) := by
 refine Xc (xs := [ai (UY a b)]) Tryz.func195 rfl Tryz.ntmps195 rfl rfl rfl (fun E => ?_)
 have c2 := X4M a.name b.name
 have c3 := X4M a.key b.key
 have c5 := X4M a.src b.src
 have c6 := X4M a.dst b.dst
 unfold UY
 generalize Y8 a.name b.name = r2 at *
 generalize Y8 a.key b.key = r3 at *
 generalize Y8 a.src b.src = r5 at *
 generalize Y8 a.dst b.dst = r6 at *
 obtain ⟨k, n, name, key, src, dst⟩ := a
 obtain ⟨k', n', name', key', src', dst'⟩ := b
 simp only [XU] at *
 by_cases h1 : k < k'
 ·rw [if_pos h1]
  have h1' : k ≠ k' := by omega
  refine QYd ?_; refine Que ?_; refine Qmf ?_; exact QZ
 rw [if_neg h1]
 by_cases h2 : k' < k
 ·rw [if_pos h2]
  have h2' : k ≠ k' := by omega
  refine QYd ?_; refine Que ?_; refine Qmf ?_; exact QMd
 rw [if_neg h2]
 obtain rfl : k = k' := by omega
 by_cases h3 : r2 ≠ 0
 ·rw [if_pos h3]
  refine QYd ?_; refine Que ?_; refine QOd ?_; refine Que ?_; refine Zr (hcon := c2) ?_; exact Qhe
 rw [if_neg h3]
 obtain rfl : r2 = 0 := by omega
 by_cases h4 : r3 ≠ 0
 ·rw [if_pos h4]
  refine QYd ?_; refine Que ?_; refine QOd ?_; refine Que ?_; refine Zr (hcon := c2) ?_; refine Qie ?_; refine Que ?_; refine Zr (hcon := c3) ?_; exact Qhe
 rw [if_neg h4]
 obtain rfl : r3 = 0 := by omega
 by_cases h5 : n < n'
 ·rw [if_pos h5]
  have h5' : n ≠ n' := by omega
  refine Qnf ?_; refine Qmf ?_; exact QZ
 rw [if_neg h5]
 by_cases h6 : n' < n
 ·rw [if_pos h6]
  have h6' : n ≠ n' := by omega
  refine Qnf ?_; refine Qmf ?_; exact QMd
 rw [if_neg h6]
 obtain rfl : n = n' := by omega
 by_cases h7 : r5 ≠ 0
 ·rw [if_pos h7]
  refine Qnf ?_; refine QOd ?_; refine Que ?_; refine Zr (hcon := c5) ?_; exact Qhe
 rw [if_neg h7]
 obtain rfl : r5 = 0 := by omega
 refine Qnf ?_; refine QOd ?_; refine Que ?_; refine Zr (hcon := c5) ?_; refine Qie ?_; refine Qje ?_; refine Zr (hcon := c6) ?_; exact QCb
def XI (r : Rul) : List D := [.v (.int .i64 r.kind), .v (.int .i64 r.n), .v (.string (X5 r.name)), .v (.string (X5 r.key)), .v (.string (X5 r.src)), .v (.string (X5 r.dst))]
theorem X9y {l : List Rul} {i : Nat} {r : Rul} (h : l[i]? = some r) : VM (Ya l i) (l.drop i) = (decide (Ut r = 0 ∧ ∀ q, Ya l i = some q → UY q r < 0) && VM (Ya l (i + 1)) (l.drop (i + 1))) := by
 obtain ⟨hi, h⟩ := List.getElem?_eq_some_iff.1 h
 rw [List.drop_eq_getElem_cons hi, h, VM, X0V, List.getElem?_eq_getElem hi, h]
theorem Xe7 (l : List Rul) (hl : l.length ≤ 9223372036854775807) : Con Tryz.prog 122 [] [.d (.sl 6 (l.map XI))] [] (ab (Ve l)) := by
 refine Xc (xs := [ab (Ve l)]) Tryz.func122 rfl Tryz.ntmps122 rfl rfl rfl (fun E => ?_)
 have hlm : (l.map XI).length = l.length := by simp
 unfold Ve
 generalize hG : VM none l = G
 refine QU ?_; refine Qcc ?_
 refine Xz (fun i : Nat => i ≤ l.length ∧ VM (Ya l i) (l.drop i) = G) (fun i => ⟨33, [(0, .d (.sl 6 (l.map XI))), (5, .d (.sl 6 (l.map XI))), (6, ai (l.map XI).length), (7, ai i)], []⟩) (fun i => l.length - i) 0 ⟨Nat.zero_le _, by simpa [Ya] using hG⟩
  (X6 rfl JM trivial) ?_
 rintro i ⟨hi, hg⟩
 by_cases hil : i < l.length
 case neg =>
  obtain rfl : i = l.length := by omega
  have hn : ¬ ((l.length : Nat) : Int) < (l.map XI).length := by omega
  rw [List.drop_length, VM] at hg
  subst hg
  rw [Bool.true_and, ← hlm, show decide ((l.map XI).length ≤ 40) = decide (((l.map XI).length : Int) ≤ 40) from decide_eq_decide.2 (by omega)]
  refine Qka ?_; refine Qd ?_; refine Z3 ?_; refine ZA ?_; exact QCb
 have hn : (i : Int) < (l.map XI).length := by omega
 obtain ⟨x, hx⟩ := Xs (l := l) hil
 have hxc : (l.map XI)[i]? = some (XI x) := Xx hx
 have hc := X8e x
 rw [X9y hx] at hg
 by_cases he : Ut x = 0
 case neg =>
  rw [decide_eq_false (fun h => he h.1), Bool.false_and] at hg
  subst hg
  rw [Bool.false_and]
  generalize Ut x = e at *
  obtain ⟨k, n, name, key, src, dst⟩ := x
  simp only [XU, XI] at hc hxc
  refine Qfc ?_; refine QTc ?_; refine Qof ?_; refine QJ ?_; refine Qqa ?_; refine Qnb ?_; exact QZ
 by_cases h0 : i = 0
 ·subst h0
  rw [decide_eq_true ⟨he, fun q h => by simp [Ya] at h⟩, Bool.true_and] at hg
  rw [he] at hc
  obtain ⟨k, n, name, key, src, dst⟩ := x
  simp only [XU, XI] at hc hxc
  refine Qfc ?_; refine QTc ?_; refine Qof ?_; refine Qq ?_; refine Zb ?_; refine Qpf ?_; refine ZE ?_; refine Qga ?_; refine Qsa ?_; exact ⟨0 + 1, ⟨by omega, hg⟩, by omega, X6 rfl JM trivial⟩
 obtain ⟨j, rfl⟩ : ∃ j, i = j + 1 := ⟨i - 1, by omega⟩
 obtain ⟨p, hp⟩ := Xs (l := l) (k := j) (by omega)
 have hpp : (l.map XI)[j]? = some (XI p) := Xx hp
 have ho := Xha p x
 rw [he] at hc
 by_cases hlt : UY p x < 0
 ·rw [decide_eq_true ⟨he, fun q h => by rw [X0V, hp] at h; injection h with h; rw [← h]; exact hlt⟩, Bool.true_and] at hg
  generalize UY p x = o at *
  obtain ⟨k, n, name, key, src, dst⟩ := x
  obtain ⟨k', n', name', key', src', dst'⟩ := p
  simp only [XU, XI] at hc hxc ho hpp
  refine Qfc ?_; refine QTc ?_; refine Qqf ?_
  (refine Z9 (op := .sub) (r' := .int .i64 ((j : Nat) : Int)) (u := .int .i64 ((j + 1 : Nat) : Int)) (v := .int .i64 1) ?_ (hr' := by exact congrArg (Value.int .i64) (show (((j + 1 : Nat) : Int) - 1) = (j : Int) by omega)) (hr := by exact XQ (by unfold Xv; omega)))
  refine Qdc ?_; refine ZX ?_; refine Zr (hcon := ho) ?_; refine Zm ?_; refine ZB ?_; refine Qga ?_; refine Qsa ?_; exact ⟨j + 1 + 1, ⟨by omega, hg⟩, by omega, X6 rfl JM trivial⟩
 ·rw [decide_eq_false (fun h => hlt (h.2 p (by rw [X0V, hp]))), Bool.false_and] at hg
  subst hg
  rw [Bool.false_and]
  have hge : UY p x ≥ 0 := by omega
  generalize UY p x = o at *
  obtain ⟨k, n, name, key, src, dst⟩ := x
  obtain ⟨k', n', name', key', src', dst'⟩ := p
  simp only [XU, XI] at hc hxc ho hpp
  refine Qfc ?_; refine QTc ?_; refine Qqf ?_
  (refine Z9 (op := .sub) (r' := .int .i64 ((j : Nat) : Int)) (u := .int .i64 ((j + 1 : Nat) : Int)) (v := .int .i64 1) ?_ (hr' := by exact congrArg (Value.int .i64) (show (((j + 1 : Nat) : Int) - 1) = (j : Int) by omega)) (hr := by exact XQ (by unfold Xv; omega)))
  refine Qdc ?_; refine ZX ?_; refine Zr (hcon := ho) ?_; refine Zm ?_; exact Qvc
theorem XcU (l : List Rul) (hl : l.length ≤ 9223372036854775807) : Con Tryz.prog 124 [] [.d (.sl 6 (l.map XI))] [] (ab (Ve l)) := by
 refine Xc (xs := [ab (Ve l)]) Tryz.func124 rfl Tryz.ntmps124 rfl rfl rfl (fun E => ?_)
 have hlm : (l.map XI).length = l.length := by simp
 unfold Ve
 by_cases h40 : 40 < l.length
 ·rw [decide_eq_false (by omega : ¬ l.length ≤ 40), Bool.and_false]
  have h40' : (40 : Int) < (l.map XI).length := by omega
  refine Qrf ?_; exact QZ
 have h40' : ¬ (40 : Int) < (l.map XI).length := by omega
 rw [decide_eq_true (by omega : l.length ≤ 40), Bool.and_true]
 generalize hG : VM none l = G
 refine Qrf ?_; refine Qj ?_; refine QZa ?_
 refine Xz (fun i : Nat => i ≤ l.length ∧ VM (Ya l i) (l.drop i) = G) (fun i => ⟨36, [(0, .d (.sl 6 (l.map XI))), (3, ai i)], []⟩) (fun i => l.length - i) 0 ⟨Nat.zero_le _, by simpa [Ya] using hG⟩
  (X6 rfl JM trivial) ?_
 rintro i ⟨hi, hg⟩
 by_cases hil : i < l.length
 case neg =>
  obtain rfl : i = l.length := by omega
  have hn : ¬ ((l.length : Nat) : Int) < (l.map XI).length := by omega
  rw [List.drop_length, VM] at hg
  subst hg
  exact Qhd
 have hn : (i : Int) < (l.map XI).length := by omega
 obtain ⟨x, hx⟩ := Xs (l := l) hil
 have hxc : (l.map XI)[i]? = some (XI x) := Xx hx
 have hc := Xb8 x
 rw [X9y hx] at hg
 by_cases he : Ut x = 0
 case neg =>
  rw [decide_eq_false (fun h => he h.1), Bool.false_and] at hg
  subst hg
  generalize Ut x = e at *
  obtain ⟨k, n, name, key, src, dst⟩ := x
  simp only [XU, XI] at hc hxc
  refine Qid ?_; refine Qdc ?_; refine Qof ?_; refine QJ ?_; refine Qqa ?_; refine Qpa ?_; refine Qpc ?_; refine QK ?_; exact QZ
 by_cases h0 : i = 0
 ·subst h0
  rw [decide_eq_true ⟨he, fun q h => by simp [Ya] at h⟩, Bool.true_and] at hg
  rw [he] at hc
  obtain ⟨k, n, name, key, src, dst⟩ := x
  simp only [XU, XI] at hc hxc
  refine Qid ?_; refine Qdc ?_; refine Qof ?_; refine Qq ?_; refine Zb ?_; refine Qpf ?_; refine QI ?_; refine Qra ?_; refine Qhb ?_; exact ⟨0 + 1, ⟨by omega, hg⟩, by omega, X6 rfl JM trivial⟩
 obtain ⟨j, rfl⟩ : ∃ j, i = j + 1 := ⟨i - 1, by omega⟩
 obtain ⟨p, hp⟩ := Xs (l := l) (k := j) (by omega)
 have hpp : (l.map XI)[j]? = some (XI p) := Xx hp
 have ho := XfU p x
 rw [he] at hc
 by_cases hlt : UY p x < 0
 ·rw [decide_eq_true ⟨he, fun q h => by rw [X0V, hp] at h; injection h with h; rw [← h]; exact hlt⟩, Bool.true_and] at hg
  generalize UY p x = o at *
  obtain ⟨k, n, name, key, src, dst⟩ := x
  obtain ⟨k', n', name', key', src', dst'⟩ := p
  simp only [XU, XI] at hc hxc ho hpp
  refine Qid ?_; refine Qdc ?_; refine Qqf ?_
  (refine Z9 (op := .sub) (r' := .int .i64 ((j : Nat) : Int)) (u := .int .i64 ((j + 1 : Nat) : Int)) (v := .int .i64 1) ?_ (hr' := by exact congrArg (Value.int .i64) (show (((j + 1 : Nat) : Int) - 1) = (j : Int) by omega)) (hr := by exact XQ (by unfold Xv; omega)))
  refine Qdc ?_; refine Qq ?_; refine Qdc ?_; refine Zr (hcon := ho) ?_; refine Zm ?_; refine ZB ?_; refine Qhb ?_; exact ⟨j + 1 + 1, ⟨by omega, hg⟩, by omega, X6 rfl JM trivial⟩
 ·rw [decide_eq_false (fun h => hlt (h.2 p (by rw [X0V, hp]))), Bool.false_and] at hg
  subst hg
  have hge : UY p x ≥ 0 := by omega
  generalize UY p x = o at *
  obtain ⟨k, n, name, key, src, dst⟩ := x
  obtain ⟨k', n', name', key', src', dst'⟩ := p
  simp only [XU, XI] at hc hxc ho hpp
  refine Qid ?_; refine Qdc ?_; refine Qqf ?_
  (refine Z9 (op := .sub) (r' := .int .i64 ((j : Nat) : Int)) (u := .int .i64 ((j + 1 : Nat) : Int)) (v := .int .i64 1) ?_ (hr' := by exact congrArg (Value.int .i64) (show (((j + 1 : Nat) : Int) - 1) = (j : Int) by omega)) (hr := by exact XQ (by unfold Xv; omega)))
  refine Qdc ?_; refine Qq ?_; refine Qdc ?_; refine Zr (hcon := ho) ?_; refine Zm ?_; exact Qvc
end Go.Fw

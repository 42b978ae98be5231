/- The program's check of a graph. -/
import Derived.Test.YtonekjkmnhfjmaaGreatDoorM21
set_option maxHeartbeats 32000000
namespace Go.Fw
open Go Go.Proofs
set_option maxRecDepth 100000
set_option linter.unusedVariables false
set_option linter.unusedSimpArgs false
def Y9 (n : Nod) : AVal := .agg [ai n.id, .d (.sl 1 (n.labels.map Xb)), .d (.sl 6 (n.props.map X6))]
def X2K (n : Nod) : Prop := n.labels.length ≤ 9223372036854775807 ∧ (∀ s ∈ n.labels, s.length ≤ 9223372036854775807) ∧ n.props.length ≤ 9223372036854775807 ∧ ∀ p ∈ n.props, X0E p
def X4n (e : Edg) : Prop := e.typ.length ≤ 9223372036854775807 ∧ e.props.length ≤ 9223372036854775807 ∧ ∀ p ∈ e.props, X0E p
structure GraHold (g : Gra) : Prop where
 nl : g.nodes.length ≤ 9223372036854775807
 el : g.edges.length ≤ 9223372036854775807
 nodes : ∀ n ∈ g.nodes, X2K n
 edges : ∀ e ∈ g.edges, X4n e
theorem Xbd {nn : Int} {l : List Nod} {n : Nod} : US nn (Ys l 0) n = if n.id < 1 ∨ nn ≤ n.id then 1 else U5 n.labels n.props := by
 unfold US Ys
 rw [if_neg (by simp)]
theorem XaV {nn : Int} {l : List Nod} {j : Nat} {p n : Nod} (h : l[j]? = some p) : US nn (Ys l (j + 1)) n = if n.id ≤ p.id then 26 else if n.id < 1 ∨ nn ≤ n.id then 1 else U5 n.labels n.props := by
 unfold US
 rw [X4j, h]
 simp
theorem Xbc {ns : List Nod} {ne : Int} {l : List Edg} {n : Edg} : Vg ns ne (Ys l 0) n = if n.id < 1 ∨ ne ≤ n.id then 1
 else if Ye ns n.src = false ∨ Ye ns n.dst = false then 10 else if XP n.typ = false then 6 else U5 [] n.props := by
 unfold Vg Ys
 rw [if_neg (by simp)]
theorem X9r {ns : List Nod} {ne : Int} {l : List Edg} {j : Nat} {p n : Edg} (h : l[j]? = some p) : Vg ns ne (Ys l (j + 1)) n = if n.id ≤ p.id then 26 else if n.id < 1 ∨ ne ≤ n.id then 1
 else if Ye ns n.src = false ∨ Ye ns n.dst = false then 10 else if XP n.typ = false then 6 else U5 [] n.props := by
 unfold Vg
 rw [X4j, h]
 simp
theorem X56 {x y : Int} (h : x < y) : XW x y = -1 := if_pos h
theorem X5J {x y : Int} (h : ¬ x < y) : ¬ XW x y < 0 := by
 unfold XW
 rw [if_neg h]
 split <;> decide
theorem X76 {x y : Int} : decide (XW x y = 0) = decide (x = y) := by
 unfold XW
 by_cases h : x < y
 ·rw [if_pos h, decide_eq_false (by decide), decide_eq_false (by omega)]
 ·rw [if_neg h]
  by_cases h' : y < x
  ·rw [if_pos h', decide_eq_false (by decide), decide_eq_false (by omega)]
  ·rw [if_neg h', decide_eq_true rfl, decide_eq_true (by omega)]
theorem Xar (x : Nod) (n : Int) : Con Tryz.prog 158 [] [Y9 x, ai n] [] (ai (XW x.id n)) := by
 refine Xc (xs := [ai (XW x.id n)]) Tryz.func158 rfl Tryz.ntmps158 rfl rfl rfl (fun E => ?_)
 have hc := X3j x.id n
 obtain ⟨id, labels, props⟩ := x
 simp only [Y9] at hc ⊢
 generalize XW id n = q at *
 exact QGe
theorem Xho (l : List Nod) (n : Int) (hl : l.length ≤ 4294967296) (hr : X44 l) : Con Tryz.prog 157 [] [.d (.sl 3 (l.map X9)), ai n, .fn 158 []] [] (.tup [ai (X3J l n), ab (Ye l n)]) := by
 refine Xc (xs := [ai (X3J l n), ab (Ye l n)]) Tryz.func157 rfl Tryz.ntmps157 rfl rfl rfl (fun E => ?_)
 have hlm : (l.map X9).length = l.length := by simp
 refine QHe ?_
 refine Xz (ι := Nat × Nat) (fun q => q.1 ≤ q.2 ∧ q.2 ≤ l.length ∧ (∀ (k : Nat) (x : Nod), k < q.1 → l[k]? = some x → x.id < n) ∧ (∀ (k : Nat) (x : Nod), q.2 ≤ k → l[k]? = some x → n ≤ x.id)) (fun q => ⟨49, [(0, .d (.sl 3 (l.map X9))), (1, ai n), (2, .fn 158 []), (8, ai (l.map X9).length), (9, ai q.1), (10, ai q.2)], []⟩) (fun q => q.2 - q.1) (0, l.length)
  ⟨Nat.zero_le _, Nat.le_refl _, fun k x h => absurd h (Nat.not_lt_zero _), fun k x h hx => absurd (List.getElem?_eq_some_iff.1 hx).1 (Nat.not_lt.2 h)⟩
  (X7 rfl ⟨JL, JL, JL, JL, JL, AVal.le_of_eq (by show ai _ = ai _; rw [hlm]), trivial⟩ trivial) ?_
 rintro ⟨i, j⟩ ⟨h1, h2, h3, h4⟩
 simp only at h1 h2 h3 h4
 by_cases hij : i < j
 case neg =>
  obtain rfl : i = j := by omega
  have hlow := Xdl h2 h3 (fun x hx => by have := h4 i x (Nat.le_refl _) hx; omega)
  have hhas := Xcg hr h3 h4
  rw [hlow, hhas]
  have hij' : ¬ (i : Int) < (i : Nat) := by omega
  by_cases hil : i < l.length
  ·have hil' : (i : Int) < (l.map X9).length := by omega
   obtain ⟨x, hx⟩ := Xu (l := l) hil
   have hxc : (l.map X9)[i]? = some (X9 x) := XD hx
   have hc := Xar x n
   have hd : decide (∃ y, l[i]? = some y ∧ y.id = n) = decide (XW x.id n = 0) := by rw [X76, hx]; simp
   rw [hd]
   generalize XW x.id n = c at *
   obtain ⟨id, labels, props⟩ := x
   simp only [Y9, X9] at hc hxc
   refine QJe ?_
   first | exact X1 ⟨_, St.le_refl _, ⟨rfl, rfl, trivial⟩, X3 _⟩ | exact X1 ⟨_, St.le_refl _, ⟨⟨rfl, rfl, trivial⟩, trivial⟩, X3 _⟩
  ·have hil' : ¬ (i : Int) < (l.map X9).length := by omega
   have hd : decide (∃ y, l[i]? = some y ∧ y.id = n) = false := by
    refine decide_eq_false ?_
    rintro ⟨y, hy, _⟩
    exact hil (List.getElem?_eq_some_iff.1 hy).1
   rw [hd]
   refine QKe ?_
   first | exact X1 ⟨_, St.le_refl _, ⟨rfl, rfl, trivial⟩, X3 _⟩ | exact X1 ⟨_, St.le_refl _, ⟨⟨rfl, rfl, trivial⟩, trivial⟩, X3 _⟩
 have hij' : (i : Int) < (j : Nat) := by omega
 obtain ⟨x, hx⟩ := Xu (l := l) (k := (i + j) / 2) (by omega)
 have hxc : (l.map X9)[(i + j) / 2]? = some (X9 x) := XD hx
 have hc := Xar x n
 have e2 : n64 ((i + j) / 2 ^ 1) = n64 ((i + j) / 2) := rfl
 have hid : x.id = x.id := rfl
 by_cases hlt : x.id < n
 ·have hinv : ∀ (k : Nat) (y : Nod), k < (i + j) / 2 + 1 → l[k]? = some y → y.id < n := fun k y hk hy => by
   by_cases e : k = (i + j) / 2
   ·subst e; rw [hx] at hy; injection hy with hy; subst hy; exact hlt
   ·have := hr k ((i + j) / 2) y x hy hx (by omega); omega
  rw [X56 hlt] at hc
  obtain ⟨id, labels, props⟩ := x
  simp only [Y9, X9] at hc hxc
  refine QLe ?_; (refine Z7 (op := .add) (r' := ni (i + j)) (u := ni i) (v := ni j) ?_ (hr := by exact UF (by rw [Y4]; omega)))
  (refine Z3 (u := ni (i + j)) (r := n64 (i + j)) ?_ (hr := by exact Uj rfl rfl (by rw [X0z]; omega)))
  refine QMe ?_; (refine Z3 (u := n64 ((i + j) / 2)) (r := ni ((i + j) / 2)) ?_ (hr := by exact Uj rfl rfl (by rw [Y4]; omega))); exact QOe
 ·have hinv : ∀ (k : Nat) (y : Nod), (i + j) / 2 ≤ k → l[k]? = some y → n ≤ y.id := fun k y hk hy => by
   by_cases e : k = (i + j) / 2
   ·subst e; rw [hx] at hy; injection hy with hy; subst hy; omega
   ·have := hr ((i + j) / 2) k x y hx hy (by omega); omega
  have hge := X5J hlt
  generalize XW x.id n = c at *
  obtain ⟨id, labels, props⟩ := x
  simp only [Y9, X9] at hc hxc
  refine QLe ?_; (refine Z7 (op := .add) (r' := ni (i + j)) (u := ni i) (v := ni j) ?_ (hr := by exact UF (by rw [Y4]; omega)))
  (refine Z3 (u := ni (i + j)) (r := n64 (i + j)) ?_ (hr := by exact Uj rfl rfl (by rw [X0z]; omega)))
  refine QMe ?_; (refine Z3 (u := n64 ((i + j) / 2)) (r := ni ((i + j) / 2)) ?_ (hr := by exact Uj rfl rfl (by rw [Y4]; omega))); exact QQe
theorem XaM (l : List Nod) (n : Int) (hl : l.length ≤ 4294967296) (hr : X44 l) : Con Tryz.prog 103 [] [.d (.sl 3 (l.map X9)), ai n] [] (ab (Ye l n)) := by
 refine Xc (xs := [ab (Ye l n)]) Tryz.func103 rfl Tryz.ntmps103 rfl rfl rfl (fun E => ?_)
 have hs := Xho l n hl hr
 generalize X3J l n = a at *
 generalize Ye l n = b at *
 refine QHa ?_; refine Z9 (hcon := hs) ?_; refine Qed ?_; exact QNa
theorem X4v {ns : List Nod} {es : List Edg} {nn ne : Int} (h : 2000 < ns.length ∨ 4000 < es.length) : Yj ⟨ns, es, nn, ne⟩ = 4 := if_pos h
theorem X18 {ns : List Nod} {es : List Edg} {nn ne : Int} (h1 : ¬ 2000 < ns.length) (h2 : ¬ 4000 < es.length) (h : nn < 1 ∨ 1000001 < nn ∨ ne < 1 ∨ 1000001 < ne) : Yj ⟨ns, es, nn, ne⟩ = 1 := by
 unfold Yj
 simp only
 rw [if_neg (fun q => q.elim h1 h2), if_pos h]
theorem X85 {ns : List Nod} {es : List Edg} {nn ne : Int} (h1 : ¬ 2000 < ns.length) (h2 : ¬ 4000 < es.length) (a1 : ¬ nn < 1) (a2 : ¬ 1000001 < nn) (a3 : ¬ ne < 1) (a4 : ¬ 1000001 < ne) :
  Yj ⟨ns, es, nn, ne⟩ = if U7 nn none ns ≠ 0 then U7 nn none ns else UY ns ne none es := by
 unfold Yj
 simp only
 rw [if_neg (fun q => q.elim h1 h2), if_neg (by omega)]
theorem X8P (g : Gra) (hok : GraHold g) : Con Tryz.prog 58 [] [Xl g] [] (ai (Yj g)) := by
 obtain ⟨ns, es, nn, ne⟩ := g
 obtain ⟨hnl, hel, hnh, heh⟩ := hok
 simp only at hnl hel hnh heh
 unfold Xl
 simp only
 refine Xc (xs := [ai (Yj ⟨ns, es, nn, ne⟩)]) Tryz.func58 rfl Tryz.ntmps58 rfl rfl rfl (fun E => ?_)
 have hlm : (ns.map X9).length = ns.length := by simp
 have hle : (es.map Xe).length = es.length := by simp
 by_cases h1 : 2000 < ns.length
 ·rw [X4v (.inl h1)]
  have h1' : (2000 : Int) < (ns.map X9).length := by omega
  refine Qtb ?_; refine Qgb ?_; exact QC
 have h1' : ¬ (2000 : Int) < (ns.map X9).length := by omega
 by_cases h2 : 4000 < es.length
 ·rw [X4v (.inr h2)]
  have h2' : (4000 : Int) < (es.map Xe).length := by omega
  refine Qtb ?_; refine Qgb ?_; refine QAb ?_; exact QF
 have h2' : ¬ (4000 : Int) < (es.map Xe).length := by omega
 by_cases a1 : nn < 1
 ·rw [X18 h1 h2 (.inl a1)]
  refine Qtb ?_; refine Qgb ?_; refine QAb ?_; refine QDb ?_; refine Z8 ?_; refine Qv ?_; refine Qv ?_; exact Qfb
 by_cases a2 : 1000001 < nn
 ·rw [X18 h1 h2 (.inr (.inl a2))]
  refine QRe ?_; refine Qv ?_; exact Qfb
 by_cases a3 : ne < 1
 ·rw [X18 h1 h2 (.inr (.inr (.inl a3)))]
  refine QSe ?_; exact Qfb
 by_cases a4 : 1000001 < ne
 ·rw [X18 h1 h2 (.inr (.inr (.inr a4)))]
  refine QSe ?_; refine QZa ?_; refine Zs ?_; exact QF
 rw [X85 h1 h2 a1 a2 a3 a4]
 generalize hN : U7 nn none ns = N
 generalize hM : UY ns ne none es = M
 refine QSe ?_; refine QZa ?_; refine Zs ?_; refine QDb ?_; refine Qjb ?_
 refine Xz (fun i : Nat => i ≤ ns.length ∧ U7 nn (Ys ns i) (ns.drop i) = N) (fun i => ⟨135, [(1, .ptr 100 0), (38, .d (.sl 3 (ns.map X9))), (39, ai (ns.map X9).length), (40, ai i)], [(100, .box [.d (.sl 3 (ns.map X9)), .d (.sl 5 (es.map Xe)), ai nn, ai ne])]⟩) (fun i => ns.length - i) 0 ⟨Nat.zero_le _, by simpa [Ys] using hN⟩
  (X7 rfl JM ⟨rfl, trivial⟩) ?_
 rintro i ⟨hi, hg⟩
 by_cases hil : i < ns.length
 case pos =>
  have hn : (i : Int) < (ns.map X9).length := by omega
  obtain ⟨x, hx⟩ := Xu (l := ns) hil
  have hxc : (ns.map X9)[i]? = some (X9 x) := XD hx
  have hxh := hnh x (List.mem_of_getElem? hx)
  have hpc := Xab x.labels x.props hxh.1 hxh.2.2.2
  rw [Xbs hx] at hg
  clear hxh
  by_cases h0 : i = 0
  ·subst h0
   rw [Xbd] at hg
   obtain ⟨id, labels, props⟩ := x
   simp only [X9] at hxc hpc hg
   by_cases q2 : id < 1
   ·rw [if_pos (show id < 1 ∨ nn ≤ id from .inl q2), if_pos (by decide)] at hg
    subst hg
    rw [if_pos (by decide)]
    refine QTe ?_; refine Qlb ?_; refine QQa ?_; exact QVe
   by_cases q3 : nn ≤ id
   ·rw [if_pos (show id < 1 ∨ nn ≤ id from .inr q3), if_pos (by decide)] at hg
    subst hg
    rw [if_pos (by decide)]
    refine QWe ?_; exact QF
   rw [if_neg (show ¬ (id < 1 ∨ nn ≤ id) from fun h => h.elim q2 q3)] at hg
   generalize U5 labels props = e at *
   by_cases he : e = 0
   ·subst he
    rw [if_neg (by simp)] at hg
    refine QWe ?_; refine QXe ?_; refine Qid ?_; refine QV ?_; exact ⟨0 + 1, ⟨by omega, hg⟩, by omega, X7 rfl JM ⟨rfl, trivial⟩⟩
   ·rw [if_pos he] at hg
    subst hg
    rw [if_pos he]
    refine QWe ?_; refine QXe ?_; exact Qhd
  ·obtain ⟨j, rfl⟩ : ∃ j, i = j + 1 := ⟨i - 1, by omega⟩
   obtain ⟨p, hp⟩ := Xu (l := ns) (k := j) (by omega)
   have hpp : (ns.map X9)[j]? = some (X9 p) := XD hp
   rw [XaV hp] at hg
   clear hp
   obtain ⟨id, labels, props⟩ := x
   obtain ⟨pid, plabels, pprops⟩ := p
   simp only [X9] at hxc hpc hg hpp
   by_cases q1 : id ≤ pid
   ·rw [if_pos q1, if_pos (by decide)] at hg
    subst hg
    rw [if_pos (by decide)]
    refine QYe ?_
    (refine Z4 (op := .sub) (r' := .int .i64 ((j : Nat) : Int)) (u := .int .i64 ((j + 1 : Nat) : Int)) (v := .int .i64 1) ?_ (hr' := by exact congrArg (Value.int .i64) (show (((j + 1 : Nat) : Int) - 1) = (j : Int) by omega)) (hr := by exact XU (by unfold Xw; omega)))
    exact QZe
   rw [if_neg q1] at hg
   by_cases q2 : id < 1
   ·rw [if_pos (show id < 1 ∨ nn ≤ id from .inl q2), if_pos (by decide)] at hg
    subst hg
    rw [if_pos (by decide)]
    refine QYe ?_
    (refine Z4 (op := .sub) (r' := .int .i64 ((j : Nat) : Int)) (u := .int .i64 ((j + 1 : Nat) : Int)) (v := .int .i64 1) ?_ (hr' := by exact congrArg (Value.int .i64) (show (((j + 1 : Nat) : Int) - 1) = (j : Int) by omega)) (hr := by exact XU (by unfold Xw; omega)))
    exact Qaf
   by_cases q3 : nn ≤ id
   ·rw [if_pos (show id < 1 ∨ nn ≤ id from .inr q3), if_pos (by decide)] at hg
    subst hg
    rw [if_pos (by decide)]
    refine QYe ?_
    (refine Z4 (op := .sub) (r' := .int .i64 ((j : Nat) : Int)) (u := .int .i64 ((j + 1 : Nat) : Int)) (v := .int .i64 1) ?_ (hr' := by exact congrArg (Value.int .i64) (show (((j + 1 : Nat) : Int) - 1) = (j : Int) by omega)) (hr := by exact XU (by unfold Xw; omega)))
    refine Qbf ?_; exact QF
   rw [if_neg (show ¬ (id < 1 ∨ nn ≤ id) from fun h => h.elim q2 q3)] at hg
   generalize U5 labels props = e at *
   by_cases he : e = 0
   ·subst he
    rw [if_neg (by simp)] at hg
    refine QYe ?_
    (refine Z4 (op := .sub) (r' := .int .i64 ((j : Nat) : Int)) (u := .int .i64 ((j + 1 : Nat) : Int)) (v := .int .i64 1) ?_ (hr' := by exact congrArg (Value.int .i64) (show (((j + 1 : Nat) : Int) - 1) = (j : Int) by omega)) (hr := by exact XU (by unfold Xw; omega)))
    refine Qbf ?_; refine QXe ?_; refine Qid ?_; refine QV ?_; exact ⟨j + 1 + 1, ⟨by omega, hg⟩, by omega, X7 rfl JM ⟨rfl, trivial⟩⟩
   ·rw [if_pos he] at hg
    subst hg
    rw [if_pos he]
    refine QYe ?_
    (refine Z4 (op := .sub) (r' := .int .i64 ((j : Nat) : Int)) (u := .int .i64 ((j + 1 : Nat) : Int)) (v := .int .i64 1) ?_ (hr' := by exact congrArg (Value.int .i64) (show (((j + 1 : Nat) : Int) - 1) = (j : Int) by omega)) (hr := by exact XU (by unfold Xw; omega)))
    refine Qbf ?_; refine QXe ?_; exact Qhd
 obtain rfl : i = ns.length := by omega
 have hn : ¬ ((ns.length : Nat) : Int) < (ns.map X9).length := by omega
 rw [List.drop_length, U7] at hg
 subst hg
 rw [if_neg (by simp)]
 have hris := (X8W ns none hN).2
 refine QM ?_; refine Qsb ?_; refine Qjb ?_
 refine Xz (fun i : Nat => i ≤ es.length ∧ UY ns ne (Ys es i) (es.drop i) = M) (fun i => ⟨135, [(1, .ptr 100 0), (79, .d (.sl 5 (es.map Xe))), (80, ai (es.map Xe).length), (81, ai i)], [(100, .box [.d (.sl 3 (ns.map X9)), .d (.sl 5 (es.map Xe)), ai nn, ai ne])]⟩) (fun i => es.length - i) 0 ⟨Nat.zero_le _, by simpa [Ys] using hM⟩
  (X7 rfl JM ⟨rfl, trivial⟩) ?_
 clear hi hil hn
 rintro i ⟨hi, hg⟩
 by_cases hil : i < es.length
 case neg =>
  obtain rfl : i = es.length := by omega
  have hn : ¬ ((es.length : Nat) : Int) < (es.map Xe).length := by omega
  rw [List.drop_length, UY] at hg
  subst hg
  exact QN
 have hn : (i : Int) < (es.map Xe).length := by omega
 obtain ⟨x, hx⟩ := Xu (l := es) hil
 have hxc : (es.map Xe)[i]? = some (Xe x) := XD hx
 have hxh := heh x (List.mem_of_getElem? hx)
 have hpc := Xab [] x.props (by simp) hxh.2.2
 have hs1 := XaM ns x.src (by omega) hris
 have hs2 := XaM ns x.dst (by omega) hris
 have hnm := X7c x.typ
 rw [X9M hx] at hg
 clear hxh
 by_cases h0 : i = 0
 ·subst h0
  rw [Xbc] at hg
  obtain ⟨id, src, dst, typ, props⟩ := x
  simp only [Xe] at hxc hpc hg hs1 hs2 hnm
  simp only [List.map_nil] at hpc
  generalize Ye ns src = b1 at *
  generalize Ye ns dst = b2 at *
  generalize XP typ = b3 at *
  generalize U5 [] props = e at *
  by_cases q2 : id < 1
  ·rw [if_pos (show id < 1 ∨ ne ≤ id from .inl q2), if_pos (by decide)] at hg
   subst hg
   refine QTe ?_; refine Qlb ?_; refine QQa ?_; exact QVe
  by_cases q3 : ne ≤ id
  ·rw [if_pos (show id < 1 ∨ ne ≤ id from .inr q3), if_pos (by decide)] at hg
   subst hg
   refine QWe ?_; exact QF
  rw [if_neg (show ¬ (id < 1 ∨ ne ≤ id) from fun h => h.elim q2 q3)] at hg
  cases b1 with
  | false =>
   rw [if_pos (show false = false ∨ b2 = false from .inl rfl), if_pos (by decide)] at hg
   subst hg
   refine QWe ?_; refine Qcf ?_; refine QXa ?_; exact QB
  | true =>
   cases b2 with
   | false =>
    rw [if_pos (show true = false ∨ false = false from .inr rfl), if_pos (by decide)] at hg
    subst hg
    refine QWe ?_; refine Qcf ?_; refine Qbb ?_; refine Z9 (hcon := hs2) ?_; exact QG
   | true =>
    rw [if_neg (show ¬ (true = false ∨ true = false) by simp)] at hg
    cases b3 with
    | false =>
     rw [if_pos (show false = false from rfl), if_pos (by decide)] at hg
     subst hg
     refine QWe ?_; refine Qdf ?_; exact QZb
    | true =>
     rw [if_neg (show ¬ true = false by simp)] at hg
     by_cases he : e = 0
     ·subst he
      rw [if_neg (by simp)] at hg
      refine QWe ?_; refine Qef ?_; refine Qid ?_; refine QV ?_; exact ⟨0 + 1, ⟨by omega, hg⟩, by omega, X7 rfl JM ⟨rfl, trivial⟩⟩
     ·rw [if_pos he] at hg
      subst hg
      refine QWe ?_; refine Qef ?_; exact Qhd
 ·obtain ⟨j, rfl⟩ : ∃ j, i = j + 1 := ⟨i - 1, by omega⟩
  obtain ⟨p, hp⟩ := Xu (l := es) (k := j) (by omega)
  have hpp : (es.map Xe)[j]? = some (Xe p) := XD hp
  rw [X9r hp] at hg
  clear hp
  obtain ⟨id, src, dst, typ, props⟩ := x
  obtain ⟨pid, psrc, pdst, ptyp, pprops⟩ := p
  simp only [Xe] at hxc hpc hg hpp hs1 hs2 hnm
  simp only [List.map_nil] at hpc
  generalize Ye ns src = b1 at *
  generalize Ye ns dst = b2 at *
  generalize XP typ = b3 at *
  generalize U5 [] props = e at *
  by_cases q1 : id ≤ pid
  ·rw [if_pos q1, if_pos (by decide)] at hg
   subst hg
   refine QYe ?_
   (refine Z4 (op := .sub) (r' := .int .i64 ((j : Nat) : Int)) (u := .int .i64 ((j + 1 : Nat) : Int)) (v := .int .i64 1) ?_ (hr' := by exact congrArg (Value.int .i64) (show (((j + 1 : Nat) : Int) - 1) = (j : Int) by omega)) (hr := by exact XU (by unfold Xw; omega)))
   exact QZe
  rw [if_neg q1] at hg
  by_cases q2 : id < 1
  ·rw [if_pos (show id < 1 ∨ ne ≤ id from .inl q2), if_pos (by decide)] at hg
   subst hg
   refine QYe ?_
   (refine Z4 (op := .sub) (r' := .int .i64 ((j : Nat) : Int)) (u := .int .i64 ((j + 1 : Nat) : Int)) (v := .int .i64 1) ?_ (hr' := by exact congrArg (Value.int .i64) (show (((j + 1 : Nat) : Int) - 1) = (j : Int) by omega)) (hr := by exact XU (by unfold Xw; omega)))
   exact Qaf
  by_cases q3 : ne ≤ id
  ·rw [if_pos (show id < 1 ∨ ne ≤ id from .inr q3), if_pos (by decide)] at hg
   subst hg
   refine QYe ?_
   (refine Z4 (op := .sub) (r' := .int .i64 ((j : Nat) : Int)) (u := .int .i64 ((j + 1 : Nat) : Int)) (v := .int .i64 1) ?_ (hr' := by exact congrArg (Value.int .i64) (show (((j + 1 : Nat) : Int) - 1) = (j : Int) by omega)) (hr := by exact XU (by unfold Xw; omega)))
   refine Qbf ?_; exact QF
  rw [if_neg (show ¬ (id < 1 ∨ ne ≤ id) from fun h => h.elim q2 q3)] at hg
  cases b1 with
  | false =>
   rw [if_pos (show false = false ∨ b2 = false from .inl rfl), if_pos (by decide)] at hg
   subst hg
   refine QYe ?_
   (refine Z4 (op := .sub) (r' := .int .i64 ((j : Nat) : Int)) (u := .int .i64 ((j + 1 : Nat) : Int)) (v := .int .i64 1) ?_ (hr' := by exact congrArg (Value.int .i64) (show (((j + 1 : Nat) : Int) - 1) = (j : Int) by omega)) (hr := by exact XU (by unfold Xw; omega)))
   refine Qbf ?_; refine Qcf ?_; refine QXa ?_; exact QB
  | true =>
   cases b2 with
   | false =>
    rw [if_pos (show true = false ∨ false = false from .inr rfl), if_pos (by decide)] at hg
    subst hg
    refine QYe ?_
    (refine Z4 (op := .sub) (r' := .int .i64 ((j : Nat) : Int)) (u := .int .i64 ((j + 1 : Nat) : Int)) (v := .int .i64 1) ?_ (hr' := by exact congrArg (Value.int .i64) (show (((j + 1 : Nat) : Int) - 1) = (j : Int) by omega)) (hr := by exact XU (by unfold Xw; omega)))
    refine Qbf ?_; refine Qcf ?_; refine Qbb ?_; refine Z9 (hcon := hs2) ?_; exact QG
   | true =>
    rw [if_neg (show ¬ (true = false ∨ true = false) by simp)] at hg
    cases b3 with
    | false =>
     rw [if_pos (show false = false from rfl), if_pos (by decide)] at hg
     subst hg
     refine QYe ?_
     (refine Z4 (op := .sub) (r' := .int .i64 ((j : Nat) : Int)) (u := .int .i64 ((j + 1 : Nat) : Int)) (v := .int .i64 1) ?_ (hr' := by exact congrArg (Value.int .i64) (show (((j + 1 : Nat) : Int) - 1) = (j : Int) by omega)) (hr := by exact XU (by unfold Xw; omega)))
     refine Qbf ?_; refine Qdf ?_; exact QZb
    | true =>
     rw [if_neg (show ¬ true = false by simp)] at hg
     by_cases he : e = 0
     ·subst he
      rw [if_neg (by simp)] at hg
      refine QYe ?_
      (refine Z4 (op := .sub) (r' := .int .i64 ((j : Nat) : Int)) (u := .int .i64 ((j + 1 : Nat) : Int)) (v := .int .i64 1) ?_ (hr' := by exact congrArg (Value.int .i64) (show (((j + 1 : Nat) : Int) - 1) = (j : Int) by omega)) (hr := by exact XU (by unfold Xw; omega)))
      refine Qbf ?_; refine Qef ?_; refine Qid ?_; refine QV ?_; exact ⟨j + 1 + 1, ⟨by omega, hg⟩, by omega, X7 rfl JM ⟨rfl, trivial⟩⟩
     ·rw [if_pos he] at hg
      subst hg
      refine QYe ?_
      (refine Z4 (op := .sub) (r' := .int .i64 ((j : Nat) : Int)) (u := .int .i64 ((j + 1 : Nat) : Int)) (v := .int .i64 1) ?_ (hr' := by exact congrArg (Value.int .i64) (show (((j + 1 : Nat) : Int) - 1) = (j : Int) by omega)) (hr := by exact XU (by unfold Xw; omega)))
      refine Qbf ?_; refine Qef ?_; exact Qhd
end Go.Fw

/- The program's check of a graph. -/
import Derived.Test.YtonekjkmnhfjmaaGreatDoorK25
set_option maxHeartbeats 32000000
namespace Go.Fw
open Go Go.Proofs
set_option maxRecDepth 100000
set_option linter.unusedVariables false
set_option linter.unusedSimpArgs false
def Yo (n : Nod) : AVal := .agg [ai n.id, .d (.sl 1 (n.labels.map Xa)), .d (.sl 6 (n.props.map X7))]
def X4o (n : Nod) : Prop := n.labels.length ≤ 9223372036854775807 ∧ (∀ s ∈ n.labels, s.length ≤ 9223372036854775807) ∧ n.props.length ≤ 9223372036854775807 ∧ ∀ p ∈ n.props, X1y p
def X50 (e : Edg) : Prop := e.typ.length ≤ 9223372036854775807 ∧ e.props.length ≤ 9223372036854775807 ∧ ∀ p ∈ e.props, X1y p
structure GraHold (g : Gra) : Prop where
 nl : g.nodes.length ≤ 9223372036854775807
 el : g.edges.length ≤ 9223372036854775807
 nodes : ∀ n ∈ g.nodes, X4o n
 edges : ∀ e ∈ g.edges, X50 e
theorem XaR {nn : Int} {l : List Nod} {n : Nod} : Uq nn (Ya l 0) n = if n.id < 1 ∨ nn ≤ n.id then 1 else YO n.labels n.props := by
 unfold Uq Ya
 rw [if_neg (by simp)]
theorem XaZ {nn : Int} {l : List Nod} {j : Nat} {p n : Nod} (h : l[j]? = some p) : Uq nn (Ya l (j + 1)) n = if n.id ≤ p.id then 26 else if n.id < 1 ∨ nn ≤ n.id then 1 else YO n.labels n.props := by
 unfold Uq
 rw [X0V, h]
 simp
theorem X8Z {ns : List Nod} {ne : Int} {l : List Edg} {n : Edg} : UR ns ne (Ya l 0) n = if n.id < 1 ∨ ne ≤ n.id then 1
 else if Y3 ns n.src = false ∨ Y3 ns n.dst = false then 10 else if Xt n.typ = false then 6 else YO [] n.props := by
 unfold UR Ya
 rw [if_neg (by simp)]
theorem X9J {ns : List Nod} {ne : Int} {l : List Edg} {j : Nat} {p n : Edg} (h : l[j]? = some p) : UR ns ne (Ya l (j + 1)) n = if n.id ≤ p.id then 26 else if n.id < 1 ∨ ne ≤ n.id then 1
 else if Y3 ns n.src = false ∨ Y3 ns n.dst = false then 10 else if Xt n.typ = false then 6 else YO [] n.props := by
 unfold UR
 rw [X0V, h]
 simp
theorem X67 {x y : Int} (h : x < y) : XL x y = -1 := if_pos h
theorem X5y {x y : Int} (h : ¬ x < y) : ¬ XL x y < 0 := by
 unfold XL
 rw [if_neg h]
 split <;> decide
theorem X77 {x y : Int} : decide (XL x y = 0) = decide (x = y) := by
 unfold XL
 by_cases h : x < y
 ·rw [if_pos h, decide_eq_false (by decide), decide_eq_false (by omega)]
 ·rw [if_neg h]
  by_cases h' : y < x
  ·rw [if_pos h', decide_eq_false (by decide), decide_eq_false (by omega)]
  ·rw [if_neg h', decide_eq_true rfl, decide_eq_true (by omega)]
theorem X7Q (x : Nod) (n : Int) : Con Tryz.prog 158 [] [Yo x, ai n] [] (ai (XL x.id n)) := by
 refine Xc (xs := [ai (XL x.id n)]) Tryz.func158 rfl Tryz.ntmps158 rfl rfl rfl (fun E => ?_)
 have hc := X1G x.id n
 obtain ⟨id, labels, props⟩ := x
 simp only [Yo] at hc ⊢
 generalize XL id n = q at *
 exact QBf
theorem Xci (l : List Nod) (n : Int) (hl : l.length ≤ 4294967296) (hr : X3Y l) : Con Tryz.prog 157 [] [.d (.sl 3 (l.map X9)), ai n, .fn 158 []] [] (.tup [ai (X5c l n), ab (Y3 l n)]) := by
 refine Xc (xs := [ai (X5c l n), ab (Y3 l n)]) Tryz.func157 rfl Tryz.ntmps157 rfl rfl rfl (fun E => ?_)
 have hlm : (l.map X9).length = l.length := by simp
 refine QCf ?_
 refine Xz (ι := Nat × Nat) (fun q => q.1 ≤ q.2 ∧ q.2 ≤ l.length ∧ (∀ (k : Nat) (x : Nod), k < q.1 → l[k]? = some x → x.id < n) ∧ (∀ (k : Nat) (x : Nod), q.2 ≤ k → l[k]? = some x → n ≤ x.id)) (fun q => ⟨49, [(0, .d (.sl 3 (l.map X9))), (1, ai n), (2, .fn 158 []), (8, ai (l.map X9).length), (9, ai q.1), (10, ai q.2)], []⟩) (fun q => q.2 - q.1) (0, l.length)
  ⟨Nat.zero_le _, Nat.le_refl _, fun k x h => absurd h (Nat.not_lt_zero _), fun k x h hx => absurd (List.getElem?_eq_some_iff.1 hx).1 (Nat.not_lt.2 h)⟩
  (X6 rfl ⟨JL, JL, JL, JL, JL, AVal.le_of_eq (by show ai _ = ai _; rw [hlm]), trivial⟩ trivial) ?_
 rintro ⟨i, j⟩ ⟨h1, h2, h3, h4⟩
 simp only at h1 h2 h3 h4
 by_cases hij : i < j
 case neg =>
  obtain rfl : i = j := by omega
  have hlow := Xdd h2 h3 (fun x hx => by have := h4 i x (Nat.le_refl _) hx; omega)
  have hhas := XeN hr h3 h4
  rw [hlow, hhas]
  have hij' : ¬ (i : Int) < (i : Nat) := by omega
  by_cases hil : i < l.length
  ·have hil' : (i : Int) < (l.map X9).length := by omega
   obtain ⟨x, hx⟩ := Xs (l := l) hil
   have hxc : (l.map X9)[i]? = some (X9 x) := Xx hx
   have hc := X7Q x n
   have hd : decide (∃ y, l[i]? = some y ∧ y.id = n) = decide (XL x.id n = 0) := by rw [X77, hx]; simp
   rw [hd]
   generalize XL x.id n = c at *
   obtain ⟨id, labels, props⟩ := x
   simp only [Yo, X9] at hc hxc
   refine QEf ?_
   first | exact X1 ⟨_, St.le_refl _, ⟨rfl, rfl, trivial⟩, X3 _⟩ | exact X1 ⟨_, St.le_refl _, ⟨⟨rfl, rfl, trivial⟩, trivial⟩, X3 _⟩
  ·have hil' : ¬ (i : Int) < (l.map X9).length := by omega
   have hd : decide (∃ y, l[i]? = some y ∧ y.id = n) = false := by
    refine decide_eq_false ?_
    rintro ⟨y, hy, _⟩
    exact hil (List.getElem?_eq_some_iff.1 hy).1
   rw [hd]
   refine QFf ?_
   first | exact X1 ⟨_, St.le_refl _, ⟨rfl, rfl, trivial⟩, X3 _⟩ | exact X1 ⟨_, St.le_refl _, ⟨⟨rfl, rfl, trivial⟩, trivial⟩, X3 _⟩
 have hij' : (i : Int) < (j : Nat) := by omega
 obtain ⟨x, hx⟩ := Xs (l := l) (k := (i + j) / 2) (by omega)
 have hxc : (l.map X9)[(i + j) / 2]? = some (X9 x) := Xx hx
 have hc := X7Q x n
 have e2 : n64 ((i + j) / 2 ^ 1) = n64 ((i + j) / 2) := rfl
 have hid : x.id = x.id := rfl
 by_cases hlt : x.id < n
 ·have hinv : ∀ (k : Nat) (y : Nod), k < (i + j) / 2 + 1 → l[k]? = some y → y.id < n := fun k y hk hy => by
   by_cases e : k = (i + j) / 2
   ·subst e; rw [hx] at hy; injection hy with hy; subst hy; exact hlt
   ·have := hr k ((i + j) / 2) y x hy hx (by omega); omega
  rw [X67 hlt] at hc
  obtain ⟨id, labels, props⟩ := x
  simp only [Yo, X9] at hc hxc
  refine QGf ?_; (refine Zp (op := .add) (r' := ni (i + j)) (u := ni i) (v := ni j) ?_ (hr := by exact V1 (by rw [Yg]; omega)))
  (refine Zn (u := ni (i + j)) (r := n64 (i + j)) ?_ (hr := by exact Uy rfl rfl (by rw [X0H]; omega)))
  refine QHf ?_; (refine Zn (u := n64 ((i + j) / 2)) (r := ni ((i + j) / 2)) ?_ (hr := by exact Uy rfl rfl (by rw [Yg]; omega))); exact QJf
 ·have hinv : ∀ (k : Nat) (y : Nod), (i + j) / 2 ≤ k → l[k]? = some y → n ≤ y.id := fun k y hk hy => by
   by_cases e : k = (i + j) / 2
   ·subst e; rw [hx] at hy; injection hy with hy; subst hy; omega
   ·have := hr ((i + j) / 2) k x y hx hy (by omega); omega
  have hge := X5y hlt
  generalize XL x.id n = c at *
  obtain ⟨id, labels, props⟩ := x
  simp only [Yo, X9] at hc hxc
  refine QGf ?_; (refine Zp (op := .add) (r' := ni (i + j)) (u := ni i) (v := ni j) ?_ (hr := by exact V1 (by rw [Yg]; omega)))
  (refine Zn (u := ni (i + j)) (r := n64 (i + j)) ?_ (hr := by exact Uy rfl rfl (by rw [X0H]; omega)))
  refine QHf ?_; (refine Zn (u := n64 ((i + j) / 2)) (r := ni ((i + j) / 2)) ?_ (hr := by exact Uy rfl rfl (by rw [Yg]; omega))); exact QLf
theorem Xaq (l : List Nod) (n : Int) (hl : l.length ≤ 4294967296) (hr : X3Y l) : Con Tryz.prog 103 [] [.d (.sl 3 (l.map X9)), ai n] [] (ab (Y3 l n)) := by
 refine Xc (xs := [ab (Y3 l n)]) Tryz.func103 rfl Tryz.ntmps103 rfl rfl rfl (fun E => ?_)
 have hs := Xci l n hl hr
 generalize X5c l n = a at *
 generalize Y3 l n = b at *
 refine Qf ?_; refine Zr (hcon := hs) ?_; refine Qfe ?_; exact QCb
theorem X4R {ns : List Nod} {es : List Edg} {nn ne : Int} (h : 2000 < ns.length ∨ 4000 < es.length) : Yh ⟨ns, es, nn, ne⟩ = 4 := if_pos h
theorem X1t {ns : List Nod} {es : List Edg} {nn ne : Int} (h1 : ¬ 2000 < ns.length) (h2 : ¬ 4000 < es.length) (h : nn < 1 ∨ 1000001 < nn ∨ ne < 1 ∨ 1000001 < ne) : Yh ⟨ns, es, nn, ne⟩ = 1 := by
 unfold Yh
 simp only
 rw [if_neg (fun q => q.elim h1 h2), if_pos h]
theorem X8h {ns : List Nod} {es : List Edg} {nn ne : Int} (h1 : ¬ 2000 < ns.length) (h2 : ¬ 4000 < es.length) (a1 : ¬ nn < 1) (a2 : ¬ 1000001 < nn) (a3 : ¬ ne < 1) (a4 : ¬ 1000001 < ne) :
  Yh ⟨ns, es, nn, ne⟩ = if YW nn none ns ≠ 0 then YW nn none ns else UP ns ne none es := by
 unfold Yh
 simp only
 rw [if_neg (fun q => q.elim h1 h2), if_neg (by omega)]
theorem X5k (g : Gra) (hok : GraHold g) : Con Tryz.prog 58 [] [Xj g] [] (ai (Yh g)) := by
 obtain ⟨ns, es, nn, ne⟩ := g
 obtain ⟨hnl, hel, hnh, heh⟩ := hok
 simp only at hnl hel hnh heh
 unfold Xj
 simp only
 refine Xc (xs := [ai (Yh ⟨ns, es, nn, ne⟩)]) Tryz.func58 rfl Tryz.ntmps58 rfl rfl rfl (fun E => ?_)
 have hlm : (ns.map X9).length = ns.length := by simp
 have hle : (es.map Xf).length = es.length := by simp
 by_cases h1 : 2000 < ns.length
 ·rw [X4R (.inl h1)]
  have h1' : (2000 : Int) < (ns.map X9).length := by omega
  refine Qnc ?_; refine QZb ?_; exact Qba
 have h1' : ¬ (2000 : Int) < (ns.map X9).length := by omega
 by_cases h2 : 4000 < es.length
 ·rw [X4R (.inr h2)]
  have h2' : (4000 : Int) < (es.map Xf).length := by omega
  refine QMf ?_; exact Qea
 have h2' : ¬ (4000 : Int) < (es.map Xf).length := by omega
 by_cases a1 : nn < 1
 ·rw [X1t h1 h2 (.inl a1)]
  refine QMf ?_; refine Qxc ?_; refine Zq ?_; refine QBe ?_; exact Qlb
 by_cases a2 : 1000001 < nn
 ·rw [X1t h1 h2 (.inr (.inl a2))]
  refine QNf ?_; refine QV ?_; exact Qlb
 by_cases a3 : ne < 1
 ·rw [X1t h1 h2 (.inr (.inr (.inl a3)))]
  refine QNf ?_; refine QPb ?_; refine Zq ?_; refine ZE ?_; exact Qlb
 by_cases a4 : 1000001 < ne
 ·rw [X1t h1 h2 (.inr (.inr (.inr a4)))]
  refine QOf ?_; exact Qea
 rw [X8h h1 h2 a1 a2 a3 a4]
 generalize hN : YW nn none ns = N
 generalize hM : UP ns ne none es = M
 refine QOf ?_; refine Qxc ?_; refine Qcc ?_
 refine Xz (fun i : Nat => i ≤ ns.length ∧ YW nn (Ya ns i) (ns.drop i) = N) (fun i => ⟨135, [(1, .ptr 100 0), (38, .d (.sl 3 (ns.map X9))), (39, ai (ns.map X9).length), (40, ai i)], [(100, .box [.d (.sl 3 (ns.map X9)), .d (.sl 5 (es.map Xf)), ai nn, ai ne])]⟩) (fun i => ns.length - i) 0 ⟨Nat.zero_le _, by simpa [Ya] using hN⟩
  (X6 rfl JM ⟨rfl, trivial⟩) ?_
 rintro i ⟨hi, hg⟩
 by_cases hil : i < ns.length
 case pos =>
  have hn : (i : Int) < (ns.map X9).length := by omega
  obtain ⟨x, hx⟩ := Xs (l := ns) hil
  have hxc : (ns.map X9)[i]? = some (X9 x) := Xx hx
  have hxh := hnh x (List.mem_of_getElem? hx)
  have hpc := X8C x.labels x.props hxh.1 hxh.2.2.2
  rw [X8B hx] at hg
  clear hxh
  by_cases h0 : i = 0
  ·subst h0
   rw [XaR] at hg
   obtain ⟨id, labels, props⟩ := x
   simp only [X9] at hxc hpc hg
   by_cases q2 : id < 1
   ·rw [if_pos (show id < 1 ∨ nn ≤ id from .inl q2), if_pos (by decide)] at hg
    subst hg
    rw [if_pos (by decide)]
    refine QPf ?_; exact QQf
   by_cases q3 : nn ≤ id
   ·rw [if_pos (show id < 1 ∨ nn ≤ id from .inr q3), if_pos (by decide)] at hg
    subst hg
    rw [if_pos (by decide)]
    refine QRf ?_; exact Qea
   rw [if_neg (show ¬ (id < 1 ∨ nn ≤ id) from fun h => h.elim q2 q3)] at hg
   generalize YO labels props = e at *
   by_cases he : e = 0
   ·subst he
    rw [if_neg (by simp)] at hg
    refine QRf ?_; refine QSf ?_; refine Qie ?_; refine Qsa ?_; exact ⟨0 + 1, ⟨by omega, hg⟩, by omega, X6 rfl JM ⟨rfl, trivial⟩⟩
   ·rw [if_pos he] at hg
    subst hg
    rw [if_pos he]
    refine QRf ?_; refine QSf ?_; exact Qhe
  ·obtain ⟨j, rfl⟩ : ∃ j, i = j + 1 := ⟨i - 1, by omega⟩
   obtain ⟨p, hp⟩ := Xs (l := ns) (k := j) (by omega)
   have hpp : (ns.map X9)[j]? = some (X9 p) := Xx hp
   rw [XaZ hp] at hg
   clear hp
   obtain ⟨id, labels, props⟩ := x
   obtain ⟨pid, plabels, pprops⟩ := p
   simp only [X9] at hxc hpc hg hpp
   by_cases q1 : id ≤ pid
   ·rw [if_pos q1, if_pos (by decide)] at hg
    subst hg
    rw [if_pos (by decide)]
    refine QTf ?_
    (refine Z9 (op := .sub) (r' := .int .i64 ((j : Nat) : Int)) (u := .int .i64 ((j + 1 : Nat) : Int)) (v := .int .i64 1) ?_ (hr' := by exact congrArg (Value.int .i64) (show (((j + 1 : Nat) : Int) - 1) = (j : Int) by omega)) (hr := by exact XQ (by unfold Xv; omega)))
    exact QUf
   rw [if_neg q1] at hg
   by_cases q2 : id < 1
   ·rw [if_pos (show id < 1 ∨ nn ≤ id from .inl q2), if_pos (by decide)] at hg
    subst hg
    rw [if_pos (by decide)]
    refine QTf ?_
    (refine Z9 (op := .sub) (r' := .int .i64 ((j : Nat) : Int)) (u := .int .i64 ((j + 1 : Nat) : Int)) (v := .int .i64 1) ?_ (hr' := by exact congrArg (Value.int .i64) (show (((j + 1 : Nat) : Int) - 1) = (j : Int) by omega)) (hr := by exact XQ (by unfold Xv; omega)))
    exact QVf
   by_cases q3 : nn ≤ id
   ·rw [if_pos (show id < 1 ∨ nn ≤ id from .inr q3), if_pos (by decide)] at hg
    subst hg
    rw [if_pos (by decide)]
    refine QTf ?_
    (refine Z9 (op := .sub) (r' := .int .i64 ((j : Nat) : Int)) (u := .int .i64 ((j + 1 : Nat) : Int)) (v := .int .i64 1) ?_ (hr' := by exact congrArg (Value.int .i64) (show (((j + 1 : Nat) : Int) - 1) = (j : Int) by omega)) (hr := by exact XQ (by unfold Xv; omega)))
    refine QWf ?_; exact Qea
   rw [if_neg (show ¬ (id < 1 ∨ nn ≤ id) from fun h => h.elim q2 q3)] at hg
   generalize YO labels props = e at *
   by_cases he : e = 0
   ·subst he
    rw [if_neg (by simp)] at hg
    refine QTf ?_
    (refine Z9 (op := .sub) (r' := .int .i64 ((j : Nat) : Int)) (u := .int .i64 ((j + 1 : Nat) : Int)) (v := .int .i64 1) ?_ (hr' := by exact congrArg (Value.int .i64) (show (((j + 1 : Nat) : Int) - 1) = (j : Int) by omega)) (hr := by exact XQ (by unfold Xv; omega)))
    refine QWf ?_; refine QSf ?_; refine Qie ?_; refine Qsa ?_; exact ⟨j + 1 + 1, ⟨by omega, hg⟩, by omega, X6 rfl JM ⟨rfl, trivial⟩⟩
   ·rw [if_pos he] at hg
    subst hg
    rw [if_pos he]
    refine QTf ?_
    (refine Z9 (op := .sub) (r' := .int .i64 ((j : Nat) : Int)) (u := .int .i64 ((j + 1 : Nat) : Int)) (v := .int .i64 1) ?_ (hr' := by exact congrArg (Value.int .i64) (show (((j + 1 : Nat) : Int) - 1) = (j : Int) by omega)) (hr := by exact XQ (by unfold Xv; omega)))
    refine QWf ?_; refine QSf ?_; exact Qhe
 obtain rfl : i = ns.length := by omega
 have hn : ¬ ((ns.length : Nat) : Int) < (ns.map X9).length := by omega
 rw [List.drop_length, YW] at hg
 subst hg
 rw [if_neg (by simp)]
 have hris := (X8A ns none hN).2
 refine Qka ?_; refine Qmc ?_; refine Qcc ?_
 refine Xz (fun i : Nat => i ≤ es.length ∧ UP ns ne (Ya es i) (es.drop i) = M) (fun i => ⟨135, [(1, .ptr 100 0), (79, .d (.sl 5 (es.map Xf))), (80, ai (es.map Xf).length), (81, ai i)], [(100, .box [.d (.sl 3 (ns.map X9)), .d (.sl 5 (es.map Xf)), ai nn, ai ne])]⟩) (fun i => es.length - i) 0 ⟨Nat.zero_le _, by simpa [Ya] using hM⟩
  (X6 rfl JM ⟨rfl, trivial⟩) ?_
 clear hi hil hn
 rintro i ⟨hi, hg⟩
 by_cases hil : i < es.length
 case neg =>
  obtain rfl : i = es.length := by omega
  have hn : ¬ ((es.length : Nat) : Int) < (es.map Xf).length := by omega
  rw [List.drop_length, UP] at hg
  subst hg
  exact Qla
 have hn : (i : Int) < (es.map Xf).length := by omega
 obtain ⟨x, hx⟩ := Xs (l := es) hil
 have hxc : (es.map Xf)[i]? = some (Xf x) := Xx hx
 have hxh := heh x (List.mem_of_getElem? hx)
 have hpc := X8C [] x.props (by simp) hxh.2.2
 have hs1 := Xaq ns x.src (by omega) hris
 have hs2 := Xaq ns x.dst (by omega) hris
 have hnm := X1M x.typ
 rw [Xb4 hx] at hg
 clear hxh
 by_cases h0 : i = 0
 ·subst h0
  rw [X8Z] at hg
  obtain ⟨id, src, dst, typ, props⟩ := x
  simp only [Xf] at hxc hpc hg hs1 hs2 hnm
  simp only [List.map_nil] at hpc
  generalize Y3 ns src = b1 at *
  generalize Y3 ns dst = b2 at *
  generalize Xt typ = b3 at *
  generalize YO [] props = e at *
  by_cases q2 : id < 1
  ·rw [if_pos (show id < 1 ∨ ne ≤ id from .inl q2), if_pos (by decide)] at hg
   subst hg
   refine QPf ?_; exact QQf
  by_cases q3 : ne ≤ id
  ·rw [if_pos (show id < 1 ∨ ne ≤ id from .inr q3), if_pos (by decide)] at hg
   subst hg
   refine QRf ?_; exact Qea
  rw [if_neg (show ¬ (id < 1 ∨ ne ≤ id) from fun h => h.elim q2 q3)] at hg
  cases b1 with
  | false =>
   rw [if_pos (show false = false ∨ b2 = false from .inl rfl), if_pos (by decide)] at hg
   subst hg
   refine QRf ?_; refine QXf ?_; refine QMb ?_; exact Qaa
  | true =>
   cases b2 with
   | false =>
    rw [if_pos (show true = false ∨ false = false from .inr rfl), if_pos (by decide)] at hg
    subst hg
    refine QRf ?_; refine QXf ?_; refine QRb ?_; refine Zr (hcon := hs2) ?_; exact Qfa
   | true =>
    rw [if_neg (show ¬ (true = false ∨ true = false) by simp)] at hg
    cases b3 with
    | false =>
     rw [if_pos (show false = false from rfl), if_pos (by decide)] at hg
     subst hg
     refine QRf ?_; refine QYf ?_; exact QVc
    | true =>
     rw [if_neg (show ¬ true = false by simp)] at hg
     by_cases he : e = 0
     ·subst he
      rw [if_neg (by simp)] at hg
      refine QRf ?_; refine QZf ?_; refine Qie ?_; refine Qsa ?_; exact ⟨0 + 1, ⟨by omega, hg⟩, by omega, X6 rfl JM ⟨rfl, trivial⟩⟩
     ·rw [if_pos he] at hg
      subst hg
      refine QRf ?_; refine QZf ?_; exact Qhe
 ·obtain ⟨j, rfl⟩ : ∃ j, i = j + 1 := ⟨i - 1, by omega⟩
  obtain ⟨p, hp⟩ := Xs (l := es) (k := j) (by omega)
  have hpp : (es.map Xf)[j]? = some (Xf p) := Xx hp
  rw [X9J hp] at hg
  clear hp
  obtain ⟨id, src, dst, typ, props⟩ := x
  obtain ⟨pid, psrc, pdst, ptyp, pprops⟩ := p
  simp only [Xf] at hxc hpc hg hpp hs1 hs2 hnm
  simp only [List.map_nil] at hpc
  generalize Y3 ns src = b1 at *
  generalize Y3 ns dst = b2 at *
  generalize Xt typ = b3 at *
  generalize YO [] props = e at *
  by_cases q1 : id ≤ pid
  ·rw [if_pos q1, if_pos (by decide)] at hg
   subst hg
   refine QTf ?_
   (refine Z9 (op := .sub) (r' := .int .i64 ((j : Nat) : Int)) (u := .int .i64 ((j + 1 : Nat) : Int)) (v := .int .i64 1) ?_ (hr' := by exact congrArg (Value.int .i64) (show (((j + 1 : Nat) : Int) - 1) = (j : Int) by omega)) (hr := by exact XQ (by unfold Xv; omega)))
   exact QUf
  rw [if_neg q1] at hg
  by_cases q2 : id < 1
  ·rw [if_pos (show id < 1 ∨ ne ≤ id from .inl q2), if_pos (by decide)] at hg
   subst hg
   refine QTf ?_
   (refine Z9 (op := .sub) (r' := .int .i64 ((j : Nat) : Int)) (u := .int .i64 ((j + 1 : Nat) : Int)) (v := .int .i64 1) ?_ (hr' := by exact congrArg (Value.int .i64) (show (((j + 1 : Nat) : Int) - 1) = (j : Int) by omega)) (hr := by exact XQ (by unfold Xv; omega)))
   exact QVf
  by_cases q3 : ne ≤ id
  ·rw [if_pos (show id < 1 ∨ ne ≤ id from .inr q3), if_pos (by decide)] at hg
   subst hg
   refine QTf ?_
   (refine Z9 (op := .sub) (r' := .int .i64 ((j : Nat) : Int)) (u := .int .i64 ((j + 1 : Nat) : Int)) (v := .int .i64 1) ?_ (hr' := by exact congrArg (Value.int .i64) (show (((j + 1 : Nat) : Int) - 1) = (j : Int) by omega)) (hr := by exact XQ (by unfold Xv; omega)))
   refine QWf ?_; exact Qea
  rw [if_neg (show ¬ (id < 1 ∨ ne ≤ id) from fun h => h.elim q2 q3)] at hg
  cases b1 with
  | false =>
   rw [if_pos (show false = false ∨ b2 = false from .inl rfl), if_pos (by decide)] at hg
   subst hg
   refine QTf ?_
   (refine Z9 (op := .sub) (r' := .int .i64 ((j : Nat) : Int)) (u := .int .i64 ((j + 1 : Nat) : Int)) (v := .int .i64 1) ?_ (hr' := by exact congrArg (Value.int .i64) (show (((j + 1 : Nat) : Int) - 1) = (j : Int) by omega)) (hr := by exact XQ (by unfold Xv; omega)))
   refine QWf ?_; refine QXf ?_; refine QMb ?_; exact Qaa
  | true =>
   cases b2 with
   | false =>
    rw [if_pos (show true = false ∨ false = false from .inr rfl), if_pos (by decide)] at hg
    subst hg
    refine QTf ?_
    (refine Z9 (op := .sub) (r' := .int .i64 ((j : Nat) : Int)) (u := .int .i64 ((j + 1 : Nat) : Int)) (v := .int .i64 1) ?_ (hr' := by exact congrArg (Value.int .i64) (show (((j + 1 : Nat) : Int) - 1) = (j : Int) by omega)) (hr := by exact XQ (by unfold Xv; omega)))
    refine QWf ?_; refine QXf ?_; refine QRb ?_; refine Zr (hcon := hs2) ?_; exact Qfa
   | true =>
    rw [if_neg (show ¬ (true = false ∨ true = false) by simp)] at hg
    cases b3 with
    | false =>
     rw [if_pos (show false = false from rfl), if_pos (by decide)] at hg
     subst hg
     refine QTf ?_
     (refine Z9 (op := .sub) (r' := .int .i64 ((j : Nat) : Int)) (u := .int .i64 ((j + 1 : Nat) : Int)) (v := .int .i64 1) ?_ (hr' := by exact congrArg (Value.int .i64) (show (((j + 1 : Nat) : Int) - 1) = (j : Int) by omega)) (hr := by exact XQ (by unfold Xv; omega)))
     refine QWf ?_; refine QYf ?_; exact QVc
    | true =>
     rw [if_neg (show ¬ true = false by simp)] at hg
     by_cases he : e = 0
     ·subst he
      rw [if_neg (by simp)] at hg
      refine QTf ?_
      (refine Z9 (op := .sub) (r' := .int .i64 ((j : Nat) : Int)) (u := .int .i64 ((j + 1 : Nat) : Int)) (v := .int .i64 1) ?_ (hr' := by exact congrArg (Value.int .i64) (show (((j + 1 : Nat) : Int) - 1) = (j : Int) by omega)) (hr := by exact XQ (by unfold Xv; omega)))
      refine QWf ?_; refine QZf ?_; refine Qie ?_; refine Qsa ?_; exact ⟨j + 1 + 1, ⟨by omega, hg⟩, by omega, X6 rfl JM ⟨rfl, trivial⟩⟩
     ·rw [if_pos he] at hg
      subst hg
      refine QTf ?_
      (refine Z9 (op := .sub) (r' := .int .i64 ((j : Nat) : Int)) (u := .int .i64 ((j + 1 : Nat) : Int)) (v := .int .i64 1) ?_ (hr' := by exact congrArg (Value.int .i64) (show (((j + 1 : Nat) : Int) - 1) = (j : Int) by omega)) (hr := by exact XQ (by unfold Xv; omega)))
      refine QWf ?_; refine QZf ?_; exact Qhe
end Go.Fw

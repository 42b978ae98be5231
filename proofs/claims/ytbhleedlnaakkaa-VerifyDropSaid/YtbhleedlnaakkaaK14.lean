/- The program's check of a graph. -/
import Derived.Test.YtbhleedlnaakkaaK13
set_option maxHeartbeats 32000000
namespace Go.Fw
open Go Go.Proofs
set_option maxRecDepth 100000
set_option linter.unusedVariables false
set_option linter.unusedSimpArgs false
def Uj (n : Nod) : AVal := .agg [ai n.id, .d (.sl 1 (n.labels.map Xo)), .d (.sl 6 (n.props.map Xi))]
def X1I (n : Nod) : Prop := n.labels.length ≤ 9223372036854775807 ∧ (∀ s ∈ n.labels, s.length ≤ 9223372036854775807) ∧ n.props.length ≤ 9223372036854775807 ∧ ∀ p ∈ n.props, X07 p
def X1s (e : Edg) : Prop := e.typ.length ≤ 9223372036854775807 ∧ e.props.length ≤ 9223372036854775807 ∧ ∀ p ∈ e.props, X07 p
structure GraHold (g : Gra) : Prop where
 nl : g.nodes.length ≤ 9223372036854775807
 el : g.edges.length ≤ 9223372036854775807
 nodes : ∀ n ∈ g.nodes, X1I n
 edges : ∀ e ∈ g.edges, X1s e
theorem X4V {nn : Int} {l : List Nod} {n : Nod} : YK nn (XL l 0) n = if n.id < 1 ∨ nn ≤ n.id then 1 else Yf n.labels n.props := by
 unfold YK XL
 rw [if_neg (by simp)]
theorem X79 {nn : Int} {l : List Nod} {j : Nat} {p n : Nod} (h : l[j]? = some p) : YK nn (XL l (j + 1)) n = if n.id ≤ p.id then 26 else if n.id < 1 ∨ nn ≤ n.id then 1 else Yf n.labels n.props := by
 unfold YK
 rw [UB, h]
 simp
theorem X8C {ns : List Nod} {ne : Int} {l : List Edg} {n : Edg} : U4 ns ne (XL l 0) n = if n.id < 1 ∨ ne ≤ n.id then 1
 else if XO ns n.src = false ∨ XO ns n.dst = false then 10 else if Xg n.typ = false then 6 else Yf [] n.props := by
 unfold U4 XL
 rw [if_neg (by simp)]
theorem X6I {ns : List Nod} {ne : Int} {l : List Edg} {j : Nat} {p n : Edg} (h : l[j]? = some p) : U4 ns ne (XL l (j + 1)) n = if n.id ≤ p.id then 26 else if n.id < 1 ∨ ne ≤ n.id then 1
 else if XO ns n.src = false ∨ XO ns n.dst = false then 10 else if Xg n.typ = false then 6 else Yf [] n.props := by
 unfold U4
 rw [UB, h]
 simp
theorem X6s {x y : Int} (h : x < y) : XR x y = -1 := if_pos h
theorem X8S {x y : Int} (h : ¬ x < y) : ¬ XR x y < 0 := by
 unfold XR
 rw [if_neg h]
 split <;> decide
theorem X8E {x y : Int} : decide (XR x y = 0) = decide (x = y) := by
 unfold XR
 by_cases h : x < y
 ·rw [if_pos h, decide_eq_false (by decide), decide_eq_false (by omega)]
 ·rw [if_neg h]
  by_cases h' : y < x
  ·rw [if_pos h', decide_eq_false (by decide), decide_eq_false (by omega)]
  ·rw [if_neg h', decide_eq_true rfl, decide_eq_true (by omega)]
theorem X3B (x : Nod) (n : Int) : Con Try.prog 41 [] [Uj x, ai n] [] (ai (XR x.id n)) := by
 refine Xf (xs := [ai (XR x.id n)]) Try.func41 rfl Try.ntmps41 rfl rfl rfl (fun E => ?_)
 have hc := X28 x.id n
 obtain ⟨id, labels, props⟩ := x
 simp only [Uj] at hc ⊢
 generalize XR id n = q at *
 refine X0 ?_; refine JR ?_; refine Zn (γ := 100) ?_; refine Z0 ?_; refine JD ?_; refine X0 ?_; refine JR ?_; refine Zo ?_; refine Zp ?_; refine Z1 ?_; refine Zc (hcon := hc) ?_; refine Z0 ?_; refine JD ?_
 exact X1 ⟨_, St.le_refl _, ⟨rfl, trivial⟩, X2 _⟩
theorem X54 (l : List Nod) (n : Int) (hl : l.length ≤ 4294967296) (hr : X0U l) : Con Try.prog 40 [] [.d (.sl 3 (l.map Xd)), ai n, .fn 41 []] [] (.tup [ai (X0R l n), ab (XO l n)]) := by
 refine Xf (xs := [ai (X0R l n), ab (XO l n)]) Try.func40 rfl Try.ntmps40 rfl rfl rfl (fun E => ?_)
 have hlm : (l.map Xd).length = l.length := by simp
 refine X0 ?_; refine JR ?_; refine Z0 ?_; refine Z0 ?_; refine JD ?_; refine X0 ?_; refine JR ?_; refine Z1 ?_; refine Zw ?_; refine Z0 ?_; refine JD ?_; refine X0 ?_; refine JR ?_; refine Z1 ?_
 refine Z0 ?_; refine Z0 ?_; refine JD ?_; refine X0 ?_; refine X4 ?_
 refine XD (ι := Nat × Nat) (fun q => q.1 ≤ q.2 ∧ q.2 ≤ l.length ∧ (∀ (k : Nat) (x : Nod), k < q.1 → l[k]? = some x → x.id < n) ∧ (∀ (k : Nat) (x : Nod), q.2 ≤ k → l[k]? = some x → n ≤ x.id)) (fun q => ⟨49, [(0, .d (.sl 3 (l.map Xd))), (1, ai n), (2, .fn 41 []), (8, ai (l.map Xd).length), (9, ai q.1), (10, ai q.2)], []⟩) (fun q => q.2 - q.1) (0, l.length)
  ⟨Nat.zero_le _, Nat.le_refl _, fun k x h => absurd h (Nat.not_lt_zero _), fun k x h hx => absurd (List.getElem?_eq_some_iff.1 hx).1 (Nat.not_lt.2 h)⟩
  (X8 rfl ⟨JL, JL, JL, JL, JL, AVal.le_of_eq (by show ai _ = ai _; rw [hlm]), trivial⟩ trivial) ?_
 rintro ⟨i, j⟩ ⟨h1, h2, h3, h4⟩
 simp only at h1 h2 h3 h4
 by_cases hij : i < j
 case neg =>
  obtain rfl : i = j := by omega
  have hlow := X87 h2 h3 (fun x hx => by have := h4 i x (Nat.le_refl _) hx; omega)
  have hhas := X5X hr h3 h4
  rw [hlow, hhas]
  have hij' : ¬ (i : Int) < (i : Nat) := by omega
  by_cases hil : i < l.length
  ·have hil' : (i : Int) < (l.map Xd).length := by omega
   obtain ⟨x, hx⟩ := Xs (l := l) hil
   have hxc : (l.map Xd)[i]? = some (Xd x) := Xw hx
   have hc := X3B x n
   have hd : decide (∃ y, l[i]? = some y ∧ y.id = n) = decide (XR x.id n = 0) := by rw [X8E, hx]; simp
   rw [hd]
   generalize XR x.id n = c at *
   obtain ⟨id, labels, props⟩ := x
   simp only [Uj, Xd] at hc hxc
   refine X0 ?_; refine X0 ?_; refine JR ?_; refine Z1 ?_; refine Z1 ?_; refine Ze ?_; refine JD ?_; refine JF ?_; refine Xz ?_; refine X0 ?_; refine JR ?_; refine Z1 ?_; refine Z1 ?_; refine Z1 ?_
   refine Ze ?_; refine Z1 ?_; refine Z1 ?_; refine Z1 ?_; refine Z1 ?_; refine Zy ?_; refine Zz ?_; refine Z1 ?_; refine Zt (hcon := hc) ?_; refine Zi ?_; refine Z4 ?_; refine Z0 ?_; refine Z0 ?_; refine JD ?_
   first | exact X1 ⟨_, St.le_refl _, ⟨rfl, rfl, trivial⟩, X2 _⟩ | exact X1 ⟨_, St.le_refl _, ⟨⟨rfl, rfl, trivial⟩, trivial⟩, X2 _⟩
  ·have hil' : ¬ (i : Int) < (l.map Xd).length := by omega
   have hd : decide (∃ y, l[i]? = some y ∧ y.id = n) = false := by
    refine decide_eq_false ?_
    rintro ⟨y, hy, _⟩
    exact hil (List.getElem?_eq_some_iff.1 hy).1
   rw [hd]
   refine X0 ?_; refine X0 ?_; refine JR ?_; refine Z1 ?_; refine Z1 ?_; refine Ze ?_; refine JD ?_; refine JF ?_; refine Xz ?_; refine X0 ?_; refine JR ?_; refine Z1 ?_; refine Z1 ?_; refine Z1 ?_
   refine Ze ?_; refine Z1 ?_; refine Z5 ?_; refine Z5 ?_; refine Z5 ?_; refine Z5 ?_; refine Z5 ?_; refine Z5 ?_; refine Z5 ?_; refine Z5 ?_; refine Z7 ?_; refine Z0 ?_; refine Z0 ?_; refine JD ?_
   first | exact X1 ⟨_, St.le_refl _, ⟨rfl, rfl, trivial⟩, X2 _⟩ | exact X1 ⟨_, St.le_refl _, ⟨⟨rfl, rfl, trivial⟩, trivial⟩, X2 _⟩
 have hij' : (i : Int) < (j : Nat) := by omega
 obtain ⟨x, hx⟩ := Xs (l := l) (k := (i + j) / 2) (by omega)
 have hxc : (l.map Xd)[(i + j) / 2]? = some (Xd x) := Xw hx
 have hc := X3B x n
 have e2 : n64 ((i + j) / 2 ^ 1) = n64 ((i + j) / 2) := rfl
 have hid : x.id = x.id := rfl
 by_cases hlt : x.id < n
 ·have hinv : ∀ (k : Nat) (y : Nod), k < (i + j) / 2 + 1 → l[k]? = some y → y.id < n := fun k y hk hy => by
   by_cases e : k = (i + j) / 2
   ·subst e; rw [hx] at hy; injection hy with hy; subst hy; exact hlt
   ·have := hr k ((i + j) / 2) y x hy hx (by omega); omega
  rw [X6s hlt] at hc
  obtain ⟨id, labels, props⟩ := x
  simp only [Uj, Xd] at hc hxc
  refine X0 ?_; refine X0 ?_; refine JR ?_; refine Z1 ?_; refine Z1 ?_; refine Ze ?_; refine JD ?_; refine JT ?_; refine X3 ?_; refine X4 ?_; refine X0 ?_; refine JR ?_; refine Z1 ?_
  refine Z1 ?_; refine Zm (op := .add) (r' := ni (i + j)) (u := ni i) (v := ni j) ?_ (hr := by exact X10 (by rw [Vs]; omega))
  refine ZH (u := ni (i + j)) (r := n64 (i + j)) ?_ (hr := by exact X0t rfl rfl (by rw [X3n]; omega))
  refine ZB (op := .shr) (r' := _) (u := n64 (i + j)) (v := n64 1) ?_ (hr' := by exact e2) (hr := by exact X3h (by decide))
  refine ZH (u := n64 ((i + j) / 2)) (r := ni ((i + j) / 2)) ?_ (hr := by exact X0t rfl rfl (by rw [Vs]; omega)); refine Z0 ?_; refine JD ?_; refine X0 ?_; refine JR ?_; refine Z1 ?_; refine Z1 ?_; refine Z1 ?_
  refine Zy ?_; refine Zz ?_; refine Z1 ?_; refine Zt (hcon := hc) ?_; refine Ze ?_; refine JD ?_; refine JT ?_; refine JR ?_; refine Z1 ?_; refine Zf ?_; refine Z0 ?_; refine JD ?_
  exact ⟨((i + j) / 2 + 1, j), ⟨by simp only; omega, h2, hinv, h4⟩, by simp only; omega, X8 rfl JM trivial⟩
 ·have hinv : ∀ (k : Nat) (y : Nod), (i + j) / 2 ≤ k → l[k]? = some y → n ≤ y.id := fun k y hk hy => by
   by_cases e : k = (i + j) / 2
   ·subst e; rw [hx] at hy; injection hy with hy; subst hy; omega
   ·have := hr ((i + j) / 2) k x y hx hy (by omega); omega
  have hge := X8S hlt
  generalize XR x.id n = c at *
  obtain ⟨id, labels, props⟩ := x
  simp only [Uj, Xd] at hc hxc
  refine X0 ?_; refine X0 ?_; refine JR ?_; refine Z1 ?_; refine Z1 ?_; refine Ze ?_; refine JD ?_; refine JT ?_; refine X3 ?_; refine X4 ?_; refine X0 ?_; refine JR ?_; refine Z1 ?_
  refine Z1 ?_; refine Zm (op := .add) (r' := ni (i + j)) (u := ni i) (v := ni j) ?_ (hr := by exact X10 (by rw [Vs]; omega))
  refine ZH (u := ni (i + j)) (r := n64 (i + j)) ?_ (hr := by exact X0t rfl rfl (by rw [X3n]; omega))
  refine ZB (op := .shr) (r' := _) (u := n64 (i + j)) (v := n64 1) ?_ (hr' := by exact e2) (hr := by exact X3h (by decide))
  refine ZH (u := n64 ((i + j) / 2)) (r := ni ((i + j) / 2)) ?_ (hr := by exact X0t rfl rfl (by rw [Vs]; omega)); refine Z0 ?_; refine JD ?_; refine X0 ?_; refine JR ?_; refine Z1 ?_; refine Z1 ?_; refine Z1 ?_
  refine Zy ?_; refine Zz ?_; refine Z1 ?_; refine Zt (hcon := hc) ?_; refine Ze ?_; refine JD ?_; refine JF ?_; refine JR ?_; refine Z1 ?_; refine Z0 ?_; refine JD ?_
  exact ⟨(i, (i + j) / 2), ⟨by simp only; omega, by simp only; omega, h3, hinv⟩, by simp only; omega, X8 rfl JM trivial⟩
theorem X43 (l : List Nod) (n : Int) (hl : l.length ≤ 4294967296) (hr : X0U l) : Con Try.prog 25 [] [.d (.sl 3 (l.map Xd)), ai n] [] (ab (XO l n)) := by
 refine Xf (xs := [ab (XO l n)]) Try.func25 rfl Try.ntmps25 rfl rfl rfl (fun E => ?_)
 have hs := X54 l n hl hr
 generalize X0R l n = a at *
 generalize XO l n = b at *
 refine X0 ?_; refine JR ?_; refine Z0 ?_; refine JD ?_; refine X0 ?_; refine JR ?_; refine Z1 ?_; refine Z1 ?_; refine Zc (hcon := hs) ?_; refine Z1 ?_; refine Zs ?_; refine Zs ?_; refine Z0 ?_; refine Z0 ?_
 refine JD ?_; refine X0 ?_; refine JR ?_; refine Z1 ?_; refine Z0 ?_; refine JD ?_
 exact X1 ⟨_, St.le_refl _, ⟨rfl, trivial⟩, X2 _⟩
theorem X40 {ns : List Nod} {es : List Edg} {nn ne : Int} (h : 2000 < ns.length ∨ 4000 < es.length) : Ya ⟨ns, es, nn, ne⟩ = 4 := if_pos h
theorem X19 {ns : List Nod} {es : List Edg} {nn ne : Int} (h1 : ¬ 2000 < ns.length) (h2 : ¬ 4000 < es.length) (h : nn < 1 ∨ 1000001 < nn ∨ ne < 1 ∨ 1000001 < ne) : Ya ⟨ns, es, nn, ne⟩ = 1 := by
 unfold Ya
 simp only
 rw [if_neg (fun q => q.elim h1 h2), if_pos h]
theorem X5C {ns : List Nod} {es : List Edg} {nn ne : Int} (h1 : ¬ 2000 < ns.length) (h2 : ¬ 4000 < es.length) (a1 : ¬ nn < 1) (a2 : ¬ 1000001 < nn) (a3 : ¬ ne < 1) (a4 : ¬ 1000001 < ne) :
  Ya ⟨ns, es, nn, ne⟩ = if Yl nn none ns ≠ 0 then Yl nn none ns else U8 ns ne none es := by
 unfold Ya
 simp only
 rw [if_neg (fun q => q.elim h1 h2), if_neg (by omega)]
theorem X48 (g : Gra) (hok : GraHold g) : Con Try.prog 15 [] [Xq g] [] (ai (Ya g)) := by
 obtain ⟨ns, es, nn, ne⟩ := g
 obtain ⟨hnl, hel, hnh, heh⟩ := hok
 simp only at hnl hel hnh heh
 unfold Xq
 simp only
 refine Xf (xs := [ai (Ya ⟨ns, es, nn, ne⟩)]) Try.func15 rfl Try.ntmps15 rfl rfl rfl (fun E => ?_)
 have hlm : (ns.map Xd).length = ns.length := by simp
 have hle : (es.map Xl).length = es.length := by simp
 by_cases h1 : 2000 < ns.length
 ·rw [X40 (.inl h1)]
  have h1' : (2000 : Int) < (ns.map Xd).length := by omega
  refine X0 ?_; refine JR ?_; refine Zn (γ := 100) ?_; refine Z0 ?_; refine JD ?_; refine X0 ?_; refine X0 ?_; refine JR ?_; refine Zo ?_; refine Zp ?_; refine Zw ?_; refine Za ?_; refine Z1 ?_; refine Z5 ?_
  refine Z5 ?_; refine Z5 ?_; refine Z5 ?_; refine Z4 ?_; refine JD ?_; refine JT ?_; refine X0 ?_; refine JR ?_; refine Z0 ?_; refine JD ?_
  exact X1 ⟨_, St.le_refl _, ⟨rfl, trivial⟩, X2 _⟩
 have h1' : ¬ (2000 : Int) < (ns.map Xd).length := by omega
 by_cases h2 : 4000 < es.length
 ·rw [X40 (.inr h2)]
  have h2' : (4000 : Int) < (es.map Xl).length := by omega
  refine X0 ?_; refine JR ?_; refine Zn (γ := 100) ?_; refine Z0 ?_; refine JD ?_; refine X0 ?_; refine X0 ?_; refine JR ?_; refine Zo ?_; refine Zp ?_; refine Zw ?_; refine Za ?_; refine Z1 ?_; refine Zo ?_
  refine Zp ?_; refine Zw ?_; refine Za ?_; refine Z7 ?_; refine JD ?_; refine JT ?_; refine X0 ?_; refine JR ?_; refine Z0 ?_; refine JD ?_
  exact X1 ⟨_, St.le_refl _, ⟨rfl, trivial⟩, X2 _⟩
 have h2' : ¬ (4000 : Int) < (es.map Xl).length := by omega
 by_cases a1 : nn < 1
 ·rw [X19 h1 h2 (.inl a1)]
  refine X0 ?_; refine JR ?_; refine Zn (γ := 100) ?_; refine Z0 ?_; refine JD ?_; refine X0 ?_; refine X0 ?_; refine JR ?_; refine Zo ?_; refine Zp ?_; refine Zw ?_; refine Za ?_; refine Z1 ?_; refine Zo ?_
  refine Zp ?_; refine Zw ?_; refine Za ?_; refine Z7 ?_; refine JD ?_; refine JF ?_; refine X3 ?_; refine X0 ?_; refine X0 ?_; refine JR ?_; refine Zo ?_; refine Zp ?_; refine Ze ?_; refine Z1 ?_
  refine Z5 ?_; refine Z5 ?_; refine Z5 ?_; refine Z4 ?_; refine Z1 ?_; refine Z5 ?_; refine Z5 ?_; refine Z5 ?_; refine Z4 ?_; refine Z1 ?_; refine Z5 ?_; refine Z5 ?_; refine Z5 ?_; refine Z4 ?_; refine JD ?_
  refine JT ?_; refine X0 ?_; refine JR ?_; refine Z0 ?_; refine JD ?_
  exact X1 ⟨_, St.le_refl _, ⟨rfl, trivial⟩, X2 _⟩
 by_cases a2 : 1000001 < nn
 ·rw [X19 h1 h2 (.inr (.inl a2))]
  refine X0 ?_; refine JR ?_; refine Zn (γ := 100) ?_; refine Z0 ?_; refine JD ?_; refine X0 ?_; refine X0 ?_; refine JR ?_; refine Zo ?_; refine Zp ?_; refine Zw ?_; refine Za ?_; refine Z1 ?_; refine Zo ?_
  refine Zp ?_; refine Zw ?_; refine Za ?_; refine Z7 ?_; refine JD ?_; refine JF ?_; refine X3 ?_; refine X0 ?_; refine X0 ?_; refine JR ?_; refine Zo ?_; refine Zp ?_; refine Ze ?_; refine Z1 ?_
  refine Zo ?_; refine Zp ?_; refine Za ?_; refine Z7 ?_; refine Z1 ?_; refine Z5 ?_; refine Z5 ?_; refine Z5 ?_; refine Z4 ?_; refine Z1 ?_; refine Z5 ?_; refine Z5 ?_; refine Z5 ?_; refine Z4 ?_; refine JD ?_
  refine JT ?_; refine X0 ?_; refine JR ?_; refine Z0 ?_; refine JD ?_
  exact X1 ⟨_, St.le_refl _, ⟨rfl, trivial⟩, X2 _⟩
 by_cases a3 : ne < 1
 ·rw [X19 h1 h2 (.inr (.inr (.inl a3)))]
  refine X0 ?_; refine JR ?_; refine Zn (γ := 100) ?_; refine Z0 ?_; refine JD ?_; refine X0 ?_; refine X0 ?_; refine JR ?_; refine Zo ?_; refine Zp ?_; refine Zw ?_; refine Za ?_; refine Z1 ?_; refine Zo ?_
  refine Zp ?_; refine Zw ?_; refine Za ?_; refine Z7 ?_; refine JD ?_; refine JF ?_; refine X3 ?_; refine X0 ?_; refine X0 ?_; refine JR ?_; refine Zo ?_; refine Zp ?_; refine Ze ?_; refine Z1 ?_
  refine Zo ?_; refine Zp ?_; refine Za ?_; refine Z7 ?_; refine Z1 ?_; refine Zo ?_; refine Zp ?_; refine Ze ?_; refine Z7 ?_; refine Z1 ?_; refine Z5 ?_; refine Z5 ?_; refine Z5 ?_; refine Z4 ?_; refine JD ?_
  refine JT ?_; refine X0 ?_; refine JR ?_; refine Z0 ?_; refine JD ?_
  exact X1 ⟨_, St.le_refl _, ⟨rfl, trivial⟩, X2 _⟩
 by_cases a4 : 1000001 < ne
 ·rw [X19 h1 h2 (.inr (.inr (.inr a4)))]
  refine X0 ?_; refine JR ?_; refine Zn (γ := 100) ?_; refine Z0 ?_; refine JD ?_; refine X0 ?_; refine X0 ?_; refine JR ?_; refine Zo ?_; refine Zp ?_; refine Zw ?_; refine Za ?_; refine Z1 ?_; refine Zo ?_
  refine Zp ?_; refine Zw ?_; refine Za ?_; refine Z7 ?_; refine JD ?_; refine JF ?_; refine X3 ?_; refine X0 ?_; refine X0 ?_; refine JR ?_; refine Zo ?_; refine Zp ?_; refine Ze ?_; refine Z1 ?_
  refine Zo ?_; refine Zp ?_; refine Za ?_; refine Z7 ?_; refine Z1 ?_; refine Zo ?_; refine Zp ?_; refine Ze ?_; refine Z7 ?_; refine Z1 ?_; refine Zo ?_; refine Zp ?_; refine Za ?_; refine Z7 ?_; refine JD ?_
  refine JT ?_; refine X0 ?_; refine JR ?_; refine Z0 ?_; refine JD ?_
  exact X1 ⟨_, St.le_refl _, ⟨rfl, trivial⟩, X2 _⟩
 rw [X5C h1 h2 a1 a2 a3 a4]
 generalize hN : Yl nn none ns = N
 generalize hM : U8 ns ne none es = M
 refine X0 ?_; refine JR ?_; refine Zn (γ := 100) ?_; refine Z0 ?_; refine JD ?_; refine X0 ?_; refine X0 ?_; refine JR ?_; refine Zo ?_; refine Zp ?_; refine Zw ?_; refine Za ?_; refine Z1 ?_; refine Zo ?_
 refine Zp ?_; refine Zw ?_; refine Za ?_; refine Z7 ?_; refine JD ?_; refine JF ?_; refine X3 ?_; refine X0 ?_; refine X0 ?_; refine JR ?_; refine Zo ?_; refine Zp ?_; refine Ze ?_; refine Z1 ?_
 refine Zo ?_; refine Zp ?_; refine Za ?_; refine Z7 ?_; refine Z1 ?_; refine Zo ?_; refine Zp ?_; refine Ze ?_; refine Z7 ?_; refine Z1 ?_; refine Zo ?_; refine Zp ?_; refine Za ?_; refine Z7 ?_; refine JD ?_
 refine JF ?_; refine X3 ?_; refine X0 ?_; refine X0 ?_; refine JR ?_; refine Zo ?_; refine Zp ?_; refine Zw ?_; refine Z1 ?_; refine JD ?_; refine X4 ?_
 refine XD (fun i : Nat => i ≤ ns.length ∧ Yl nn (XL ns i) (ns.drop i) = N) (fun i => ⟨135, [(1, .ptr 100 0), (38, .d (.sl 3 (ns.map Xd))), (39, ai (ns.map Xd).length), (40, ai i)], [(100, .box [.d (.sl 3 (ns.map Xd)), .d (.sl 5 (es.map Xl)), ai nn, ai ne])]⟩) (fun i => ns.length - i) 0 ⟨Nat.zero_le _, by simpa [XL] using hN⟩
  (X8 rfl JM ⟨rfl, trivial⟩) ?_
 rintro i ⟨hi, hg⟩
 by_cases hil : i < ns.length
 case pos =>
  have hn : (i : Int) < (ns.map Xd).length := by omega
  obtain ⟨x, hx⟩ := Xs (l := ns) hil
  have hxc : (ns.map Xd)[i]? = some (Xd x) := Xw hx
  have hxh := hnh x (List.mem_of_getElem? hx)
  have hpc := X46 x.labels x.props hxh.1 hxh.2.2.2
  rw [X86 hx] at hg
  clear hxh
  by_cases h0 : i = 0
  ·subst h0
   rw [X4V] at hg
   obtain ⟨id, labels, props⟩ := x
   simp only [Xd] at hxc hpc hg
   by_cases q2 : id < 1
   ·rw [if_pos (show id < 1 ∨ nn ≤ id from .inl q2), if_pos (by decide)] at hg
    subst hg
    rw [if_pos (by decide)]
    refine X0 ?_; refine JR ?_; refine Ze ?_; refine JD ?_; refine X0 ?_; refine JT ?_; refine X3 ?_; refine X0 ?_; refine X4 ?_; refine X0 ?_; refine JR ?_; refine Z1 ?_; refine Zy ?_
    refine Zz ?_; refine Zh (γ := 101) ?_; refine Z0 ?_; refine Zk ?_; refine JD ?_; refine X0 ?_; refine X0 ?_; refine JR ?_; refine Z1 ?_; refine Za ?_; refine Z1 ?_; refine Z5 ?_; refine Z5 ?_; refine Z5 ?_
    refine Z5 ?_; refine Z5 ?_; refine Z5 ?_; refine Z5 ?_; refine Z5 ?_; refine Z5 ?_; refine Z5 ?_; refine Z7 ?_; refine JD ?_; refine JF ?_; refine X3 ?_; refine X0 ?_; refine X0 ?_; refine JR ?_
    refine Zo ?_; refine Zp ?_; refine Ze ?_; refine Z1 ?_; refine Z5 ?_; refine Z5 ?_; refine Z5 ?_; refine Z5 ?_; refine Z5 ?_; refine Z4 ?_; refine JD ?_; refine JT ?_; refine X0 ?_; refine JR ?_; refine Z0 ?_
    refine JD ?_
    exact X1 ⟨_, St.le_refl _, ⟨rfl, trivial⟩, X2 _⟩
   by_cases q3 : nn ≤ id
   ·rw [if_pos (show id < 1 ∨ nn ≤ id from .inr q3), if_pos (by decide)] at hg
    subst hg
    rw [if_pos (by decide)]
    refine X0 ?_; refine JR ?_; refine Ze ?_; refine JD ?_; refine X0 ?_; refine JT ?_; refine X3 ?_; refine X0 ?_; refine X4 ?_; refine X0 ?_; refine JR ?_; refine Z1 ?_; refine Zy ?_
    refine Zz ?_; refine Zh (γ := 101) ?_; refine Z0 ?_; refine Zk ?_; refine JD ?_; refine X0 ?_; refine X0 ?_; refine JR ?_; refine Z1 ?_; refine Za ?_; refine Z1 ?_; refine Z5 ?_; refine Z5 ?_; refine Z5 ?_
    refine Z5 ?_; refine Z5 ?_; refine Z5 ?_; refine Z5 ?_; refine Z5 ?_; refine Z5 ?_; refine Z5 ?_; refine Z7 ?_; refine JD ?_; refine JF ?_; refine X3 ?_; refine X0 ?_; refine X0 ?_; refine JR ?_
    refine Zo ?_; refine Zp ?_; refine Ze ?_; refine Z1 ?_; refine Zo ?_; refine Zp ?_; refine Zo ?_; refine Zp ?_; refine Z2 ?_; refine Z7 ?_; refine JD ?_; refine JT ?_; refine X0 ?_; refine JR ?_; refine Z0 ?_
    refine JD ?_
    exact X1 ⟨_, St.le_refl _, ⟨rfl, trivial⟩, X2 _⟩
   rw [if_neg (show ¬ (id < 1 ∨ nn ≤ id) from fun h => h.elim q2 q3)] at hg
   generalize Yf labels props = e at *
   by_cases he : e = 0
   ·subst he
    rw [if_neg (by simp)] at hg
    refine X0 ?_; refine JR ?_; refine Ze ?_; refine JD ?_; refine X0 ?_; refine JT ?_; refine X3 ?_; refine X0 ?_; refine X4 ?_; refine X0 ?_; refine JR ?_; refine Z1 ?_; refine Zy ?_
    refine Zz ?_; refine Zh (γ := 101) ?_; refine Z0 ?_; refine Zk ?_; refine JD ?_; refine X0 ?_; refine X0 ?_; refine JR ?_; refine Z1 ?_; refine Za ?_; refine Z1 ?_; refine Z5 ?_; refine Z5 ?_; refine Z5 ?_
    refine Z5 ?_; refine Z5 ?_; refine Z5 ?_; refine Z5 ?_; refine Z5 ?_; refine Z5 ?_; refine Z5 ?_; refine Z7 ?_; refine JD ?_; refine JF ?_; refine X3 ?_; refine X0 ?_; refine X0 ?_; refine JR ?_
    refine Zo ?_; refine Zp ?_; refine Ze ?_; refine Z1 ?_; refine Zo ?_; refine Zp ?_; refine Zo ?_; refine Zp ?_; refine Z2 ?_; refine Z7 ?_; refine JD ?_; refine JF ?_; refine X3 ?_; refine X0 ?_; refine JR ?_
    refine Zo ?_; refine Zp ?_; refine Zo ?_; refine Zp ?_; refine Zc (hcon := hpc) ?_; refine Z0 ?_; refine JD ?_; refine X0 ?_; refine JR ?_; refine Z1 ?_; refine Zg ?_; refine JD ?_; refine JF ?_; refine X3 ?_
    refine JR ?_; refine Zf ?_; refine Z1 ?_; refine JD ?_
    exact ⟨0 + 1, ⟨by omega, hg⟩, by omega, X8 rfl JM ⟨rfl, trivial⟩⟩
   ·rw [if_pos he] at hg
    subst hg
    rw [if_pos he]
    refine X0 ?_; refine JR ?_; refine Ze ?_; refine JD ?_; refine X0 ?_; refine JT ?_; refine X3 ?_; refine X0 ?_; refine X4 ?_; refine X0 ?_; refine JR ?_; refine Z1 ?_; refine Zy ?_
    refine Zz ?_; refine Zh (γ := 101) ?_; refine Z0 ?_; refine Zk ?_; refine JD ?_; refine X0 ?_; refine X0 ?_; refine JR ?_; refine Z1 ?_; refine Za ?_; refine Z1 ?_; refine Z5 ?_; refine Z5 ?_; refine Z5 ?_
    refine Z5 ?_; refine Z5 ?_; refine Z5 ?_; refine Z5 ?_; refine Z5 ?_; refine Z5 ?_; refine Z5 ?_; refine Z7 ?_; refine JD ?_; refine JF ?_; refine X3 ?_; refine X0 ?_; refine X0 ?_; refine JR ?_
    refine Zo ?_; refine Zp ?_; refine Ze ?_; refine Z1 ?_; refine Zo ?_; refine Zp ?_; refine Zo ?_; refine Zp ?_; refine Z2 ?_; refine Z7 ?_; refine JD ?_; refine JF ?_; refine X3 ?_; refine X0 ?_; refine JR ?_
    refine Zo ?_; refine Zp ?_; refine Zo ?_; refine Zp ?_; refine Zc (hcon := hpc) ?_; refine Z0 ?_; refine JD ?_; refine X0 ?_; refine JR ?_; refine Z1 ?_; refine Zg ?_; refine JD ?_; refine JT ?_; refine X0 ?_
    refine JR ?_; refine Z1 ?_; refine Z0 ?_; refine JD ?_
    exact X1 ⟨_, St.le_refl _, ⟨rfl, trivial⟩, X2 _⟩
  ·obtain ⟨j, rfl⟩ : ∃ j, i = j + 1 := ⟨i - 1, by omega⟩
   obtain ⟨p, hp⟩ := Xs (l := ns) (k := j) (by omega)
   have hpp : (ns.map Xd)[j]? = some (Xd p) := Xw hp
   rw [X79 hp] at hg
   clear hp
   obtain ⟨id, labels, props⟩ := x
   obtain ⟨pid, plabels, pprops⟩ := p
   simp only [Xd] at hxc hpc hg hpp
   by_cases q1 : id ≤ pid
   ·rw [if_pos q1, if_pos (by decide)] at hg
    subst hg
    rw [if_pos (by decide)]
    refine X0 ?_; refine JR ?_; refine Ze ?_; refine JD ?_; refine X0 ?_; refine JT ?_; refine X3 ?_; refine X0 ?_; refine X4 ?_; refine X0 ?_; refine JR ?_; refine Z1 ?_; refine Zy ?_
    refine Zz ?_; refine Zh (γ := 101) ?_; refine Z0 ?_; refine Zk ?_; refine JD ?_; refine X0 ?_; refine X0 ?_; refine JR ?_; refine Z1 ?_; refine Za ?_; refine Z1 ?_; refine Zo ?_; refine Zp ?_; refine Zo ?_
    refine Zp ?_; refine Z1 ?_
    refine ZB (op := .sub) (r' := .int .i64 ((j : Nat) : Int)) (u := .int .i64 ((j + 1 : Nat) : Int)) (v := .int .i64 1) ?_ (hr' := by exact congrArg (Value.int .i64) (show (((j + 1 : Nat) : Int) - 1) = (j : Int) by omega)) (hr := by exact Yb (by unfold XV; omega))
    refine Zy ?_; refine ZI ?_; refine ZC ?_; refine Z3 ?_; refine Z4 ?_; refine JD ?_; refine JT ?_; refine X0 ?_; refine JR ?_; refine Z0 ?_; refine JD ?_
    exact X1 ⟨_, St.le_refl _, ⟨rfl, trivial⟩, X2 _⟩
   rw [if_neg q1] at hg
   by_cases q2 : id < 1
   ·rw [if_pos (show id < 1 ∨ nn ≤ id from .inl q2), if_pos (by decide)] at hg
    subst hg
    rw [if_pos (by decide)]
    refine X0 ?_; refine JR ?_; refine Ze ?_; refine JD ?_; refine X0 ?_; refine JT ?_; refine X3 ?_; refine X0 ?_; refine X4 ?_; refine X0 ?_; refine JR ?_; refine Z1 ?_; refine Zy ?_
    refine Zz ?_; refine Zh (γ := 101) ?_; refine Z0 ?_; refine Zk ?_; refine JD ?_; refine X0 ?_; refine X0 ?_; refine JR ?_; refine Z1 ?_; refine Za ?_; refine Z1 ?_; refine Zo ?_; refine Zp ?_; refine Zo ?_
    refine Zp ?_; refine Z1 ?_
    refine ZB (op := .sub) (r' := .int .i64 ((j : Nat) : Int)) (u := .int .i64 ((j + 1 : Nat) : Int)) (v := .int .i64 1) ?_ (hr' := by exact congrArg (Value.int .i64) (show (((j + 1 : Nat) : Int) - 1) = (j : Int) by omega)) (hr := by exact Yb (by unfold XV; omega))
    refine Zy ?_; refine ZI ?_; refine ZC ?_; refine Z3 ?_; refine Z4 ?_; refine JD ?_; refine JF ?_; refine X3 ?_; refine X0 ?_; refine X0 ?_; refine JR ?_; refine Zo ?_; refine Zp ?_; refine Ze ?_
    refine Z1 ?_; refine Z5 ?_; refine Z5 ?_; refine Z5 ?_; refine Z5 ?_; refine Z5 ?_; refine Z4 ?_; refine JD ?_; refine JT ?_; refine X0 ?_; refine JR ?_; refine Z0 ?_; refine JD ?_
    exact X1 ⟨_, St.le_refl _, ⟨rfl, trivial⟩, X2 _⟩
   by_cases q3 : nn ≤ id
   ·rw [if_pos (show id < 1 ∨ nn ≤ id from .inr q3), if_pos (by decide)] at hg
    subst hg
    rw [if_pos (by decide)]
    refine X0 ?_; refine JR ?_; refine Ze ?_; refine JD ?_; refine X0 ?_; refine JT ?_; refine X3 ?_; refine X0 ?_; refine X4 ?_; refine X0 ?_; refine JR ?_; refine Z1 ?_; refine Zy ?_
    refine Zz ?_; refine Zh (γ := 101) ?_; refine Z0 ?_; refine Zk ?_; refine JD ?_; refine X0 ?_; refine X0 ?_; refine JR ?_; refine Z1 ?_; refine Za ?_; refine Z1 ?_; refine Zo ?_; refine Zp ?_; refine Zo ?_
    refine Zp ?_; refine Z1 ?_
    refine ZB (op := .sub) (r' := .int .i64 ((j : Nat) : Int)) (u := .int .i64 ((j + 1 : Nat) : Int)) (v := .int .i64 1) ?_ (hr' := by exact congrArg (Value.int .i64) (show (((j + 1 : Nat) : Int) - 1) = (j : Int) by omega)) (hr := by exact Yb (by unfold XV; omega))
    refine Zy ?_; refine ZI ?_; refine ZC ?_; refine Z3 ?_; refine Z4 ?_; refine JD ?_; refine JF ?_; refine X3 ?_; refine X0 ?_; refine X0 ?_; refine JR ?_; refine Zo ?_; refine Zp ?_; refine Ze ?_
    refine Z1 ?_; refine Zo ?_; refine Zp ?_; refine Zo ?_; refine Zp ?_; refine Z2 ?_; refine Z7 ?_; refine JD ?_; refine JT ?_; refine X0 ?_; refine JR ?_; refine Z0 ?_; refine JD ?_
    exact X1 ⟨_, St.le_refl _, ⟨rfl, trivial⟩, X2 _⟩
   rw [if_neg (show ¬ (id < 1 ∨ nn ≤ id) from fun h => h.elim q2 q3)] at hg
   generalize Yf labels props = e at *
   by_cases he : e = 0
   ·subst he
    rw [if_neg (by simp)] at hg
    refine X0 ?_; refine JR ?_; refine Ze ?_; refine JD ?_; refine X0 ?_; refine JT ?_; refine X3 ?_; refine X0 ?_; refine X4 ?_; refine X0 ?_; refine JR ?_; refine Z1 ?_; refine Zy ?_
    refine Zz ?_; refine Zh (γ := 101) ?_; refine Z0 ?_; refine Zk ?_; refine JD ?_; refine X0 ?_; refine X0 ?_; refine JR ?_; refine Z1 ?_; refine Za ?_; refine Z1 ?_; refine Zo ?_; refine Zp ?_; refine Zo ?_
    refine Zp ?_; refine Z1 ?_
    refine ZB (op := .sub) (r' := .int .i64 ((j : Nat) : Int)) (u := .int .i64 ((j + 1 : Nat) : Int)) (v := .int .i64 1) ?_ (hr' := by exact congrArg (Value.int .i64) (show (((j + 1 : Nat) : Int) - 1) = (j : Int) by omega)) (hr := by exact Yb (by unfold XV; omega))
    refine Zy ?_; refine ZI ?_; refine ZC ?_; refine Z3 ?_; refine Z4 ?_; refine JD ?_; refine JF ?_; refine X3 ?_; refine X0 ?_; refine X0 ?_; refine JR ?_; refine Zo ?_; refine Zp ?_; refine Ze ?_
    refine Z1 ?_; refine Zo ?_; refine Zp ?_; refine Zo ?_; refine Zp ?_; refine Z2 ?_; refine Z7 ?_; refine JD ?_; refine JF ?_; refine X3 ?_; refine X0 ?_; refine JR ?_; refine Zo ?_; refine Zp ?_; refine Zo ?_
    refine Zp ?_; refine Zc (hcon := hpc) ?_; refine Z0 ?_; refine JD ?_; refine X0 ?_; refine JR ?_; refine Z1 ?_; refine Zg ?_; refine JD ?_; refine JF ?_; refine X3 ?_; refine JR ?_; refine Zf ?_; refine Z1 ?_
    refine JD ?_
    exact ⟨j + 1 + 1, ⟨by omega, hg⟩, by omega, X8 rfl JM ⟨rfl, trivial⟩⟩
   ·rw [if_pos he] at hg
    subst hg
    rw [if_pos he]
    refine X0 ?_; refine JR ?_; refine Ze ?_; refine JD ?_; refine X0 ?_; refine JT ?_; refine X3 ?_; refine X0 ?_; refine X4 ?_; refine X0 ?_; refine JR ?_; refine Z1 ?_; refine Zy ?_
    refine Zz ?_; refine Zh (γ := 101) ?_; refine Z0 ?_; refine Zk ?_; refine JD ?_; refine X0 ?_; refine X0 ?_; refine JR ?_; refine Z1 ?_; refine Za ?_; refine Z1 ?_; refine Zo ?_; refine Zp ?_; refine Zo ?_
    refine Zp ?_; refine Z1 ?_
    refine ZB (op := .sub) (r' := .int .i64 ((j : Nat) : Int)) (u := .int .i64 ((j + 1 : Nat) : Int)) (v := .int .i64 1) ?_ (hr' := by exact congrArg (Value.int .i64) (show (((j + 1 : Nat) : Int) - 1) = (j : Int) by omega)) (hr := by exact Yb (by unfold XV; omega))
    refine Zy ?_; refine ZI ?_; refine ZC ?_; refine Z3 ?_; refine Z4 ?_; refine JD ?_; refine JF ?_; refine X3 ?_; refine X0 ?_; refine X0 ?_; refine JR ?_; refine Zo ?_; refine Zp ?_; refine Ze ?_
    refine Z1 ?_; refine Zo ?_; refine Zp ?_; refine Zo ?_; refine Zp ?_; refine Z2 ?_; refine Z7 ?_; refine JD ?_; refine JF ?_; refine X3 ?_; refine X0 ?_; refine JR ?_; refine Zo ?_; refine Zp ?_; refine Zo ?_
    refine Zp ?_; refine Zc (hcon := hpc) ?_; refine Z0 ?_; refine JD ?_; refine X0 ?_; refine JR ?_; refine Z1 ?_; refine Zg ?_; refine JD ?_; refine JT ?_; refine X0 ?_; refine JR ?_; refine Z1 ?_; refine Z0 ?_
    refine JD ?_
    exact X1 ⟨_, St.le_refl _, ⟨rfl, trivial⟩, X2 _⟩
 obtain rfl : i = ns.length := by omega
 have hn : ¬ ((ns.length : Nat) : Int) < (ns.map Xd).length := by omega
 rw [List.drop_length, Yl] at hg
 subst hg
 rw [if_neg (by simp)]
 have hris := (X3q ns none hN).2
 refine X0 ?_; refine JR ?_; refine Ze ?_; refine JD ?_; refine X0 ?_; refine JF ?_; refine Xz ?_; refine X0 ?_; refine X0 ?_; refine JR ?_; refine Zo ?_; refine Zp ?_; refine Zw ?_; refine Z1 ?_
 refine JD ?_; refine X4 ?_
 refine XD (fun i : Nat => i ≤ es.length ∧ U8 ns ne (XL es i) (es.drop i) = M) (fun i => ⟨135, [(1, .ptr 100 0), (79, .d (.sl 5 (es.map Xl))), (80, ai (es.map Xl).length), (81, ai i)], [(100, .box [.d (.sl 3 (ns.map Xd)), .d (.sl 5 (es.map Xl)), ai nn, ai ne])]⟩) (fun i => es.length - i) 0 ⟨Nat.zero_le _, by simpa [XL] using hM⟩
  (X8 rfl JM ⟨rfl, trivial⟩) ?_
 clear hi hil hn
 rintro i ⟨hi, hg⟩
 by_cases hil : i < es.length
 case neg =>
  obtain rfl : i = es.length := by omega
  have hn : ¬ ((es.length : Nat) : Int) < (es.map Xl).length := by omega
  rw [List.drop_length, U8] at hg
  subst hg
  refine X0 ?_; refine JR ?_; refine Ze ?_; refine JD ?_; refine X0 ?_; refine JF ?_; refine Xz ?_; refine X0 ?_; refine JR ?_; refine Z0 ?_; refine JD ?_
  exact X1 ⟨_, St.le_refl _, ⟨rfl, trivial⟩, X2 _⟩
 have hn : (i : Int) < (es.map Xl).length := by omega
 obtain ⟨x, hx⟩ := Xs (l := es) hil
 have hxc : (es.map Xl)[i]? = some (Xl x) := Xw hx
 have hxh := heh x (List.mem_of_getElem? hx)
 have hpc := X46 [] x.props (by simp) hxh.2.2
 have hs1 := X43 ns x.src (by omega) hris
 have hs2 := X43 ns x.dst (by omega) hris
 have hnm := Vm x.typ
 rw [X6L hx] at hg
 clear hxh
 by_cases h0 : i = 0
 ·subst h0
  rw [X8C] at hg
  obtain ⟨id, src, dst, typ, props⟩ := x
  simp only [Xl] at hxc hpc hg hs1 hs2 hnm
  simp only [List.map_nil] at hpc
  generalize XO ns src = b1 at *
  generalize XO ns dst = b2 at *
  generalize Xg typ = b3 at *
  generalize Yf [] props = e at *
  by_cases q2 : id < 1
  ·rw [if_pos (show id < 1 ∨ ne ≤ id from .inl q2), if_pos (by decide)] at hg
   subst hg
   refine X0 ?_; refine JR ?_; refine Ze ?_; refine JD ?_; refine X0 ?_; refine JT ?_; refine X3 ?_; refine X0 ?_; refine X4 ?_; refine X0 ?_; refine JR ?_; refine Z1 ?_; refine Zy ?_
   refine Zz ?_; refine Zh (γ := 101) ?_; refine Z0 ?_; refine Zk ?_; refine JD ?_; refine X0 ?_; refine X0 ?_; refine JR ?_; refine Z1 ?_; refine Za ?_; refine Z1 ?_; refine Z5 ?_; refine Z5 ?_; refine Z5 ?_
   refine Z5 ?_; refine Z5 ?_; refine Z5 ?_; refine Z5 ?_; refine Z5 ?_; refine Z5 ?_; refine Z5 ?_; refine Z7 ?_; refine JD ?_; refine JF ?_; refine X3 ?_; refine X0 ?_; refine X0 ?_; refine JR ?_
   refine Zo ?_; refine Zp ?_; refine Ze ?_; refine Z1 ?_; refine Z5 ?_; refine Z5 ?_; refine Z5 ?_; refine Z5 ?_; refine Z5 ?_; refine Z4 ?_; refine JD ?_; refine JT ?_; refine X0 ?_; refine JR ?_; refine Z0 ?_
   refine JD ?_
   exact X1 ⟨_, St.le_refl _, ⟨rfl, trivial⟩, X2 _⟩
  by_cases q3 : ne ≤ id
  ·rw [if_pos (show id < 1 ∨ ne ≤ id from .inr q3), if_pos (by decide)] at hg
   subst hg
   refine X0 ?_; refine JR ?_; refine Ze ?_; refine JD ?_; refine X0 ?_; refine JT ?_; refine X3 ?_; refine X0 ?_; refine X4 ?_; refine X0 ?_; refine JR ?_; refine Z1 ?_; refine Zy ?_
   refine Zz ?_; refine Zh (γ := 101) ?_; refine Z0 ?_; refine Zk ?_; refine JD ?_; refine X0 ?_; refine X0 ?_; refine JR ?_; refine Z1 ?_; refine Za ?_; refine Z1 ?_; refine Z5 ?_; refine Z5 ?_; refine Z5 ?_
   refine Z5 ?_; refine Z5 ?_; refine Z5 ?_; refine Z5 ?_; refine Z5 ?_; refine Z5 ?_; refine Z5 ?_; refine Z7 ?_; refine JD ?_; refine JF ?_; refine X3 ?_; refine X0 ?_; refine X0 ?_; refine JR ?_
   refine Zo ?_; refine Zp ?_; refine Ze ?_; refine Z1 ?_; refine Zo ?_; refine Zp ?_; refine Zo ?_; refine Zp ?_; refine Z2 ?_; refine Z7 ?_; refine JD ?_; refine JT ?_; refine X0 ?_; refine JR ?_; refine Z0 ?_
   refine JD ?_
   exact X1 ⟨_, St.le_refl _, ⟨rfl, trivial⟩, X2 _⟩
  rw [if_neg (show ¬ (id < 1 ∨ ne ≤ id) from fun h => h.elim q2 q3)] at hg
  cases b1 with
  | false =>
   rw [if_pos (show false = false ∨ b2 = false from .inl rfl), if_pos (by decide)] at hg
   subst hg
   refine X0 ?_; refine JR ?_; refine Ze ?_; refine JD ?_; refine X0 ?_; refine JT ?_; refine X3 ?_; refine X0 ?_; refine X4 ?_; refine X0 ?_; refine JR ?_; refine Z1 ?_; refine Zy ?_
   refine Zz ?_; refine Zh (γ := 101) ?_; refine Z0 ?_; refine Zk ?_; refine JD ?_; refine X0 ?_; refine X0 ?_; refine JR ?_; refine Z1 ?_; refine Za ?_; refine Z1 ?_; refine Z5 ?_; refine Z5 ?_; refine Z5 ?_
   refine Z5 ?_; refine Z5 ?_; refine Z5 ?_; refine Z5 ?_; refine Z5 ?_; refine Z5 ?_; refine Z5 ?_; refine Z7 ?_; refine JD ?_; refine JF ?_; refine X3 ?_; refine X0 ?_; refine X0 ?_; refine JR ?_
   refine Zo ?_; refine Zp ?_; refine Ze ?_; refine Z1 ?_; refine Zo ?_; refine Zp ?_; refine Zo ?_; refine Zp ?_; refine Z2 ?_; refine Z7 ?_; refine JD ?_; refine JF ?_; refine X3 ?_; refine X0 ?_
   refine X0 ?_; refine JR ?_; refine Zo ?_; refine Zp ?_; refine Zo ?_; refine Zp ?_; refine Zc (hcon := hs1) ?_; refine Zd ?_; refine Z1 ?_; refine Z5 ?_; refine Z5 ?_; refine Z5 ?_; refine Z5 ?_; refine Z5 ?_
   refine Z5 ?_; refine Z4 ?_; refine JD ?_; refine JT ?_; refine X0 ?_; refine JR ?_; refine Z0 ?_; refine JD ?_
   exact X1 ⟨_, St.le_refl _, ⟨rfl, trivial⟩, X2 _⟩
  | true =>
   cases b2 with
   | false =>
    rw [if_pos (show true = false ∨ false = false from .inr rfl), if_pos (by decide)] at hg
    subst hg
    refine X0 ?_; refine JR ?_; refine Ze ?_; refine JD ?_; refine X0 ?_; refine JT ?_; refine X3 ?_; refine X0 ?_; refine X4 ?_; refine X0 ?_; refine JR ?_; refine Z1 ?_; refine Zy ?_
    refine Zz ?_; refine Zh (γ := 101) ?_; refine Z0 ?_; refine Zk ?_; refine JD ?_; refine X0 ?_; refine X0 ?_; refine JR ?_; refine Z1 ?_; refine Za ?_; refine Z1 ?_; refine Z5 ?_; refine Z5 ?_; refine Z5 ?_
    refine Z5 ?_; refine Z5 ?_; refine Z5 ?_; refine Z5 ?_; refine Z5 ?_; refine Z5 ?_; refine Z5 ?_; refine Z7 ?_; refine JD ?_; refine JF ?_; refine X3 ?_; refine X0 ?_; refine X0 ?_; refine JR ?_
    refine Zo ?_; refine Zp ?_; refine Ze ?_; refine Z1 ?_; refine Zo ?_; refine Zp ?_; refine Zo ?_; refine Zp ?_; refine Z2 ?_; refine Z7 ?_; refine JD ?_; refine JF ?_; refine X3 ?_; refine X0 ?_
    refine X0 ?_; refine JR ?_; refine Zo ?_; refine Zp ?_; refine Zo ?_; refine Zp ?_; refine Zc (hcon := hs1) ?_; refine Zd ?_; refine Z1 ?_; refine Zo ?_; refine Zp ?_; refine Zo ?_; refine Zp ?_
    refine Zc (hcon := hs2) ?_; refine Zd ?_; refine Z7 ?_; refine JD ?_; refine JT ?_; refine X0 ?_; refine JR ?_; refine Z0 ?_; refine JD ?_
    exact X1 ⟨_, St.le_refl _, ⟨rfl, trivial⟩, X2 _⟩
   | true =>
    rw [if_neg (show ¬ (true = false ∨ true = false) by simp)] at hg
    cases b3 with
    | false =>
     rw [if_pos (show false = false from rfl), if_pos (by decide)] at hg
     subst hg
     refine X0 ?_; refine JR ?_; refine Ze ?_; refine JD ?_; refine X0 ?_; refine JT ?_; refine X3 ?_; refine X0 ?_; refine X4 ?_; refine X0 ?_; refine JR ?_; refine Z1 ?_; refine Zy ?_
     refine Zz ?_; refine Zh (γ := 101) ?_; refine Z0 ?_; refine Zk ?_; refine JD ?_; refine X0 ?_; refine X0 ?_; refine JR ?_; refine Z1 ?_; refine Za ?_; refine Z1 ?_; refine Z5 ?_; refine Z5 ?_; refine Z5 ?_
     refine Z5 ?_; refine Z5 ?_; refine Z5 ?_; refine Z5 ?_; refine Z5 ?_; refine Z5 ?_; refine Z5 ?_; refine Z7 ?_; refine JD ?_; refine JF ?_; refine X3 ?_; refine X0 ?_; refine X0 ?_; refine JR ?_
     refine Zo ?_; refine Zp ?_; refine Ze ?_; refine Z1 ?_; refine Zo ?_; refine Zp ?_; refine Zo ?_; refine Zp ?_; refine Z2 ?_; refine Z7 ?_; refine JD ?_; refine JF ?_; refine X3 ?_; refine X0 ?_
     refine X0 ?_; refine JR ?_; refine Zo ?_; refine Zp ?_; refine Zo ?_; refine Zp ?_; refine Zc (hcon := hs1) ?_; refine Zd ?_; refine Z1 ?_; refine Zo ?_; refine Zp ?_; refine Zo ?_; refine Zp ?_
     refine Zc (hcon := hs2) ?_; refine Zd ?_; refine Z7 ?_; refine JD ?_; refine JF ?_; refine X3 ?_; refine X0 ?_; refine X0 ?_; refine JR ?_; refine Zo ?_; refine Zp ?_; refine Zc (hcon := hnm) ?_
     refine Zd ?_; refine JD ?_; refine JT ?_; refine X0 ?_; refine JR ?_; refine Z0 ?_; refine JD ?_
     exact X1 ⟨_, St.le_refl _, ⟨rfl, trivial⟩, X2 _⟩
    | true =>
     rw [if_neg (show ¬ true = false by simp)] at hg
     by_cases he : e = 0
     ·subst he
      rw [if_neg (by simp)] at hg
      refine X0 ?_; refine JR ?_; refine Ze ?_; refine JD ?_; refine X0 ?_; refine JT ?_; refine X3 ?_; refine X0 ?_; refine X4 ?_; refine X0 ?_; refine JR ?_; refine Z1 ?_; refine Zy ?_
      refine Zz ?_; refine Zh (γ := 101) ?_; refine Z0 ?_; refine Zk ?_; refine JD ?_; refine X0 ?_; refine X0 ?_; refine JR ?_; refine Z1 ?_; refine Za ?_; refine Z1 ?_; refine Z5 ?_; refine Z5 ?_; refine Z5 ?_
      refine Z5 ?_; refine Z5 ?_; refine Z5 ?_; refine Z5 ?_; refine Z5 ?_; refine Z5 ?_; refine Z5 ?_; refine Z7 ?_; refine JD ?_; refine JF ?_; refine X3 ?_; refine X0 ?_; refine X0 ?_; refine JR ?_
      refine Zo ?_; refine Zp ?_; refine Ze ?_; refine Z1 ?_; refine Zo ?_; refine Zp ?_; refine Zo ?_; refine Zp ?_; refine Z2 ?_; refine Z7 ?_; refine JD ?_; refine JF ?_; refine X3 ?_; refine X0 ?_
      refine X0 ?_; refine JR ?_; refine Zo ?_; refine Zp ?_; refine Zo ?_; refine Zp ?_; refine Zc (hcon := hs1) ?_; refine Zd ?_; refine Z1 ?_; refine Zo ?_; refine Zp ?_; refine Zo ?_; refine Zp ?_
      refine Zc (hcon := hs2) ?_; refine Zd ?_; refine Z7 ?_; refine JD ?_; refine JF ?_; refine X3 ?_; refine X0 ?_; refine X0 ?_; refine JR ?_; refine Zo ?_; refine Zp ?_; refine Zc (hcon := hnm) ?_
      refine Zd ?_; refine JD ?_; refine JF ?_; refine X3 ?_; refine X0 ?_; refine JR ?_; refine Zo ?_; refine Zp ?_; refine Zc (hcon := hpc) ?_; refine Z0 ?_; refine JD ?_; refine X0 ?_; refine JR ?_
      refine Z1 ?_; refine Zg ?_; refine JD ?_; refine JF ?_; refine X3 ?_; refine JR ?_; refine Zf ?_; refine Z1 ?_; refine JD ?_
      exact ⟨0 + 1, ⟨by omega, hg⟩, by omega, X8 rfl JM ⟨rfl, trivial⟩⟩
     ·rw [if_pos he] at hg
      subst hg
      refine X0 ?_; refine JR ?_; refine Ze ?_; refine JD ?_; refine X0 ?_; refine JT ?_; refine X3 ?_; refine X0 ?_; refine X4 ?_; refine X0 ?_; refine JR ?_; refine Z1 ?_; refine Zy ?_
      refine Zz ?_; refine Zh (γ := 101) ?_; refine Z0 ?_; refine Zk ?_; refine JD ?_; refine X0 ?_; refine X0 ?_; refine JR ?_; refine Z1 ?_; refine Za ?_; refine Z1 ?_; refine Z5 ?_; refine Z5 ?_; refine Z5 ?_
      refine Z5 ?_; refine Z5 ?_; refine Z5 ?_; refine Z5 ?_; refine Z5 ?_; refine Z5 ?_; refine Z5 ?_; refine Z7 ?_; refine JD ?_; refine JF ?_; refine X3 ?_; refine X0 ?_; refine X0 ?_; refine JR ?_
      refine Zo ?_; refine Zp ?_; refine Ze ?_; refine Z1 ?_; refine Zo ?_; refine Zp ?_; refine Zo ?_; refine Zp ?_; refine Z2 ?_; refine Z7 ?_; refine JD ?_; refine JF ?_; refine X3 ?_; refine X0 ?_
      refine X0 ?_; refine JR ?_; refine Zo ?_; refine Zp ?_; refine Zo ?_; refine Zp ?_; refine Zc (hcon := hs1) ?_; refine Zd ?_; refine Z1 ?_; refine Zo ?_; refine Zp ?_; refine Zo ?_; refine Zp ?_
      refine Zc (hcon := hs2) ?_; refine Zd ?_; refine Z7 ?_; refine JD ?_; refine JF ?_; refine X3 ?_; refine X0 ?_; refine X0 ?_; refine JR ?_; refine Zo ?_; refine Zp ?_; refine Zc (hcon := hnm) ?_
      refine Zd ?_; refine JD ?_; refine JF ?_; refine X3 ?_; refine X0 ?_; refine JR ?_; refine Zo ?_; refine Zp ?_; refine Zc (hcon := hpc) ?_; refine Z0 ?_; refine JD ?_; refine X0 ?_; refine JR ?_
      refine Z1 ?_; refine Zg ?_; refine JD ?_; refine JT ?_; refine X0 ?_; refine JR ?_; refine Z1 ?_; refine Z0 ?_; refine JD ?_
      exact X1 ⟨_, St.le_refl _, ⟨rfl, trivial⟩, X2 _⟩
 ·obtain ⟨j, rfl⟩ : ∃ j, i = j + 1 := ⟨i - 1, by omega⟩
  obtain ⟨p, hp⟩ := Xs (l := es) (k := j) (by omega)
  have hpp : (es.map Xl)[j]? = some (Xl p) := Xw hp
  rw [X6I hp] at hg
  clear hp
  obtain ⟨id, src, dst, typ, props⟩ := x
  obtain ⟨pid, psrc, pdst, ptyp, pprops⟩ := p
  simp only [Xl] at hxc hpc hg hpp hs1 hs2 hnm
  simp only [List.map_nil] at hpc
  generalize XO ns src = b1 at *
  generalize XO ns dst = b2 at *
  generalize Xg typ = b3 at *
  generalize Yf [] props = e at *
  by_cases q1 : id ≤ pid
  ·rw [if_pos q1, if_pos (by decide)] at hg
   subst hg
   refine X0 ?_; refine JR ?_; refine Ze ?_; refine JD ?_; refine X0 ?_; refine JT ?_; refine X3 ?_; refine X0 ?_; refine X4 ?_; refine X0 ?_; refine JR ?_; refine Z1 ?_; refine Zy ?_
   refine Zz ?_; refine Zh (γ := 101) ?_; refine Z0 ?_; refine Zk ?_; refine JD ?_; refine X0 ?_; refine X0 ?_; refine JR ?_; refine Z1 ?_; refine Za ?_; refine Z1 ?_; refine Zo ?_; refine Zp ?_; refine Zo ?_
   refine Zp ?_; refine Z1 ?_
   refine ZB (op := .sub) (r' := .int .i64 ((j : Nat) : Int)) (u := .int .i64 ((j + 1 : Nat) : Int)) (v := .int .i64 1) ?_ (hr' := by exact congrArg (Value.int .i64) (show (((j + 1 : Nat) : Int) - 1) = (j : Int) by omega)) (hr := by exact Yb (by unfold XV; omega))
   refine Zy ?_; refine ZI ?_; refine ZC ?_; refine Z3 ?_; refine Z4 ?_; refine JD ?_; refine JT ?_; refine X0 ?_; refine JR ?_; refine Z0 ?_; refine JD ?_
   exact X1 ⟨_, St.le_refl _, ⟨rfl, trivial⟩, X2 _⟩
  rw [if_neg q1] at hg
  by_cases q2 : id < 1
  ·rw [if_pos (show id < 1 ∨ ne ≤ id from .inl q2), if_pos (by decide)] at hg
   subst hg
   refine X0 ?_; refine JR ?_; refine Ze ?_; refine JD ?_; refine X0 ?_; refine JT ?_; refine X3 ?_; refine X0 ?_; refine X4 ?_; refine X0 ?_; refine JR ?_; refine Z1 ?_; refine Zy ?_
   refine Zz ?_; refine Zh (γ := 101) ?_; refine Z0 ?_; refine Zk ?_; refine JD ?_; refine X0 ?_; refine X0 ?_; refine JR ?_; refine Z1 ?_; refine Za ?_; refine Z1 ?_; refine Zo ?_; refine Zp ?_; refine Zo ?_
   refine Zp ?_; refine Z1 ?_
   refine ZB (op := .sub) (r' := .int .i64 ((j : Nat) : Int)) (u := .int .i64 ((j + 1 : Nat) : Int)) (v := .int .i64 1) ?_ (hr' := by exact congrArg (Value.int .i64) (show (((j + 1 : Nat) : Int) - 1) = (j : Int) by omega)) (hr := by exact Yb (by unfold XV; omega))
   refine Zy ?_; refine ZI ?_; refine ZC ?_; refine Z3 ?_; refine Z4 ?_; refine JD ?_; refine JF ?_; refine X3 ?_; refine X0 ?_; refine X0 ?_; refine JR ?_; refine Zo ?_; refine Zp ?_; refine Ze ?_
   refine Z1 ?_; refine Z5 ?_; refine Z5 ?_; refine Z5 ?_; refine Z5 ?_; refine Z5 ?_; refine Z4 ?_; refine JD ?_; refine JT ?_; refine X0 ?_; refine JR ?_; refine Z0 ?_; refine JD ?_
   exact X1 ⟨_, St.le_refl _, ⟨rfl, trivial⟩, X2 _⟩
  by_cases q3 : ne ≤ id
  ·rw [if_pos (show id < 1 ∨ ne ≤ id from .inr q3), if_pos (by decide)] at hg
   subst hg
   refine X0 ?_; refine JR ?_; refine Ze ?_; refine JD ?_; refine X0 ?_; refine JT ?_; refine X3 ?_; refine X0 ?_; refine X4 ?_; refine X0 ?_; refine JR ?_; refine Z1 ?_; refine Zy ?_
   refine Zz ?_; refine Zh (γ := 101) ?_; refine Z0 ?_; refine Zk ?_; refine JD ?_; refine X0 ?_; refine X0 ?_; refine JR ?_; refine Z1 ?_; refine Za ?_; refine Z1 ?_; refine Zo ?_; refine Zp ?_; refine Zo ?_
   refine Zp ?_; refine Z1 ?_
   refine ZB (op := .sub) (r' := .int .i64 ((j : Nat) : Int)) (u := .int .i64 ((j + 1 : Nat) : Int)) (v := .int .i64 1) ?_ (hr' := by exact congrArg (Value.int .i64) (show (((j + 1 : Nat) : Int) - 1) = (j : Int) by omega)) (hr := by exact Yb (by unfold XV; omega))
   refine Zy ?_; refine ZI ?_; refine ZC ?_; refine Z3 ?_; refine Z4 ?_; refine JD ?_; refine JF ?_; refine X3 ?_; refine X0 ?_; refine X0 ?_; refine JR ?_; refine Zo ?_; refine Zp ?_; refine Ze ?_
   refine Z1 ?_; refine Zo ?_; refine Zp ?_; refine Zo ?_; refine Zp ?_; refine Z2 ?_; refine Z7 ?_; refine JD ?_; refine JT ?_; refine X0 ?_; refine JR ?_; refine Z0 ?_; refine JD ?_
   exact X1 ⟨_, St.le_refl _, ⟨rfl, trivial⟩, X2 _⟩
  rw [if_neg (show ¬ (id < 1 ∨ ne ≤ id) from fun h => h.elim q2 q3)] at hg
  cases b1 with
  | false =>
   rw [if_pos (show false = false ∨ b2 = false from .inl rfl), if_pos (by decide)] at hg
   subst hg
   refine X0 ?_; refine JR ?_; refine Ze ?_; refine JD ?_; refine X0 ?_; refine JT ?_; refine X3 ?_; refine X0 ?_; refine X4 ?_; refine X0 ?_; refine JR ?_; refine Z1 ?_; refine Zy ?_
   refine Zz ?_; refine Zh (γ := 101) ?_; refine Z0 ?_; refine Zk ?_; refine JD ?_; refine X0 ?_; refine X0 ?_; refine JR ?_; refine Z1 ?_; refine Za ?_; refine Z1 ?_; refine Zo ?_; refine Zp ?_; refine Zo ?_
   refine Zp ?_; refine Z1 ?_
   refine ZB (op := .sub) (r' := .int .i64 ((j : Nat) : Int)) (u := .int .i64 ((j + 1 : Nat) : Int)) (v := .int .i64 1) ?_ (hr' := by exact congrArg (Value.int .i64) (show (((j + 1 : Nat) : Int) - 1) = (j : Int) by omega)) (hr := by exact Yb (by unfold XV; omega))
   refine Zy ?_; refine ZI ?_; refine ZC ?_; refine Z3 ?_; refine Z4 ?_; refine JD ?_; refine JF ?_; refine X3 ?_; refine X0 ?_; refine X0 ?_; refine JR ?_; refine Zo ?_; refine Zp ?_; refine Ze ?_
   refine Z1 ?_; refine Zo ?_; refine Zp ?_; refine Zo ?_; refine Zp ?_; refine Z2 ?_; refine Z7 ?_; refine JD ?_; refine JF ?_; refine X3 ?_; refine X0 ?_; refine X0 ?_; refine JR ?_; refine Zo ?_
   refine Zp ?_; refine Zo ?_; refine Zp ?_; refine Zc (hcon := hs1) ?_; refine Zd ?_; refine Z1 ?_; refine Z5 ?_; refine Z5 ?_; refine Z5 ?_; refine Z5 ?_; refine Z5 ?_; refine Z5 ?_; refine Z4 ?_; refine JD ?_
   refine JT ?_; refine X0 ?_; refine JR ?_; refine Z0 ?_; refine JD ?_
   exact X1 ⟨_, St.le_refl _, ⟨rfl, trivial⟩, X2 _⟩
  | true =>
   cases b2 with
   | false =>
    rw [if_pos (show true = false ∨ false = false from .inr rfl), if_pos (by decide)] at hg
    subst hg
    refine X0 ?_; refine JR ?_; refine Ze ?_; refine JD ?_; refine X0 ?_; refine JT ?_; refine X3 ?_; refine X0 ?_; refine X4 ?_; refine X0 ?_; refine JR ?_; refine Z1 ?_; refine Zy ?_
    refine Zz ?_; refine Zh (γ := 101) ?_; refine Z0 ?_; refine Zk ?_; refine JD ?_; refine X0 ?_; refine X0 ?_; refine JR ?_; refine Z1 ?_; refine Za ?_; refine Z1 ?_; refine Zo ?_; refine Zp ?_; refine Zo ?_
    refine Zp ?_; refine Z1 ?_
    refine ZB (op := .sub) (r' := .int .i64 ((j : Nat) : Int)) (u := .int .i64 ((j + 1 : Nat) : Int)) (v := .int .i64 1) ?_ (hr' := by exact congrArg (Value.int .i64) (show (((j + 1 : Nat) : Int) - 1) = (j : Int) by omega)) (hr := by exact Yb (by unfold XV; omega))
    refine Zy ?_; refine ZI ?_; refine ZC ?_; refine Z3 ?_; refine Z4 ?_; refine JD ?_; refine JF ?_; refine X3 ?_; refine X0 ?_; refine X0 ?_; refine JR ?_; refine Zo ?_; refine Zp ?_; refine Ze ?_
    refine Z1 ?_; refine Zo ?_; refine Zp ?_; refine Zo ?_; refine Zp ?_; refine Z2 ?_; refine Z7 ?_; refine JD ?_; refine JF ?_; refine X3 ?_; refine X0 ?_; refine X0 ?_; refine JR ?_; refine Zo ?_
    refine Zp ?_; refine Zo ?_; refine Zp ?_; refine Zc (hcon := hs1) ?_; refine Zd ?_; refine Z1 ?_; refine Zo ?_; refine Zp ?_; refine Zo ?_; refine Zp ?_; refine Zc (hcon := hs2) ?_; refine Zd ?_; refine Z7 ?_
    refine JD ?_; refine JT ?_; refine X0 ?_; refine JR ?_; refine Z0 ?_; refine JD ?_
    exact X1 ⟨_, St.le_refl _, ⟨rfl, trivial⟩, X2 _⟩
   | true =>
    rw [if_neg (show ¬ (true = false ∨ true = false) by simp)] at hg
    cases b3 with
    | false =>
     rw [if_pos (show false = false from rfl), if_pos (by decide)] at hg
     subst hg
     refine X0 ?_; refine JR ?_; refine Ze ?_; refine JD ?_; refine X0 ?_; refine JT ?_; refine X3 ?_; refine X0 ?_; refine X4 ?_; refine X0 ?_; refine JR ?_; refine Z1 ?_; refine Zy ?_
     refine Zz ?_; refine Zh (γ := 101) ?_; refine Z0 ?_; refine Zk ?_; refine JD ?_; refine X0 ?_; refine X0 ?_; refine JR ?_; refine Z1 ?_; refine Za ?_; refine Z1 ?_; refine Zo ?_; refine Zp ?_; refine Zo ?_
     refine Zp ?_; refine Z1 ?_
     refine ZB (op := .sub) (r' := .int .i64 ((j : Nat) : Int)) (u := .int .i64 ((j + 1 : Nat) : Int)) (v := .int .i64 1) ?_ (hr' := by exact congrArg (Value.int .i64) (show (((j + 1 : Nat) : Int) - 1) = (j : Int) by omega)) (hr := by exact Yb (by unfold XV; omega))
     refine Zy ?_; refine ZI ?_; refine ZC ?_; refine Z3 ?_; refine Z4 ?_; refine JD ?_; refine JF ?_; refine X3 ?_; refine X0 ?_; refine X0 ?_; refine JR ?_; refine Zo ?_; refine Zp ?_; refine Ze ?_
     refine Z1 ?_; refine Zo ?_; refine Zp ?_; refine Zo ?_; refine Zp ?_; refine Z2 ?_; refine Z7 ?_; refine JD ?_; refine JF ?_; refine X3 ?_; refine X0 ?_; refine X0 ?_; refine JR ?_; refine Zo ?_
     refine Zp ?_; refine Zo ?_; refine Zp ?_; refine Zc (hcon := hs1) ?_; refine Zd ?_; refine Z1 ?_; refine Zo ?_; refine Zp ?_; refine Zo ?_; refine Zp ?_; refine Zc (hcon := hs2) ?_; refine Zd ?_; refine Z7 ?_
     refine JD ?_; refine JF ?_; refine X3 ?_; refine X0 ?_; refine X0 ?_; refine JR ?_; refine Zo ?_; refine Zp ?_; refine Zc (hcon := hnm) ?_; refine Zd ?_; refine JD ?_; refine JT ?_; refine X0 ?_
     refine JR ?_; refine Z0 ?_; refine JD ?_
     exact X1 ⟨_, St.le_refl _, ⟨rfl, trivial⟩, X2 _⟩
    | true =>
     rw [if_neg (show ¬ true = false by simp)] at hg
     by_cases he : e = 0
     ·subst he
      rw [if_neg (by simp)] at hg
      refine X0 ?_; refine JR ?_; refine Ze ?_; refine JD ?_; refine X0 ?_; refine JT ?_; refine X3 ?_; refine X0 ?_; refine X4 ?_; refine X0 ?_; refine JR ?_; refine Z1 ?_; refine Zy ?_
      refine Zz ?_; refine Zh (γ := 101) ?_; refine Z0 ?_; refine Zk ?_; refine JD ?_; refine X0 ?_; refine X0 ?_; refine JR ?_; refine Z1 ?_; refine Za ?_; refine Z1 ?_; refine Zo ?_; refine Zp ?_; refine Zo ?_
      refine Zp ?_; refine Z1 ?_
      refine ZB (op := .sub) (r' := .int .i64 ((j : Nat) : Int)) (u := .int .i64 ((j + 1 : Nat) : Int)) (v := .int .i64 1) ?_ (hr' := by exact congrArg (Value.int .i64) (show (((j + 1 : Nat) : Int) - 1) = (j : Int) by omega)) (hr := by exact Yb (by unfold XV; omega))
      refine Zy ?_; refine ZI ?_; refine ZC ?_; refine Z3 ?_; refine Z4 ?_; refine JD ?_; refine JF ?_; refine X3 ?_; refine X0 ?_; refine X0 ?_; refine JR ?_; refine Zo ?_; refine Zp ?_; refine Ze ?_
      refine Z1 ?_; refine Zo ?_; refine Zp ?_; refine Zo ?_; refine Zp ?_; refine Z2 ?_; refine Z7 ?_; refine JD ?_; refine JF ?_; refine X3 ?_; refine X0 ?_; refine X0 ?_; refine JR ?_; refine Zo ?_
      refine Zp ?_; refine Zo ?_; refine Zp ?_; refine Zc (hcon := hs1) ?_; refine Zd ?_; refine Z1 ?_; refine Zo ?_; refine Zp ?_; refine Zo ?_; refine Zp ?_; refine Zc (hcon := hs2) ?_; refine Zd ?_; refine Z7 ?_
      refine JD ?_; refine JF ?_; refine X3 ?_; refine X0 ?_; refine X0 ?_; refine JR ?_; refine Zo ?_; refine Zp ?_; refine Zc (hcon := hnm) ?_; refine Zd ?_; refine JD ?_; refine JF ?_; refine X3 ?_
      refine X0 ?_; refine JR ?_; refine Zo ?_; refine Zp ?_; refine Zc (hcon := hpc) ?_; refine Z0 ?_; refine JD ?_; refine X0 ?_; refine JR ?_; refine Z1 ?_; refine Zg ?_; refine JD ?_; refine JF ?_
      refine X3 ?_; refine JR ?_; refine Zf ?_; refine Z1 ?_; refine JD ?_
      exact ⟨j + 1 + 1, ⟨by omega, hg⟩, by omega, X8 rfl JM ⟨rfl, trivial⟩⟩
     ·rw [if_pos he] at hg
      subst hg
      refine X0 ?_; refine JR ?_; refine Ze ?_; refine JD ?_; refine X0 ?_; refine JT ?_; refine X3 ?_; refine X0 ?_; refine X4 ?_; refine X0 ?_; refine JR ?_; refine Z1 ?_; refine Zy ?_
      refine Zz ?_; refine Zh (γ := 101) ?_; refine Z0 ?_; refine Zk ?_; refine JD ?_; refine X0 ?_; refine X0 ?_; refine JR ?_; refine Z1 ?_; refine Za ?_; refine Z1 ?_; refine Zo ?_; refine Zp ?_; refine Zo ?_
      refine Zp ?_; refine Z1 ?_
      refine ZB (op := .sub) (r' := .int .i64 ((j : Nat) : Int)) (u := .int .i64 ((j + 1 : Nat) : Int)) (v := .int .i64 1) ?_ (hr' := by exact congrArg (Value.int .i64) (show (((j + 1 : Nat) : Int) - 1) = (j : Int) by omega)) (hr := by exact Yb (by unfold XV; omega))
      refine Zy ?_; refine ZI ?_; refine ZC ?_; refine Z3 ?_; refine Z4 ?_; refine JD ?_; refine JF ?_; refine X3 ?_; refine X0 ?_; refine X0 ?_; refine JR ?_; refine Zo ?_; refine Zp ?_; refine Ze ?_
      refine Z1 ?_; refine Zo ?_; refine Zp ?_; refine Zo ?_; refine Zp ?_; refine Z2 ?_; refine Z7 ?_; refine JD ?_; refine JF ?_; refine X3 ?_; refine X0 ?_; refine X0 ?_; refine JR ?_; refine Zo ?_
      refine Zp ?_; refine Zo ?_; refine Zp ?_; refine Zc (hcon := hs1) ?_; refine Zd ?_; refine Z1 ?_; refine Zo ?_; refine Zp ?_; refine Zo ?_; refine Zp ?_; refine Zc (hcon := hs2) ?_; refine Zd ?_; refine Z7 ?_
      refine JD ?_; refine JF ?_; refine X3 ?_; refine X0 ?_; refine X0 ?_; refine JR ?_; refine Zo ?_; refine Zp ?_; refine Zc (hcon := hnm) ?_; refine Zd ?_; refine JD ?_; refine JF ?_; refine X3 ?_
      refine X0 ?_; refine JR ?_; refine Zo ?_; refine Zp ?_; refine Zc (hcon := hpc) ?_; refine Z0 ?_; refine JD ?_; refine X0 ?_; refine JR ?_; refine Z1 ?_; refine Zg ?_; refine JD ?_; refine JT ?_
      refine X0 ?_; refine JR ?_; refine Z1 ?_; refine Z0 ?_; refine JD ?_
      exact X1 ⟨_, St.le_refl _, ⟨rfl, trivial⟩, X2 _⟩
end Go.Fw

/- The program's check of a graph. -/
import Derived.Test.YtbhleedlnaakkaaGreatG20
set_option maxHeartbeats 32000000
namespace Go.Fw
open Go Go.Proofs
set_option maxRecDepth 100000
set_option linter.unusedVariables false
set_option linter.unusedSimpArgs false
def Ub (n : Nod) : AVal := .agg [ai n.id, .d (.sl 1 (n.labels.map Xn)), .d (.sl 6 (n.props.map Xk))]
def X1B (n : Nod) : Prop := n.labels.length ≤ 9223372036854775807 ∧ (∀ s ∈ n.labels, s.length ≤ 9223372036854775807) ∧ n.props.length ≤ 9223372036854775807 ∧ ∀ p ∈ n.props, X07 p
def X2e (e : Edg) : Prop := e.typ.length ≤ 9223372036854775807 ∧ e.props.length ≤ 9223372036854775807 ∧ ∀ p ∈ e.props, X07 p
structure GraHold (g : Gra) : Prop where
 nl : g.nodes.length ≤ 9223372036854775807
 el : g.edges.length ≤ 9223372036854775807
 nodes : ∀ n ∈ g.nodes, X1B n
 edges : ∀ e ∈ g.edges, X2e e
theorem X7q {nn : Int} {l : List Nod} {n : Nod} : UU nn (Yj l 0) n = if n.id < 1 ∨ nn ≤ n.id then 1 else U1 n.labels n.props := by
 unfold UU Yj
 rw [if_neg (by simp)]
theorem Xbg {nn : Int} {l : List Nod} {j : Nat} {p n : Nod} (h : l[j]? = some p) : UU nn (Yj l (j + 1)) n = if n.id ≤ p.id then 26 else if n.id < 1 ∨ nn ≤ n.id then 1 else U1 n.labels n.props := by
 unfold UU
 rw [X0Q, h]
 simp
theorem Xa3 {ns : List Nod} {ne : Int} {l : List Edg} {n : Edg} : Vh ns ne (Yj l 0) n = if n.id < 1 ∨ ne ≤ n.id then 1
 else if Yv ns n.src = false ∨ Yv ns n.dst = false then 10 else if XG n.typ = false then 6 else U1 [] n.props := by
 unfold Vh Yj
 rw [if_neg (by simp)]
theorem X9a {ns : List Nod} {ne : Int} {l : List Edg} {j : Nat} {p n : Edg} (h : l[j]? = some p) : Vh ns ne (Yj l (j + 1)) n = if n.id ≤ p.id then 26 else if n.id < 1 ∨ ne ≤ n.id then 1
 else if Yv ns n.src = false ∨ Yv ns n.dst = false then 10 else if XG n.typ = false then 6 else U1 [] n.props := by
 unfold Vh
 rw [X0Q, h]
 simp
theorem Xe2 {x y : Int} (h : x < y) : U2 x y = -1 := if_pos h
theorem Xfp {x y : Int} (h : ¬ x < y) : ¬ U2 x y < 0 := by
 unfold U2
 rw [if_neg h]
 split <;> decide
theorem Xcm {x y : Int} : decide (U2 x y = 0) = decide (x = y) := by
 unfold U2
 by_cases h : x < y
 ·rw [if_pos h, decide_eq_false (by decide), decide_eq_false (by omega)]
 ·rw [if_neg h]
  by_cases h' : y < x
  ·rw [if_pos h', decide_eq_false (by decide), decide_eq_false (by omega)]
  ·rw [if_neg h', decide_eq_true rfl, decide_eq_true (by omega)]
theorem XaZ (x : Nod) (n : Int) : Con Tryz.prog 153 [] [Ub x, ai n] [] (ai (U2 x.id n)) := by
 refine X9 (xs := [ai (U2 x.id n)]) Tryz.func153 rfl Tryz.ntmps153 rfl rfl rfl (fun E => ?_)
 have hc := X5R x.id n
 obtain ⟨id, labels, props⟩ := x
 simp only [Ub] at hc ⊢
 generalize U2 id n = q at *
 refine X0 ?_; refine JR ?_; refine ZA (γ := 100) ?_; refine Z0 ?_; refine JD ?_; refine X0 ?_; refine JR ?_; refine ZB ?_; refine ZC ?_; refine Z1 ?_; refine Z9 (hcon := hc) ?_; refine Z0 ?_; refine JD ?_
 exact X1 ⟨_, St.le_refl _, ⟨rfl, trivial⟩, X3 _⟩
theorem Xg5 (l : List Nod) (n : Int) (hl : l.length ≤ 4294967296) (hr : X45 l) : Con Tryz.prog 152 [] [.d (.sl 3 (l.map Xi)), ai n, .fn 153 []] [] (.tup [ai (X4g l n), ab (Yv l n)]) := by
 refine X9 (xs := [ai (X4g l n), ab (Yv l n)]) Tryz.func152 rfl Tryz.ntmps152 rfl rfl rfl (fun E => ?_)
 have hlm : (l.map Xi).length = l.length := by simp
 refine X0 ?_; refine JR ?_; refine Z0 ?_; refine Z0 ?_; refine JD ?_; refine X0 ?_; refine JR ?_; refine Z1 ?_; refine Zd ?_; refine Z0 ?_; refine JD ?_; refine X0 ?_; refine JR ?_; refine Z1 ?_
 refine Z0 ?_; refine Z0 ?_; refine JD ?_; refine X0 ?_; refine X4 ?_
 refine Xy (ι := Nat × Nat) (fun q => q.1 ≤ q.2 ∧ q.2 ≤ l.length ∧ (∀ (k : Nat) (x : Nod), k < q.1 → l[k]? = some x → x.id < n) ∧ (∀ (k : Nat) (x : Nod), q.2 ≤ k → l[k]? = some x → n ≤ x.id)) (fun q => ⟨49, [(0, .d (.sl 3 (l.map Xi))), (1, ai n), (2, .fn 153 []), (8, ai (l.map Xi).length), (9, ai q.1), (10, ai q.2)], []⟩) (fun q => q.2 - q.1) (0, l.length)
  ⟨Nat.zero_le _, Nat.le_refl _, fun k x h => absurd h (Nat.not_lt_zero _), fun k x h hx => absurd (List.getElem?_eq_some_iff.1 hx).1 (Nat.not_lt.2 h)⟩
  (X8 rfl ⟨JL, JL, JL, JL, JL, AVal.le_of_eq (by show ai _ = ai _; rw [hlm]), trivial⟩ trivial) ?_
 rintro ⟨i, j⟩ ⟨h1, h2, h3, h4⟩
 simp only at h1 h2 h3 h4
 by_cases hij : i < j
 case neg =>
  obtain rfl : i = j := by omega
  have hlow := XeA h2 h3 (fun x hx => by have := h4 i x (Nat.le_refl _) hx; omega)
  have hhas := XeP hr h3 h4
  rw [hlow, hhas]
  have hij' : ¬ (i : Int) < (i : Nat) := by omega
  by_cases hil : i < l.length
  ·have hil' : (i : Int) < (l.map Xi).length := by omega
   obtain ⟨x, hx⟩ := Xu (l := l) hil
   have hxc : (l.map Xi)[i]? = some (Xi x) := XS hx
   have hc := XaZ x n
   have hd : decide (∃ y, l[i]? = some y ∧ y.id = n) = decide (U2 x.id n = 0) := by rw [Xcm, hx]; simp
   rw [hd]
   generalize U2 x.id n = c at *
   obtain ⟨id, labels, props⟩ := x
   simp only [Ub, Xi] at hc hxc
   refine X0 ?_; refine X0 ?_; refine JR ?_; refine Z1 ?_; refine Z1 ?_; refine Z8 ?_; refine JD ?_; refine JF ?_; refine Xj ?_; refine X0 ?_; refine JR ?_; refine Z1 ?_; refine Z1 ?_; refine Z1 ?_
   refine Z8 ?_; refine Z1 ?_; refine Z1 ?_; refine Z1 ?_; refine Z1 ?_; refine Zj ?_; refine ZK ?_; refine Z1 ?_; refine ZG (hcon := hc) ?_; refine Zl ?_; refine Zn ?_; refine Z0 ?_; refine Z0 ?_; refine JD ?_
   first | exact X1 ⟨_, St.le_refl _, ⟨rfl, rfl, trivial⟩, X3 _⟩ | exact X1 ⟨_, St.le_refl _, ⟨⟨rfl, rfl, trivial⟩, trivial⟩, X3 _⟩
  ·have hil' : ¬ (i : Int) < (l.map Xi).length := by omega
   have hd : decide (∃ y, l[i]? = some y ∧ y.id = n) = false := by
    refine decide_eq_false ?_
    rintro ⟨y, hy, _⟩
    exact hil (List.getElem?_eq_some_iff.1 hy).1
   rw [hd]
   refine X0 ?_; refine X0 ?_; refine JR ?_; refine Z1 ?_; refine Z1 ?_; refine Z8 ?_; refine JD ?_; refine JF ?_; refine Xj ?_; refine X0 ?_; refine JR ?_; refine Z1 ?_; refine Z1 ?_; refine Z1 ?_
   refine Z8 ?_; refine Z1 ?_; refine Zo ?_; refine Zo ?_; refine Zo ?_; refine Zo ?_; refine Zo ?_; refine Zo ?_; refine Zo ?_; refine Zo ?_; refine Zq ?_; refine Z0 ?_; refine Z0 ?_; refine JD ?_
   first | exact X1 ⟨_, St.le_refl _, ⟨rfl, rfl, trivial⟩, X3 _⟩ | exact X1 ⟨_, St.le_refl _, ⟨⟨rfl, rfl, trivial⟩, trivial⟩, X3 _⟩
 have hij' : (i : Int) < (j : Nat) := by omega
 obtain ⟨x, hx⟩ := Xu (l := l) (k := (i + j) / 2) (by omega)
 have hxc : (l.map Xi)[(i + j) / 2]? = some (Xi x) := XS hx
 have hc := XaZ x n
 have e2 : n64 ((i + j) / 2 ^ 1) = n64 ((i + j) / 2) := rfl
 have hid : x.id = x.id := rfl
 by_cases hlt : x.id < n
 ·have hinv : ∀ (k : Nat) (y : Nod), k < (i + j) / 2 + 1 → l[k]? = some y → y.id < n := fun k y hk hy => by
   by_cases e : k = (i + j) / 2
   ·subst e; rw [hx] at hy; injection hy with hy; subst hy; exact hlt
   ·have := hr k ((i + j) / 2) y x hy hx (by omega); omega
  rw [Xe2 hlt] at hc
  obtain ⟨id, labels, props⟩ := x
  simp only [Ub, Xi] at hc hxc
  refine X0 ?_; refine X0 ?_; refine JR ?_; refine Z1 ?_; refine Z1 ?_; refine Z8 ?_; refine JD ?_; refine JT ?_; refine X2 ?_; refine X4 ?_; refine X0 ?_; refine JR ?_; refine Z1 ?_
  refine Z1 ?_; refine Z7 (op := .add) (r' := ni (i + j)) (u := ni i) (v := ni j) ?_ (hr := by exact Yb (by rw [Xx]; omega))
  refine Z3 (u := ni (i + j)) (r := n64 (i + j)) ?_ (hr := by exact Yu rfl rfl (by rw [XK]; omega))
  refine Z4 (op := .shr) (r' := _) (u := n64 (i + j)) (v := n64 1) ?_ (hr' := by exact e2) (hr := by exact X1a (by decide))
  refine Z3 (u := n64 ((i + j) / 2)) (r := ni ((i + j) / 2)) ?_ (hr := by exact Yu rfl rfl (by rw [Xx]; omega)); refine Z0 ?_; refine JD ?_; refine X0 ?_; refine JR ?_; refine Z1 ?_; refine Z1 ?_; refine Z1 ?_
  refine Zj ?_; refine ZK ?_; refine Z1 ?_; refine ZG (hcon := hc) ?_; refine Z8 ?_; refine JD ?_; refine JT ?_; refine JR ?_; refine Z1 ?_; refine Zb ?_; refine Z0 ?_; refine JD ?_
  exact ⟨((i + j) / 2 + 1, j), ⟨by simp only; omega, h2, hinv, h4⟩, by simp only; omega, X8 rfl JM trivial⟩
 ·have hinv : ∀ (k : Nat) (y : Nod), (i + j) / 2 ≤ k → l[k]? = some y → n ≤ y.id := fun k y hk hy => by
   by_cases e : k = (i + j) / 2
   ·subst e; rw [hx] at hy; injection hy with hy; subst hy; omega
   ·have := hr ((i + j) / 2) k x y hx hy (by omega); omega
  have hge := Xfp hlt
  generalize U2 x.id n = c at *
  obtain ⟨id, labels, props⟩ := x
  simp only [Ub, Xi] at hc hxc
  refine X0 ?_; refine X0 ?_; refine JR ?_; refine Z1 ?_; refine Z1 ?_; refine Z8 ?_; refine JD ?_; refine JT ?_; refine X2 ?_; refine X4 ?_; refine X0 ?_; refine JR ?_; refine Z1 ?_
  refine Z1 ?_; refine Z7 (op := .add) (r' := ni (i + j)) (u := ni i) (v := ni j) ?_ (hr := by exact Yb (by rw [Xx]; omega))
  refine Z3 (u := ni (i + j)) (r := n64 (i + j)) ?_ (hr := by exact Yu rfl rfl (by rw [XK]; omega))
  refine Z4 (op := .shr) (r' := _) (u := n64 (i + j)) (v := n64 1) ?_ (hr' := by exact e2) (hr := by exact X1a (by decide))
  refine Z3 (u := n64 ((i + j) / 2)) (r := ni ((i + j) / 2)) ?_ (hr := by exact Yu rfl rfl (by rw [Xx]; omega)); refine Z0 ?_; refine JD ?_; refine X0 ?_; refine JR ?_; refine Z1 ?_; refine Z1 ?_; refine Z1 ?_
  refine Zj ?_; refine ZK ?_; refine Z1 ?_; refine ZG (hcon := hc) ?_; refine Z8 ?_; refine JD ?_; refine JF ?_; refine JR ?_; refine Z1 ?_; refine Z0 ?_; refine JD ?_
  exact ⟨(i, (i + j) / 2), ⟨by simp only; omega, by simp only; omega, h3, hinv⟩, by simp only; omega, X8 rfl JM trivial⟩
theorem X8a (l : List Nod) (n : Int) (hl : l.length ≤ 4294967296) (hr : X45 l) : Con Tryz.prog 97 [] [.d (.sl 3 (l.map Xi)), ai n] [] (ab (Yv l n)) := by
 refine X9 (xs := [ab (Yv l n)]) Tryz.func97 rfl Tryz.ntmps97 rfl rfl rfl (fun E => ?_)
 have hs := Xg5 l n hl hr
 generalize X4g l n = a at *
 generalize Yv l n = b at *
 refine X0 ?_; refine JR ?_; refine Z0 ?_; refine JD ?_; refine X0 ?_; refine JR ?_; refine Z1 ?_; refine Z1 ?_; refine Z9 (hcon := hs) ?_; refine Z1 ?_; refine ZF ?_; refine ZF ?_; refine Z0 ?_; refine Z0 ?_
 refine JD ?_; refine X0 ?_; refine JR ?_; refine Z1 ?_; refine Z0 ?_; refine JD ?_
 exact X1 ⟨_, St.le_refl _, ⟨rfl, trivial⟩, X3 _⟩
theorem X4i {ns : List Nod} {es : List Edg} {nn ne : Int} (h : 2000 < ns.length ∨ 4000 < es.length) : Yh ⟨ns, es, nn, ne⟩ = 4 := if_pos h
theorem X0Y {ns : List Nod} {es : List Edg} {nn ne : Int} (h1 : ¬ 2000 < ns.length) (h2 : ¬ 4000 < es.length) (h : nn < 1 ∨ 1000001 < nn ∨ ne < 1 ∨ 1000001 < ne) : Yh ⟨ns, es, nn, ne⟩ = 1 := by
 unfold Yh
 simp only
 rw [if_neg (fun q => q.elim h1 h2), if_pos h]
theorem X9T {ns : List Nod} {es : List Edg} {nn ne : Int} (h1 : ¬ 2000 < ns.length) (h2 : ¬ 4000 < es.length) (a1 : ¬ nn < 1) (a2 : ¬ 1000001 < nn) (a3 : ¬ ne < 1) (a4 : ¬ 1000001 < ne) :
  Yh ⟨ns, es, nn, ne⟩ = if Uo nn none ns ≠ 0 then Uo nn none ns else Vq ns ne none es := by
 unfold Yh
 simp only
 rw [if_neg (fun q => q.elim h1 h2), if_neg (by omega)]
theorem Xbb (g : Gra) (hok : GraHold g) : Con Tryz.prog 41 [] [Y4 g] [] (ai (Yh g)) := by
 obtain ⟨ns, es, nn, ne⟩ := g
 obtain ⟨hnl, hel, hnh, heh⟩ := hok
 simp only at hnl hel hnh heh
 unfold Y4
 simp only
 refine X9 (xs := [ai (Yh ⟨ns, es, nn, ne⟩)]) Tryz.func41 rfl Tryz.ntmps41 rfl rfl rfl (fun E => ?_)
 have hlm : (ns.map Xi).length = ns.length := by simp
 have hle : (es.map Xr).length = es.length := by simp
 by_cases h1 : 2000 < ns.length
 ·rw [X4i (.inl h1)]
  have h1' : (2000 : Int) < (ns.map Xi).length := by omega
  refine X0 ?_; refine JR ?_; refine ZA (γ := 100) ?_; refine Z0 ?_; refine JD ?_; refine X0 ?_; refine X0 ?_; refine JR ?_; refine ZB ?_; refine ZC ?_; refine Zd ?_; refine Zs ?_; refine Z1 ?_; refine Zo ?_
  refine Zo ?_; refine Zo ?_; refine Zo ?_; refine Zn ?_; refine JD ?_; refine JT ?_; refine X0 ?_; refine JR ?_; refine Z0 ?_; refine JD ?_
  exact X1 ⟨_, St.le_refl _, ⟨rfl, trivial⟩, X3 _⟩
 have h1' : ¬ (2000 : Int) < (ns.map Xi).length := by omega
 by_cases h2 : 4000 < es.length
 ·rw [X4i (.inr h2)]
  have h2' : (4000 : Int) < (es.map Xr).length := by omega
  refine X0 ?_; refine JR ?_; refine ZA (γ := 100) ?_; refine Z0 ?_; refine JD ?_; refine X0 ?_; refine X0 ?_; refine JR ?_; refine ZB ?_; refine ZC ?_; refine Zd ?_; refine Zs ?_; refine Z1 ?_; refine ZB ?_
  refine ZC ?_; refine Zd ?_; refine Zs ?_; refine Zq ?_; refine JD ?_; refine JT ?_; refine X0 ?_; refine JR ?_; refine Z0 ?_; refine JD ?_
  exact X1 ⟨_, St.le_refl _, ⟨rfl, trivial⟩, X3 _⟩
 have h2' : ¬ (4000 : Int) < (es.map Xr).length := by omega
 by_cases a1 : nn < 1
 ·rw [X0Y h1 h2 (.inl a1)]
  refine X0 ?_; refine JR ?_; refine ZA (γ := 100) ?_; refine Z0 ?_; refine JD ?_; refine X0 ?_; refine X0 ?_; refine JR ?_; refine ZB ?_; refine ZC ?_; refine Zd ?_; refine Zs ?_; refine Z1 ?_; refine ZB ?_
  refine ZC ?_; refine Zd ?_; refine Zs ?_; refine Zq ?_; refine JD ?_; refine JF ?_; refine X2 ?_; refine X0 ?_; refine X0 ?_; refine JR ?_; refine ZB ?_; refine ZC ?_; refine Z8 ?_; refine Z1 ?_
  refine Zo ?_; refine Zo ?_; refine Zo ?_; refine Zn ?_; refine Z1 ?_; refine Zo ?_; refine Zo ?_; refine Zo ?_; refine Zn ?_; refine Z1 ?_; refine Zo ?_; refine Zo ?_; refine Zo ?_; refine Zn ?_; refine JD ?_
  refine JT ?_; refine X0 ?_; refine JR ?_; refine Z0 ?_; refine JD ?_
  exact X1 ⟨_, St.le_refl _, ⟨rfl, trivial⟩, X3 _⟩
 by_cases a2 : 1000001 < nn
 ·rw [X0Y h1 h2 (.inr (.inl a2))]
  refine X0 ?_; refine JR ?_; refine ZA (γ := 100) ?_; refine Z0 ?_; refine JD ?_; refine X0 ?_; refine X0 ?_; refine JR ?_; refine ZB ?_; refine ZC ?_; refine Zd ?_; refine Zs ?_; refine Z1 ?_; refine ZB ?_
  refine ZC ?_; refine Zd ?_; refine Zs ?_; refine Zq ?_; refine JD ?_; refine JF ?_; refine X2 ?_; refine X0 ?_; refine X0 ?_; refine JR ?_; refine ZB ?_; refine ZC ?_; refine Z8 ?_; refine Z1 ?_
  refine ZB ?_; refine ZC ?_; refine Zs ?_; refine Zq ?_; refine Z1 ?_; refine Zo ?_; refine Zo ?_; refine Zo ?_; refine Zn ?_; refine Z1 ?_; refine Zo ?_; refine Zo ?_; refine Zo ?_; refine Zn ?_; refine JD ?_
  refine JT ?_; refine X0 ?_; refine JR ?_; refine Z0 ?_; refine JD ?_
  exact X1 ⟨_, St.le_refl _, ⟨rfl, trivial⟩, X3 _⟩
 by_cases a3 : ne < 1
 ·rw [X0Y h1 h2 (.inr (.inr (.inl a3)))]
  refine X0 ?_; refine JR ?_; refine ZA (γ := 100) ?_; refine Z0 ?_; refine JD ?_; refine X0 ?_; refine X0 ?_; refine JR ?_; refine ZB ?_; refine ZC ?_; refine Zd ?_; refine Zs ?_; refine Z1 ?_; refine ZB ?_
  refine ZC ?_; refine Zd ?_; refine Zs ?_; refine Zq ?_; refine JD ?_; refine JF ?_; refine X2 ?_; refine X0 ?_; refine X0 ?_; refine JR ?_; refine ZB ?_; refine ZC ?_; refine Z8 ?_; refine Z1 ?_
  refine ZB ?_; refine ZC ?_; refine Zs ?_; refine Zq ?_; refine Z1 ?_; refine ZB ?_; refine ZC ?_; refine Z8 ?_; refine Zq ?_; refine Z1 ?_; refine Zo ?_; refine Zo ?_; refine Zo ?_; refine Zn ?_; refine JD ?_
  refine JT ?_; refine X0 ?_; refine JR ?_; refine Z0 ?_; refine JD ?_
  exact X1 ⟨_, St.le_refl _, ⟨rfl, trivial⟩, X3 _⟩
 by_cases a4 : 1000001 < ne
 ·rw [X0Y h1 h2 (.inr (.inr (.inr a4)))]
  refine X0 ?_; refine JR ?_; refine ZA (γ := 100) ?_; refine Z0 ?_; refine JD ?_; refine X0 ?_; refine X0 ?_; refine JR ?_; refine ZB ?_; refine ZC ?_; refine Zd ?_; refine Zs ?_; refine Z1 ?_; refine ZB ?_
  refine ZC ?_; refine Zd ?_; refine Zs ?_; refine Zq ?_; refine JD ?_; refine JF ?_; refine X2 ?_; refine X0 ?_; refine X0 ?_; refine JR ?_; refine ZB ?_; refine ZC ?_; refine Z8 ?_; refine Z1 ?_
  refine ZB ?_; refine ZC ?_; refine Zs ?_; refine Zq ?_; refine Z1 ?_; refine ZB ?_; refine ZC ?_; refine Z8 ?_; refine Zq ?_; refine Z1 ?_; refine ZB ?_; refine ZC ?_; refine Zs ?_; refine Zq ?_; refine JD ?_
  refine JT ?_; refine X0 ?_; refine JR ?_; refine Z0 ?_; refine JD ?_
  exact X1 ⟨_, St.le_refl _, ⟨rfl, trivial⟩, X3 _⟩
 rw [X9T h1 h2 a1 a2 a3 a4]
 generalize hN : Uo nn none ns = N
 generalize hM : Vq ns ne none es = M
 refine X0 ?_; refine JR ?_; refine ZA (γ := 100) ?_; refine Z0 ?_; refine JD ?_; refine X0 ?_; refine X0 ?_; refine JR ?_; refine ZB ?_; refine ZC ?_; refine Zd ?_; refine Zs ?_; refine Z1 ?_; refine ZB ?_
 refine ZC ?_; refine Zd ?_; refine Zs ?_; refine Zq ?_; refine JD ?_; refine JF ?_; refine X2 ?_; refine X0 ?_; refine X0 ?_; refine JR ?_; refine ZB ?_; refine ZC ?_; refine Z8 ?_; refine Z1 ?_
 refine ZB ?_; refine ZC ?_; refine Zs ?_; refine Zq ?_; refine Z1 ?_; refine ZB ?_; refine ZC ?_; refine Z8 ?_; refine Zq ?_; refine Z1 ?_; refine ZB ?_; refine ZC ?_; refine Zs ?_; refine Zq ?_; refine JD ?_
 refine JF ?_; refine X2 ?_; refine X0 ?_; refine X0 ?_; refine JR ?_; refine ZB ?_; refine ZC ?_; refine Zd ?_; refine Z1 ?_; refine JD ?_; refine X4 ?_
 refine Xy (fun i : Nat => i ≤ ns.length ∧ Uo nn (Yj ns i) (ns.drop i) = N) (fun i => ⟨135, [(1, .ptr 100 0), (38, .d (.sl 3 (ns.map Xi))), (39, ai (ns.map Xi).length), (40, ai i)], [(100, .box [.d (.sl 3 (ns.map Xi)), .d (.sl 5 (es.map Xr)), ai nn, ai ne])]⟩) (fun i => ns.length - i) 0 ⟨Nat.zero_le _, by simpa [Yj] using hN⟩
  (X8 rfl JM ⟨rfl, trivial⟩) ?_
 rintro i ⟨hi, hg⟩
 by_cases hil : i < ns.length
 case pos =>
  have hn : (i : Int) < (ns.map Xi).length := by omega
  obtain ⟨x, hx⟩ := Xu (l := ns) hil
  have hxc : (ns.map Xi)[i]? = some (Xi x) := XS hx
  have hxh := hnh x (List.mem_of_getElem? hx)
  have hpc := X9l x.labels x.props hxh.1 hxh.2.2.2
  rw [Xbe hx] at hg
  clear hxh
  by_cases h0 : i = 0
  ·subst h0
   rw [X7q] at hg
   obtain ⟨id, labels, props⟩ := x
   simp only [Xi] at hxc hpc hg
   by_cases q2 : id < 1
   ·rw [if_pos (show id < 1 ∨ nn ≤ id from .inl q2), if_pos (by decide)] at hg
    subst hg
    rw [if_pos (by decide)]
    refine X0 ?_; refine JR ?_; refine Z8 ?_; refine JD ?_; refine X0 ?_; refine JT ?_; refine X2 ?_; refine X0 ?_; refine X4 ?_; refine X0 ?_; refine JR ?_; refine Z1 ?_; refine Zj ?_
    refine ZK ?_; refine Zw (γ := 101) ?_; refine Z0 ?_; refine Zy ?_; refine JD ?_; refine X0 ?_; refine X0 ?_; refine JR ?_; refine Z1 ?_; refine Zs ?_; refine Z1 ?_; refine Zo ?_; refine Zo ?_; refine Zo ?_
    refine Zo ?_; refine Zo ?_; refine Zo ?_; refine Zo ?_; refine Zo ?_; refine Zo ?_; refine Zo ?_; refine Zq ?_; refine JD ?_; refine JF ?_; refine X2 ?_; refine X0 ?_; refine X0 ?_; refine JR ?_
    refine ZB ?_; refine ZC ?_; refine Z8 ?_; refine Z1 ?_; refine Zo ?_; refine Zo ?_; refine Zo ?_; refine Zo ?_; refine Zo ?_; refine Zn ?_; refine JD ?_; refine JT ?_; refine X0 ?_; refine JR ?_; refine Z0 ?_
    refine JD ?_
    exact X1 ⟨_, St.le_refl _, ⟨rfl, trivial⟩, X3 _⟩
   by_cases q3 : nn ≤ id
   ·rw [if_pos (show id < 1 ∨ nn ≤ id from .inr q3), if_pos (by decide)] at hg
    subst hg
    rw [if_pos (by decide)]
    refine X0 ?_; refine JR ?_; refine Z8 ?_; refine JD ?_; refine X0 ?_; refine JT ?_; refine X2 ?_; refine X0 ?_; refine X4 ?_; refine X0 ?_; refine JR ?_; refine Z1 ?_; refine Zj ?_
    refine ZK ?_; refine Zw (γ := 101) ?_; refine Z0 ?_; refine Zy ?_; refine JD ?_; refine X0 ?_; refine X0 ?_; refine JR ?_; refine Z1 ?_; refine Zs ?_; refine Z1 ?_; refine Zo ?_; refine Zo ?_; refine Zo ?_
    refine Zo ?_; refine Zo ?_; refine Zo ?_; refine Zo ?_; refine Zo ?_; refine Zo ?_; refine Zo ?_; refine Zq ?_; refine JD ?_; refine JF ?_; refine X2 ?_; refine X0 ?_; refine X0 ?_; refine JR ?_
    refine ZB ?_; refine ZC ?_; refine Z8 ?_; refine Z1 ?_; refine ZB ?_; refine ZC ?_; refine ZB ?_; refine ZC ?_; refine Z2 ?_; refine Zq ?_; refine JD ?_; refine JT ?_; refine X0 ?_; refine JR ?_; refine Z0 ?_
    refine JD ?_
    exact X1 ⟨_, St.le_refl _, ⟨rfl, trivial⟩, X3 _⟩
   rw [if_neg (show ¬ (id < 1 ∨ nn ≤ id) from fun h => h.elim q2 q3)] at hg
   generalize U1 labels props = e at *
   by_cases he : e = 0
   ·subst he
    rw [if_neg (by simp)] at hg
    refine X0 ?_; refine JR ?_; refine Z8 ?_; refine JD ?_; refine X0 ?_; refine JT ?_; refine X2 ?_; refine X0 ?_; refine X4 ?_; refine X0 ?_; refine JR ?_; refine Z1 ?_; refine Zj ?_
    refine ZK ?_; refine Zw (γ := 101) ?_; refine Z0 ?_; refine Zy ?_; refine JD ?_; refine X0 ?_; refine X0 ?_; refine JR ?_; refine Z1 ?_; refine Zs ?_; refine Z1 ?_; refine Zo ?_; refine Zo ?_; refine Zo ?_
    refine Zo ?_; refine Zo ?_; refine Zo ?_; refine Zo ?_; refine Zo ?_; refine Zo ?_; refine Zo ?_; refine Zq ?_; refine JD ?_; refine JF ?_; refine X2 ?_; refine X0 ?_; refine X0 ?_; refine JR ?_
    refine ZB ?_; refine ZC ?_; refine Z8 ?_; refine Z1 ?_; refine ZB ?_; refine ZC ?_; refine ZB ?_; refine ZC ?_; refine Z2 ?_; refine Zq ?_; refine JD ?_; refine JF ?_; refine X2 ?_; refine X0 ?_; refine JR ?_
    refine ZB ?_; refine ZC ?_; refine ZB ?_; refine ZC ?_; refine Z9 (hcon := hpc) ?_; refine Z0 ?_; refine JD ?_; refine X0 ?_; refine JR ?_; refine Z1 ?_; refine Zv ?_; refine JD ?_; refine JF ?_; refine X2 ?_
    refine JR ?_; refine Zb ?_; refine Z1 ?_; refine JD ?_
    exact ⟨0 + 1, ⟨by omega, hg⟩, by omega, X8 rfl JM ⟨rfl, trivial⟩⟩
   ·rw [if_pos he] at hg
    subst hg
    rw [if_pos he]
    refine X0 ?_; refine JR ?_; refine Z8 ?_; refine JD ?_; refine X0 ?_; refine JT ?_; refine X2 ?_; refine X0 ?_; refine X4 ?_; refine X0 ?_; refine JR ?_; refine Z1 ?_; refine Zj ?_
    refine ZK ?_; refine Zw (γ := 101) ?_; refine Z0 ?_; refine Zy ?_; refine JD ?_; refine X0 ?_; refine X0 ?_; refine JR ?_; refine Z1 ?_; refine Zs ?_; refine Z1 ?_; refine Zo ?_; refine Zo ?_; refine Zo ?_
    refine Zo ?_; refine Zo ?_; refine Zo ?_; refine Zo ?_; refine Zo ?_; refine Zo ?_; refine Zo ?_; refine Zq ?_; refine JD ?_; refine JF ?_; refine X2 ?_; refine X0 ?_; refine X0 ?_; refine JR ?_
    refine ZB ?_; refine ZC ?_; refine Z8 ?_; refine Z1 ?_; refine ZB ?_; refine ZC ?_; refine ZB ?_; refine ZC ?_; refine Z2 ?_; refine Zq ?_; refine JD ?_; refine JF ?_; refine X2 ?_; refine X0 ?_; refine JR ?_
    refine ZB ?_; refine ZC ?_; refine ZB ?_; refine ZC ?_; refine Z9 (hcon := hpc) ?_; refine Z0 ?_; refine JD ?_; refine X0 ?_; refine JR ?_; refine Z1 ?_; refine Zv ?_; refine JD ?_; refine JT ?_; refine X0 ?_
    refine JR ?_; refine Z1 ?_; refine Z0 ?_; refine JD ?_
    exact X1 ⟨_, St.le_refl _, ⟨rfl, trivial⟩, X3 _⟩
  ·obtain ⟨j, rfl⟩ : ∃ j, i = j + 1 := ⟨i - 1, by omega⟩
   obtain ⟨p, hp⟩ := Xu (l := ns) (k := j) (by omega)
   have hpp : (ns.map Xi)[j]? = some (Xi p) := XS hp
   rw [Xbg hp] at hg
   clear hp
   obtain ⟨id, labels, props⟩ := x
   obtain ⟨pid, plabels, pprops⟩ := p
   simp only [Xi] at hxc hpc hg hpp
   by_cases q1 : id ≤ pid
   ·rw [if_pos q1, if_pos (by decide)] at hg
    subst hg
    rw [if_pos (by decide)]
    refine X0 ?_; refine JR ?_; refine Z8 ?_; refine JD ?_; refine X0 ?_; refine JT ?_; refine X2 ?_; refine X0 ?_; refine X4 ?_; refine X0 ?_; refine JR ?_; refine Z1 ?_; refine Zj ?_
    refine ZK ?_; refine Zw (γ := 101) ?_; refine Z0 ?_; refine Zy ?_; refine JD ?_; refine X0 ?_; refine X0 ?_; refine JR ?_; refine Z1 ?_; refine Zs ?_; refine Z1 ?_; refine ZB ?_; refine ZC ?_; refine ZB ?_
    refine ZC ?_; refine Z1 ?_
    refine Z4 (op := .sub) (r' := .int .i64 ((j : Nat) : Int)) (u := .int .i64 ((j + 1 : Nat) : Int)) (v := .int .i64 1) ?_ (hr' := by exact congrArg (Value.int .i64) (show (((j + 1 : Nat) : Int) - 1) = (j : Int) by omega)) (hr := by exact Ya (by unfold Y7; omega))
    refine Zj ?_; refine ZN ?_; refine Zk ?_; refine Zm ?_; refine Zn ?_; refine JD ?_; refine JT ?_; refine X0 ?_; refine JR ?_; refine Z0 ?_; refine JD ?_
    exact X1 ⟨_, St.le_refl _, ⟨rfl, trivial⟩, X3 _⟩
   rw [if_neg q1] at hg
   by_cases q2 : id < 1
   ·rw [if_pos (show id < 1 ∨ nn ≤ id from .inl q2), if_pos (by decide)] at hg
    subst hg
    rw [if_pos (by decide)]
    refine X0 ?_; refine JR ?_; refine Z8 ?_; refine JD ?_; refine X0 ?_; refine JT ?_; refine X2 ?_; refine X0 ?_; refine X4 ?_; refine X0 ?_; refine JR ?_; refine Z1 ?_; refine Zj ?_
    refine ZK ?_; refine Zw (γ := 101) ?_; refine Z0 ?_; refine Zy ?_; refine JD ?_; refine X0 ?_; refine X0 ?_; refine JR ?_; refine Z1 ?_; refine Zs ?_; refine Z1 ?_; refine ZB ?_; refine ZC ?_; refine ZB ?_
    refine ZC ?_; refine Z1 ?_
    refine Z4 (op := .sub) (r' := .int .i64 ((j : Nat) : Int)) (u := .int .i64 ((j + 1 : Nat) : Int)) (v := .int .i64 1) ?_ (hr' := by exact congrArg (Value.int .i64) (show (((j + 1 : Nat) : Int) - 1) = (j : Int) by omega)) (hr := by exact Ya (by unfold Y7; omega))
    refine Zj ?_; refine ZN ?_; refine Zk ?_; refine Zm ?_; refine Zn ?_; refine JD ?_; refine JF ?_; refine X2 ?_; refine X0 ?_; refine X0 ?_; refine JR ?_; refine ZB ?_; refine ZC ?_; refine Z8 ?_
    refine Z1 ?_; refine Zo ?_; refine Zo ?_; refine Zo ?_; refine Zo ?_; refine Zo ?_; refine Zn ?_; refine JD ?_; refine JT ?_; refine X0 ?_; refine JR ?_; refine Z0 ?_; refine JD ?_
    exact X1 ⟨_, St.le_refl _, ⟨rfl, trivial⟩, X3 _⟩
   by_cases q3 : nn ≤ id
   ·rw [if_pos (show id < 1 ∨ nn ≤ id from .inr q3), if_pos (by decide)] at hg
    subst hg
    rw [if_pos (by decide)]
    refine X0 ?_; refine JR ?_; refine Z8 ?_; refine JD ?_; refine X0 ?_; refine JT ?_; refine X2 ?_; refine X0 ?_; refine X4 ?_; refine X0 ?_; refine JR ?_; refine Z1 ?_; refine Zj ?_
    refine ZK ?_; refine Zw (γ := 101) ?_; refine Z0 ?_; refine Zy ?_; refine JD ?_; refine X0 ?_; refine X0 ?_; refine JR ?_; refine Z1 ?_; refine Zs ?_; refine Z1 ?_; refine ZB ?_; refine ZC ?_; refine ZB ?_
    refine ZC ?_; refine Z1 ?_
    refine Z4 (op := .sub) (r' := .int .i64 ((j : Nat) : Int)) (u := .int .i64 ((j + 1 : Nat) : Int)) (v := .int .i64 1) ?_ (hr' := by exact congrArg (Value.int .i64) (show (((j + 1 : Nat) : Int) - 1) = (j : Int) by omega)) (hr := by exact Ya (by unfold Y7; omega))
    refine Zj ?_; refine ZN ?_; refine Zk ?_; refine Zm ?_; refine Zn ?_; refine JD ?_; refine JF ?_; refine X2 ?_; refine X0 ?_; refine X0 ?_; refine JR ?_; refine ZB ?_; refine ZC ?_; refine Z8 ?_
    refine Z1 ?_; refine ZB ?_; refine ZC ?_; refine ZB ?_; refine ZC ?_; refine Z2 ?_; refine Zq ?_; refine JD ?_; refine JT ?_; refine X0 ?_; refine JR ?_; refine Z0 ?_; refine JD ?_
    exact X1 ⟨_, St.le_refl _, ⟨rfl, trivial⟩, X3 _⟩
   rw [if_neg (show ¬ (id < 1 ∨ nn ≤ id) from fun h => h.elim q2 q3)] at hg
   generalize U1 labels props = e at *
   by_cases he : e = 0
   ·subst he
    rw [if_neg (by simp)] at hg
    refine X0 ?_; refine JR ?_; refine Z8 ?_; refine JD ?_; refine X0 ?_; refine JT ?_; refine X2 ?_; refine X0 ?_; refine X4 ?_; refine X0 ?_; refine JR ?_; refine Z1 ?_; refine Zj ?_
    refine ZK ?_; refine Zw (γ := 101) ?_; refine Z0 ?_; refine Zy ?_; refine JD ?_; refine X0 ?_; refine X0 ?_; refine JR ?_; refine Z1 ?_; refine Zs ?_; refine Z1 ?_; refine ZB ?_; refine ZC ?_; refine ZB ?_
    refine ZC ?_; refine Z1 ?_
    refine Z4 (op := .sub) (r' := .int .i64 ((j : Nat) : Int)) (u := .int .i64 ((j + 1 : Nat) : Int)) (v := .int .i64 1) ?_ (hr' := by exact congrArg (Value.int .i64) (show (((j + 1 : Nat) : Int) - 1) = (j : Int) by omega)) (hr := by exact Ya (by unfold Y7; omega))
    refine Zj ?_; refine ZN ?_; refine Zk ?_; refine Zm ?_; refine Zn ?_; refine JD ?_; refine JF ?_; refine X2 ?_; refine X0 ?_; refine X0 ?_; refine JR ?_; refine ZB ?_; refine ZC ?_; refine Z8 ?_
    refine Z1 ?_; refine ZB ?_; refine ZC ?_; refine ZB ?_; refine ZC ?_; refine Z2 ?_; refine Zq ?_; refine JD ?_; refine JF ?_; refine X2 ?_; refine X0 ?_; refine JR ?_; refine ZB ?_; refine ZC ?_; refine ZB ?_
    refine ZC ?_; refine Z9 (hcon := hpc) ?_; refine Z0 ?_; refine JD ?_; refine X0 ?_; refine JR ?_; refine Z1 ?_; refine Zv ?_; refine JD ?_; refine JF ?_; refine X2 ?_; refine JR ?_; refine Zb ?_; refine Z1 ?_
    refine JD ?_
    exact ⟨j + 1 + 1, ⟨by omega, hg⟩, by omega, X8 rfl JM ⟨rfl, trivial⟩⟩
   ·rw [if_pos he] at hg
    subst hg
    rw [if_pos he]
    refine X0 ?_; refine JR ?_; refine Z8 ?_; refine JD ?_; refine X0 ?_; refine JT ?_; refine X2 ?_; refine X0 ?_; refine X4 ?_; refine X0 ?_; refine JR ?_; refine Z1 ?_; refine Zj ?_
    refine ZK ?_; refine Zw (γ := 101) ?_; refine Z0 ?_; refine Zy ?_; refine JD ?_; refine X0 ?_; refine X0 ?_; refine JR ?_; refine Z1 ?_; refine Zs ?_; refine Z1 ?_; refine ZB ?_; refine ZC ?_; refine ZB ?_
    refine ZC ?_; refine Z1 ?_
    refine Z4 (op := .sub) (r' := .int .i64 ((j : Nat) : Int)) (u := .int .i64 ((j + 1 : Nat) : Int)) (v := .int .i64 1) ?_ (hr' := by exact congrArg (Value.int .i64) (show (((j + 1 : Nat) : Int) - 1) = (j : Int) by omega)) (hr := by exact Ya (by unfold Y7; omega))
    refine Zj ?_; refine ZN ?_; refine Zk ?_; refine Zm ?_; refine Zn ?_; refine JD ?_; refine JF ?_; refine X2 ?_; refine X0 ?_; refine X0 ?_; refine JR ?_; refine ZB ?_; refine ZC ?_; refine Z8 ?_
    refine Z1 ?_; refine ZB ?_; refine ZC ?_; refine ZB ?_; refine ZC ?_; refine Z2 ?_; refine Zq ?_; refine JD ?_; refine JF ?_; refine X2 ?_; refine X0 ?_; refine JR ?_; refine ZB ?_; refine ZC ?_; refine ZB ?_
    refine ZC ?_; refine Z9 (hcon := hpc) ?_; refine Z0 ?_; refine JD ?_; refine X0 ?_; refine JR ?_; refine Z1 ?_; refine Zv ?_; refine JD ?_; refine JT ?_; refine X0 ?_; refine JR ?_; refine Z1 ?_; refine Z0 ?_
    refine JD ?_
    exact X1 ⟨_, St.le_refl _, ⟨rfl, trivial⟩, X3 _⟩
 obtain rfl : i = ns.length := by omega
 have hn : ¬ ((ns.length : Nat) : Int) < (ns.map Xi).length := by omega
 rw [List.drop_length, Uo] at hg
 subst hg
 rw [if_neg (by simp)]
 have hris := (X8P ns none hN).2
 refine X0 ?_; refine JR ?_; refine Z8 ?_; refine JD ?_; refine X0 ?_; refine JF ?_; refine Xj ?_; refine X0 ?_; refine X0 ?_; refine JR ?_; refine ZB ?_; refine ZC ?_; refine Zd ?_; refine Z1 ?_
 refine JD ?_; refine X4 ?_
 refine Xy (fun i : Nat => i ≤ es.length ∧ Vq ns ne (Yj es i) (es.drop i) = M) (fun i => ⟨135, [(1, .ptr 100 0), (79, .d (.sl 5 (es.map Xr))), (80, ai (es.map Xr).length), (81, ai i)], [(100, .box [.d (.sl 3 (ns.map Xi)), .d (.sl 5 (es.map Xr)), ai nn, ai ne])]⟩) (fun i => es.length - i) 0 ⟨Nat.zero_le _, by simpa [Yj] using hM⟩
  (X8 rfl JM ⟨rfl, trivial⟩) ?_
 clear hi hil hn
 rintro i ⟨hi, hg⟩
 by_cases hil : i < es.length
 case neg =>
  obtain rfl : i = es.length := by omega
  have hn : ¬ ((es.length : Nat) : Int) < (es.map Xr).length := by omega
  rw [List.drop_length, Vq] at hg
  subst hg
  refine X0 ?_; refine JR ?_; refine Z8 ?_; refine JD ?_; refine X0 ?_; refine JF ?_; refine Xj ?_; refine X0 ?_; refine JR ?_; refine Z0 ?_; refine JD ?_
  exact X1 ⟨_, St.le_refl _, ⟨rfl, trivial⟩, X3 _⟩
 have hn : (i : Int) < (es.map Xr).length := by omega
 obtain ⟨x, hx⟩ := Xu (l := es) hil
 have hxc : (es.map Xr)[i]? = some (Xr x) := XS hx
 have hxh := heh x (List.mem_of_getElem? hx)
 have hpc := X9l [] x.props (by simp) hxh.2.2
 have hs1 := X8a ns x.src (by omega) hris
 have hs2 := X8a ns x.dst (by omega) hris
 have hnm := X2E x.typ
 rw [X8q hx] at hg
 clear hxh
 by_cases h0 : i = 0
 ·subst h0
  rw [Xa3] at hg
  obtain ⟨id, src, dst, typ, props⟩ := x
  simp only [Xr] at hxc hpc hg hs1 hs2 hnm
  simp only [List.map_nil] at hpc
  generalize Yv ns src = b1 at *
  generalize Yv ns dst = b2 at *
  generalize XG typ = b3 at *
  generalize U1 [] props = e at *
  by_cases q2 : id < 1
  ·rw [if_pos (show id < 1 ∨ ne ≤ id from .inl q2), if_pos (by decide)] at hg
   subst hg
   refine X0 ?_; refine JR ?_; refine Z8 ?_; refine JD ?_; refine X0 ?_; refine JT ?_; refine X2 ?_; refine X0 ?_; refine X4 ?_; refine X0 ?_; refine JR ?_; refine Z1 ?_; refine Zj ?_
   refine ZK ?_; refine Zw (γ := 101) ?_; refine Z0 ?_; refine Zy ?_; refine JD ?_; refine X0 ?_; refine X0 ?_; refine JR ?_; refine Z1 ?_; refine Zs ?_; refine Z1 ?_; refine Zo ?_; refine Zo ?_; refine Zo ?_
   refine Zo ?_; refine Zo ?_; refine Zo ?_; refine Zo ?_; refine Zo ?_; refine Zo ?_; refine Zo ?_; refine Zq ?_; refine JD ?_; refine JF ?_; refine X2 ?_; refine X0 ?_; refine X0 ?_; refine JR ?_
   refine ZB ?_; refine ZC ?_; refine Z8 ?_; refine Z1 ?_; refine Zo ?_; refine Zo ?_; refine Zo ?_; refine Zo ?_; refine Zo ?_; refine Zn ?_; refine JD ?_; refine JT ?_; refine X0 ?_; refine JR ?_; refine Z0 ?_
   refine JD ?_
   exact X1 ⟨_, St.le_refl _, ⟨rfl, trivial⟩, X3 _⟩
  by_cases q3 : ne ≤ id
  ·rw [if_pos (show id < 1 ∨ ne ≤ id from .inr q3), if_pos (by decide)] at hg
   subst hg
   refine X0 ?_; refine JR ?_; refine Z8 ?_; refine JD ?_; refine X0 ?_; refine JT ?_; refine X2 ?_; refine X0 ?_; refine X4 ?_; refine X0 ?_; refine JR ?_; refine Z1 ?_; refine Zj ?_
   refine ZK ?_; refine Zw (γ := 101) ?_; refine Z0 ?_; refine Zy ?_; refine JD ?_; refine X0 ?_; refine X0 ?_; refine JR ?_; refine Z1 ?_; refine Zs ?_; refine Z1 ?_; refine Zo ?_; refine Zo ?_; refine Zo ?_
   refine Zo ?_; refine Zo ?_; refine Zo ?_; refine Zo ?_; refine Zo ?_; refine Zo ?_; refine Zo ?_; refine Zq ?_; refine JD ?_; refine JF ?_; refine X2 ?_; refine X0 ?_; refine X0 ?_; refine JR ?_
   refine ZB ?_; refine ZC ?_; refine Z8 ?_; refine Z1 ?_; refine ZB ?_; refine ZC ?_; refine ZB ?_; refine ZC ?_; refine Z2 ?_; refine Zq ?_; refine JD ?_; refine JT ?_; refine X0 ?_; refine JR ?_; refine Z0 ?_
   refine JD ?_
   exact X1 ⟨_, St.le_refl _, ⟨rfl, trivial⟩, X3 _⟩
  rw [if_neg (show ¬ (id < 1 ∨ ne ≤ id) from fun h => h.elim q2 q3)] at hg
  cases b1 with
  | false =>
   rw [if_pos (show false = false ∨ b2 = false from .inl rfl), if_pos (by decide)] at hg
   subst hg
   refine X0 ?_; refine JR ?_; refine Z8 ?_; refine JD ?_; refine X0 ?_; refine JT ?_; refine X2 ?_; refine X0 ?_; refine X4 ?_; refine X0 ?_; refine JR ?_; refine Z1 ?_; refine Zj ?_
   refine ZK ?_; refine Zw (γ := 101) ?_; refine Z0 ?_; refine Zy ?_; refine JD ?_; refine X0 ?_; refine X0 ?_; refine JR ?_; refine Z1 ?_; refine Zs ?_; refine Z1 ?_; refine Zo ?_; refine Zo ?_; refine Zo ?_
   refine Zo ?_; refine Zo ?_; refine Zo ?_; refine Zo ?_; refine Zo ?_; refine Zo ?_; refine Zo ?_; refine Zq ?_; refine JD ?_; refine JF ?_; refine X2 ?_; refine X0 ?_; refine X0 ?_; refine JR ?_
   refine ZB ?_; refine ZC ?_; refine Z8 ?_; refine Z1 ?_; refine ZB ?_; refine ZC ?_; refine ZB ?_; refine ZC ?_; refine Z2 ?_; refine Zq ?_; refine JD ?_; refine JF ?_; refine X2 ?_; refine X0 ?_
   refine X0 ?_; refine JR ?_; refine ZB ?_; refine ZC ?_; refine ZB ?_; refine ZC ?_; refine Z9 (hcon := hs1) ?_; refine Zu ?_; refine Z1 ?_; refine Zo ?_; refine Zo ?_; refine Zo ?_; refine Zo ?_; refine Zo ?_
   refine Zo ?_; refine Zn ?_; refine JD ?_; refine JT ?_; refine X0 ?_; refine JR ?_; refine Z0 ?_; refine JD ?_
   exact X1 ⟨_, St.le_refl _, ⟨rfl, trivial⟩, X3 _⟩
  | true =>
   cases b2 with
   | false =>
    rw [if_pos (show true = false ∨ false = false from .inr rfl), if_pos (by decide)] at hg
    subst hg
    refine X0 ?_; refine JR ?_; refine Z8 ?_; refine JD ?_; refine X0 ?_; refine JT ?_; refine X2 ?_; refine X0 ?_; refine X4 ?_; refine X0 ?_; refine JR ?_; refine Z1 ?_; refine Zj ?_
    refine ZK ?_; refine Zw (γ := 101) ?_; refine Z0 ?_; refine Zy ?_; refine JD ?_; refine X0 ?_; refine X0 ?_; refine JR ?_; refine Z1 ?_; refine Zs ?_; refine Z1 ?_; refine Zo ?_; refine Zo ?_; refine Zo ?_
    refine Zo ?_; refine Zo ?_; refine Zo ?_; refine Zo ?_; refine Zo ?_; refine Zo ?_; refine Zo ?_; refine Zq ?_; refine JD ?_; refine JF ?_; refine X2 ?_; refine X0 ?_; refine X0 ?_; refine JR ?_
    refine ZB ?_; refine ZC ?_; refine Z8 ?_; refine Z1 ?_; refine ZB ?_; refine ZC ?_; refine ZB ?_; refine ZC ?_; refine Z2 ?_; refine Zq ?_; refine JD ?_; refine JF ?_; refine X2 ?_; refine X0 ?_
    refine X0 ?_; refine JR ?_; refine ZB ?_; refine ZC ?_; refine ZB ?_; refine ZC ?_; refine Z9 (hcon := hs1) ?_; refine Zu ?_; refine Z1 ?_; refine ZB ?_; refine ZC ?_; refine ZB ?_; refine ZC ?_
    refine Z9 (hcon := hs2) ?_; refine Zu ?_; refine Zq ?_; refine JD ?_; refine JT ?_; refine X0 ?_; refine JR ?_; refine Z0 ?_; refine JD ?_
    exact X1 ⟨_, St.le_refl _, ⟨rfl, trivial⟩, X3 _⟩
   | true =>
    rw [if_neg (show ¬ (true = false ∨ true = false) by simp)] at hg
    cases b3 with
    | false =>
     rw [if_pos (show false = false from rfl), if_pos (by decide)] at hg
     subst hg
     refine X0 ?_; refine JR ?_; refine Z8 ?_; refine JD ?_; refine X0 ?_; refine JT ?_; refine X2 ?_; refine X0 ?_; refine X4 ?_; refine X0 ?_; refine JR ?_; refine Z1 ?_; refine Zj ?_
     refine ZK ?_; refine Zw (γ := 101) ?_; refine Z0 ?_; refine Zy ?_; refine JD ?_; refine X0 ?_; refine X0 ?_; refine JR ?_; refine Z1 ?_; refine Zs ?_; refine Z1 ?_; refine Zo ?_; refine Zo ?_; refine Zo ?_
     refine Zo ?_; refine Zo ?_; refine Zo ?_; refine Zo ?_; refine Zo ?_; refine Zo ?_; refine Zo ?_; refine Zq ?_; refine JD ?_; refine JF ?_; refine X2 ?_; refine X0 ?_; refine X0 ?_; refine JR ?_
     refine ZB ?_; refine ZC ?_; refine Z8 ?_; refine Z1 ?_; refine ZB ?_; refine ZC ?_; refine ZB ?_; refine ZC ?_; refine Z2 ?_; refine Zq ?_; refine JD ?_; refine JF ?_; refine X2 ?_; refine X0 ?_
     refine X0 ?_; refine JR ?_; refine ZB ?_; refine ZC ?_; refine ZB ?_; refine ZC ?_; refine Z9 (hcon := hs1) ?_; refine Zu ?_; refine Z1 ?_; refine ZB ?_; refine ZC ?_; refine ZB ?_; refine ZC ?_
     refine Z9 (hcon := hs2) ?_; refine Zu ?_; refine Zq ?_; refine JD ?_; refine JF ?_; refine X2 ?_; refine X0 ?_; refine X0 ?_; refine JR ?_; refine ZB ?_; refine ZC ?_; refine Z9 (hcon := hnm) ?_
     refine Zu ?_; refine JD ?_; refine JT ?_; refine X0 ?_; refine JR ?_; refine Z0 ?_; refine JD ?_
     exact X1 ⟨_, St.le_refl _, ⟨rfl, trivial⟩, X3 _⟩
    | true =>
     rw [if_neg (show ¬ true = false by simp)] at hg
     by_cases he : e = 0
     ·subst he
      rw [if_neg (by simp)] at hg
      refine X0 ?_; refine JR ?_; refine Z8 ?_; refine JD ?_; refine X0 ?_; refine JT ?_; refine X2 ?_; refine X0 ?_; refine X4 ?_; refine X0 ?_; refine JR ?_; refine Z1 ?_; refine Zj ?_
      refine ZK ?_; refine Zw (γ := 101) ?_; refine Z0 ?_; refine Zy ?_; refine JD ?_; refine X0 ?_; refine X0 ?_; refine JR ?_; refine Z1 ?_; refine Zs ?_; refine Z1 ?_; refine Zo ?_; refine Zo ?_; refine Zo ?_
      refine Zo ?_; refine Zo ?_; refine Zo ?_; refine Zo ?_; refine Zo ?_; refine Zo ?_; refine Zo ?_; refine Zq ?_; refine JD ?_; refine JF ?_; refine X2 ?_; refine X0 ?_; refine X0 ?_; refine JR ?_
      refine ZB ?_; refine ZC ?_; refine Z8 ?_; refine Z1 ?_; refine ZB ?_; refine ZC ?_; refine ZB ?_; refine ZC ?_; refine Z2 ?_; refine Zq ?_; refine JD ?_; refine JF ?_; refine X2 ?_; refine X0 ?_
      refine X0 ?_; refine JR ?_; refine ZB ?_; refine ZC ?_; refine ZB ?_; refine ZC ?_; refine Z9 (hcon := hs1) ?_; refine Zu ?_; refine Z1 ?_; refine ZB ?_; refine ZC ?_; refine ZB ?_; refine ZC ?_
      refine Z9 (hcon := hs2) ?_; refine Zu ?_; refine Zq ?_; refine JD ?_; refine JF ?_; refine X2 ?_; refine X0 ?_; refine X0 ?_; refine JR ?_; refine ZB ?_; refine ZC ?_; refine Z9 (hcon := hnm) ?_
      refine Zu ?_; refine JD ?_; refine JF ?_; refine X2 ?_; refine X0 ?_; refine JR ?_; refine ZB ?_; refine ZC ?_; refine Z9 (hcon := hpc) ?_; refine Z0 ?_; refine JD ?_; refine X0 ?_; refine JR ?_
      refine Z1 ?_; refine Zv ?_; refine JD ?_; refine JF ?_; refine X2 ?_; refine JR ?_; refine Zb ?_; refine Z1 ?_; refine JD ?_
      exact ⟨0 + 1, ⟨by omega, hg⟩, by omega, X8 rfl JM ⟨rfl, trivial⟩⟩
     ·rw [if_pos he] at hg
      subst hg
      refine X0 ?_; refine JR ?_; refine Z8 ?_; refine JD ?_; refine X0 ?_; refine JT ?_; refine X2 ?_; refine X0 ?_; refine X4 ?_; refine X0 ?_; refine JR ?_; refine Z1 ?_; refine Zj ?_
      refine ZK ?_; refine Zw (γ := 101) ?_; refine Z0 ?_; refine Zy ?_; refine JD ?_; refine X0 ?_; refine X0 ?_; refine JR ?_; refine Z1 ?_; refine Zs ?_; refine Z1 ?_; refine Zo ?_; refine Zo ?_; refine Zo ?_
      refine Zo ?_; refine Zo ?_; refine Zo ?_; refine Zo ?_; refine Zo ?_; refine Zo ?_; refine Zo ?_; refine Zq ?_; refine JD ?_; refine JF ?_; refine X2 ?_; refine X0 ?_; refine X0 ?_; refine JR ?_
      refine ZB ?_; refine ZC ?_; refine Z8 ?_; refine Z1 ?_; refine ZB ?_; refine ZC ?_; refine ZB ?_; refine ZC ?_; refine Z2 ?_; refine Zq ?_; refine JD ?_; refine JF ?_; refine X2 ?_; refine X0 ?_
      refine X0 ?_; refine JR ?_; refine ZB ?_; refine ZC ?_; refine ZB ?_; refine ZC ?_; refine Z9 (hcon := hs1) ?_; refine Zu ?_; refine Z1 ?_; refine ZB ?_; refine ZC ?_; refine ZB ?_; refine ZC ?_
      refine Z9 (hcon := hs2) ?_; refine Zu ?_; refine Zq ?_; refine JD ?_; refine JF ?_; refine X2 ?_; refine X0 ?_; refine X0 ?_; refine JR ?_; refine ZB ?_; refine ZC ?_; refine Z9 (hcon := hnm) ?_
      refine Zu ?_; refine JD ?_; refine JF ?_; refine X2 ?_; refine X0 ?_; refine JR ?_; refine ZB ?_; refine ZC ?_; refine Z9 (hcon := hpc) ?_; refine Z0 ?_; refine JD ?_; refine X0 ?_; refine JR ?_
      refine Z1 ?_; refine Zv ?_; refine JD ?_; refine JT ?_; refine X0 ?_; refine JR ?_; refine Z1 ?_; refine Z0 ?_; refine JD ?_
      exact X1 ⟨_, St.le_refl _, ⟨rfl, trivial⟩, X3 _⟩
 ·obtain ⟨j, rfl⟩ : ∃ j, i = j + 1 := ⟨i - 1, by omega⟩
  obtain ⟨p, hp⟩ := Xu (l := es) (k := j) (by omega)
  have hpp : (es.map Xr)[j]? = some (Xr p) := XS hp
  rw [X9a hp] at hg
  clear hp
  obtain ⟨id, src, dst, typ, props⟩ := x
  obtain ⟨pid, psrc, pdst, ptyp, pprops⟩ := p
  simp only [Xr] at hxc hpc hg hpp hs1 hs2 hnm
  simp only [List.map_nil] at hpc
  generalize Yv ns src = b1 at *
  generalize Yv ns dst = b2 at *
  generalize XG typ = b3 at *
  generalize U1 [] props = e at *
  by_cases q1 : id ≤ pid
  ·rw [if_pos q1, if_pos (by decide)] at hg
   subst hg
   refine X0 ?_; refine JR ?_; refine Z8 ?_; refine JD ?_; refine X0 ?_; refine JT ?_; refine X2 ?_; refine X0 ?_; refine X4 ?_; refine X0 ?_; refine JR ?_; refine Z1 ?_; refine Zj ?_
   refine ZK ?_; refine Zw (γ := 101) ?_; refine Z0 ?_; refine Zy ?_; refine JD ?_; refine X0 ?_; refine X0 ?_; refine JR ?_; refine Z1 ?_; refine Zs ?_; refine Z1 ?_; refine ZB ?_; refine ZC ?_; refine ZB ?_
   refine ZC ?_; refine Z1 ?_
   refine Z4 (op := .sub) (r' := .int .i64 ((j : Nat) : Int)) (u := .int .i64 ((j + 1 : Nat) : Int)) (v := .int .i64 1) ?_ (hr' := by exact congrArg (Value.int .i64) (show (((j + 1 : Nat) : Int) - 1) = (j : Int) by omega)) (hr := by exact Ya (by unfold Y7; omega))
   refine Zj ?_; refine ZN ?_; refine Zk ?_; refine Zm ?_; refine Zn ?_; refine JD ?_; refine JT ?_; refine X0 ?_; refine JR ?_; refine Z0 ?_; refine JD ?_
   exact X1 ⟨_, St.le_refl _, ⟨rfl, trivial⟩, X3 _⟩
  rw [if_neg q1] at hg
  by_cases q2 : id < 1
  ·rw [if_pos (show id < 1 ∨ ne ≤ id from .inl q2), if_pos (by decide)] at hg
   subst hg
   refine X0 ?_; refine JR ?_; refine Z8 ?_; refine JD ?_; refine X0 ?_; refine JT ?_; refine X2 ?_; refine X0 ?_; refine X4 ?_; refine X0 ?_; refine JR ?_; refine Z1 ?_; refine Zj ?_
   refine ZK ?_; refine Zw (γ := 101) ?_; refine Z0 ?_; refine Zy ?_; refine JD ?_; refine X0 ?_; refine X0 ?_; refine JR ?_; refine Z1 ?_; refine Zs ?_; refine Z1 ?_; refine ZB ?_; refine ZC ?_; refine ZB ?_
   refine ZC ?_; refine Z1 ?_
   refine Z4 (op := .sub) (r' := .int .i64 ((j : Nat) : Int)) (u := .int .i64 ((j + 1 : Nat) : Int)) (v := .int .i64 1) ?_ (hr' := by exact congrArg (Value.int .i64) (show (((j + 1 : Nat) : Int) - 1) = (j : Int) by omega)) (hr := by exact Ya (by unfold Y7; omega))
   refine Zj ?_; refine ZN ?_; refine Zk ?_; refine Zm ?_; refine Zn ?_; refine JD ?_; refine JF ?_; refine X2 ?_; refine X0 ?_; refine X0 ?_; refine JR ?_; refine ZB ?_; refine ZC ?_; refine Z8 ?_
   refine Z1 ?_; refine Zo ?_; refine Zo ?_; refine Zo ?_; refine Zo ?_; refine Zo ?_; refine Zn ?_; refine JD ?_; refine JT ?_; refine X0 ?_; refine JR ?_; refine Z0 ?_; refine JD ?_
   exact X1 ⟨_, St.le_refl _, ⟨rfl, trivial⟩, X3 _⟩
  by_cases q3 : ne ≤ id
  ·rw [if_pos (show id < 1 ∨ ne ≤ id from .inr q3), if_pos (by decide)] at hg
   subst hg
   refine X0 ?_; refine JR ?_; refine Z8 ?_; refine JD ?_; refine X0 ?_; refine JT ?_; refine X2 ?_; refine X0 ?_; refine X4 ?_; refine X0 ?_; refine JR ?_; refine Z1 ?_; refine Zj ?_
   refine ZK ?_; refine Zw (γ := 101) ?_; refine Z0 ?_; refine Zy ?_; refine JD ?_; refine X0 ?_; refine X0 ?_; refine JR ?_; refine Z1 ?_; refine Zs ?_; refine Z1 ?_; refine ZB ?_; refine ZC ?_; refine ZB ?_
   refine ZC ?_; refine Z1 ?_
   refine Z4 (op := .sub) (r' := .int .i64 ((j : Nat) : Int)) (u := .int .i64 ((j + 1 : Nat) : Int)) (v := .int .i64 1) ?_ (hr' := by exact congrArg (Value.int .i64) (show (((j + 1 : Nat) : Int) - 1) = (j : Int) by omega)) (hr := by exact Ya (by unfold Y7; omega))
   refine Zj ?_; refine ZN ?_; refine Zk ?_; refine Zm ?_; refine Zn ?_; refine JD ?_; refine JF ?_; refine X2 ?_; refine X0 ?_; refine X0 ?_; refine JR ?_; refine ZB ?_; refine ZC ?_; refine Z8 ?_
   refine Z1 ?_; refine ZB ?_; refine ZC ?_; refine ZB ?_; refine ZC ?_; refine Z2 ?_; refine Zq ?_; refine JD ?_; refine JT ?_; refine X0 ?_; refine JR ?_; refine Z0 ?_; refine JD ?_
   exact X1 ⟨_, St.le_refl _, ⟨rfl, trivial⟩, X3 _⟩
  rw [if_neg (show ¬ (id < 1 ∨ ne ≤ id) from fun h => h.elim q2 q3)] at hg
  cases b1 with
  | false =>
   rw [if_pos (show false = false ∨ b2 = false from .inl rfl), if_pos (by decide)] at hg
   subst hg
   refine X0 ?_; refine JR ?_; refine Z8 ?_; refine JD ?_; refine X0 ?_; refine JT ?_; refine X2 ?_; refine X0 ?_; refine X4 ?_; refine X0 ?_; refine JR ?_; refine Z1 ?_; refine Zj ?_
   refine ZK ?_; refine Zw (γ := 101) ?_; refine Z0 ?_; refine Zy ?_; refine JD ?_; refine X0 ?_; refine X0 ?_; refine JR ?_; refine Z1 ?_; refine Zs ?_; refine Z1 ?_; refine ZB ?_; refine ZC ?_; refine ZB ?_
   refine ZC ?_; refine Z1 ?_
   refine Z4 (op := .sub) (r' := .int .i64 ((j : Nat) : Int)) (u := .int .i64 ((j + 1 : Nat) : Int)) (v := .int .i64 1) ?_ (hr' := by exact congrArg (Value.int .i64) (show (((j + 1 : Nat) : Int) - 1) = (j : Int) by omega)) (hr := by exact Ya (by unfold Y7; omega))
   refine Zj ?_; refine ZN ?_; refine Zk ?_; refine Zm ?_; refine Zn ?_; refine JD ?_; refine JF ?_; refine X2 ?_; refine X0 ?_; refine X0 ?_; refine JR ?_; refine ZB ?_; refine ZC ?_; refine Z8 ?_
   refine Z1 ?_; refine ZB ?_; refine ZC ?_; refine ZB ?_; refine ZC ?_; refine Z2 ?_; refine Zq ?_; refine JD ?_; refine JF ?_; refine X2 ?_; refine X0 ?_; refine X0 ?_; refine JR ?_; refine ZB ?_
   refine ZC ?_; refine ZB ?_; refine ZC ?_; refine Z9 (hcon := hs1) ?_; refine Zu ?_; refine Z1 ?_; refine Zo ?_; refine Zo ?_; refine Zo ?_; refine Zo ?_; refine Zo ?_; refine Zo ?_; refine Zn ?_; refine JD ?_
   refine JT ?_; refine X0 ?_; refine JR ?_; refine Z0 ?_; refine JD ?_
   exact X1 ⟨_, St.le_refl _, ⟨rfl, trivial⟩, X3 _⟩
  | true =>
   cases b2 with
   | false =>
    rw [if_pos (show true = false ∨ false = false from .inr rfl), if_pos (by decide)] at hg
    subst hg
    refine X0 ?_; refine JR ?_; refine Z8 ?_; refine JD ?_; refine X0 ?_; refine JT ?_; refine X2 ?_; refine X0 ?_; refine X4 ?_; refine X0 ?_; refine JR ?_; refine Z1 ?_; refine Zj ?_
    refine ZK ?_; refine Zw (γ := 101) ?_; refine Z0 ?_; refine Zy ?_; refine JD ?_; refine X0 ?_; refine X0 ?_; refine JR ?_; refine Z1 ?_; refine Zs ?_; refine Z1 ?_; refine ZB ?_; refine ZC ?_; refine ZB ?_
    refine ZC ?_; refine Z1 ?_
    refine Z4 (op := .sub) (r' := .int .i64 ((j : Nat) : Int)) (u := .int .i64 ((j + 1 : Nat) : Int)) (v := .int .i64 1) ?_ (hr' := by exact congrArg (Value.int .i64) (show (((j + 1 : Nat) : Int) - 1) = (j : Int) by omega)) (hr := by exact Ya (by unfold Y7; omega))
    refine Zj ?_; refine ZN ?_; refine Zk ?_; refine Zm ?_; refine Zn ?_; refine JD ?_; refine JF ?_; refine X2 ?_; refine X0 ?_; refine X0 ?_; refine JR ?_; refine ZB ?_; refine ZC ?_; refine Z8 ?_
    refine Z1 ?_; refine ZB ?_; refine ZC ?_; refine ZB ?_; refine ZC ?_; refine Z2 ?_; refine Zq ?_; refine JD ?_; refine JF ?_; refine X2 ?_; refine X0 ?_; refine X0 ?_; refine JR ?_; refine ZB ?_
    refine ZC ?_; refine ZB ?_; refine ZC ?_; refine Z9 (hcon := hs1) ?_; refine Zu ?_; refine Z1 ?_; refine ZB ?_; refine ZC ?_; refine ZB ?_; refine ZC ?_; refine Z9 (hcon := hs2) ?_; refine Zu ?_; refine Zq ?_
    refine JD ?_; refine JT ?_; refine X0 ?_; refine JR ?_; refine Z0 ?_; refine JD ?_
    exact X1 ⟨_, St.le_refl _, ⟨rfl, trivial⟩, X3 _⟩
   | true =>
    rw [if_neg (show ¬ (true = false ∨ true = false) by simp)] at hg
    cases b3 with
    | false =>
     rw [if_pos (show false = false from rfl), if_pos (by decide)] at hg
     subst hg
     refine X0 ?_; refine JR ?_; refine Z8 ?_; refine JD ?_; refine X0 ?_; refine JT ?_; refine X2 ?_; refine X0 ?_; refine X4 ?_; refine X0 ?_; refine JR ?_; refine Z1 ?_; refine Zj ?_
     refine ZK ?_; refine Zw (γ := 101) ?_; refine Z0 ?_; refine Zy ?_; refine JD ?_; refine X0 ?_; refine X0 ?_; refine JR ?_; refine Z1 ?_; refine Zs ?_; refine Z1 ?_; refine ZB ?_; refine ZC ?_; refine ZB ?_
     refine ZC ?_; refine Z1 ?_
     refine Z4 (op := .sub) (r' := .int .i64 ((j : Nat) : Int)) (u := .int .i64 ((j + 1 : Nat) : Int)) (v := .int .i64 1) ?_ (hr' := by exact congrArg (Value.int .i64) (show (((j + 1 : Nat) : Int) - 1) = (j : Int) by omega)) (hr := by exact Ya (by unfold Y7; omega))
     refine Zj ?_; refine ZN ?_; refine Zk ?_; refine Zm ?_; refine Zn ?_; refine JD ?_; refine JF ?_; refine X2 ?_; refine X0 ?_; refine X0 ?_; refine JR ?_; refine ZB ?_; refine ZC ?_; refine Z8 ?_
     refine Z1 ?_; refine ZB ?_; refine ZC ?_; refine ZB ?_; refine ZC ?_; refine Z2 ?_; refine Zq ?_; refine JD ?_; refine JF ?_; refine X2 ?_; refine X0 ?_; refine X0 ?_; refine JR ?_; refine ZB ?_
     refine ZC ?_; refine ZB ?_; refine ZC ?_; refine Z9 (hcon := hs1) ?_; refine Zu ?_; refine Z1 ?_; refine ZB ?_; refine ZC ?_; refine ZB ?_; refine ZC ?_; refine Z9 (hcon := hs2) ?_; refine Zu ?_; refine Zq ?_
     refine JD ?_; refine JF ?_; refine X2 ?_; refine X0 ?_; refine X0 ?_; refine JR ?_; refine ZB ?_; refine ZC ?_; refine Z9 (hcon := hnm) ?_; refine Zu ?_; refine JD ?_; refine JT ?_; refine X0 ?_
     refine JR ?_; refine Z0 ?_; refine JD ?_
     exact X1 ⟨_, St.le_refl _, ⟨rfl, trivial⟩, X3 _⟩
    | true =>
     rw [if_neg (show ¬ true = false by simp)] at hg
     by_cases he : e = 0
     ·subst he
      rw [if_neg (by simp)] at hg
      refine X0 ?_; refine JR ?_; refine Z8 ?_; refine JD ?_; refine X0 ?_; refine JT ?_; refine X2 ?_; refine X0 ?_; refine X4 ?_; refine X0 ?_; refine JR ?_; refine Z1 ?_; refine Zj ?_
      refine ZK ?_; refine Zw (γ := 101) ?_; refine Z0 ?_; refine Zy ?_; refine JD ?_; refine X0 ?_; refine X0 ?_; refine JR ?_; refine Z1 ?_; refine Zs ?_; refine Z1 ?_; refine ZB ?_; refine ZC ?_; refine ZB ?_
      refine ZC ?_; refine Z1 ?_
      refine Z4 (op := .sub) (r' := .int .i64 ((j : Nat) : Int)) (u := .int .i64 ((j + 1 : Nat) : Int)) (v := .int .i64 1) ?_ (hr' := by exact congrArg (Value.int .i64) (show (((j + 1 : Nat) : Int) - 1) = (j : Int) by omega)) (hr := by exact Ya (by unfold Y7; omega))
      refine Zj ?_; refine ZN ?_; refine Zk ?_; refine Zm ?_; refine Zn ?_; refine JD ?_; refine JF ?_; refine X2 ?_; refine X0 ?_; refine X0 ?_; refine JR ?_; refine ZB ?_; refine ZC ?_; refine Z8 ?_
      refine Z1 ?_; refine ZB ?_; refine ZC ?_; refine ZB ?_; refine ZC ?_; refine Z2 ?_; refine Zq ?_; refine JD ?_; refine JF ?_; refine X2 ?_; refine X0 ?_; refine X0 ?_; refine JR ?_; refine ZB ?_
      refine ZC ?_; refine ZB ?_; refine ZC ?_; refine Z9 (hcon := hs1) ?_; refine Zu ?_; refine Z1 ?_; refine ZB ?_; refine ZC ?_; refine ZB ?_; refine ZC ?_; refine Z9 (hcon := hs2) ?_; refine Zu ?_; refine Zq ?_
      refine JD ?_; refine JF ?_; refine X2 ?_; refine X0 ?_; refine X0 ?_; refine JR ?_; refine ZB ?_; refine ZC ?_; refine Z9 (hcon := hnm) ?_; refine Zu ?_; refine JD ?_; refine JF ?_; refine X2 ?_
      refine X0 ?_; refine JR ?_; refine ZB ?_; refine ZC ?_; refine Z9 (hcon := hpc) ?_; refine Z0 ?_; refine JD ?_; refine X0 ?_; refine JR ?_; refine Z1 ?_; refine Zv ?_; refine JD ?_; refine JF ?_
      refine X2 ?_; refine JR ?_; refine Zb ?_; refine Z1 ?_; refine JD ?_
      exact ⟨j + 1 + 1, ⟨by omega, hg⟩, by omega, X8 rfl JM ⟨rfl, trivial⟩⟩
     ·rw [if_pos he] at hg
      subst hg
      refine X0 ?_; refine JR ?_; refine Z8 ?_; refine JD ?_; refine X0 ?_; refine JT ?_; refine X2 ?_; refine X0 ?_; refine X4 ?_; refine X0 ?_; refine JR ?_; refine Z1 ?_; refine Zj ?_
      refine ZK ?_; refine Zw (γ := 101) ?_; refine Z0 ?_; refine Zy ?_; refine JD ?_; refine X0 ?_; refine X0 ?_; refine JR ?_; refine Z1 ?_; refine Zs ?_; refine Z1 ?_; refine ZB ?_; refine ZC ?_; refine ZB ?_
      refine ZC ?_; refine Z1 ?_
      refine Z4 (op := .sub) (r' := .int .i64 ((j : Nat) : Int)) (u := .int .i64 ((j + 1 : Nat) : Int)) (v := .int .i64 1) ?_ (hr' := by exact congrArg (Value.int .i64) (show (((j + 1 : Nat) : Int) - 1) = (j : Int) by omega)) (hr := by exact Ya (by unfold Y7; omega))
      refine Zj ?_; refine ZN ?_; refine Zk ?_; refine Zm ?_; refine Zn ?_; refine JD ?_; refine JF ?_; refine X2 ?_; refine X0 ?_; refine X0 ?_; refine JR ?_; refine ZB ?_; refine ZC ?_; refine Z8 ?_
      refine Z1 ?_; refine ZB ?_; refine ZC ?_; refine ZB ?_; refine ZC ?_; refine Z2 ?_; refine Zq ?_; refine JD ?_; refine JF ?_; refine X2 ?_; refine X0 ?_; refine X0 ?_; refine JR ?_; refine ZB ?_
      refine ZC ?_; refine ZB ?_; refine ZC ?_; refine Z9 (hcon := hs1) ?_; refine Zu ?_; refine Z1 ?_; refine ZB ?_; refine ZC ?_; refine ZB ?_; refine ZC ?_; refine Z9 (hcon := hs2) ?_; refine Zu ?_; refine Zq ?_
      refine JD ?_; refine JF ?_; refine X2 ?_; refine X0 ?_; refine X0 ?_; refine JR ?_; refine ZB ?_; refine ZC ?_; refine Z9 (hcon := hnm) ?_; refine Zu ?_; refine JD ?_; refine JF ?_; refine X2 ?_
      refine X0 ?_; refine JR ?_; refine ZB ?_; refine ZC ?_; refine Z9 (hcon := hpc) ?_; refine Z0 ?_; refine JD ?_; refine X0 ?_; refine JR ?_; refine Z1 ?_; refine Zv ?_; refine JD ?_; refine JT ?_
      refine X0 ?_; refine JR ?_; refine Z1 ?_; refine Z0 ?_; refine JD ?_
      exact X1 ⟨_, St.le_refl _, ⟨rfl, trivial⟩, X3 _⟩
end Go.Fw

/- The program's check of a graph. -/
import Derived.Test.YtbhleedlnaakkaaGreatL15
set_option maxHeartbeats 32000000
namespace Go.Fw
open Go Go.Proofs
set_option maxRecDepth 100000
set_option linter.unusedVariables false
set_option linter.unusedSimpArgs false
def Yi (n : Nod) : AVal := .agg [ai n.id, .d (.sl 1 (n.labels.map Xl)), .d (.sl 6 (n.props.map Xg))]
def X1L (n : Nod) : Prop := n.labels.length ≤ 9223372036854775807 ∧ (∀ s ∈ n.labels, s.length ≤ 9223372036854775807) ∧ n.props.length ≤ 9223372036854775807 ∧ ∀ p ∈ n.props, X0h p
def X2e (e : Edg) : Prop := e.typ.length ≤ 9223372036854775807 ∧ e.props.length ≤ 9223372036854775807 ∧ ∀ p ∈ e.props, X0h p
structure GraHold (g : Gra) : Prop where
 nl : g.nodes.length ≤ 9223372036854775807
 el : g.edges.length ≤ 9223372036854775807
 nodes : ∀ n ∈ g.nodes, X1L n
 edges : ∀ e ∈ g.edges, X2e e
theorem X5R {nn : Int} {l : List Nod} {n : Nod} : Ye nn (XN l 0) n = if n.id < 1 ∨ nn ≤ n.id then 1 else Ya n.labels n.props := by
 unfold Ye XN
 rw [if_neg (by simp)]
theorem X66 {nn : Int} {l : List Nod} {j : Nat} {p n : Nod} (h : l[j]? = some p) : Ye nn (XN l (j + 1)) n = if n.id ≤ p.id then 26 else if n.id < 1 ∨ nn ≤ n.id then 1 else Ya n.labels n.props := by
 unfold Ye
 rw [VW, h]
 simp
theorem X5Y {ns : List Nod} {ne : Int} {l : List Edg} {n : Edg} : YI ns ne (XN l 0) n = if n.id < 1 ∨ ne ≤ n.id then 1
 else if XA ns n.src = false ∨ XA ns n.dst = false then 10 else if Xj n.typ = false then 6 else Ya [] n.props := by
 unfold YI XN
 rw [if_neg (by simp)]
theorem X3O {ns : List Nod} {ne : Int} {l : List Edg} {j : Nat} {p n : Edg} (h : l[j]? = some p) : YI ns ne (XN l (j + 1)) n = if n.id ≤ p.id then 26 else if n.id < 1 ∨ ne ≤ n.id then 1
 else if XA ns n.src = false ∨ XA ns n.dst = false then 10 else if Xj n.typ = false then 6 else Ya [] n.props := by
 unfold YI
 rw [VW, h]
 simp
theorem Xa4 {x y : Int} (h : x < y) : XK x y = -1 := if_pos h
theorem Xa8 {x y : Int} (h : ¬ x < y) : ¬ XK x y < 0 := by
 unfold XK
 rw [if_neg h]
 split <;> decide
theorem XaV {x y : Int} : decide (XK x y = 0) = decide (x = y) := by
 unfold XK
 by_cases h : x < y
 ·rw [if_pos h, decide_eq_false (by decide), decide_eq_false (by omega)]
 ·rw [if_neg h]
  by_cases h' : y < x
  ·rw [if_pos h', decide_eq_false (by decide), decide_eq_false (by omega)]
  ·rw [if_neg h', decide_eq_true rfl, decide_eq_true (by omega)]
theorem X5N (x : Nod) (n : Int) : Con Tryz.prog 153 [] [Yi x, ai n] [] (ai (XK x.id n)) := by
 refine X9 (xs := [ai (XK x.id n)]) Tryz.func153 rfl Tryz.ntmps153 rfl rfl rfl (fun E => ?_)
 have hc := X2F x.id n
 obtain ⟨id, labels, props⟩ := x
 simp only [Yi] at hc ⊢
 generalize XK id n = q at *
 refine X0 ?_; refine JR ?_; refine ZA (γ := 100) ?_; refine Z0 ?_; refine JD ?_; refine X0 ?_; refine JR ?_; refine ZB ?_; refine ZC ?_; refine Z1 ?_; refine Z9 (hcon := hc) ?_; refine Z0 ?_; refine JD ?_
 exact X1 ⟨_, St.le_refl _, ⟨rfl, trivial⟩, X2 _⟩
theorem X8y (l : List Nod) (n : Int) (hl : l.length ≤ 4294967296) (hr : X0E l) : Con Tryz.prog 152 [] [.d (.sl 3 (l.map X8)), ai n, .fn 153 []] [] (.tup [ai (X1q l n), ab (XA l n)]) := by
 refine X9 (xs := [ai (X1q l n), ab (XA l n)]) Tryz.func152 rfl Tryz.ntmps152 rfl rfl rfl (fun E => ?_)
 have hlm : (l.map X8).length = l.length := by simp
 refine X0 ?_; refine JR ?_; refine Z0 ?_; refine Z0 ?_; refine JD ?_; refine X0 ?_; refine JR ?_; refine Z1 ?_; refine Zd ?_; refine Z0 ?_; refine JD ?_; refine X0 ?_; refine JR ?_; refine Z1 ?_
 refine Z0 ?_; refine Z0 ?_; refine JD ?_; refine X0 ?_; refine X4 ?_
 refine Xs (ι := Nat × Nat) (fun q => q.1 ≤ q.2 ∧ q.2 ≤ l.length ∧ (∀ (k : Nat) (x : Nod), k < q.1 → l[k]? = some x → x.id < n) ∧ (∀ (k : Nat) (x : Nod), q.2 ≤ k → l[k]? = some x → n ≤ x.id)) (fun q => ⟨49, [(0, .d (.sl 3 (l.map X8))), (1, ai n), (2, .fn 153 []), (8, ai (l.map X8).length), (9, ai q.1), (10, ai q.2)], []⟩) (fun q => q.2 - q.1) (0, l.length)
  ⟨Nat.zero_le _, Nat.le_refl _, fun k x h => absurd h (Nat.not_lt_zero _), fun k x h hx => absurd (List.getElem?_eq_some_iff.1 hx).1 (Nat.not_lt.2 h)⟩
  (X7 rfl ⟨JL, JL, JL, JL, JL, AVal.le_of_eq (by show ai _ = ai _; rw [hlm]), trivial⟩ trivial) ?_
 rintro ⟨i, j⟩ ⟨h1, h2, h3, h4⟩
 simp only at h1 h2 h3 h4
 by_cases hij : i < j
 case neg =>
  obtain rfl : i = j := by omega
  have hlow := X7l h2 h3 (fun x hx => by have := h4 i x (Nat.le_refl _) hx; omega)
  have hhas := X7i hr h3 h4
  rw [hlow, hhas]
  have hij' : ¬ (i : Int) < (i : Nat) := by omega
  by_cases hil : i < l.length
  ·have hil' : (i : Int) < (l.map X8).length := by omega
   obtain ⟨x, hx⟩ := Xm (l := l) hil
   have hxc : (l.map X8)[i]? = some (X8 x) := Xr hx
   have hc := X5N x n
   have hd : decide (∃ y, l[i]? = some y ∧ y.id = n) = decide (XK x.id n = 0) := by rw [XaV, hx]; simp
   rw [hd]
   generalize XK x.id n = c at *
   obtain ⟨id, labels, props⟩ := x
   simp only [Yi, X8] at hc hxc
   refine X0 ?_; refine X0 ?_; refine JR ?_; refine Z1 ?_; refine Z1 ?_; refine Z8 ?_; refine JD ?_; refine JF ?_; refine Xo ?_; refine X0 ?_; refine JR ?_; refine Z1 ?_; refine Z1 ?_; refine Z1 ?_
   refine Z8 ?_; refine Z1 ?_; refine Z1 ?_; refine Z1 ?_; refine Z1 ?_; refine Zj ?_; refine ZK ?_; refine Z1 ?_; refine ZG (hcon := hc) ?_; refine Zl ?_; refine Zn ?_; refine Z0 ?_; refine Z0 ?_; refine JD ?_
   first | exact X1 ⟨_, St.le_refl _, ⟨rfl, rfl, trivial⟩, X2 _⟩ | exact X1 ⟨_, St.le_refl _, ⟨⟨rfl, rfl, trivial⟩, trivial⟩, X2 _⟩
  ·have hil' : ¬ (i : Int) < (l.map X8).length := by omega
   have hd : decide (∃ y, l[i]? = some y ∧ y.id = n) = false := by
    refine decide_eq_false ?_
    rintro ⟨y, hy, _⟩
    exact hil (List.getElem?_eq_some_iff.1 hy).1
   rw [hd]
   refine X0 ?_; refine X0 ?_; refine JR ?_; refine Z1 ?_; refine Z1 ?_; refine Z8 ?_; refine JD ?_; refine JF ?_; refine Xo ?_; refine X0 ?_; refine JR ?_; refine Z1 ?_; refine Z1 ?_; refine Z1 ?_
   refine Z8 ?_; refine Z1 ?_; refine Zo ?_; refine Zo ?_; refine Zo ?_; refine Zo ?_; refine Zo ?_; refine Zo ?_; refine Zo ?_; refine Zo ?_; refine Zq ?_; refine Z0 ?_; refine Z0 ?_; refine JD ?_
   first | exact X1 ⟨_, St.le_refl _, ⟨rfl, rfl, trivial⟩, X2 _⟩ | exact X1 ⟨_, St.le_refl _, ⟨⟨rfl, rfl, trivial⟩, trivial⟩, X2 _⟩
 have hij' : (i : Int) < (j : Nat) := by omega
 obtain ⟨x, hx⟩ := Xm (l := l) (k := (i + j) / 2) (by omega)
 have hxc : (l.map X8)[(i + j) / 2]? = some (X8 x) := Xr hx
 have hc := X5N x n
 have e2 : n64 ((i + j) / 2 ^ 1) = n64 ((i + j) / 2) := rfl
 have hid : x.id = x.id := rfl
 by_cases hlt : x.id < n
 ·have hinv : ∀ (k : Nat) (y : Nod), k < (i + j) / 2 + 1 → l[k]? = some y → y.id < n := fun k y hk hy => by
   by_cases e : k = (i + j) / 2
   ·subst e; rw [hx] at hy; injection hy with hy; subst hy; exact hlt
   ·have := hr k ((i + j) / 2) y x hy hx (by omega); omega
  rw [Xa4 hlt] at hc
  obtain ⟨id, labels, props⟩ := x
  simp only [Yi, X8] at hc hxc
  refine X0 ?_; refine X0 ?_; refine JR ?_; refine Z1 ?_; refine Z1 ?_; refine Z8 ?_; refine JD ?_; refine JT ?_; refine X3 ?_; refine X4 ?_; refine X0 ?_; refine JR ?_; refine Z1 ?_
  refine Z1 ?_; refine Z7 (op := .add) (r' := ni (i + j)) (u := ni i) (v := ni j) ?_ (hr := by exact UW (by rw [YC]; omega))
  refine Z3 (u := ni (i + j)) (r := n64 (i + j)) ?_ (hr := by exact X1T rfl rfl (by rw [X4d]; omega))
  refine Z4 (op := .shr) (r' := _) (u := n64 (i + j)) (v := n64 1) ?_ (hr' := by exact e2) (hr := by exact X48 (by decide))
  refine Z3 (u := n64 ((i + j) / 2)) (r := ni ((i + j) / 2)) ?_ (hr := by exact X1T rfl rfl (by rw [YC]; omega)); refine Z0 ?_; refine JD ?_; refine X0 ?_; refine JR ?_; refine Z1 ?_; refine Z1 ?_; refine Z1 ?_
  refine Zj ?_; refine ZK ?_; refine Z1 ?_; refine ZG (hcon := hc) ?_; refine Z8 ?_; refine JD ?_; refine JT ?_; refine JR ?_; refine Z1 ?_; refine Zb ?_; refine Z0 ?_; refine JD ?_
  exact ⟨((i + j) / 2 + 1, j), ⟨by simp only; omega, h2, hinv, h4⟩, by simp only; omega, X7 rfl JM trivial⟩
 ·have hinv : ∀ (k : Nat) (y : Nod), (i + j) / 2 ≤ k → l[k]? = some y → n ≤ y.id := fun k y hk hy => by
   by_cases e : k = (i + j) / 2
   ·subst e; rw [hx] at hy; injection hy with hy; subst hy; omega
   ·have := hr ((i + j) / 2) k x y hx hy (by omega); omega
  have hge := Xa8 hlt
  generalize XK x.id n = c at *
  obtain ⟨id, labels, props⟩ := x
  simp only [Yi, X8] at hc hxc
  refine X0 ?_; refine X0 ?_; refine JR ?_; refine Z1 ?_; refine Z1 ?_; refine Z8 ?_; refine JD ?_; refine JT ?_; refine X3 ?_; refine X4 ?_; refine X0 ?_; refine JR ?_; refine Z1 ?_
  refine Z1 ?_; refine Z7 (op := .add) (r' := ni (i + j)) (u := ni i) (v := ni j) ?_ (hr := by exact UW (by rw [YC]; omega))
  refine Z3 (u := ni (i + j)) (r := n64 (i + j)) ?_ (hr := by exact X1T rfl rfl (by rw [X4d]; omega))
  refine Z4 (op := .shr) (r' := _) (u := n64 (i + j)) (v := n64 1) ?_ (hr' := by exact e2) (hr := by exact X48 (by decide))
  refine Z3 (u := n64 ((i + j) / 2)) (r := ni ((i + j) / 2)) ?_ (hr := by exact X1T rfl rfl (by rw [YC]; omega)); refine Z0 ?_; refine JD ?_; refine X0 ?_; refine JR ?_; refine Z1 ?_; refine Z1 ?_; refine Z1 ?_
  refine Zj ?_; refine ZK ?_; refine Z1 ?_; refine ZG (hcon := hc) ?_; refine Z8 ?_; refine JD ?_; refine JF ?_; refine JR ?_; refine Z1 ?_; refine Z0 ?_; refine JD ?_
  exact ⟨(i, (i + j) / 2), ⟨by simp only; omega, by simp only; omega, h3, hinv⟩, by simp only; omega, X7 rfl JM trivial⟩
theorem X5w (l : List Nod) (n : Int) (hl : l.length ≤ 4294967296) (hr : X0E l) : Con Tryz.prog 97 [] [.d (.sl 3 (l.map X8)), ai n] [] (ab (XA l n)) := by
 refine X9 (xs := [ab (XA l n)]) Tryz.func97 rfl Tryz.ntmps97 rfl rfl rfl (fun E => ?_)
 have hs := X8y l n hl hr
 generalize X1q l n = a at *
 generalize XA l n = b at *
 refine X0 ?_; refine JR ?_; refine Z0 ?_; refine JD ?_; refine X0 ?_; refine JR ?_; refine Z1 ?_; refine Z1 ?_; refine Z9 (hcon := hs) ?_; refine Z1 ?_; refine ZF ?_; refine ZF ?_; refine Z0 ?_; refine Z0 ?_
 refine JD ?_; refine X0 ?_; refine JR ?_; refine Z1 ?_; refine Z0 ?_; refine JD ?_
 exact X1 ⟨_, St.le_refl _, ⟨rfl, trivial⟩, X2 _⟩
theorem X1u {ns : List Nod} {es : List Edg} {nn ne : Int} (h : 2000 < ns.length ∨ 4000 < es.length) : XC ⟨ns, es, nn, ne⟩ = 4 := if_pos h
theorem Vx {ns : List Nod} {es : List Edg} {nn ne : Int} (h1 : ¬ 2000 < ns.length) (h2 : ¬ 4000 < es.length) (h : nn < 1 ∨ 1000001 < nn ∨ ne < 1 ∨ 1000001 < ne) : XC ⟨ns, es, nn, ne⟩ = 1 := by
 unfold XC
 simp only
 rw [if_neg (fun q => q.elim h1 h2), if_pos h]
theorem X68 {ns : List Nod} {es : List Edg} {nn ne : Int} (h1 : ¬ 2000 < ns.length) (h2 : ¬ 4000 < es.length) (a1 : ¬ nn < 1) (a2 : ¬ 1000001 < nn) (a3 : ¬ ne < 1) (a4 : ¬ 1000001 < ne) :
  XC ⟨ns, es, nn, ne⟩ = if XZ nn none ns ≠ 0 then XZ nn none ns else YG ns ne none es := by
 unfold XC
 simp only
 rw [if_neg (fun q => q.elim h1 h2), if_neg (by omega)]
theorem X5b (g : Gra) (hok : GraHold g) : Con Tryz.prog 41 [] [Xp g] [] (ai (XC g)) := by
 obtain ⟨ns, es, nn, ne⟩ := g
 obtain ⟨hnl, hel, hnh, heh⟩ := hok
 simp only at hnl hel hnh heh
 unfold Xp
 simp only
 refine X9 (xs := [ai (XC ⟨ns, es, nn, ne⟩)]) Tryz.func41 rfl Tryz.ntmps41 rfl rfl rfl (fun E => ?_)
 have hlm : (ns.map X8).length = ns.length := by simp
 have hle : (es.map Xi).length = es.length := by simp
 by_cases h1 : 2000 < ns.length
 ·rw [X1u (.inl h1)]
  have h1' : (2000 : Int) < (ns.map X8).length := by omega
  refine X0 ?_; refine JR ?_; refine ZA (γ := 100) ?_; refine Z0 ?_; refine JD ?_; refine X0 ?_; refine X0 ?_; refine JR ?_; refine ZB ?_; refine ZC ?_; refine Zd ?_; refine Zs ?_; refine Z1 ?_; refine Zo ?_
  refine Zo ?_; refine Zo ?_; refine Zo ?_; refine Zn ?_; refine JD ?_; refine JT ?_; refine X0 ?_; refine JR ?_; refine Z0 ?_; refine JD ?_
  exact X1 ⟨_, St.le_refl _, ⟨rfl, trivial⟩, X2 _⟩
 have h1' : ¬ (2000 : Int) < (ns.map X8).length := by omega
 by_cases h2 : 4000 < es.length
 ·rw [X1u (.inr h2)]
  have h2' : (4000 : Int) < (es.map Xi).length := by omega
  refine X0 ?_; refine JR ?_; refine ZA (γ := 100) ?_; refine Z0 ?_; refine JD ?_; refine X0 ?_; refine X0 ?_; refine JR ?_; refine ZB ?_; refine ZC ?_; refine Zd ?_; refine Zs ?_; refine Z1 ?_; refine ZB ?_
  refine ZC ?_; refine Zd ?_; refine Zs ?_; refine Zq ?_; refine JD ?_; refine JT ?_; refine X0 ?_; refine JR ?_; refine Z0 ?_; refine JD ?_
  exact X1 ⟨_, St.le_refl _, ⟨rfl, trivial⟩, X2 _⟩
 have h2' : ¬ (4000 : Int) < (es.map Xi).length := by omega
 by_cases a1 : nn < 1
 ·rw [Vx h1 h2 (.inl a1)]
  refine X0 ?_; refine JR ?_; refine ZA (γ := 100) ?_; refine Z0 ?_; refine JD ?_; refine X0 ?_; refine X0 ?_; refine JR ?_; refine ZB ?_; refine ZC ?_; refine Zd ?_; refine Zs ?_; refine Z1 ?_; refine ZB ?_
  refine ZC ?_; refine Zd ?_; refine Zs ?_; refine Zq ?_; refine JD ?_; refine JF ?_; refine X3 ?_; refine X0 ?_; refine X0 ?_; refine JR ?_; refine ZB ?_; refine ZC ?_; refine Z8 ?_; refine Z1 ?_
  refine Zo ?_; refine Zo ?_; refine Zo ?_; refine Zn ?_; refine Z1 ?_; refine Zo ?_; refine Zo ?_; refine Zo ?_; refine Zn ?_; refine Z1 ?_; refine Zo ?_; refine Zo ?_; refine Zo ?_; refine Zn ?_; refine JD ?_
  refine JT ?_; refine X0 ?_; refine JR ?_; refine Z0 ?_; refine JD ?_
  exact X1 ⟨_, St.le_refl _, ⟨rfl, trivial⟩, X2 _⟩
 by_cases a2 : 1000001 < nn
 ·rw [Vx h1 h2 (.inr (.inl a2))]
  refine X0 ?_; refine JR ?_; refine ZA (γ := 100) ?_; refine Z0 ?_; refine JD ?_; refine X0 ?_; refine X0 ?_; refine JR ?_; refine ZB ?_; refine ZC ?_; refine Zd ?_; refine Zs ?_; refine Z1 ?_; refine ZB ?_
  refine ZC ?_; refine Zd ?_; refine Zs ?_; refine Zq ?_; refine JD ?_; refine JF ?_; refine X3 ?_; refine X0 ?_; refine X0 ?_; refine JR ?_; refine ZB ?_; refine ZC ?_; refine Z8 ?_; refine Z1 ?_
  refine ZB ?_; refine ZC ?_; refine Zs ?_; refine Zq ?_; refine Z1 ?_; refine Zo ?_; refine Zo ?_; refine Zo ?_; refine Zn ?_; refine Z1 ?_; refine Zo ?_; refine Zo ?_; refine Zo ?_; refine Zn ?_; refine JD ?_
  refine JT ?_; refine X0 ?_; refine JR ?_; refine Z0 ?_; refine JD ?_
  exact X1 ⟨_, St.le_refl _, ⟨rfl, trivial⟩, X2 _⟩
 by_cases a3 : ne < 1
 ·rw [Vx h1 h2 (.inr (.inr (.inl a3)))]
  refine X0 ?_; refine JR ?_; refine ZA (γ := 100) ?_; refine Z0 ?_; refine JD ?_; refine X0 ?_; refine X0 ?_; refine JR ?_; refine ZB ?_; refine ZC ?_; refine Zd ?_; refine Zs ?_; refine Z1 ?_; refine ZB ?_
  refine ZC ?_; refine Zd ?_; refine Zs ?_; refine Zq ?_; refine JD ?_; refine JF ?_; refine X3 ?_; refine X0 ?_; refine X0 ?_; refine JR ?_; refine ZB ?_; refine ZC ?_; refine Z8 ?_; refine Z1 ?_
  refine ZB ?_; refine ZC ?_; refine Zs ?_; refine Zq ?_; refine Z1 ?_; refine ZB ?_; refine ZC ?_; refine Z8 ?_; refine Zq ?_; refine Z1 ?_; refine Zo ?_; refine Zo ?_; refine Zo ?_; refine Zn ?_; refine JD ?_
  refine JT ?_; refine X0 ?_; refine JR ?_; refine Z0 ?_; refine JD ?_
  exact X1 ⟨_, St.le_refl _, ⟨rfl, trivial⟩, X2 _⟩
 by_cases a4 : 1000001 < ne
 ·rw [Vx h1 h2 (.inr (.inr (.inr a4)))]
  refine X0 ?_; refine JR ?_; refine ZA (γ := 100) ?_; refine Z0 ?_; refine JD ?_; refine X0 ?_; refine X0 ?_; refine JR ?_; refine ZB ?_; refine ZC ?_; refine Zd ?_; refine Zs ?_; refine Z1 ?_; refine ZB ?_
  refine ZC ?_; refine Zd ?_; refine Zs ?_; refine Zq ?_; refine JD ?_; refine JF ?_; refine X3 ?_; refine X0 ?_; refine X0 ?_; refine JR ?_; refine ZB ?_; refine ZC ?_; refine Z8 ?_; refine Z1 ?_
  refine ZB ?_; refine ZC ?_; refine Zs ?_; refine Zq ?_; refine Z1 ?_; refine ZB ?_; refine ZC ?_; refine Z8 ?_; refine Zq ?_; refine Z1 ?_; refine ZB ?_; refine ZC ?_; refine Zs ?_; refine Zq ?_; refine JD ?_
  refine JT ?_; refine X0 ?_; refine JR ?_; refine Z0 ?_; refine JD ?_
  exact X1 ⟨_, St.le_refl _, ⟨rfl, trivial⟩, X2 _⟩
 rw [X68 h1 h2 a1 a2 a3 a4]
 generalize hN : XZ nn none ns = N
 generalize hM : YG ns ne none es = M
 refine X0 ?_; refine JR ?_; refine ZA (γ := 100) ?_; refine Z0 ?_; refine JD ?_; refine X0 ?_; refine X0 ?_; refine JR ?_; refine ZB ?_; refine ZC ?_; refine Zd ?_; refine Zs ?_; refine Z1 ?_; refine ZB ?_
 refine ZC ?_; refine Zd ?_; refine Zs ?_; refine Zq ?_; refine JD ?_; refine JF ?_; refine X3 ?_; refine X0 ?_; refine X0 ?_; refine JR ?_; refine ZB ?_; refine ZC ?_; refine Z8 ?_; refine Z1 ?_
 refine ZB ?_; refine ZC ?_; refine Zs ?_; refine Zq ?_; refine Z1 ?_; refine ZB ?_; refine ZC ?_; refine Z8 ?_; refine Zq ?_; refine Z1 ?_; refine ZB ?_; refine ZC ?_; refine Zs ?_; refine Zq ?_; refine JD ?_
 refine JF ?_; refine X3 ?_; refine X0 ?_; refine X0 ?_; refine JR ?_; refine ZB ?_; refine ZC ?_; refine Zd ?_; refine Z1 ?_; refine JD ?_; refine X4 ?_
 refine Xs (fun i : Nat => i ≤ ns.length ∧ XZ nn (XN ns i) (ns.drop i) = N) (fun i => ⟨135, [(1, .ptr 100 0), (38, .d (.sl 3 (ns.map X8))), (39, ai (ns.map X8).length), (40, ai i)], [(100, .box [.d (.sl 3 (ns.map X8)), .d (.sl 5 (es.map Xi)), ai nn, ai ne])]⟩) (fun i => ns.length - i) 0 ⟨Nat.zero_le _, by simpa [XN] using hN⟩
  (X7 rfl JM ⟨rfl, trivial⟩) ?_
 rintro i ⟨hi, hg⟩
 by_cases hil : i < ns.length
 case pos =>
  have hn : (i : Int) < (ns.map X8).length := by omega
  obtain ⟨x, hx⟩ := Xm (l := ns) hil
  have hxc : (ns.map X8)[i]? = some (X8 x) := Xr hx
  have hxh := hnh x (List.mem_of_getElem? hx)
  have hpc := X3P x.labels x.props hxh.1 hxh.2.2.2
  rw [X3C hx] at hg
  clear hxh
  by_cases h0 : i = 0
  ·subst h0
   rw [X5R] at hg
   obtain ⟨id, labels, props⟩ := x
   simp only [X8] at hxc hpc hg
   by_cases q2 : id < 1
   ·rw [if_pos (show id < 1 ∨ nn ≤ id from .inl q2), if_pos (by decide)] at hg
    subst hg
    rw [if_pos (by decide)]
    refine X0 ?_; refine JR ?_; refine Z8 ?_; refine JD ?_; refine X0 ?_; refine JT ?_; refine X3 ?_; refine X0 ?_; refine X4 ?_; refine X0 ?_; refine JR ?_; refine Z1 ?_; refine Zj ?_
    refine ZK ?_; refine Zw (γ := 101) ?_; refine Z0 ?_; refine Zy ?_; refine JD ?_; refine X0 ?_; refine X0 ?_; refine JR ?_; refine Z1 ?_; refine Zs ?_; refine Z1 ?_; refine Zo ?_; refine Zo ?_; refine Zo ?_
    refine Zo ?_; refine Zo ?_; refine Zo ?_; refine Zo ?_; refine Zo ?_; refine Zo ?_; refine Zo ?_; refine Zq ?_; refine JD ?_; refine JF ?_; refine X3 ?_; refine X0 ?_; refine X0 ?_; refine JR ?_
    refine ZB ?_; refine ZC ?_; refine Z8 ?_; refine Z1 ?_; refine Zo ?_; refine Zo ?_; refine Zo ?_; refine Zo ?_; refine Zo ?_; refine Zn ?_; refine JD ?_; refine JT ?_; refine X0 ?_; refine JR ?_; refine Z0 ?_
    refine JD ?_
    exact X1 ⟨_, St.le_refl _, ⟨rfl, trivial⟩, X2 _⟩
   by_cases q3 : nn ≤ id
   ·rw [if_pos (show id < 1 ∨ nn ≤ id from .inr q3), if_pos (by decide)] at hg
    subst hg
    rw [if_pos (by decide)]
    refine X0 ?_; refine JR ?_; refine Z8 ?_; refine JD ?_; refine X0 ?_; refine JT ?_; refine X3 ?_; refine X0 ?_; refine X4 ?_; refine X0 ?_; refine JR ?_; refine Z1 ?_; refine Zj ?_
    refine ZK ?_; refine Zw (γ := 101) ?_; refine Z0 ?_; refine Zy ?_; refine JD ?_; refine X0 ?_; refine X0 ?_; refine JR ?_; refine Z1 ?_; refine Zs ?_; refine Z1 ?_; refine Zo ?_; refine Zo ?_; refine Zo ?_
    refine Zo ?_; refine Zo ?_; refine Zo ?_; refine Zo ?_; refine Zo ?_; refine Zo ?_; refine Zo ?_; refine Zq ?_; refine JD ?_; refine JF ?_; refine X3 ?_; refine X0 ?_; refine X0 ?_; refine JR ?_
    refine ZB ?_; refine ZC ?_; refine Z8 ?_; refine Z1 ?_; refine ZB ?_; refine ZC ?_; refine ZB ?_; refine ZC ?_; refine Z2 ?_; refine Zq ?_; refine JD ?_; refine JT ?_; refine X0 ?_; refine JR ?_; refine Z0 ?_
    refine JD ?_
    exact X1 ⟨_, St.le_refl _, ⟨rfl, trivial⟩, X2 _⟩
   rw [if_neg (show ¬ (id < 1 ∨ nn ≤ id) from fun h => h.elim q2 q3)] at hg
   generalize Ya labels props = e at *
   by_cases he : e = 0
   ·subst he
    rw [if_neg (by simp)] at hg
    refine X0 ?_; refine JR ?_; refine Z8 ?_; refine JD ?_; refine X0 ?_; refine JT ?_; refine X3 ?_; refine X0 ?_; refine X4 ?_; refine X0 ?_; refine JR ?_; refine Z1 ?_; refine Zj ?_
    refine ZK ?_; refine Zw (γ := 101) ?_; refine Z0 ?_; refine Zy ?_; refine JD ?_; refine X0 ?_; refine X0 ?_; refine JR ?_; refine Z1 ?_; refine Zs ?_; refine Z1 ?_; refine Zo ?_; refine Zo ?_; refine Zo ?_
    refine Zo ?_; refine Zo ?_; refine Zo ?_; refine Zo ?_; refine Zo ?_; refine Zo ?_; refine Zo ?_; refine Zq ?_; refine JD ?_; refine JF ?_; refine X3 ?_; refine X0 ?_; refine X0 ?_; refine JR ?_
    refine ZB ?_; refine ZC ?_; refine Z8 ?_; refine Z1 ?_; refine ZB ?_; refine ZC ?_; refine ZB ?_; refine ZC ?_; refine Z2 ?_; refine Zq ?_; refine JD ?_; refine JF ?_; refine X3 ?_; refine X0 ?_; refine JR ?_
    refine ZB ?_; refine ZC ?_; refine ZB ?_; refine ZC ?_; refine Z9 (hcon := hpc) ?_; refine Z0 ?_; refine JD ?_; refine X0 ?_; refine JR ?_; refine Z1 ?_; refine Zv ?_; refine JD ?_; refine JF ?_; refine X3 ?_
    refine JR ?_; refine Zb ?_; refine Z1 ?_; refine JD ?_
    exact ⟨0 + 1, ⟨by omega, hg⟩, by omega, X7 rfl JM ⟨rfl, trivial⟩⟩
   ·rw [if_pos he] at hg
    subst hg
    rw [if_pos he]
    refine X0 ?_; refine JR ?_; refine Z8 ?_; refine JD ?_; refine X0 ?_; refine JT ?_; refine X3 ?_; refine X0 ?_; refine X4 ?_; refine X0 ?_; refine JR ?_; refine Z1 ?_; refine Zj ?_
    refine ZK ?_; refine Zw (γ := 101) ?_; refine Z0 ?_; refine Zy ?_; refine JD ?_; refine X0 ?_; refine X0 ?_; refine JR ?_; refine Z1 ?_; refine Zs ?_; refine Z1 ?_; refine Zo ?_; refine Zo ?_; refine Zo ?_
    refine Zo ?_; refine Zo ?_; refine Zo ?_; refine Zo ?_; refine Zo ?_; refine Zo ?_; refine Zo ?_; refine Zq ?_; refine JD ?_; refine JF ?_; refine X3 ?_; refine X0 ?_; refine X0 ?_; refine JR ?_
    refine ZB ?_; refine ZC ?_; refine Z8 ?_; refine Z1 ?_; refine ZB ?_; refine ZC ?_; refine ZB ?_; refine ZC ?_; refine Z2 ?_; refine Zq ?_; refine JD ?_; refine JF ?_; refine X3 ?_; refine X0 ?_; refine JR ?_
    refine ZB ?_; refine ZC ?_; refine ZB ?_; refine ZC ?_; refine Z9 (hcon := hpc) ?_; refine Z0 ?_; refine JD ?_; refine X0 ?_; refine JR ?_; refine Z1 ?_; refine Zv ?_; refine JD ?_; refine JT ?_; refine X0 ?_
    refine JR ?_; refine Z1 ?_; refine Z0 ?_; refine JD ?_
    exact X1 ⟨_, St.le_refl _, ⟨rfl, trivial⟩, X2 _⟩
  ·obtain ⟨j, rfl⟩ : ∃ j, i = j + 1 := ⟨i - 1, by omega⟩
   obtain ⟨p, hp⟩ := Xm (l := ns) (k := j) (by omega)
   have hpp : (ns.map X8)[j]? = some (X8 p) := Xr hp
   rw [X66 hp] at hg
   clear hp
   obtain ⟨id, labels, props⟩ := x
   obtain ⟨pid, plabels, pprops⟩ := p
   simp only [X8] at hxc hpc hg hpp
   by_cases q1 : id ≤ pid
   ·rw [if_pos q1, if_pos (by decide)] at hg
    subst hg
    rw [if_pos (by decide)]
    refine X0 ?_; refine JR ?_; refine Z8 ?_; refine JD ?_; refine X0 ?_; refine JT ?_; refine X3 ?_; refine X0 ?_; refine X4 ?_; refine X0 ?_; refine JR ?_; refine Z1 ?_; refine Zj ?_
    refine ZK ?_; refine Zw (γ := 101) ?_; refine Z0 ?_; refine Zy ?_; refine JD ?_; refine X0 ?_; refine X0 ?_; refine JR ?_; refine Z1 ?_; refine Zs ?_; refine Z1 ?_; refine ZB ?_; refine ZC ?_; refine ZB ?_
    refine ZC ?_; refine Z1 ?_
    refine Z4 (op := .sub) (r' := .int .i64 ((j : Nat) : Int)) (u := .int .i64 ((j + 1 : Nat) : Int)) (v := .int .i64 1) ?_ (hr' := by exact congrArg (Value.int .i64) (show (((j + 1 : Nat) : Int) - 1) = (j : Int) by omega)) (hr := by exact XH (by unfold Xy; omega))
    refine Zj ?_; refine ZN ?_; refine Zk ?_; refine Zm ?_; refine Zn ?_; refine JD ?_; refine JT ?_; refine X0 ?_; refine JR ?_; refine Z0 ?_; refine JD ?_
    exact X1 ⟨_, St.le_refl _, ⟨rfl, trivial⟩, X2 _⟩
   rw [if_neg q1] at hg
   by_cases q2 : id < 1
   ·rw [if_pos (show id < 1 ∨ nn ≤ id from .inl q2), if_pos (by decide)] at hg
    subst hg
    rw [if_pos (by decide)]
    refine X0 ?_; refine JR ?_; refine Z8 ?_; refine JD ?_; refine X0 ?_; refine JT ?_; refine X3 ?_; refine X0 ?_; refine X4 ?_; refine X0 ?_; refine JR ?_; refine Z1 ?_; refine Zj ?_
    refine ZK ?_; refine Zw (γ := 101) ?_; refine Z0 ?_; refine Zy ?_; refine JD ?_; refine X0 ?_; refine X0 ?_; refine JR ?_; refine Z1 ?_; refine Zs ?_; refine Z1 ?_; refine ZB ?_; refine ZC ?_; refine ZB ?_
    refine ZC ?_; refine Z1 ?_
    refine Z4 (op := .sub) (r' := .int .i64 ((j : Nat) : Int)) (u := .int .i64 ((j + 1 : Nat) : Int)) (v := .int .i64 1) ?_ (hr' := by exact congrArg (Value.int .i64) (show (((j + 1 : Nat) : Int) - 1) = (j : Int) by omega)) (hr := by exact XH (by unfold Xy; omega))
    refine Zj ?_; refine ZN ?_; refine Zk ?_; refine Zm ?_; refine Zn ?_; refine JD ?_; refine JF ?_; refine X3 ?_; refine X0 ?_; refine X0 ?_; refine JR ?_; refine ZB ?_; refine ZC ?_; refine Z8 ?_
    refine Z1 ?_; refine Zo ?_; refine Zo ?_; refine Zo ?_; refine Zo ?_; refine Zo ?_; refine Zn ?_; refine JD ?_; refine JT ?_; refine X0 ?_; refine JR ?_; refine Z0 ?_; refine JD ?_
    exact X1 ⟨_, St.le_refl _, ⟨rfl, trivial⟩, X2 _⟩
   by_cases q3 : nn ≤ id
   ·rw [if_pos (show id < 1 ∨ nn ≤ id from .inr q3), if_pos (by decide)] at hg
    subst hg
    rw [if_pos (by decide)]
    refine X0 ?_; refine JR ?_; refine Z8 ?_; refine JD ?_; refine X0 ?_; refine JT ?_; refine X3 ?_; refine X0 ?_; refine X4 ?_; refine X0 ?_; refine JR ?_; refine Z1 ?_; refine Zj ?_
    refine ZK ?_; refine Zw (γ := 101) ?_; refine Z0 ?_; refine Zy ?_; refine JD ?_; refine X0 ?_; refine X0 ?_; refine JR ?_; refine Z1 ?_; refine Zs ?_; refine Z1 ?_; refine ZB ?_; refine ZC ?_; refine ZB ?_
    refine ZC ?_; refine Z1 ?_
    refine Z4 (op := .sub) (r' := .int .i64 ((j : Nat) : Int)) (u := .int .i64 ((j + 1 : Nat) : Int)) (v := .int .i64 1) ?_ (hr' := by exact congrArg (Value.int .i64) (show (((j + 1 : Nat) : Int) - 1) = (j : Int) by omega)) (hr := by exact XH (by unfold Xy; omega))
    refine Zj ?_; refine ZN ?_; refine Zk ?_; refine Zm ?_; refine Zn ?_; refine JD ?_; refine JF ?_; refine X3 ?_; refine X0 ?_; refine X0 ?_; refine JR ?_; refine ZB ?_; refine ZC ?_; refine Z8 ?_
    refine Z1 ?_; refine ZB ?_; refine ZC ?_; refine ZB ?_; refine ZC ?_; refine Z2 ?_; refine Zq ?_; refine JD ?_; refine JT ?_; refine X0 ?_; refine JR ?_; refine Z0 ?_; refine JD ?_
    exact X1 ⟨_, St.le_refl _, ⟨rfl, trivial⟩, X2 _⟩
   rw [if_neg (show ¬ (id < 1 ∨ nn ≤ id) from fun h => h.elim q2 q3)] at hg
   generalize Ya labels props = e at *
   by_cases he : e = 0
   ·subst he
    rw [if_neg (by simp)] at hg
    refine X0 ?_; refine JR ?_; refine Z8 ?_; refine JD ?_; refine X0 ?_; refine JT ?_; refine X3 ?_; refine X0 ?_; refine X4 ?_; refine X0 ?_; refine JR ?_; refine Z1 ?_; refine Zj ?_
    refine ZK ?_; refine Zw (γ := 101) ?_; refine Z0 ?_; refine Zy ?_; refine JD ?_; refine X0 ?_; refine X0 ?_; refine JR ?_; refine Z1 ?_; refine Zs ?_; refine Z1 ?_; refine ZB ?_; refine ZC ?_; refine ZB ?_
    refine ZC ?_; refine Z1 ?_
    refine Z4 (op := .sub) (r' := .int .i64 ((j : Nat) : Int)) (u := .int .i64 ((j + 1 : Nat) : Int)) (v := .int .i64 1) ?_ (hr' := by exact congrArg (Value.int .i64) (show (((j + 1 : Nat) : Int) - 1) = (j : Int) by omega)) (hr := by exact XH (by unfold Xy; omega))
    refine Zj ?_; refine ZN ?_; refine Zk ?_; refine Zm ?_; refine Zn ?_; refine JD ?_; refine JF ?_; refine X3 ?_; refine X0 ?_; refine X0 ?_; refine JR ?_; refine ZB ?_; refine ZC ?_; refine Z8 ?_
    refine Z1 ?_; refine ZB ?_; refine ZC ?_; refine ZB ?_; refine ZC ?_; refine Z2 ?_; refine Zq ?_; refine JD ?_; refine JF ?_; refine X3 ?_; refine X0 ?_; refine JR ?_; refine ZB ?_; refine ZC ?_; refine ZB ?_
    refine ZC ?_; refine Z9 (hcon := hpc) ?_; refine Z0 ?_; refine JD ?_; refine X0 ?_; refine JR ?_; refine Z1 ?_; refine Zv ?_; refine JD ?_; refine JF ?_; refine X3 ?_; refine JR ?_; refine Zb ?_; refine Z1 ?_
    refine JD ?_
    exact ⟨j + 1 + 1, ⟨by omega, hg⟩, by omega, X7 rfl JM ⟨rfl, trivial⟩⟩
   ·rw [if_pos he] at hg
    subst hg
    rw [if_pos he]
    refine X0 ?_; refine JR ?_; refine Z8 ?_; refine JD ?_; refine X0 ?_; refine JT ?_; refine X3 ?_; refine X0 ?_; refine X4 ?_; refine X0 ?_; refine JR ?_; refine Z1 ?_; refine Zj ?_
    refine ZK ?_; refine Zw (γ := 101) ?_; refine Z0 ?_; refine Zy ?_; refine JD ?_; refine X0 ?_; refine X0 ?_; refine JR ?_; refine Z1 ?_; refine Zs ?_; refine Z1 ?_; refine ZB ?_; refine ZC ?_; refine ZB ?_
    refine ZC ?_; refine Z1 ?_
    refine Z4 (op := .sub) (r' := .int .i64 ((j : Nat) : Int)) (u := .int .i64 ((j + 1 : Nat) : Int)) (v := .int .i64 1) ?_ (hr' := by exact congrArg (Value.int .i64) (show (((j + 1 : Nat) : Int) - 1) = (j : Int) by omega)) (hr := by exact XH (by unfold Xy; omega))
    refine Zj ?_; refine ZN ?_; refine Zk ?_; refine Zm ?_; refine Zn ?_; refine JD ?_; refine JF ?_; refine X3 ?_; refine X0 ?_; refine X0 ?_; refine JR ?_; refine ZB ?_; refine ZC ?_; refine Z8 ?_
    refine Z1 ?_; refine ZB ?_; refine ZC ?_; refine ZB ?_; refine ZC ?_; refine Z2 ?_; refine Zq ?_; refine JD ?_; refine JF ?_; refine X3 ?_; refine X0 ?_; refine JR ?_; refine ZB ?_; refine ZC ?_; refine ZB ?_
    refine ZC ?_; refine Z9 (hcon := hpc) ?_; refine Z0 ?_; refine JD ?_; refine X0 ?_; refine JR ?_; refine Z1 ?_; refine Zv ?_; refine JD ?_; refine JT ?_; refine X0 ?_; refine JR ?_; refine Z1 ?_; refine Z0 ?_
    refine JD ?_
    exact X1 ⟨_, St.le_refl _, ⟨rfl, trivial⟩, X2 _⟩
 obtain rfl : i = ns.length := by omega
 have hn : ¬ ((ns.length : Nat) : Int) < (ns.map X8).length := by omega
 rw [List.drop_length, XZ] at hg
 subst hg
 rw [if_neg (by simp)]
 have hris := (X35 ns none hN).2
 refine X0 ?_; refine JR ?_; refine Z8 ?_; refine JD ?_; refine X0 ?_; refine JF ?_; refine Xo ?_; refine X0 ?_; refine X0 ?_; refine JR ?_; refine ZB ?_; refine ZC ?_; refine Zd ?_; refine Z1 ?_
 refine JD ?_; refine X4 ?_
 refine Xs (fun i : Nat => i ≤ es.length ∧ YG ns ne (XN es i) (es.drop i) = M) (fun i => ⟨135, [(1, .ptr 100 0), (79, .d (.sl 5 (es.map Xi))), (80, ai (es.map Xi).length), (81, ai i)], [(100, .box [.d (.sl 3 (ns.map X8)), .d (.sl 5 (es.map Xi)), ai nn, ai ne])]⟩) (fun i => es.length - i) 0 ⟨Nat.zero_le _, by simpa [XN] using hM⟩
  (X7 rfl JM ⟨rfl, trivial⟩) ?_
 clear hi hil hn
 rintro i ⟨hi, hg⟩
 by_cases hil : i < es.length
 case neg =>
  obtain rfl : i = es.length := by omega
  have hn : ¬ ((es.length : Nat) : Int) < (es.map Xi).length := by omega
  rw [List.drop_length, YG] at hg
  subst hg
  refine X0 ?_; refine JR ?_; refine Z8 ?_; refine JD ?_; refine X0 ?_; refine JF ?_; refine Xo ?_; refine X0 ?_; refine JR ?_; refine Z0 ?_; refine JD ?_
  exact X1 ⟨_, St.le_refl _, ⟨rfl, trivial⟩, X2 _⟩
 have hn : (i : Int) < (es.map Xi).length := by omega
 obtain ⟨x, hx⟩ := Xm (l := es) hil
 have hxc : (es.map Xi)[i]? = some (Xi x) := Xr hx
 have hxh := heh x (List.mem_of_getElem? hx)
 have hpc := X3P [] x.props (by simp) hxh.2.2
 have hs1 := X5w ns x.src (by omega) hris
 have hs2 := X5w ns x.dst (by omega) hris
 have hnm := X09 x.typ
 rw [X3A hx] at hg
 clear hxh
 by_cases h0 : i = 0
 ·subst h0
  rw [X5Y] at hg
  obtain ⟨id, src, dst, typ, props⟩ := x
  simp only [Xi] at hxc hpc hg hs1 hs2 hnm
  simp only [List.map_nil] at hpc
  generalize XA ns src = b1 at *
  generalize XA ns dst = b2 at *
  generalize Xj typ = b3 at *
  generalize Ya [] props = e at *
  by_cases q2 : id < 1
  ·rw [if_pos (show id < 1 ∨ ne ≤ id from .inl q2), if_pos (by decide)] at hg
   subst hg
   refine X0 ?_; refine JR ?_; refine Z8 ?_; refine JD ?_; refine X0 ?_; refine JT ?_; refine X3 ?_; refine X0 ?_; refine X4 ?_; refine X0 ?_; refine JR ?_; refine Z1 ?_; refine Zj ?_
   refine ZK ?_; refine Zw (γ := 101) ?_; refine Z0 ?_; refine Zy ?_; refine JD ?_; refine X0 ?_; refine X0 ?_; refine JR ?_; refine Z1 ?_; refine Zs ?_; refine Z1 ?_; refine Zo ?_; refine Zo ?_; refine Zo ?_
   refine Zo ?_; refine Zo ?_; refine Zo ?_; refine Zo ?_; refine Zo ?_; refine Zo ?_; refine Zo ?_; refine Zq ?_; refine JD ?_; refine JF ?_; refine X3 ?_; refine X0 ?_; refine X0 ?_; refine JR ?_
   refine ZB ?_; refine ZC ?_; refine Z8 ?_; refine Z1 ?_; refine Zo ?_; refine Zo ?_; refine Zo ?_; refine Zo ?_; refine Zo ?_; refine Zn ?_; refine JD ?_; refine JT ?_; refine X0 ?_; refine JR ?_; refine Z0 ?_
   refine JD ?_
   exact X1 ⟨_, St.le_refl _, ⟨rfl, trivial⟩, X2 _⟩
  by_cases q3 : ne ≤ id
  ·rw [if_pos (show id < 1 ∨ ne ≤ id from .inr q3), if_pos (by decide)] at hg
   subst hg
   refine X0 ?_; refine JR ?_; refine Z8 ?_; refine JD ?_; refine X0 ?_; refine JT ?_; refine X3 ?_; refine X0 ?_; refine X4 ?_; refine X0 ?_; refine JR ?_; refine Z1 ?_; refine Zj ?_
   refine ZK ?_; refine Zw (γ := 101) ?_; refine Z0 ?_; refine Zy ?_; refine JD ?_; refine X0 ?_; refine X0 ?_; refine JR ?_; refine Z1 ?_; refine Zs ?_; refine Z1 ?_; refine Zo ?_; refine Zo ?_; refine Zo ?_
   refine Zo ?_; refine Zo ?_; refine Zo ?_; refine Zo ?_; refine Zo ?_; refine Zo ?_; refine Zo ?_; refine Zq ?_; refine JD ?_; refine JF ?_; refine X3 ?_; refine X0 ?_; refine X0 ?_; refine JR ?_
   refine ZB ?_; refine ZC ?_; refine Z8 ?_; refine Z1 ?_; refine ZB ?_; refine ZC ?_; refine ZB ?_; refine ZC ?_; refine Z2 ?_; refine Zq ?_; refine JD ?_; refine JT ?_; refine X0 ?_; refine JR ?_; refine Z0 ?_
   refine JD ?_
   exact X1 ⟨_, St.le_refl _, ⟨rfl, trivial⟩, X2 _⟩
  rw [if_neg (show ¬ (id < 1 ∨ ne ≤ id) from fun h => h.elim q2 q3)] at hg
  cases b1 with
  | false =>
   rw [if_pos (show false = false ∨ b2 = false from .inl rfl), if_pos (by decide)] at hg
   subst hg
   refine X0 ?_; refine JR ?_; refine Z8 ?_; refine JD ?_; refine X0 ?_; refine JT ?_; refine X3 ?_; refine X0 ?_; refine X4 ?_; refine X0 ?_; refine JR ?_; refine Z1 ?_; refine Zj ?_
   refine ZK ?_; refine Zw (γ := 101) ?_; refine Z0 ?_; refine Zy ?_; refine JD ?_; refine X0 ?_; refine X0 ?_; refine JR ?_; refine Z1 ?_; refine Zs ?_; refine Z1 ?_; refine Zo ?_; refine Zo ?_; refine Zo ?_
   refine Zo ?_; refine Zo ?_; refine Zo ?_; refine Zo ?_; refine Zo ?_; refine Zo ?_; refine Zo ?_; refine Zq ?_; refine JD ?_; refine JF ?_; refine X3 ?_; refine X0 ?_; refine X0 ?_; refine JR ?_
   refine ZB ?_; refine ZC ?_; refine Z8 ?_; refine Z1 ?_; refine ZB ?_; refine ZC ?_; refine ZB ?_; refine ZC ?_; refine Z2 ?_; refine Zq ?_; refine JD ?_; refine JF ?_; refine X3 ?_; refine X0 ?_
   refine X0 ?_; refine JR ?_; refine ZB ?_; refine ZC ?_; refine ZB ?_; refine ZC ?_; refine Z9 (hcon := hs1) ?_; refine Zu ?_; refine Z1 ?_; refine Zo ?_; refine Zo ?_; refine Zo ?_; refine Zo ?_; refine Zo ?_
   refine Zo ?_; refine Zn ?_; refine JD ?_; refine JT ?_; refine X0 ?_; refine JR ?_; refine Z0 ?_; refine JD ?_
   exact X1 ⟨_, St.le_refl _, ⟨rfl, trivial⟩, X2 _⟩
  | true =>
   cases b2 with
   | false =>
    rw [if_pos (show true = false ∨ false = false from .inr rfl), if_pos (by decide)] at hg
    subst hg
    refine X0 ?_; refine JR ?_; refine Z8 ?_; refine JD ?_; refine X0 ?_; refine JT ?_; refine X3 ?_; refine X0 ?_; refine X4 ?_; refine X0 ?_; refine JR ?_; refine Z1 ?_; refine Zj ?_
    refine ZK ?_; refine Zw (γ := 101) ?_; refine Z0 ?_; refine Zy ?_; refine JD ?_; refine X0 ?_; refine X0 ?_; refine JR ?_; refine Z1 ?_; refine Zs ?_; refine Z1 ?_; refine Zo ?_; refine Zo ?_; refine Zo ?_
    refine Zo ?_; refine Zo ?_; refine Zo ?_; refine Zo ?_; refine Zo ?_; refine Zo ?_; refine Zo ?_; refine Zq ?_; refine JD ?_; refine JF ?_; refine X3 ?_; refine X0 ?_; refine X0 ?_; refine JR ?_
    refine ZB ?_; refine ZC ?_; refine Z8 ?_; refine Z1 ?_; refine ZB ?_; refine ZC ?_; refine ZB ?_; refine ZC ?_; refine Z2 ?_; refine Zq ?_; refine JD ?_; refine JF ?_; refine X3 ?_; refine X0 ?_
    refine X0 ?_; refine JR ?_; refine ZB ?_; refine ZC ?_; refine ZB ?_; refine ZC ?_; refine Z9 (hcon := hs1) ?_; refine Zu ?_; refine Z1 ?_; refine ZB ?_; refine ZC ?_; refine ZB ?_; refine ZC ?_
    refine Z9 (hcon := hs2) ?_; refine Zu ?_; refine Zq ?_; refine JD ?_; refine JT ?_; refine X0 ?_; refine JR ?_; refine Z0 ?_; refine JD ?_
    exact X1 ⟨_, St.le_refl _, ⟨rfl, trivial⟩, X2 _⟩
   | true =>
    rw [if_neg (show ¬ (true = false ∨ true = false) by simp)] at hg
    cases b3 with
    | false =>
     rw [if_pos (show false = false from rfl), if_pos (by decide)] at hg
     subst hg
     refine X0 ?_; refine JR ?_; refine Z8 ?_; refine JD ?_; refine X0 ?_; refine JT ?_; refine X3 ?_; refine X0 ?_; refine X4 ?_; refine X0 ?_; refine JR ?_; refine Z1 ?_; refine Zj ?_
     refine ZK ?_; refine Zw (γ := 101) ?_; refine Z0 ?_; refine Zy ?_; refine JD ?_; refine X0 ?_; refine X0 ?_; refine JR ?_; refine Z1 ?_; refine Zs ?_; refine Z1 ?_; refine Zo ?_; refine Zo ?_; refine Zo ?_
     refine Zo ?_; refine Zo ?_; refine Zo ?_; refine Zo ?_; refine Zo ?_; refine Zo ?_; refine Zo ?_; refine Zq ?_; refine JD ?_; refine JF ?_; refine X3 ?_; refine X0 ?_; refine X0 ?_; refine JR ?_
     refine ZB ?_; refine ZC ?_; refine Z8 ?_; refine Z1 ?_; refine ZB ?_; refine ZC ?_; refine ZB ?_; refine ZC ?_; refine Z2 ?_; refine Zq ?_; refine JD ?_; refine JF ?_; refine X3 ?_; refine X0 ?_
     refine X0 ?_; refine JR ?_; refine ZB ?_; refine ZC ?_; refine ZB ?_; refine ZC ?_; refine Z9 (hcon := hs1) ?_; refine Zu ?_; refine Z1 ?_; refine ZB ?_; refine ZC ?_; refine ZB ?_; refine ZC ?_
     refine Z9 (hcon := hs2) ?_; refine Zu ?_; refine Zq ?_; refine JD ?_; refine JF ?_; refine X3 ?_; refine X0 ?_; refine X0 ?_; refine JR ?_; refine ZB ?_; refine ZC ?_; refine Z9 (hcon := hnm) ?_
     refine Zu ?_; refine JD ?_; refine JT ?_; refine X0 ?_; refine JR ?_; refine Z0 ?_; refine JD ?_
     exact X1 ⟨_, St.le_refl _, ⟨rfl, trivial⟩, X2 _⟩
    | true =>
     rw [if_neg (show ¬ true = false by simp)] at hg
     by_cases he : e = 0
     ·subst he
      rw [if_neg (by simp)] at hg
      refine X0 ?_; refine JR ?_; refine Z8 ?_; refine JD ?_; refine X0 ?_; refine JT ?_; refine X3 ?_; refine X0 ?_; refine X4 ?_; refine X0 ?_; refine JR ?_; refine Z1 ?_; refine Zj ?_
      refine ZK ?_; refine Zw (γ := 101) ?_; refine Z0 ?_; refine Zy ?_; refine JD ?_; refine X0 ?_; refine X0 ?_; refine JR ?_; refine Z1 ?_; refine Zs ?_; refine Z1 ?_; refine Zo ?_; refine Zo ?_; refine Zo ?_
      refine Zo ?_; refine Zo ?_; refine Zo ?_; refine Zo ?_; refine Zo ?_; refine Zo ?_; refine Zo ?_; refine Zq ?_; refine JD ?_; refine JF ?_; refine X3 ?_; refine X0 ?_; refine X0 ?_; refine JR ?_
      refine ZB ?_; refine ZC ?_; refine Z8 ?_; refine Z1 ?_; refine ZB ?_; refine ZC ?_; refine ZB ?_; refine ZC ?_; refine Z2 ?_; refine Zq ?_; refine JD ?_; refine JF ?_; refine X3 ?_; refine X0 ?_
      refine X0 ?_; refine JR ?_; refine ZB ?_; refine ZC ?_; refine ZB ?_; refine ZC ?_; refine Z9 (hcon := hs1) ?_; refine Zu ?_; refine Z1 ?_; refine ZB ?_; refine ZC ?_; refine ZB ?_; refine ZC ?_
      refine Z9 (hcon := hs2) ?_; refine Zu ?_; refine Zq ?_; refine JD ?_; refine JF ?_; refine X3 ?_; refine X0 ?_; refine X0 ?_; refine JR ?_; refine ZB ?_; refine ZC ?_; refine Z9 (hcon := hnm) ?_
      refine Zu ?_; refine JD ?_; refine JF ?_; refine X3 ?_; refine X0 ?_; refine JR ?_; refine ZB ?_; refine ZC ?_; refine Z9 (hcon := hpc) ?_; refine Z0 ?_; refine JD ?_; refine X0 ?_; refine JR ?_
      refine Z1 ?_; refine Zv ?_; refine JD ?_; refine JF ?_; refine X3 ?_; refine JR ?_; refine Zb ?_; refine Z1 ?_; refine JD ?_
      exact ⟨0 + 1, ⟨by omega, hg⟩, by omega, X7 rfl JM ⟨rfl, trivial⟩⟩
     ·rw [if_pos he] at hg
      subst hg
      refine X0 ?_; refine JR ?_; refine Z8 ?_; refine JD ?_; refine X0 ?_; refine JT ?_; refine X3 ?_; refine X0 ?_; refine X4 ?_; refine X0 ?_; refine JR ?_; refine Z1 ?_; refine Zj ?_
      refine ZK ?_; refine Zw (γ := 101) ?_; refine Z0 ?_; refine Zy ?_; refine JD ?_; refine X0 ?_; refine X0 ?_; refine JR ?_; refine Z1 ?_; refine Zs ?_; refine Z1 ?_; refine Zo ?_; refine Zo ?_; refine Zo ?_
      refine Zo ?_; refine Zo ?_; refine Zo ?_; refine Zo ?_; refine Zo ?_; refine Zo ?_; refine Zo ?_; refine Zq ?_; refine JD ?_; refine JF ?_; refine X3 ?_; refine X0 ?_; refine X0 ?_; refine JR ?_
      refine ZB ?_; refine ZC ?_; refine Z8 ?_; refine Z1 ?_; refine ZB ?_; refine ZC ?_; refine ZB ?_; refine ZC ?_; refine Z2 ?_; refine Zq ?_; refine JD ?_; refine JF ?_; refine X3 ?_; refine X0 ?_
      refine X0 ?_; refine JR ?_; refine ZB ?_; refine ZC ?_; refine ZB ?_; refine ZC ?_; refine Z9 (hcon := hs1) ?_; refine Zu ?_; refine Z1 ?_; refine ZB ?_; refine ZC ?_; refine ZB ?_; refine ZC ?_
      refine Z9 (hcon := hs2) ?_; refine Zu ?_; refine Zq ?_; refine JD ?_; refine JF ?_; refine X3 ?_; refine X0 ?_; refine X0 ?_; refine JR ?_; refine ZB ?_; refine ZC ?_; refine Z9 (hcon := hnm) ?_
      refine Zu ?_; refine JD ?_; refine JF ?_; refine X3 ?_; refine X0 ?_; refine JR ?_; refine ZB ?_; refine ZC ?_; refine Z9 (hcon := hpc) ?_; refine Z0 ?_; refine JD ?_; refine X0 ?_; refine JR ?_
      refine Z1 ?_; refine Zv ?_; refine JD ?_; refine JT ?_; refine X0 ?_; refine JR ?_; refine Z1 ?_; refine Z0 ?_; refine JD ?_
      exact X1 ⟨_, St.le_refl _, ⟨rfl, trivial⟩, X2 _⟩
 ·obtain ⟨j, rfl⟩ : ∃ j, i = j + 1 := ⟨i - 1, by omega⟩
  obtain ⟨p, hp⟩ := Xm (l := es) (k := j) (by omega)
  have hpp : (es.map Xi)[j]? = some (Xi p) := Xr hp
  rw [X3O hp] at hg
  clear hp
  obtain ⟨id, src, dst, typ, props⟩ := x
  obtain ⟨pid, psrc, pdst, ptyp, pprops⟩ := p
  simp only [Xi] at hxc hpc hg hpp hs1 hs2 hnm
  simp only [List.map_nil] at hpc
  generalize XA ns src = b1 at *
  generalize XA ns dst = b2 at *
  generalize Xj typ = b3 at *
  generalize Ya [] props = e at *
  by_cases q1 : id ≤ pid
  ·rw [if_pos q1, if_pos (by decide)] at hg
   subst hg
   refine X0 ?_; refine JR ?_; refine Z8 ?_; refine JD ?_; refine X0 ?_; refine JT ?_; refine X3 ?_; refine X0 ?_; refine X4 ?_; refine X0 ?_; refine JR ?_; refine Z1 ?_; refine Zj ?_
   refine ZK ?_; refine Zw (γ := 101) ?_; refine Z0 ?_; refine Zy ?_; refine JD ?_; refine X0 ?_; refine X0 ?_; refine JR ?_; refine Z1 ?_; refine Zs ?_; refine Z1 ?_; refine ZB ?_; refine ZC ?_; refine ZB ?_
   refine ZC ?_; refine Z1 ?_
   refine Z4 (op := .sub) (r' := .int .i64 ((j : Nat) : Int)) (u := .int .i64 ((j + 1 : Nat) : Int)) (v := .int .i64 1) ?_ (hr' := by exact congrArg (Value.int .i64) (show (((j + 1 : Nat) : Int) - 1) = (j : Int) by omega)) (hr := by exact XH (by unfold Xy; omega))
   refine Zj ?_; refine ZN ?_; refine Zk ?_; refine Zm ?_; refine Zn ?_; refine JD ?_; refine JT ?_; refine X0 ?_; refine JR ?_; refine Z0 ?_; refine JD ?_
   exact X1 ⟨_, St.le_refl _, ⟨rfl, trivial⟩, X2 _⟩
  rw [if_neg q1] at hg
  by_cases q2 : id < 1
  ·rw [if_pos (show id < 1 ∨ ne ≤ id from .inl q2), if_pos (by decide)] at hg
   subst hg
   refine X0 ?_; refine JR ?_; refine Z8 ?_; refine JD ?_; refine X0 ?_; refine JT ?_; refine X3 ?_; refine X0 ?_; refine X4 ?_; refine X0 ?_; refine JR ?_; refine Z1 ?_; refine Zj ?_
   refine ZK ?_; refine Zw (γ := 101) ?_; refine Z0 ?_; refine Zy ?_; refine JD ?_; refine X0 ?_; refine X0 ?_; refine JR ?_; refine Z1 ?_; refine Zs ?_; refine Z1 ?_; refine ZB ?_; refine ZC ?_; refine ZB ?_
   refine ZC ?_; refine Z1 ?_
   refine Z4 (op := .sub) (r' := .int .i64 ((j : Nat) : Int)) (u := .int .i64 ((j + 1 : Nat) : Int)) (v := .int .i64 1) ?_ (hr' := by exact congrArg (Value.int .i64) (show (((j + 1 : Nat) : Int) - 1) = (j : Int) by omega)) (hr := by exact XH (by unfold Xy; omega))
   refine Zj ?_; refine ZN ?_; refine Zk ?_; refine Zm ?_; refine Zn ?_; refine JD ?_; refine JF ?_; refine X3 ?_; refine X0 ?_; refine X0 ?_; refine JR ?_; refine ZB ?_; refine ZC ?_; refine Z8 ?_
   refine Z1 ?_; refine Zo ?_; refine Zo ?_; refine Zo ?_; refine Zo ?_; refine Zo ?_; refine Zn ?_; refine JD ?_; refine JT ?_; refine X0 ?_; refine JR ?_; refine Z0 ?_; refine JD ?_
   exact X1 ⟨_, St.le_refl _, ⟨rfl, trivial⟩, X2 _⟩
  by_cases q3 : ne ≤ id
  ·rw [if_pos (show id < 1 ∨ ne ≤ id from .inr q3), if_pos (by decide)] at hg
   subst hg
   refine X0 ?_; refine JR ?_; refine Z8 ?_; refine JD ?_; refine X0 ?_; refine JT ?_; refine X3 ?_; refine X0 ?_; refine X4 ?_; refine X0 ?_; refine JR ?_; refine Z1 ?_; refine Zj ?_
   refine ZK ?_; refine Zw (γ := 101) ?_; refine Z0 ?_; refine Zy ?_; refine JD ?_; refine X0 ?_; refine X0 ?_; refine JR ?_; refine Z1 ?_; refine Zs ?_; refine Z1 ?_; refine ZB ?_; refine ZC ?_; refine ZB ?_
   refine ZC ?_; refine Z1 ?_
   refine Z4 (op := .sub) (r' := .int .i64 ((j : Nat) : Int)) (u := .int .i64 ((j + 1 : Nat) : Int)) (v := .int .i64 1) ?_ (hr' := by exact congrArg (Value.int .i64) (show (((j + 1 : Nat) : Int) - 1) = (j : Int) by omega)) (hr := by exact XH (by unfold Xy; omega))
   refine Zj ?_; refine ZN ?_; refine Zk ?_; refine Zm ?_; refine Zn ?_; refine JD ?_; refine JF ?_; refine X3 ?_; refine X0 ?_; refine X0 ?_; refine JR ?_; refine ZB ?_; refine ZC ?_; refine Z8 ?_
   refine Z1 ?_; refine ZB ?_; refine ZC ?_; refine ZB ?_; refine ZC ?_; refine Z2 ?_; refine Zq ?_; refine JD ?_; refine JT ?_; refine X0 ?_; refine JR ?_; refine Z0 ?_; refine JD ?_
   exact X1 ⟨_, St.le_refl _, ⟨rfl, trivial⟩, X2 _⟩
  rw [if_neg (show ¬ (id < 1 ∨ ne ≤ id) from fun h => h.elim q2 q3)] at hg
  cases b1 with
  | false =>
   rw [if_pos (show false = false ∨ b2 = false from .inl rfl), if_pos (by decide)] at hg
   subst hg
   refine X0 ?_; refine JR ?_; refine Z8 ?_; refine JD ?_; refine X0 ?_; refine JT ?_; refine X3 ?_; refine X0 ?_; refine X4 ?_; refine X0 ?_; refine JR ?_; refine Z1 ?_; refine Zj ?_
   refine ZK ?_; refine Zw (γ := 101) ?_; refine Z0 ?_; refine Zy ?_; refine JD ?_; refine X0 ?_; refine X0 ?_; refine JR ?_; refine Z1 ?_; refine Zs ?_; refine Z1 ?_; refine ZB ?_; refine ZC ?_; refine ZB ?_
   refine ZC ?_; refine Z1 ?_
   refine Z4 (op := .sub) (r' := .int .i64 ((j : Nat) : Int)) (u := .int .i64 ((j + 1 : Nat) : Int)) (v := .int .i64 1) ?_ (hr' := by exact congrArg (Value.int .i64) (show (((j + 1 : Nat) : Int) - 1) = (j : Int) by omega)) (hr := by exact XH (by unfold Xy; omega))
   refine Zj ?_; refine ZN ?_; refine Zk ?_; refine Zm ?_; refine Zn ?_; refine JD ?_; refine JF ?_; refine X3 ?_; refine X0 ?_; refine X0 ?_; refine JR ?_; refine ZB ?_; refine ZC ?_; refine Z8 ?_
   refine Z1 ?_; refine ZB ?_; refine ZC ?_; refine ZB ?_; refine ZC ?_; refine Z2 ?_; refine Zq ?_; refine JD ?_; refine JF ?_; refine X3 ?_; refine X0 ?_; refine X0 ?_; refine JR ?_; refine ZB ?_
   refine ZC ?_; refine ZB ?_; refine ZC ?_; refine Z9 (hcon := hs1) ?_; refine Zu ?_; refine Z1 ?_; refine Zo ?_; refine Zo ?_; refine Zo ?_; refine Zo ?_; refine Zo ?_; refine Zo ?_; refine Zn ?_; refine JD ?_
   refine JT ?_; refine X0 ?_; refine JR ?_; refine Z0 ?_; refine JD ?_
   exact X1 ⟨_, St.le_refl _, ⟨rfl, trivial⟩, X2 _⟩
  | true =>
   cases b2 with
   | false =>
    rw [if_pos (show true = false ∨ false = false from .inr rfl), if_pos (by decide)] at hg
    subst hg
    refine X0 ?_; refine JR ?_; refine Z8 ?_; refine JD ?_; refine X0 ?_; refine JT ?_; refine X3 ?_; refine X0 ?_; refine X4 ?_; refine X0 ?_; refine JR ?_; refine Z1 ?_; refine Zj ?_
    refine ZK ?_; refine Zw (γ := 101) ?_; refine Z0 ?_; refine Zy ?_; refine JD ?_; refine X0 ?_; refine X0 ?_; refine JR ?_; refine Z1 ?_; refine Zs ?_; refine Z1 ?_; refine ZB ?_; refine ZC ?_; refine ZB ?_
    refine ZC ?_; refine Z1 ?_
    refine Z4 (op := .sub) (r' := .int .i64 ((j : Nat) : Int)) (u := .int .i64 ((j + 1 : Nat) : Int)) (v := .int .i64 1) ?_ (hr' := by exact congrArg (Value.int .i64) (show (((j + 1 : Nat) : Int) - 1) = (j : Int) by omega)) (hr := by exact XH (by unfold Xy; omega))
    refine Zj ?_; refine ZN ?_; refine Zk ?_; refine Zm ?_; refine Zn ?_; refine JD ?_; refine JF ?_; refine X3 ?_; refine X0 ?_; refine X0 ?_; refine JR ?_; refine ZB ?_; refine ZC ?_; refine Z8 ?_
    refine Z1 ?_; refine ZB ?_; refine ZC ?_; refine ZB ?_; refine ZC ?_; refine Z2 ?_; refine Zq ?_; refine JD ?_; refine JF ?_; refine X3 ?_; refine X0 ?_; refine X0 ?_; refine JR ?_; refine ZB ?_
    refine ZC ?_; refine ZB ?_; refine ZC ?_; refine Z9 (hcon := hs1) ?_; refine Zu ?_; refine Z1 ?_; refine ZB ?_; refine ZC ?_; refine ZB ?_; refine ZC ?_; refine Z9 (hcon := hs2) ?_; refine Zu ?_; refine Zq ?_
    refine JD ?_; refine JT ?_; refine X0 ?_; refine JR ?_; refine Z0 ?_; refine JD ?_
    exact X1 ⟨_, St.le_refl _, ⟨rfl, trivial⟩, X2 _⟩
   | true =>
    rw [if_neg (show ¬ (true = false ∨ true = false) by simp)] at hg
    cases b3 with
    | false =>
     rw [if_pos (show false = false from rfl), if_pos (by decide)] at hg
     subst hg
     refine X0 ?_; refine JR ?_; refine Z8 ?_; refine JD ?_; refine X0 ?_; refine JT ?_; refine X3 ?_; refine X0 ?_; refine X4 ?_; refine X0 ?_; refine JR ?_; refine Z1 ?_; refine Zj ?_
     refine ZK ?_; refine Zw (γ := 101) ?_; refine Z0 ?_; refine Zy ?_; refine JD ?_; refine X0 ?_; refine X0 ?_; refine JR ?_; refine Z1 ?_; refine Zs ?_; refine Z1 ?_; refine ZB ?_; refine ZC ?_; refine ZB ?_
     refine ZC ?_; refine Z1 ?_
     refine Z4 (op := .sub) (r' := .int .i64 ((j : Nat) : Int)) (u := .int .i64 ((j + 1 : Nat) : Int)) (v := .int .i64 1) ?_ (hr' := by exact congrArg (Value.int .i64) (show (((j + 1 : Nat) : Int) - 1) = (j : Int) by omega)) (hr := by exact XH (by unfold Xy; omega))
     refine Zj ?_; refine ZN ?_; refine Zk ?_; refine Zm ?_; refine Zn ?_; refine JD ?_; refine JF ?_; refine X3 ?_; refine X0 ?_; refine X0 ?_; refine JR ?_; refine ZB ?_; refine ZC ?_; refine Z8 ?_
     refine Z1 ?_; refine ZB ?_; refine ZC ?_; refine ZB ?_; refine ZC ?_; refine Z2 ?_; refine Zq ?_; refine JD ?_; refine JF ?_; refine X3 ?_; refine X0 ?_; refine X0 ?_; refine JR ?_; refine ZB ?_
     refine ZC ?_; refine ZB ?_; refine ZC ?_; refine Z9 (hcon := hs1) ?_; refine Zu ?_; refine Z1 ?_; refine ZB ?_; refine ZC ?_; refine ZB ?_; refine ZC ?_; refine Z9 (hcon := hs2) ?_; refine Zu ?_; refine Zq ?_
     refine JD ?_; refine JF ?_; refine X3 ?_; refine X0 ?_; refine X0 ?_; refine JR ?_; refine ZB ?_; refine ZC ?_; refine Z9 (hcon := hnm) ?_; refine Zu ?_; refine JD ?_; refine JT ?_; refine X0 ?_
     refine JR ?_; refine Z0 ?_; refine JD ?_
     exact X1 ⟨_, St.le_refl _, ⟨rfl, trivial⟩, X2 _⟩
    | true =>
     rw [if_neg (show ¬ true = false by simp)] at hg
     by_cases he : e = 0
     ·subst he
      rw [if_neg (by simp)] at hg
      refine X0 ?_; refine JR ?_; refine Z8 ?_; refine JD ?_; refine X0 ?_; refine JT ?_; refine X3 ?_; refine X0 ?_; refine X4 ?_; refine X0 ?_; refine JR ?_; refine Z1 ?_; refine Zj ?_
      refine ZK ?_; refine Zw (γ := 101) ?_; refine Z0 ?_; refine Zy ?_; refine JD ?_; refine X0 ?_; refine X0 ?_; refine JR ?_; refine Z1 ?_; refine Zs ?_; refine Z1 ?_; refine ZB ?_; refine ZC ?_; refine ZB ?_
      refine ZC ?_; refine Z1 ?_
      refine Z4 (op := .sub) (r' := .int .i64 ((j : Nat) : Int)) (u := .int .i64 ((j + 1 : Nat) : Int)) (v := .int .i64 1) ?_ (hr' := by exact congrArg (Value.int .i64) (show (((j + 1 : Nat) : Int) - 1) = (j : Int) by omega)) (hr := by exact XH (by unfold Xy; omega))
      refine Zj ?_; refine ZN ?_; refine Zk ?_; refine Zm ?_; refine Zn ?_; refine JD ?_; refine JF ?_; refine X3 ?_; refine X0 ?_; refine X0 ?_; refine JR ?_; refine ZB ?_; refine ZC ?_; refine Z8 ?_
      refine Z1 ?_; refine ZB ?_; refine ZC ?_; refine ZB ?_; refine ZC ?_; refine Z2 ?_; refine Zq ?_; refine JD ?_; refine JF ?_; refine X3 ?_; refine X0 ?_; refine X0 ?_; refine JR ?_; refine ZB ?_
      refine ZC ?_; refine ZB ?_; refine ZC ?_; refine Z9 (hcon := hs1) ?_; refine Zu ?_; refine Z1 ?_; refine ZB ?_; refine ZC ?_; refine ZB ?_; refine ZC ?_; refine Z9 (hcon := hs2) ?_; refine Zu ?_; refine Zq ?_
      refine JD ?_; refine JF ?_; refine X3 ?_; refine X0 ?_; refine X0 ?_; refine JR ?_; refine ZB ?_; refine ZC ?_; refine Z9 (hcon := hnm) ?_; refine Zu ?_; refine JD ?_; refine JF ?_; refine X3 ?_
      refine X0 ?_; refine JR ?_; refine ZB ?_; refine ZC ?_; refine Z9 (hcon := hpc) ?_; refine Z0 ?_; refine JD ?_; refine X0 ?_; refine JR ?_; refine Z1 ?_; refine Zv ?_; refine JD ?_; refine JF ?_
      refine X3 ?_; refine JR ?_; refine Zb ?_; refine Z1 ?_; refine JD ?_
      exact ⟨j + 1 + 1, ⟨by omega, hg⟩, by omega, X7 rfl JM ⟨rfl, trivial⟩⟩
     ·rw [if_pos he] at hg
      subst hg
      refine X0 ?_; refine JR ?_; refine Z8 ?_; refine JD ?_; refine X0 ?_; refine JT ?_; refine X3 ?_; refine X0 ?_; refine X4 ?_; refine X0 ?_; refine JR ?_; refine Z1 ?_; refine Zj ?_
      refine ZK ?_; refine Zw (γ := 101) ?_; refine Z0 ?_; refine Zy ?_; refine JD ?_; refine X0 ?_; refine X0 ?_; refine JR ?_; refine Z1 ?_; refine Zs ?_; refine Z1 ?_; refine ZB ?_; refine ZC ?_; refine ZB ?_
      refine ZC ?_; refine Z1 ?_
      refine Z4 (op := .sub) (r' := .int .i64 ((j : Nat) : Int)) (u := .int .i64 ((j + 1 : Nat) : Int)) (v := .int .i64 1) ?_ (hr' := by exact congrArg (Value.int .i64) (show (((j + 1 : Nat) : Int) - 1) = (j : Int) by omega)) (hr := by exact XH (by unfold Xy; omega))
      refine Zj ?_; refine ZN ?_; refine Zk ?_; refine Zm ?_; refine Zn ?_; refine JD ?_; refine JF ?_; refine X3 ?_; refine X0 ?_; refine X0 ?_; refine JR ?_; refine ZB ?_; refine ZC ?_; refine Z8 ?_
      refine Z1 ?_; refine ZB ?_; refine ZC ?_; refine ZB ?_; refine ZC ?_; refine Z2 ?_; refine Zq ?_; refine JD ?_; refine JF ?_; refine X3 ?_; refine X0 ?_; refine X0 ?_; refine JR ?_; refine ZB ?_
      refine ZC ?_; refine ZB ?_; refine ZC ?_; refine Z9 (hcon := hs1) ?_; refine Zu ?_; refine Z1 ?_; refine ZB ?_; refine ZC ?_; refine ZB ?_; refine ZC ?_; refine Z9 (hcon := hs2) ?_; refine Zu ?_; refine Zq ?_
      refine JD ?_; refine JF ?_; refine X3 ?_; refine X0 ?_; refine X0 ?_; refine JR ?_; refine ZB ?_; refine ZC ?_; refine Z9 (hcon := hnm) ?_; refine Zu ?_; refine JD ?_; refine JF ?_; refine X3 ?_
      refine X0 ?_; refine JR ?_; refine ZB ?_; refine ZC ?_; refine Z9 (hcon := hpc) ?_; refine Z0 ?_; refine JD ?_; refine X0 ?_; refine JR ?_; refine Z1 ?_; refine Zv ?_; refine JD ?_; refine JT ?_
      refine X0 ?_; refine JR ?_; refine Z1 ?_; refine Z0 ?_; refine JD ?_
      exact X1 ⟨_, St.le_refl _, ⟨rfl, trivial⟩, X2 _⟩
end Go.Fw

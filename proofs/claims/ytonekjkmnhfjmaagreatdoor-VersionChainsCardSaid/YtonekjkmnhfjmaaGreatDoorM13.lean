/- The codec in plain Lean: what the functions compute. -/
import Derived.Test.YtonekjkmnhfjmaaGreatDoorChecked
import Derived.Test.YtonekjkmnhfjmaaGreatDoorM11
set_option maxHeartbeats 8000000
namespace Go.Fw
open Go
set_option linter.unusedVariables false
inductive Val where
 | mk (kind n d : Int) (s : List UInt8) (l : List Val)
namespace Val
def kind : Val → Int | mk k _ _ _ _ => k
def n : Val → Int | mk _ n _ _ _ => n
def d : Val → Int | mk _ _ d _ _ => d
def s : Val → List UInt8 | mk _ _ _ s _ => s
def l : Val → List Val | mk _ _ _ _ l => l
end Val
mutual
def Y1 : Val → List D
 | .mk k n d s l => [.v (.int .i64 k), .v (.int .i64 n), .v (.int .i64 d), .v (.string (X5 s)), .sl 5 (Xx l)]
def Xx : List Val → List (List D)
 | [] => []
 | v :: r => Y1 v :: Xx r
end
theorem X19 : ∀ l : List Val, Xx l = l.map Y1
 | [] => by simp [Xx]
 | v :: r => by simp [Xx, X19 r]
theorem XD {α β : Type} {l : List α} {f : α → β} {k : Nat} {x : α} (h : l[k]? = some x) : (l.map f)[k]? = some (f x) := by simp [h]
theorem Xu {α : Type} {l : List α} {k : Nat} (h : k < l.length) : ∃ x, l[k]? = some x := ⟨_, List.getElem?_eq_getElem h⟩
def Xgu (l : List UInt8) : Nat := ((l.take 10).takeWhile fun b => decide (128 ≤ b.toNat)).length
def Vu (n d : Int) : Bool := decide (1 ≤ d ∧ d ≤ 1000000000000000 ∧ -1000000000000000 ≤ n ∧ n ≤ 1000000000000000) && decide (Nat.gcd n.natAbs d.natAbs = 1)
def UI (s : List UInt8) : Bool := s.all fun b => decide (32 ≤ b.toNat ∧ b.toNat ≤ 126)
mutual
def X8 : Nat → Val → Bool
 | m, .mk k n d s l =>
  (k == 3 || d == 0) && (k == 4 || decide (s.length = 0)) && (k == 7 || k == 8 || decide (l.length = 0)) &&
  (if k = 0 then decide (n = 0) else if k = 1 then decide (n = 0 ∨ n = 1) else if k = 2 then decide (-1000000000000000 ≤ n ∧ n ≤ 1000000000000000)
   else if k = 3 then decide (2 ≤ d) && Vu n d else if k = 4 then decide (n = 0 ∧ s.length ≤ 100) && UI s
   else if k = 5 ∨ k = 6 then decide (1 ≤ n ∧ n ≤ 1000000) else if k = 7 then decide (n = 0 ∧ l.length % 2 = 1 ∧ l.length ≤ 25) && Uy 0 l
   else if k = 8 then decide (n = 0 ∧ l.length ≤ 64 ∧ 1 ≤ m) && UP (m - 1) l else false)
def UP : Nat → List Val → Bool
 | m, [] => true
 | m, v :: r => X8 m v && UP m r
def Uy : Nat → List Val → Bool
 | i, [] => true
 | i, v :: r => decide (v.kind = 5 + (i % 2 : Nat)) && X8 0 v && Uy (i + 1) r
end
structure Chg where
 op : Int
 id : Int
 src : Int
 dst : Int
 name : List UInt8
 v : Val
def Vh (c : UInt8) : Bool := decide ((97 ≤ c.toNat ∧ c.toNat ≤ 122) ∨ (65 ≤ c.toNat ∧ c.toNat ≤ 90))
def Yt (c : UInt8) : Bool := Vh c || decide ((48 ≤ c.toNat ∧ c.toNat ≤ 57) ∨ c.toNat = 95)
def XP (s : List UInt8) : Bool := decide (1 ≤ s.length ∧ s.length ≤ 20) && Vh ((s[0]?).getD 0) && s.all Yt
def Yo (v : Val) : Bool := X8 8 v && decide (v.kind = 0)
def X4e (b : Bool) (k : Int) : Bool := decide (k = 1 ∨ k = 2 ∨ k = 4) && b
def Yd (v : Val) : Bool := X4e (X8 8 v) v.kind
def idV (n : Int) : Bool := decide (1 ≤ n ∧ n ≤ 1000000)
def Vl (op : Int) : Bool := decide (op = 3 ∨ op = 4 ∨ op = 5 ∨ op = 6 ∨ op = 8)
def Vp (op : Int) : Bool := decide (op = 5 ∨ op = 8)
def YF (c : Chg) : Int :=
 if decide (1 ≤ c.op ∧ c.op ≤ 8) = false ∨ idV c.id = false then 1
 else if (c.op = 6 ∧ (idV c.src = false ∨ idV c.dst = false)) ∨ (c.op ≠ 6 ∧ (c.src ≠ 0 ∨ c.dst ≠ 0)) then 1
 else if (Vl c.op = false ∧ c.name ≠ []) ∨ (Vp c.op = false ∧ Yo c.v = false) then 1
 else if Vl c.op = true ∧ XP c.name = false then 6
 else if Vp c.op = true ∧ Yo c.v = false ∧ Yd c.v = false then 8 else 0
structure Prp where
 key : List UInt8
 v : Val
structure Nod where
 id : Int
 labels : List (List UInt8)
 props : List Prp
structure Edg where
 id : Int
 src : Int
 dst : Int
 typ : List UInt8
 props : List Prp
structure Gra where
 nodes : List Nod
 edges : List Edg
 nn : Int
 ne : Int
def Xb (s : List UInt8) : List D := [.v (.string (X5 s))]
def X6 (p : Prp) : List D := .v (.string (X5 p.key)) :: Y1 p.v
def X9 (n : Nod) : List D := [.v (.int .i64 n.id), .sl 1 (n.labels.map Xb), .sl 6 (n.props.map X6)]
def Xe (e : Edg) : List D := [.v (.int .i64 e.id), .v (.int .i64 e.src), .v (.int .i64 e.dst), .v (.string (X5 e.typ)), .sl 6 (e.props.map X6)]
def Xl (g : Gra) : AVal := .agg [.d (.sl 3 (g.nodes.map X9)), .d (.sl 5 (g.edges.map Xe)), ai g.nn, ai g.ne]
abbrev Ya : Gra := ⟨[], [], 0, 0⟩
def Yz : List (List UInt8) → Bool
 | a :: b :: r => !(Op.bytesLess b a || decide (b = a)) && Yz (b :: r)
 | _ => true
def U5 (ls : List (List UInt8)) (ps : List Prp) : Int :=
 if 8 < ls.length ∨ 16 < ps.length then 4
 else if ls.all XP = false ∨ (ps.map Prp.key).all XP = false then 6
 else if Yz ls = false ∨ Yz (ps.map Prp.key) = false then 26
 else if (ps.map Prp.v).all Yd = false then 8 else 0
def US (nn : Int) (prev : Option Nod) (n : Nod) : Int :=
 if (∃ p, prev = some p ∧ n.id ≤ p.id) then 26 else if n.id < 1 ∨ nn ≤ n.id then 1 else U5 n.labels n.props
def U7 (nn : Int) : Option Nod → List Nod → Int
 | _, [] => 0
 | p, n :: r => if US nn p n ≠ 0 then US nn p n else U7 nn (some n) r
def Ye (l : List Nod) (n : Int) : Bool := l.any fun x => decide (x.id = n)
def Vg (ns : List Nod) (ne : Int) (prev : Option Edg) (e : Edg) : Int :=
 if (∃ p, prev = some p ∧ e.id ≤ p.id) then 26 else if e.id < 1 ∨ ne ≤ e.id then 1
 else if Ye ns e.src = false ∨ Ye ns e.dst = false then 10 else if XP e.typ = false then 6 else U5 [] e.props
def UY (ns : List Nod) (ne : Int) : Option Edg → List Edg → Int
 | _, [] => 0
 | p, n :: r => if Vg ns ne p n ≠ 0 then Vg ns ne p n else UY ns ne (some n) r
def Yj (g : Gra) : Int :=
 if 2000 < g.nodes.length ∨ 4000 < g.edges.length then 4
 else if g.nn < 1 ∨ 1000001 < g.nn ∨ g.ne < 1 ∨ 1000001 < g.ne then 1
 else if U7 g.nn none g.nodes ≠ 0 then U7 g.nn none g.nodes else UY g.nodes g.ne none g.edges
def Ys {α : Type} (l : List α) (i : Nat) : Option α := if i = 0 then none else l[i - 1]?
theorem X4j {α : Type} {l : List α} {i : Nat} : Ys l (i + 1) = l[i]? := by simp [Ys]
theorem Xbs {nn : Int} {l : List Nod} {i : Nat} {n : Nod} (h : l[i]? = some n) :
  U7 nn (Ys l i) (l.drop i) = if US nn (Ys l i) n ≠ 0 then US nn (Ys l i) n else U7 nn (Ys l (i + 1)) (l.drop (i + 1)) := by
 obtain ⟨hi, h⟩ := List.getElem?_eq_some_iff.1 h
 rw [List.drop_eq_getElem_cons hi, h, U7, X4j, List.getElem?_eq_getElem hi, h]
theorem X9M {ns : List Nod} {ne : Int} {l : List Edg} {i : Nat} {n : Edg} (h : l[i]? = some n) :
  UY ns ne (Ys l i) (l.drop i) = if Vg ns ne (Ys l i) n ≠ 0 then Vg ns ne (Ys l i) n else UY ns ne (Ys l (i + 1)) (l.drop (i + 1)) := by
 obtain ⟨hi, h⟩ := List.getElem?_eq_some_iff.1 h
 rw [List.drop_eq_getElem_cons hi, h, UY, X4j, List.getElem?_eq_getElem hi, h]
def X44 (l : List Nod) : Prop := ∀ (i j : Nat) (a b : Nod), l[i]? = some a → l[j]? = some b → i < j → a.id < b.id
theorem X8W {nn : Int} : ∀ (l : List Nod) (p : Option Nod), U7 nn p l = 0 → (∀ a b, p = some a → b ∈ l → a.id < b.id) ∧ X44 l
 | [], p, _ => ⟨by simp, by intro i j a b h; simp at h⟩
 | x :: r, p, h => by
  rw [U7] at h
  have h0 : US nn p x = 0 := by
   by_cases h0 : US nn p x = 0
   ·exact h0
   ·rw [if_pos h0] at h; exact absurd h h0
  rw [h0, if_neg (by simp)] at h
  obtain ⟨h1, h2⟩ := X8W r (some x) h
  have hp : ∀ a, p = some a → a.id < x.id := by
   intro a ha
   unfold US at h0
   by_cases q : ∃ p', p = some p' ∧ x.id ≤ p'.id
   ·rw [if_pos q] at h0; simp at h0
   ·refine Int.lt_of_not_ge fun hc => q ⟨a, ha, hc⟩
  refine ⟨fun a b ha hb => ?_, fun i j a b hi hj hij => ?_⟩
  ·rcases List.mem_cons.1 hb with rfl | hb
   ·exact hp a ha
   ·exact Int.lt_trans (hp a ha) (h1 x b rfl hb)
  ·cases j with
   | zero => omega
   | succ j =>
    cases i with
    | zero =>
     simp only [List.getElem?_cons_zero, Option.some.injEq] at hi
     subst hi
     exact h1 x b rfl (List.mem_of_getElem? (by simpa using hj))
    | succ i => exact h2 i j a b (by simpa using hi) (by simpa using hj) (by omega)
def X3J (l : List Nod) (n : Int) : Nat := (l.takeWhile fun x => decide (x.id < n)).length
theorem X5k {α : Type} {p : α → Bool} : ∀ {l : List α} {i : Nat}, i ≤ l.length → (∀ k x, k < i → l[k]? = some x → p x = true) → (∀ x, l[i]? = some x → p x = false) → (l.takeWhile p).length = i
 | [], i, h, _, _ => by simp at h; simp [h]
 | x :: r, 0, _, _, h => by rw [List.takeWhile_cons_of_neg (by simp [h x (by simp)])]; rfl
 | x :: r, i + 1, h, h1, h2 => by
  rw [List.takeWhile_cons_of_pos (h1 0 x (by omega) (by simp)), List.length_cons, X5k (i := i) (by simpa using h) (fun k y hk hy => h1 (k + 1) y (by omega) (by simpa using hy)) (fun y hy => h2 y (by simpa using hy))]
theorem Xdl {l : List Nod} {n : Int} {i : Nat} (h : i ≤ l.length) (h1 : ∀ k x, k < i → l[k]? = some x → x.id < n) (h2 : ∀ x, l[i]? = some x → ¬ x.id < n) : X3J l n = i :=
 X5k h (fun k x hk hx => by simpa using h1 k x hk hx) (fun x hx => by simpa using h2 x hx)
theorem Xcg {l : List Nod} {n : Int} {i : Nat} (hr : X44 l) (h1 : ∀ k x, k < i → l[k]? = some x → x.id < n) (h2 : ∀ k x, i ≤ k → l[k]? = some x → n ≤ x.id) : Ye l n = decide (∃ x, l[i]? = some x ∧ x.id = n) := by
 rw [Bool.eq_iff_iff]
 simp only [Ye, List.any_eq_true, decide_eq_true_eq]
 constructor
 ·rintro ⟨x, hx, e⟩
  obtain ⟨k, hk⟩ := List.getElem?_of_mem hx
  have hki : i ≤ k := by
   by_cases q : k < i
   ·have := h1 k x q hk; omega
   ·omega
  have hi : i < l.length := by have := (List.getElem?_eq_some_iff.1 hk).1; omega
  refine ⟨l[i], List.getElem?_eq_getElem hi, ?_⟩
  have a := h2 i l[i] (Nat.le_refl _) (List.getElem?_eq_getElem hi)
  by_cases q : i = k
  ·subst q
   rw [List.getElem?_eq_getElem hi] at hk
   injection hk with hk
   rw [hk]; exact e
  ·have := hr i k l[i] x (List.getElem?_eq_getElem hi) hk (by omega)
   omega
 ·rintro ⟨x, hx, e⟩
  exact ⟨x, List.mem_of_getElem? hx, e⟩
def Vf (s t : List UInt8) : Int := if Op.bytesLess s t = true then -1 else if s = t then 0 else 1
theorem X9i {α : Type} {p : α → Bool} : ∀ (l : List α) (i : Nat), (∀ j, j < i → ∃ b, l[j]? = some b ∧ p b = true) → (∀ b, l[i]? = some b → p b = false) → (l.takeWhile p).length = i
 | [], 0, _, _ => rfl
 | [], i + 1, h, _ => by obtain ⟨b, hb, _⟩ := h 0 (by omega); simp at hb
 | x :: l, 0, _, h => by have := h x (by simp); simp [List.takeWhile, this]
 | x :: l, i + 1, h, k => by
  obtain ⟨b, hb, hp⟩ := h 0 (by omega)
  simp at hb; subst hb
  simp only [List.takeWhile, hp, List.length_cons]
  rw [X9i l i (fun j hj => by simpa using h (j + 1) (by omega)) (fun b hb => k b (by simpa using hb))]
def only (b : List UInt8) (a e : Int) (want : List UInt8) : Prop := 0 ≤ a ∧ a ≤ e ∧ e ≤ b.length ∧ (b.drop a.toNat).take (e - a).toNat = want
abbrev zV : Val := .mk 0 0 0 [] []
open Go Go.Proofs
set_option maxRecDepth 100000
set_option linter.unusedSimpArgs false
abbrev n64 (n : Nat) : Value := .int .u64 n
abbrev ni (n : Nat) : Value := .int .i64 n
abbrev Uo (l : List UInt8) : AVal := .d (.v (.string (X5 l)))
theorem X4p {c : UInt8} (h : (97 ≤ c.toNat ∧ c.toNat ≤ 122) ∨ (65 ≤ c.toNat ∧ c.toNat ≤ 90)) : Vh c = true := decide_eq_true h
theorem X1S {c : UInt8} (h : ¬ ((97 ≤ c.toNat ∧ c.toNat ≤ 122) ∨ (65 ≤ c.toNat ∧ c.toNat ≤ 90))) : Vh c = false := decide_eq_false h
theorem Xak (c : UInt8) : Con Tryz.prog 160 [] [au8 c.toNat] [] (ab (Vh c)) := by
 refine Xc (xs := [ab (Vh c)]) Tryz.func160 rfl Tryz.ntmps160 rfl rfl rfl (fun E => ?_)
 by_cases h1 : 97 ≤ c.toNat
 ·by_cases h2 : c.toNat ≤ 122
  ·rw [X4p (by omega)]
   refine Qg ?_; refine Qi ?_; refine Zo ?_; refine Qj ?_; refine Qk ?_; exact Qm
  ·rw [X1S (by omega)]
   refine Qg ?_; exact Qq
 by_cases h3 : 65 ≤ c.toNat
 ·by_cases h4 : c.toNat ≤ 90
  ·rw [X4p (by omega)]
   refine Qs ?_; refine Qf ?_; refine Z2 ?_; refine Qf ?_; refine Zm ?_; refine Qn ?_; refine Qb ?_; exact Ql
  ·rw [X1S (by omega)]
   refine Qs ?_; exact Qq
 rw [X1S (by omega)]
 refine Qs ?_; refine Qf ?_; refine Z2 ?_; refine Qr ?_; refine Zq ?_; exact Qp
theorem Xbt (c : UInt8) : Con Tryz.prog 226 [] [au8 c.toNat] [] (ab (Vh c)) := by
 refine Xc (xs := [ab (Vh c)]) Tryz.func226 rfl Tryz.ntmps226 rfl rfl rfl (fun E => ?_)
 by_cases h1 : 97 ≤ c.toNat
 ·by_cases h2 : c.toNat ≤ 122
  ·rw [X4p (by omega)]
   refine Qg ?_; refine Qi ?_; refine Zo ?_; refine Qj ?_; refine Qk ?_; exact Qm
  ·rw [X1S (by omega)]
   refine Qg ?_; exact Qq
 by_cases h3 : 65 ≤ c.toNat
 ·by_cases h4 : c.toNat ≤ 90
  ·rw [X4p (by omega)]
   refine Qs ?_; refine Qf ?_; refine Z2 ?_; refine Qf ?_; refine Zm ?_; refine Qn ?_; refine Qb ?_; exact Ql
  ·rw [X1S (by omega)]
   refine Qs ?_; exact Qq
 rw [X1S (by omega)]
 refine Qs ?_; refine Qf ?_; refine Z2 ?_; refine Qr ?_; refine Zq ?_; exact Qp
theorem X8u {s : List UInt8} (h : s = []) : XP s = false := by subst h; rfl
theorem Xa9 {s : List UInt8} (h : 20 < s.length) : XP s = false := by unfold XP; rw [decide_eq_false (by omega)]; rfl
theorem X9v {s : List UInt8} {c : UInt8} (hc : s[0]? = some c) (h : Vh c = false) : XP s = false := by unfold XP; rw [hc, Option.getD_some, h]; simp
theorem X4l {s : List UInt8} {c : UInt8} {i : Nat} (hc : s[i]? = some c) (h : Yt c = false) : XP s = false := by
 unfold XP
 rw [show s.all Yt = false by rw [List.all_eq_false]; exact ⟨c, List.mem_of_getElem? hc, by simp [h]⟩]
 simp
theorem X8H {s : List UInt8} {c : UInt8} (hc : s[0]? = some c) (h : Vh c = true) (h20 : ¬ 20 < s.length) (hall : ∀ j, j < s.length → ∃ b, s[j]? = some b ∧ Yt b = true) : XP s = true := by
 have hl := (List.getElem?_eq_some_iff.1 hc).1
 unfold XP
 rw [hc, Option.getD_some, h, decide_eq_true (by omega)]
 simp only [Bool.true_and, List.all_eq_true]
 intro b hb
 obtain ⟨j, hj⟩ := List.getElem?_of_mem hb
 obtain ⟨b', h1, h2⟩ := hall j (List.getElem?_eq_some_iff.1 hj).1
 rw [hj] at h1
 obtain rfl := Option.some.inj h1
 exact h2
theorem X2b {s : List UInt8} {i : Nat} {c : UInt8} (hc : s[i]? = some c) (h : Yt c = true) (hall : ∀ j, j < i → ∃ b, s[j]? = some b ∧ Yt b = true) : ∀ j, j < i + 1 → ∃ b, s[j]? = some b ∧ Yt b = true := fun j hj => by
 by_cases e : j = i
 ·subst e; exact ⟨c, hc, h⟩
 ·exact hall j (by omega)
theorem X7c (s : List UInt8) : Con Tryz.prog 104 [] [.d (.v (.string (X5 s)))] [] (ab (XP s)) := by
 refine Xc (xs := [ab (XP s)]) Tryz.func104 rfl Tryz.ntmps104 rfl rfl rfl (fun E => ?_)
 have hsz : (X5 s).size = s.length := rfl
 by_cases h0 : s = []
 ·rw [X8u h0]
  subst h0
  refine Qu ?_; refine Zr ?_; refine Qv ?_; exact QC
 by_cases h20 : 20 < s.length
 ·rw [Xa9 h20]
  have h20' : (20 : Int) < (X5 s).size := by omega
  refine Qu ?_; refine Zr ?_; refine Qf ?_; refine Zc ?_; refine QD ?_; exact QC
 have h20' : ¬ (20 : Int) < (X5 s).size := by omega
 obtain ⟨c, hc⟩ := Xu (l := s) (k := 0) (by cases s with | nil => exact absurd rfl h0 | cons => simp)
 have hl := Xak c
 cases hlc : Vh c with
 | false =>
  rw [X9v hc hlc]
  rw [hlc] at hl
  refine Qu ?_; refine Zr ?_; refine Qf ?_; refine QE ?_; exact QG
 | true =>
  rw [hlc] at hl
  refine Qu ?_; refine Zr ?_; refine Qf ?_; refine QE ?_; refine QJ ?_; refine Qt ?_; refine Zc ?_; refine Z1 ?_; refine QK ?_
  refine Xz (fun i : Nat => i ≤ s.length ∧ ∀ j, j < i → ∃ b, s[j]? = some b ∧ Yt b = true) (fun i => ⟨46, [(0, .d (.v (.string (X5 s)))), (18, ai (X5 s).size), (19, ai i)], []⟩) (fun i => s.length - i) 0 ⟨by omega, fun j hj => by omega⟩
   (X7 rfl ⟨JL, JL, JL, trivial⟩ trivial) ?_
  rintro i ⟨hi, hall⟩
  by_cases hil : i < s.length
  case neg =>
   obtain rfl : i = s.length := by omega
   rw [X8H hc hlc h20 hall]
   have hn : ¬ ((s.length : Nat) : Int) < (X5 s).size := by omega
   exact QN
  have hn : (i : Int) < (X5 s).size := by omega
  clear hl hlc hc
  obtain ⟨c, hc⟩ := Xu (l := s) hil
  have hl := Xak c
  cases hlc : Vh c with
  | true =>
   rw [hlc] at hl
   have hnx := X2b hc (show Yt c = true by unfold Yt; rw [hlc]; rfl) hall
   refine QP ?_; refine QR ?_; refine QS ?_; refine Qw ?_; refine Zo ?_; refine QT ?_; refine QU ?_; refine Qw ?_; refine QI ?_; exact QW
  | false =>
   rw [hlc] at hl
   by_cases g1 : 48 ≤ c.toNat
   ·by_cases g2 : c.toNat ≤ 57
    ·have hnx := X2b hc (show Yt c = true by unfold Yt; rw [decide_eq_true (by omega)]; simp) hall
     refine QZ ?_; refine Zn ?_; refine Qw ?_; refine QI ?_; exact QW
    by_cases g3 : c.toNat = 95
    ·have hnx := X2b hc (show Yt c = true by unfold Yt; rw [decide_eq_true (by omega)]; simp) hall
     refine QZ ?_; refine Zn ?_; refine QY ?_; refine Zv ?_; refine Zn ?_; refine QH ?_; exact QW
    ·rw [X4l hc (show Yt c = false by unfold Yt; rw [hlc, decide_eq_false (by omega)]; rfl)]
     refine QZ ?_; refine Zn ?_; refine QY ?_; refine Zv ?_; exact QB
   ·have g3 : ¬ c.toNat = 95 := by omega
    rw [X4l hc (show Yt c = false by unfold Yt; rw [hlc, decide_eq_false (by omega)]; rfl)]
    refine QP ?_; refine QR ?_; refine QS ?_; refine QY ?_; refine Z8 ?_; refine Qw ?_; refine Zn ?_; refine Zn ?_; refine QY ?_; refine Zv ?_; exact QB
def UV (op : Int) : Bool × Bool × Bool × Bool := (decide (op = 6), Vl op, Vp op, decide (1 ≤ op ∧ op ≤ 8))
theorem Xej (op : Int) : Con Tryz.prog 212 [] [ai op] [] (.tup [.agg [ab (UV op).1, ab (UV op).2.1, ab (UV op).2.2.1], ab (UV op).2.2.2]) := by
 refine Xc (xs := [.agg [ab (UV op).1, ab (UV op).2.1, ab (UV op).2.2.1], ab (UV op).2.2.2]) Tryz.func212 rfl Tryz.ntmps212 rfl rfl rfl (fun E => ?_)
 by_cases k1 : op = 1
 ·subst k1
  refine Qaa ?_; refine Qba ?_; refine QK ?_; refine Qea ?_; exact Qha
 by_cases k2 : op = 2
 ·subst k2
  refine Qaa ?_; refine Qba ?_; refine QK ?_; refine Qca ?_; refine Qda ?_; refine JF ?_; refine Qia ?_; refine X2 ?_; refine JT ?_; exact Qha
 by_cases k7 : op = 7
 ·subst k7
  refine Qaa ?_; refine Qba ?_; refine QK ?_; refine Qca ?_; refine Qda ?_; refine JF ?_; refine Qja ?_; refine JR ?_; refine Qda ?_; refine JT ?_; exact Qha
 by_cases k3 : op = 3
 ·subst k3
  refine Qka ?_; refine Qea ?_; exact Qha
 by_cases k4 : op = 4
 ·subst k4
  refine Qka ?_; refine Qla ?_; exact Qha
 by_cases k5 : op = 5
 ·subst k5
  refine Qka ?_; refine Qma ?_; refine Qea ?_; exact Qha
 by_cases k8 : op = 8
 ·subst k8
  refine Qka ?_; refine Qma ?_; refine Qla ?_; exact Qha
 by_cases k6 : op = 6
 ·subst k6
  refine Qka ?_; refine Qma ?_; refine Qma ?_; refine Qia ?_; exact Qha
 rw [show UV op = (false, false, false, false) by unfold UV Vl Vp; rw [decide_eq_false (by omega), decide_eq_false (by omega), decide_eq_false (by omega), decide_eq_false (by omega)]]
 refine Qka ?_; refine Qma ?_; refine Qma ?_; refine Qja ?_; refine X2 ?_; exact Qha
theorem X7e (n : Int) : Con Tryz.prog 213 [] [ai n] [] (ab (idV n)) := by
 refine Xc (xs := [ab (idV n)]) Tryz.func213 rfl Tryz.ntmps213 rfl rfl rfl (fun E => ?_)
 by_cases h1 : 1 ≤ n
 ·by_cases h2 : n ≤ 1000000
  ·rw [show idV n = true by unfold idV; exact decide_eq_true ⟨h1, h2⟩]
   refine Qe ?_; refine Z2 ?_; refine Qf ?_; refine Zm ?_; exact Qoa
  ·rw [show idV n = false by unfold idV; exact decide_eq_false (by omega)]
   refine Qpa ?_; exact Qo
 ·rw [show idV n = false by unfold idV; exact decide_eq_false (by omega)]
  refine Qs ?_; exact Qp
theorem X65 (n : Int) : Con Tryz.prog 169 [] [ai n] [] (ab (idV n)) := by
 refine Xc (xs := [ab (idV n)]) Tryz.func169 rfl Tryz.ntmps169 rfl rfl rfl (fun E => ?_)
 by_cases h1 : 1 ≤ n
 ·by_cases h2 : n ≤ 1000000
  ·rw [show idV n = true by unfold idV; exact decide_eq_true ⟨h1, h2⟩]
   refine Qe ?_; refine Z2 ?_; refine Qf ?_; refine Zm ?_; exact Qoa
  ·rw [show idV n = false by unfold idV; exact decide_eq_false (by omega)]
   refine Qpa ?_; exact Qo
 ·rw [show idV n = false by unfold idV; exact decide_eq_false (by omega)]
  refine Qs ?_; exact Qp
theorem Xff (op : Int) : Con Tryz.prog 170 [] [ai op] [] (ab (Vl op)) := by
 refine Xc (xs := [ab (Vl op)]) Tryz.func170 rfl Tryz.ntmps170 rfl rfl rfl (fun E => ?_)
 by_cases k3 : op = 3
 ·subst k3
  refine Qe ?_; refine Zl ?_; refine Qi ?_; refine Qqa ?_; refine Qqa ?_; refine Qqa ?_; exact Qoa
 by_cases k4 : op = 4
 ·subst k4
  refine Qsa ?_; refine Qi ?_; refine Qqa ?_; refine Qqa ?_; exact Qoa
 by_cases k5 : op = 5
 ·subst k5
  refine Qsa ?_; refine Qra ?_; refine Qi ?_; refine Qqa ?_; exact Qoa
 by_cases k6 : op = 6
 ·subst k6
  refine Qsa ?_; refine Qra ?_; refine Qra ?_; refine Qi ?_; exact Qoa
 by_cases k8 : op = 8
 ·subst k8
  refine Qsa ?_; refine Qra ?_; refine Qra ?_; refine Qra ?_; exact Qm
 rw [show Vl op = false by unfold Vl; exact decide_eq_false (by omega)]
 refine Qsa ?_; refine Qra ?_; refine Qra ?_; refine Qra ?_; exact Qp
theorem Xdz (op : Int) : Con Tryz.prog 171 [] [ai op] [] (ab (Vp op)) := by
 refine Xc (xs := [ab (Vp op)]) Tryz.func171 rfl Tryz.ntmps171 rfl rfl rfl (fun E => ?_)
 by_cases k5 : op = 5
 ·subst k5
  refine Qe ?_; refine Zl ?_; refine Qi ?_; exact Qoa
 by_cases k8 : op = 8
 ·subst k8
  refine Qsa ?_; exact Qm
 rw [show Vp op = false by unfold Vp; exact decide_eq_false (by omega)]
 refine Qsa ?_; exact Qp
theorem X72 (s : List UInt8) : Con Tryz.prog 162 [] [.d (.v (.string (X5 s)))] [] (ab (XP s)) := by
 refine Xc (xs := [ab (XP s)]) Tryz.func162 rfl Tryz.ntmps162 rfl rfl rfl (fun E => ?_)
 have hsz : (X5 s).size = s.length := rfl
 by_cases h0 : s.length < 1
 ·rw [X8u (List.eq_nil_of_length_eq_zero (by omega))]
  have h0' : ((X5 s).size : Int) < 1 := by omega
  refine Qu ?_; refine Zc ?_; refine Z8 ?_; refine Qv ?_; exact QC
 have h0' : ¬ ((X5 s).size : Int) < 1 := by omega
 by_cases h20 : 20 < s.length
 ·rw [Xa9 h20]
  have h20' : (20 : Int) < (X5 s).size := by omega
  refine Qu ?_; refine Zc ?_; refine Qta ?_; refine Zc ?_; refine QD ?_; exact QC
 have h20' : ¬ (20 : Int) < (X5 s).size := by omega
 obtain ⟨c, hc⟩ := Xu (l := s) (k := 0) (by omega)
 have hl := Xbt c
 cases hlc : Vh c with
 | false =>
  rw [X9v hc hlc]
  rw [hlc] at hl
  refine Qu ?_; refine Zc ?_; refine Qta ?_; refine QE ?_; exact QG
 | true =>
  rw [hlc] at hl
  refine Qu ?_; refine Zc ?_; refine Qta ?_; refine QE ?_; refine QJ ?_; refine Qua ?_
  refine Xz (fun i : Nat => 1 ≤ i ∧ i ≤ s.length ∧ ∀ j, j < i → ∃ b, s[j]? = some b ∧ Yt b = true) (fun i => ⟨47, [(0, .d (.v (.string (X5 s)))), (3, ai i)], []⟩) (fun i => s.length - i) 1
   ⟨by omega, by omega, fun j hj => ⟨c, by rw [show j = 0 by omega]; exact hc, by unfold Yt; rw [hlc]; rfl⟩⟩
   (X7 rfl ⟨JL, JL, trivial⟩ trivial) ?_
  rintro i ⟨hi1, hi, hall⟩
  by_cases hil : i < s.length
  case neg =>
   obtain rfl : i = s.length := by omega
   rw [X8H hc hlc h20 hall]
   have hn : ¬ ((s.length : Nat) : Int) < (X5 s).size := by omega
   refine Qva ?_; refine Zc ?_; refine Z8 ?_; refine Qwa ?_; exact Qz
  have hn : (i : Int) < (X5 s).size := by omega
  clear hl hlc hc
  obtain ⟨c, hc⟩ := Xu (l := s) hil
  have hl := Xbt c
  cases hlc : Vh c with
  | true =>
   rw [hlc] at hl
   have hnx := X2b hc (show Yt c = true by unfold Yt; rw [hlc]; rfl) hall
   refine Qya ?_; refine QS ?_; refine Qza ?_; refine Qw ?_; refine Zo ?_; refine QT ?_; refine Zo ?_; refine QI ?_; refine QBa ?_; exact QCa
  | false =>
   rw [hlc] at hl
   by_cases g3 : c.toNat = 95
   ·have hnx := X2b hc (show Yt c = true by unfold Yt; rw [decide_eq_true (by omega)]; simp) hall
    refine Qya ?_; refine QS ?_; refine QY ?_; refine Zv ?_; refine Zn ?_; refine Qw ?_; refine Zo ?_; refine QT ?_; refine Zo ?_; refine QI ?_; refine QBa ?_; exact QCa
   by_cases g1 : 48 ≤ c.toNat
   ·by_cases g2 : c.toNat ≤ 57
    ·have hnx := X2b hc (show Yt c = true by unfold Yt; rw [decide_eq_true (by omega)]; simp) hall
     refine QDa ?_; refine Z8 ?_; refine QY ?_; refine QD ?_; refine Zn ?_; refine QEa ?_; exact QCa
    ·rw [X4l hc (show Yt c = false by unfold Yt; rw [hlc, decide_eq_false (by omega)]; rfl)]
     refine QDa ?_; refine Z8 ?_; refine QY ?_; refine QD ?_; exact QB
   ·rw [X4l hc (show Yt c = false by unfold Yt; rw [hlc, decide_eq_false (by omega)]; rfl)]
    refine QDa ?_; refine Z8 ?_; refine Qw ?_; refine Zn ?_; exact QB
end Go.Fw

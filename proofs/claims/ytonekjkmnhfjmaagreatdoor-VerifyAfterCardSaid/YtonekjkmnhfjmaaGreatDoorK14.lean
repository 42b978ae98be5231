/- The codec in plain Lean: what the functions compute. -/
import Derived.Test.YtonekjkmnhfjmaaGreatDoorChecked
import Derived.Test.YtonekjkmnhfjmaaGreatDoorK11
set_option maxHeartbeats 8000000
namespace Go.Fw
open Go
set_option linter.unusedVariables false
inductive Val where
 | mk (kind n d : Int) (s : List UInt8) (l : List Val)
namespace Val
def kind : Val → Int | mk k _ _ _ _ => k
def n : Val → Int | mk _ n _ _ _ => n
def d : Val → Int | mk _ _ d _ _ => d
def s : Val → List UInt8 | mk _ _ _ s _ => s
def l : Val → List Val | mk _ _ _ _ l => l
end Val
mutual
def Y5 : Val → List D
 | .mk k n d s l => [.v (.int .i64 k), .v (.int .i64 n), .v (.int .i64 d), .v (.string (X5 s)), .sl 5 (XG l)]
def XG : List Val → List (List D)
 | [] => []
 | v :: r => Y5 v :: XG r
end
theorem X2O : ∀ l : List Val, XG l = l.map Y5
 | [] => by simp [XG]
 | v :: r => by simp [XG, X2O r]
theorem Xx {α β : Type} {l : List α} {f : α → β} {k : Nat} {x : α} (h : l[k]? = some x) : (l.map f)[k]? = some (f x) := by simp [h]
theorem Xs {α : Type} {l : List α} {k : Nat} (h : k < l.length) : ∃ x, l[k]? = some x := ⟨_, List.getElem?_eq_getElem h⟩
def vS (n : Nat) : List UInt8 := if n < 128 then [UInt8.ofNat n] else UInt8.ofNat (n % 128 + 128) :: vS (n / 128)
termination_by n
decreasing_by omega
def X03 (n : Int) : List UInt8 := if n < 0 then [] else vS n.toNat
def zig (n : Int) : Nat := if n < 0 then 2 * (-(n + 1)).toNat + 1 else 2 * n.toNat
def X3t (n : Int) : List UInt8 := vS (zig n)
def VI (s : List UInt8) : List UInt8 := X03 s.length ++ s
def Xh8 (l : List UInt8) : Nat := ((l.take 10).takeWhile fun b => decide (128 ≤ b.toNat)).length
def VV : List UInt8 → Nat
 | [] => 0
 | b :: r => b.toNat % 128 + 128 * VV r
def UX (n d : Int) : Bool := decide (1 ≤ d ∧ d ≤ 1000000000000000 ∧ -1000000000000000 ≤ n ∧ n ≤ 1000000000000000) && decide (Nat.gcd n.natAbs d.natAbs = 1)
def UO (s : List UInt8) : Bool := s.all fun b => decide (32 ≤ b.toNat ∧ b.toNat ≤ 126)
mutual
def X8 : Nat → Val → Bool
 | m, .mk k n d s l =>
  (k == 3 || d == 0) && (k == 4 || decide (s.length = 0)) && (k == 7 || k == 8 || decide (l.length = 0)) &&
  (if k = 0 then decide (n = 0) else if k = 1 then decide (n = 0 ∨ n = 1) else if k = 2 then decide (-1000000000000000 ≤ n ∧ n ≤ 1000000000000000)
   else if k = 3 then decide (2 ≤ d) && UX n d else if k = 4 then decide (n = 0 ∧ s.length ≤ 100) && UO s
   else if k = 5 ∨ k = 6 then decide (1 ≤ n ∧ n ≤ 1000000) else if k = 7 then decide (n = 0 ∧ l.length % 2 = 1 ∧ l.length ≤ 25) && UW 0 l
   else if k = 8 then decide (n = 0 ∧ l.length ≤ 64 ∧ 1 ≤ m) && V9 (m - 1) l else false)
def V9 : Nat → List Val → Bool
 | m, [] => true
 | m, v :: r => X8 m v && V9 m r
def UW : Nat → List Val → Bool
 | i, [] => true
 | i, v :: r => decide (v.kind = 5 + (i % 2 : Nat)) && X8 0 v && UW (i + 1) r
end
mutual
def X3U : Val → List UInt8
 | .mk k n d s l => UInt8.ofNat k.toNat :: (if k = 1 ∨ k = 2 ∨ k = 5 ∨ k = 6 then X3t n else if k = 3 then X3t n ++ X3t d else if k = 4 then VI s
   else if k = 7 ∨ k = 8 then X03 l.length ++ X9l l else [])
def X9l : List Val → List UInt8
 | [] => []
 | v :: r => X3U v ++ X9l r
end
def X5C (v : Val) : List UInt8 := if X8 8 v then X3U v else []
structure Chg where
 op : Int
 id : Int
 src : Int
 dst : Int
 name : List UInt8
 v : Val
structure Rul where
 kind : Int
 n : Int
 name : List UInt8
 key : List UInt8
 src : List UInt8
 dst : List UInt8
def U3 (c : UInt8) : Bool := decide ((97 ≤ c.toNat ∧ c.toNat ≤ 122) ∨ (65 ≤ c.toNat ∧ c.toNat ≤ 90))
def XT (c : UInt8) : Bool := U3 c || decide ((48 ≤ c.toNat ∧ c.toNat ≤ 57) ∨ c.toNat = 95)
def Xt (s : List UInt8) : Bool := decide (1 ≤ s.length ∧ s.length ≤ 20) && U3 ((s[0]?).getD 0) && s.all XT
def YA (v : Val) : Bool := X8 8 v && decide (v.kind = 0)
def X4j (b : Bool) (k : Int) : Bool := decide (k = 1 ∨ k = 2 ∨ k = 4) && b
def XV (v : Val) : Bool := X4j (X8 8 v) v.kind
def idV (n : Int) : Bool := decide (1 ≤ n ∧ n ≤ 1000000)
def VO (op : Int) : Bool := decide (op = 3 ∨ op = 4 ∨ op = 5 ∨ op = 6 ∨ op = 8)
def VL (op : Int) : Bool := decide (op = 5 ∨ op = 8)
def YZ (c : Chg) : Int :=
 if decide (1 ≤ c.op ∧ c.op ≤ 8) = false ∨ idV c.id = false then 1
 else if (c.op = 6 ∧ (idV c.src = false ∨ idV c.dst = false)) ∨ (c.op ≠ 6 ∧ (c.src ≠ 0 ∨ c.dst ≠ 0)) then 1
 else if (VO c.op = false ∧ c.name ≠ []) ∨ (VL c.op = false ∧ YA c.v = false) then 1
 else if VO c.op = true ∧ Xt c.name = false then 6
 else if VL c.op = true ∧ YA c.v = false ∧ XV c.v = false then 8 else 0
def XbP (r : Rul) : Bool := if r.kind = 3 ∨ r.kind = 5 then decide (r.n = 1 ∨ r.n = 2 ∨ r.n = 4) else if r.kind = 7 then decide (0 ≤ r.n ∧ r.n ≤ 4000) else decide (r.n = 0)
def Vb (k : Int) : Bool := decide (1 ≤ k ∧ k ≤ 5)
def Ut (r : Rul) : Int :=
 if decide (1 ≤ r.kind ∧ r.kind ≤ 7) = false ∨ XbP r = false then 1
 else if (Vb r.kind = false ∧ r.key ≠ []) ∨ (r.kind ≠ 6 ∧ (r.src ≠ [] ∨ r.dst ≠ [])) then 1
 else if Xt r.name = false ∨ (Vb r.kind = true ∧ Xt r.key = false) ∨ (r.src ≠ [] ∧ Xt r.src = false) ∨ (r.dst ≠ [] ∧ Xt r.dst = false) then 6 else 0
def X7G (r : Rul) : List UInt8 := UInt8.ofNat r.kind.toNat :: (VI r.name ++ VI r.key ++ VI r.src ++ VI r.dst ++ X3t r.n)
def Xab (r : Rul) : List UInt8 := if Ut r = 0 then X7G r else []
structure Prp where
 key : List UInt8
 v : Val
structure Nod where
 id : Int
 labels : List (List UInt8)
 props : List Prp
structure Edg where
 id : Int
 src : Int
 dst : Int
 typ : List UInt8
 props : List Prp
structure Gra where
 nodes : List Nod
 edges : List Edg
 nn : Int
 ne : Int
def Xa (s : List UInt8) : List D := [.v (.string (X5 s))]
def X7 (p : Prp) : List D := .v (.string (X5 p.key)) :: Y5 p.v
def X9 (n : Nod) : List D := [.v (.int .i64 n.id), .sl 1 (n.labels.map Xa), .sl 6 (n.props.map X7)]
def Xf (e : Edg) : List D := [.v (.int .i64 e.id), .v (.int .i64 e.src), .v (.int .i64 e.dst), .v (.string (X5 e.typ)), .sl 6 (e.props.map X7)]
def Xj (g : Gra) : AVal := .agg [.d (.sl 3 (g.nodes.map X9)), .d (.sl 5 (g.edges.map Xf)), ai g.nn, ai g.ne]
abbrev YK : Gra := ⟨[], [], 0, 0⟩
def Yz : List (List UInt8) → Bool
 | a :: b :: r => !(Op.bytesLess b a || decide (b = a)) && Yz (b :: r)
 | _ => true
def YO (ls : List (List UInt8)) (ps : List Prp) : Int :=
 if 8 < ls.length ∨ 16 < ps.length then 4
 else if ls.all Xt = false ∨ (ps.map Prp.key).all Xt = false then 6
 else if Yz ls = false ∨ Yz (ps.map Prp.key) = false then 26
 else if (ps.map Prp.v).all XV = false then 8 else 0
def Uq (nn : Int) (prev : Option Nod) (n : Nod) : Int :=
 if (∃ p, prev = some p ∧ n.id ≤ p.id) then 26 else if n.id < 1 ∨ nn ≤ n.id then 1 else YO n.labels n.props
def YW (nn : Int) : Option Nod → List Nod → Int
 | _, [] => 0
 | p, n :: r => if Uq nn p n ≠ 0 then Uq nn p n else YW nn (some n) r
def Y3 (l : List Nod) (n : Int) : Bool := l.any fun x => decide (x.id = n)
def UR (ns : List Nod) (ne : Int) (prev : Option Edg) (e : Edg) : Int :=
 if (∃ p, prev = some p ∧ e.id ≤ p.id) then 26 else if e.id < 1 ∨ ne ≤ e.id then 1
 else if Y3 ns e.src = false ∨ Y3 ns e.dst = false then 10 else if Xt e.typ = false then 6 else YO [] e.props
def UP (ns : List Nod) (ne : Int) : Option Edg → List Edg → Int
 | _, [] => 0
 | p, n :: r => if UR ns ne p n ≠ 0 then UR ns ne p n else UP ns ne (some n) r
def Yh (g : Gra) : Int :=
 if 2000 < g.nodes.length ∨ 4000 < g.edges.length then 4
 else if g.nn < 1 ∨ 1000001 < g.nn ∨ g.ne < 1 ∨ 1000001 < g.ne then 1
 else if YW g.nn none g.nodes ≠ 0 then YW g.nn none g.nodes else UP g.nodes g.ne none g.edges
def Ya {α : Type} (l : List α) (i : Nat) : Option α := if i = 0 then none else l[i - 1]?
theorem X0V {α : Type} {l : List α} {i : Nat} : Ya l (i + 1) = l[i]? := by simp [Ya]
theorem X8B {nn : Int} {l : List Nod} {i : Nat} {n : Nod} (h : l[i]? = some n) :
  YW nn (Ya l i) (l.drop i) = if Uq nn (Ya l i) n ≠ 0 then Uq nn (Ya l i) n else YW nn (Ya l (i + 1)) (l.drop (i + 1)) := by
 obtain ⟨hi, h⟩ := List.getElem?_eq_some_iff.1 h
 rw [List.drop_eq_getElem_cons hi, h, YW, X0V, List.getElem?_eq_getElem hi, h]
theorem Xb4 {ns : List Nod} {ne : Int} {l : List Edg} {i : Nat} {n : Edg} (h : l[i]? = some n) :
  UP ns ne (Ya l i) (l.drop i) = if UR ns ne (Ya l i) n ≠ 0 then UR ns ne (Ya l i) n else UP ns ne (Ya l (i + 1)) (l.drop (i + 1)) := by
 obtain ⟨hi, h⟩ := List.getElem?_eq_some_iff.1 h
 rw [List.drop_eq_getElem_cons hi, h, UP, X0V, List.getElem?_eq_getElem hi, h]
def X3Y (l : List Nod) : Prop := ∀ (i j : Nat) (a b : Nod), l[i]? = some a → l[j]? = some b → i < j → a.id < b.id
theorem X8A {nn : Int} : ∀ (l : List Nod) (p : Option Nod), YW nn p l = 0 → (∀ a b, p = some a → b ∈ l → a.id < b.id) ∧ X3Y l
 | [], p, _ => ⟨by simp, by intro i j a b h; simp at h⟩
 | x :: r, p, h => by
  rw [YW] at h
  have h0 : Uq nn p x = 0 := by
   by_cases h0 : Uq nn p x = 0
   ·exact h0
   ·rw [if_pos h0] at h; exact absurd h h0
  rw [h0, if_neg (by simp)] at h
  obtain ⟨h1, h2⟩ := X8A r (some x) h
  have hp : ∀ a, p = some a → a.id < x.id := by
   intro a ha
   unfold Uq at h0
   by_cases q : ∃ p', p = some p' ∧ x.id ≤ p'.id
   ·rw [if_pos q] at h0; simp at h0
   ·refine Int.lt_of_not_ge fun hc => q ⟨a, ha, hc⟩
  refine ⟨fun a b ha hb => ?_, fun i j a b hi hj hij => ?_⟩
  ·rcases List.mem_cons.1 hb with rfl | hb
   ·exact hp a ha
   ·exact Int.lt_trans (hp a ha) (h1 x b rfl hb)
  ·cases j with
   | zero => omega
   | succ j =>
    cases i with
    | zero =>
     simp only [List.getElem?_cons_zero, Option.some.injEq] at hi
     subst hi
     exact h1 x b rfl (List.mem_of_getElem? (by simpa using hj))
    | succ i => exact h2 i j a b (by simpa using hi) (by simpa using hj) (by omega)
def X5c (l : List Nod) (n : Int) : Nat := (l.takeWhile fun x => decide (x.id < n)).length
theorem X6d {α : Type} {p : α → Bool} : ∀ {l : List α} {i : Nat}, i ≤ l.length → (∀ k x, k < i → l[k]? = some x → p x = true) → (∀ x, l[i]? = some x → p x = false) → (l.takeWhile p).length = i
 | [], i, h, _, _ => by simp at h; simp [h]
 | x :: r, 0, _, _, h => by rw [List.takeWhile_cons_of_neg (by simp [h x (by simp)])]; rfl
 | x :: r, i + 1, h, h1, h2 => by
  rw [List.takeWhile_cons_of_pos (h1 0 x (by omega) (by simp)), List.length_cons, X6d (i := i) (by simpa using h) (fun k y hk hy => h1 (k + 1) y (by omega) (by simpa using hy)) (fun y hy => h2 y (by simpa using hy))]
theorem Xdd {l : List Nod} {n : Int} {i : Nat} (h : i ≤ l.length) (h1 : ∀ k x, k < i → l[k]? = some x → x.id < n) (h2 : ∀ x, l[i]? = some x → ¬ x.id < n) : X5c l n = i :=
 X6d h (fun k x hk hx => by simpa using h1 k x hk hx) (fun x hx => by simpa using h2 x hx)
theorem XeN {l : List Nod} {n : Int} {i : Nat} (hr : X3Y l) (h1 : ∀ k x, k < i → l[k]? = some x → x.id < n) (h2 : ∀ k x, i ≤ k → l[k]? = some x → n ≤ x.id) : Y3 l n = decide (∃ x, l[i]? = some x ∧ x.id = n) := by
 rw [Bool.eq_iff_iff]
 simp only [Y3, List.any_eq_true, decide_eq_true_eq]
 constructor
 ·rintro ⟨x, hx, e⟩
  obtain ⟨k, hk⟩ := List.getElem?_of_mem hx
  have hki : i ≤ k := by
   by_cases q : k < i
   ·have := h1 k x q hk; omega
   ·omega
  have hi : i < l.length := by have := (List.getElem?_eq_some_iff.1 hk).1; omega
  refine ⟨l[i], List.getElem?_eq_getElem hi, ?_⟩
  have a := h2 i l[i] (Nat.le_refl _) (List.getElem?_eq_getElem hi)
  by_cases q : i = k
  ·subst q
   rw [List.getElem?_eq_getElem hi] at hk
   injection hk with hk
   rw [hk]; exact e
  ·have := hr i k l[i] x (List.getElem?_eq_getElem hi) hk (by omega)
   omega
 ·rintro ⟨x, hx, e⟩
  exact ⟨x, List.mem_of_getElem? hx, e⟩
def Y8 (s t : List UInt8) : Int := if Op.bytesLess s t = true then -1 else if s = t then 0 else 1
def UY (a b : Rul) : Int :=
 if a.kind < b.kind then -1 else if b.kind < a.kind then 1 else if Y8 a.name b.name ≠ 0 then Y8 a.name b.name else if Y8 a.key b.key ≠ 0 then Y8 a.key b.key
 else if a.n < b.n then -1 else if b.n < a.n then 1 else if Y8 a.src b.src ≠ 0 then Y8 a.src b.src else Y8 a.dst b.dst
def VM : Option Rul → List Rul → Bool
 | _, [] => true
 | p, r :: l => decide (Ut r = 0 ∧ ∀ q, p = some q → UY q r < 0) && VM (some r) l
def Ve (l : List Rul) : Bool := VM none l && decide (l.length ≤ 40)
theorem X7O {α : Type} {p : α → Bool} : ∀ (l : List α) (i : Nat), (∀ j, j < i → ∃ b, l[j]? = some b ∧ p b = true) → (∀ b, l[i]? = some b → p b = false) → (l.takeWhile p).length = i
 | [], 0, _, _ => rfl
 | [], i + 1, h, _ => by obtain ⟨b, hb, _⟩ := h 0 (by omega); simp at hb
 | x :: l, 0, _, h => by have := h x (by simp); simp [List.takeWhile, this]
 | x :: l, i + 1, h, k => by
  obtain ⟨b, hb, hp⟩ := h 0 (by omega)
  simp at hb; subst hb
  simp only [List.takeWhile, hp, List.length_cons]
  rw [X7O l i (fun j hj => by simpa using h (j + 1) (by omega)) (fun b hb => k b (by simpa using hb))]
def X2A : List UInt8 → Prop
 | [] => False
 | [c] => c.toNat < 128
 | b :: c :: m => 128 ≤ b.toNat ∧ X2A (c :: m) ∧ c :: m ≠ [0]
theorem X9R : ∀ {m : List UInt8}, X2A m → m ≠ [0] → 0 < VV m
 | [c], h, hn => by
  simp only [X2A] at h
  have : c.toNat ≠ 0 := fun e => hn (by rw [show c = 0 from UInt8.toNat_inj.1 e])
  simp only [VV]; omega
 | b :: c :: m, h, _ => by
  have := X9R h.2.1 h.2.2
  simp only [VV] at this ⊢; omega
theorem X5E {n : Nat} (h : n < 256) : (UInt8.ofNat n).toNat = n := by simp; omega
theorem Xhi (u : Nat) : X2A (vS u) ∧ VV (vS u) = u ∧ (vS u = [0] → u = 0) := by
 induction u using Nat.strongRecOn with
 | _ u ih =>
  rw [vS]
  by_cases h : u < 128
  ·rw [if_pos h]
   simp only [X2A, VV, X5E (show u < 256 by omega)]
   refine ⟨h, by omega, fun e => ?_⟩
   have := congrArg (fun l : List UInt8 => (l.headD 1).toNat) e
   simp only [List.headD_cons, X5E (show u < 256 by omega)] at this
   simpa using this
  ·rw [if_neg h]
   obtain ⟨h1, h2, h3⟩ := ih (u / 128) (by omega)
   cases hv : vS (u / 128) with
   | nil => rw [hv] at h1; exact h1.elim
   | cons c m =>
    rw [hv] at h1 h2 h3
    have hb : (UInt8.ofNat (u % 128 + 128)).toNat = u % 128 + 128 := X5E (by omega)
    refine ⟨⟨by rw [hb]; omega, h1, fun e => by have := h3 e; omega⟩, ?_, fun e => by simp at e⟩
    simp only [VV] at h2 ⊢
    rw [hb]; omega
theorem Xb0 : ∀ {m : List UInt8} (k : Nat), X2A m → VV m < 2 ^ (7 * k) → 0 < k → m.length ≤ k
 | [c], k, _, _, hk => hk
 | b :: c :: m, k, h, hn, hk => by
  have h2 := X9R h.2.1 h.2.2
  cases k with
  | zero => omega
  | succ k =>
   by_cases hk0 : k = 0
   ·subst hk0
    have e : VV (b :: c :: m) = b.toNat % 128 + 128 * VV (c :: m) := rfl
    rw [e] at hn
    have : (2 : Nat) ^ (7 * (0 + 1)) = 128 := rfl
    omega
   ·have := Xb0 k h.2.1 (by
     have e : VV (b :: c :: m) = b.toNat % 128 + 128 * VV (c :: m) := rfl
     rw [e, show 7 * (k + 1) = 7 + 7 * k by omega, Nat.pow_add, show (2 : Nat) ^ 7 = 128 from rfl] at hn
     omega) (by omega)
    simp only [List.length_cons] at this ⊢; omega
theorem XbN {n : Int} (h : 0 ≤ n) : X03 n = vS n.toNat := by unfold X03; rw [if_neg (by omega)]
theorem Xgu {n : Int} (h : -9223372036854775808 ≤ n ∧ n ≤ 9223372036854775807) : zig n < 18446744073709551616 := by
 unfold zig; split <;> omega
def only (b : List UInt8) (a e : Int) (want : List UInt8) : Prop := 0 ≤ a ∧ a ≤ e ∧ e ≤ b.length ∧ (b.drop a.toNat).take (e - a).toNat = want
abbrev zV : Val := .mk 0 0 0 [] []
open Go Go.Proofs
set_option maxRecDepth 100000
set_option linter.unusedSimpArgs false
abbrev n64 (n : Nat) : Value := .int .u64 n
abbrev ni (n : Nat) : Value := .int .i64 n
theorem X7x {n : Nat} (h : n < 18446744073709551616) : (vS n).length ≤ 10 := by
 obtain ⟨h1, h2, _⟩ := Xhi n
 exact Xb0 10 h1 (by rw [h2]; exact Nat.lt_of_lt_of_le h (by decide)) (by omega)
abbrev XC (l : List UInt8) : AVal := .d (.v (.string (X5 l)))
theorem X1m {c : UInt8} (h : (97 ≤ c.toNat ∧ c.toNat ≤ 122) ∨ (65 ≤ c.toNat ∧ c.toNat ≤ 90)) : U3 c = true := decide_eq_true h
theorem VZ {c : UInt8} (h : ¬ ((97 ≤ c.toNat ∧ c.toNat ≤ 122) ∨ (65 ≤ c.toNat ∧ c.toNat ≤ 90))) : U3 c = false := decide_eq_false h
theorem XaX (c : UInt8) : Con Tryz.prog 160 [] [au8 c.toNat] [] (ab (U3 c)) := by
 refine Xc (xs := [ab (U3 c)]) Tryz.func160 rfl Tryz.ntmps160 rfl rfl rfl (fun E => ?_)
 by_cases h1 : 97 ≤ c.toNat
 ·by_cases h2 : c.toNat ≤ 122
  ·rw [X1m (by omega)]
   refine QH ?_; refine QJ ?_; refine ZC ?_; refine ZD ?_; refine ZD ?_; refine QK ?_; exact QM
  ·rw [VZ (by omega)]
   refine QH ?_; refine Qq ?_; refine Zm ?_; exact QQ
 by_cases h3 : 65 ≤ c.toNat
 ·by_cases h4 : c.toNat ≤ 90
  ·rw [X1m (by omega)]
   refine QS ?_; refine Qq ?_; refine QG ?_; exact QT
  ·rw [VZ (by omega)]
   refine QS ?_; exact QQ
 rw [VZ (by omega)]
 refine QS ?_; refine QJ ?_; refine ZE ?_; exact QP
theorem X80 (c : UInt8) : Con Tryz.prog 226 [] [au8 c.toNat] [] (ab (U3 c)) := by
 refine Xc (xs := [ab (U3 c)]) Tryz.func226 rfl Tryz.ntmps226 rfl rfl rfl (fun E => ?_)
 by_cases h1 : 97 ≤ c.toNat
 ·by_cases h2 : c.toNat ≤ 122
  ·rw [X1m (by omega)]
   refine QH ?_; refine QJ ?_; refine ZC ?_; refine ZD ?_; refine ZD ?_; refine QK ?_; exact QM
  ·rw [VZ (by omega)]
   refine QH ?_; refine Qq ?_; refine Zm ?_; exact QQ
 by_cases h3 : 65 ≤ c.toNat
 ·by_cases h4 : c.toNat ≤ 90
  ·rw [X1m (by omega)]
   refine QS ?_; refine Qq ?_; refine QG ?_; exact QT
  ·rw [VZ (by omega)]
   refine QS ?_; exact QQ
 rw [VZ (by omega)]
 refine QS ?_; refine QJ ?_; refine ZE ?_; exact QP
theorem X5K {s : List UInt8} (h : s = []) : Xt s = false := by subst h; rfl
theorem X6Y {s : List UInt8} (h : 20 < s.length) : Xt s = false := by unfold Xt; rw [decide_eq_false (by omega)]; rfl
theorem X3q {s : List UInt8} {c : UInt8} (hc : s[0]? = some c) (h : U3 c = false) : Xt s = false := by unfold Xt; rw [hc, Option.getD_some, h]; simp
theorem X1f {s : List UInt8} {c : UInt8} {i : Nat} (hc : s[i]? = some c) (h : XT c = false) : Xt s = false := by
 unfold Xt
 rw [show s.all XT = false by rw [List.all_eq_false]; exact ⟨c, List.mem_of_getElem? hc, by simp [h]⟩]
 simp
theorem X5Z {s : List UInt8} {c : UInt8} (hc : s[0]? = some c) (h : U3 c = true) (h20 : ¬ 20 < s.length) (hall : ∀ j, j < s.length → ∃ b, s[j]? = some b ∧ XT b = true) : Xt s = true := by
 have hl := (List.getElem?_eq_some_iff.1 hc).1
 unfold Xt
 rw [hc, Option.getD_some, h, decide_eq_true (by omega)]
 simp only [Bool.true_and, List.all_eq_true]
 intro b hb
 obtain ⟨j, hj⟩ := List.getElem?_of_mem hb
 obtain ⟨b', h1, h2⟩ := hall j (List.getElem?_eq_some_iff.1 hj).1
 rw [hj] at h1
 obtain rfl := Option.some.inj h1
 exact h2
theorem VY {s : List UInt8} {i : Nat} {c : UInt8} (hc : s[i]? = some c) (h : XT c = true) (hall : ∀ j, j < i → ∃ b, s[j]? = some b ∧ XT b = true) : ∀ j, j < i + 1 → ∃ b, s[j]? = some b ∧ XT b = true := fun j hj => by
 by_cases e : j = i
 ·subst e; exact ⟨c, hc, h⟩
 ·exact hall j (by omega)
theorem X1M (s : List UInt8) : Con Tryz.prog 104 [] [.d (.v (.string (X5 s)))] [] (ab (Xt s)) := by
 refine Xc (xs := [ab (Xt s)]) Tryz.func104 rfl Tryz.ntmps104 rfl rfl rfl (fun E => ?_)
 have hsz : (X5 s).size = s.length := rfl
 by_cases h0 : s = []
 ·rw [X5K h0]
  subst h0
  refine QU ?_; refine ZF ?_; refine QV ?_; exact Qba
 by_cases h20 : 20 < s.length
 ·rw [X6Y h20]
  have h20' : (20 : Int) < (X5 s).size := by omega
  refine QU ?_; refine ZF ?_; refine Qq ?_; refine Zu ?_; refine Qca ?_; exact Qba
 have h20' : ¬ (20 : Int) < (X5 s).size := by omega
 obtain ⟨c, hc⟩ := Xs (l := s) (k := 0) (by cases s with | nil => exact absurd rfl h0 | cons => simp)
 have hl := XaX c
 cases hlc : U3 c with
 | false =>
  rw [X3q hc hlc]
  rw [hlc] at hl
  refine QU ?_; refine ZF ?_; refine Qda ?_; exact Qfa
 | true =>
  rw [hlc] at hl
  refine QU ?_; refine ZF ?_; refine Qda ?_; refine Qha ?_; refine Qh ?_; refine Zu ?_; refine Qia ?_
  refine Xz (fun i : Nat => i ≤ s.length ∧ ∀ j, j < i → ∃ b, s[j]? = some b ∧ XT b = true) (fun i => ⟨46, [(0, .d (.v (.string (X5 s)))), (18, ai (X5 s).size), (19, ai i)], []⟩) (fun i => s.length - i) 0 ⟨by omega, fun j hj => by omega⟩
   (X6 rfl ⟨JL, JL, JL, trivial⟩ trivial) ?_
  rintro i ⟨hi, hall⟩
  by_cases hil : i < s.length
  case neg =>
   obtain rfl : i = s.length := by omega
   rw [X5Z hc hlc h20 hall]
   have hn : ¬ ((s.length : Nat) : Int) < (X5 s).size := by omega
   exact Qla
  have hn : (i : Int) < (X5 s).size := by omega
  clear hl hlc hc
  obtain ⟨c, hc⟩ := Xs (l := s) hil
  have hl := XaX c
  cases hlc : U3 c with
  | true =>
   rw [hlc] at hl
   have hnx := VY hc (show XT c = true by unfold XT; rw [hlc]; rfl) hall
   refine Qoa ?_; refine QW ?_; refine Qqa ?_; refine Qra ?_; refine QW ?_; refine Qga ?_; refine Qsa ?_; exact Qta
  | false =>
   rw [hlc] at hl
   by_cases g1 : 48 ≤ c.toNat
   ·by_cases g2 : c.toNat ≤ 57
    ·have hnx := VY hc (show XT c = true by unfold XT; rw [decide_eq_true (by omega)]; simp) hall
     refine Qoa ?_; refine Qva ?_; refine ZB ?_; refine QW ?_; refine Qga ?_; refine Qsa ?_; exact Qta
    by_cases g3 : c.toNat = 95
    ·have hnx := VY hc (show XT c = true by unfold XT; rw [decide_eq_true (by omega)]; simp) hall
     refine Qoa ?_; refine Qva ?_; refine ZB ?_; refine Qua ?_; refine ZH ?_; refine ZB ?_; refine Qwa ?_; exact Qta
    ·rw [X1f hc (show XT c = false by unfold XT; rw [hlc, decide_eq_false (by omega)]; rfl)]
     refine Qoa ?_; refine Qva ?_; refine ZB ?_; refine Qua ?_; refine ZH ?_; exact Qaa
   ·have g3 : ¬ c.toNat = 95 := by omega
    rw [X1f hc (show XT c = false by unfold XT; rw [hlc, decide_eq_false (by omega)]; rfl)]
    refine Qoa ?_; refine Qua ?_; refine Zq ?_; refine QW ?_; refine ZB ?_; refine ZB ?_; refine Qua ?_; refine ZH ?_; exact Qaa
end Go.Fw

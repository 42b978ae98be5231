/- The codec in plain Lean: what the functions compute. -/
import Derived.Test.YtbhleedlnaakkaaChecked
import Derived.Test.YtbhleedlnaakkaaK08
set_option maxHeartbeats 8000000
namespace Go.Fw
open Go
set_option linter.unusedVariables false
inductive Val where
 | mk (kind n d : Int) (s : List UInt8) (l : List Val)
namespace Val
def kind : Val → Int | mk k _ _ _ _ => k
def n : Val → Int | mk _ n _ _ _ => n
def d : Val → Int | mk _ _ d _ _ => d
def s : Val → List UInt8 | mk _ _ _ s _ => s
def l : Val → List Val | mk _ _ _ _ l => l
end Val
mutual
def Y9 : Val → List D
 | .mk k n d s l => [.v (.int .i64 k), .v (.int .i64 n), .v (.int .i64 d), .v (.string (X5 s)), .sl 5 (Yx l)]
def Yx : List Val → List (List D)
 | [] => []
 | v :: r => Y9 v :: Yx r
end
theorem X0N : ∀ l : List Val, Yx l = l.map Y9
 | [] => by simp [Yx]
 | v :: r => by simp [Yx, X0N r]
theorem Xw {α β : Type} {l : List α} {f : α → β} {k : Nat} {x : α} (h : l[k]? = some x) : (l.map f)[k]? = some (f x) := by simp [h]
theorem Xs {α : Type} {l : List α} {k : Nat} (h : k < l.length) : ∃ x, l[k]? = some x := ⟨_, List.getElem?_eq_getElem h⟩
def vS (n : Nat) : List UInt8 := if n < 128 then [UInt8.ofNat n] else UInt8.ofNat (n % 128 + 128) :: vS (n / 128)
termination_by n
decreasing_by omega
def Ub (n : Int) : List UInt8 := if n < 0 then [] else vS n.toNat
def zig (n : Int) : Nat := if n < 0 then 2 * (-(n + 1)).toNat + 1 else 2 * n.toNat
def X04 (n : Int) : List UInt8 := vS (zig n)
def YU (s : List UInt8) : List UInt8 := Ub s.length ++ s
def X9a (l : List UInt8) : Nat := ((l.take 10).takeWhile fun b => decide (128 ≤ b.toNat)).length
def U1 : List UInt8 → Nat
 | [] => 0
 | b :: r => b.toNat % 128 + 128 * U1 r
def Uz (n d : Int) : Bool := decide (1 ≤ d ∧ d ≤ 1000000000000000 ∧ -1000000000000000 ≤ n ∧ n ≤ 1000000000000000) && decide (Nat.gcd n.natAbs d.natAbs = 1)
def YZ (s : List UInt8) : Bool := s.all fun b => decide (32 ≤ b.toNat ∧ b.toNat ≤ 126)
mutual
def X6 : Nat → Val → Bool
 | m, .mk k n d s l =>
  (k == 3 || d == 0) && (k == 4 || decide (s.length = 0)) && (k == 7 || k == 8 || decide (l.length = 0)) &&
  (if k = 0 then decide (n = 0) else if k = 1 then decide (n = 0 ∨ n = 1) else if k = 2 then decide (-1000000000000000 ≤ n ∧ n ≤ 1000000000000000)
   else if k = 3 then decide (2 ≤ d) && Uz n d else if k = 4 then decide (n = 0 ∧ s.length ≤ 100) && YZ s
   else if k = 5 ∨ k = 6 then decide (1 ≤ n ∧ n ≤ 1000000) else if k = 7 then decide (n = 0 ∧ l.length % 2 = 1 ∧ l.length ≤ 25) && YP 0 l
   else if k = 8 then decide (n = 0 ∧ l.length ≤ 64 ∧ 1 ≤ m) && Uu (m - 1) l else false)
def Uu : Nat → List Val → Bool
 | m, [] => true
 | m, v :: r => X6 m v && Uu m r
def YP : Nat → List Val → Bool
 | i, [] => true
 | i, v :: r => decide (v.kind = 5 + (i % 2 : Nat)) && X6 0 v && YP (i + 1) r
end
mutual
def X0r : Val → List UInt8
 | .mk k n d s l => UInt8.ofNat k.toNat :: (if k = 1 ∨ k = 2 ∨ k = 5 ∨ k = 6 then X04 n else if k = 3 then X04 n ++ X04 d else if k = 4 then YU s
   else if k = 7 ∨ k = 8 then Ub l.length ++ X33 l else [])
def X33 : List Val → List UInt8
 | [] => []
 | v :: r => X0r v ++ X33 r
end
def X1Z (v : Val) : List UInt8 := if X6 8 v then X0r v else []
end Go.Fw
namespace Go.Fw
open Go
set_option linter.unusedVariables false
structure Rul where
 kind : Int
 n : Int
 name : List UInt8
 key : List UInt8
 src : List UInt8
 dst : List UInt8
def Y7 (c : UInt8) : Bool := decide ((97 ≤ c.toNat ∧ c.toNat ≤ 122) ∨ (65 ≤ c.toNat ∧ c.toNat ≤ 90))
def Xr (c : UInt8) : Bool := Y7 c || decide ((48 ≤ c.toNat ∧ c.toNat ≤ 57) ∨ c.toNat = 95)
def Xg (s : List UInt8) : Bool := decide (1 ≤ s.length ∧ s.length ≤ 20) && Y7 ((s[0]?).getD 0) && s.all Xr
def X23 (b : Bool) (k : Int) : Bool := decide (k = 1 ∨ k = 2 ∨ k = 4) && b
def XJ (v : Val) : Bool := X23 (X6 8 v) v.kind
def X8r (r : Rul) : Bool := if r.kind = 3 ∨ r.kind = 5 then decide (r.n = 1 ∨ r.n = 2 ∨ r.n = 4) else if r.kind = 7 then decide (0 ≤ r.n ∧ r.n ≤ 4000) else decide (r.n = 0)
def Ys (k : Int) : Bool := decide (1 ≤ k ∧ k ≤ 5)
def Yy (r : Rul) : Int :=
 if decide (1 ≤ r.kind ∧ r.kind ≤ 7) = false ∨ X8r r = false then 1
 else if (Ys r.kind = false ∧ r.key ≠ []) ∨ (r.kind ≠ 6 ∧ (r.src ≠ [] ∨ r.dst ≠ [])) then 1
 else if Xg r.name = false ∨ (Ys r.kind = true ∧ Xg r.key = false) ∨ (r.src ≠ [] ∧ Xg r.src = false) ∨ (r.dst ≠ [] ∧ Xg r.dst = false) then 6 else 0
def X2f (r : Rul) : List UInt8 := UInt8.ofNat r.kind.toNat :: (YU r.name ++ YU r.key ++ YU r.src ++ YU r.dst ++ X04 r.n)
def X3A (r : Rul) : List UInt8 := if Yy r = 0 then X2f r else []
end Go.Fw
namespace Go.Fw
open Go
set_option linter.unusedVariables false
structure Prp where
 key : List UInt8
 v : Val
structure Nod where
 id : Int
 labels : List (List UInt8)
 props : List Prp
structure Edg where
 id : Int
 src : Int
 dst : Int
 typ : List UInt8
 props : List Prp
structure Gra where
 nodes : List Nod
 edges : List Edg
 nn : Int
 ne : Int
def Xo (s : List UInt8) : List D := [.v (.string (X5 s))]
def Xi (p : Prp) : List D := .v (.string (X5 p.key)) :: Y9 p.v
def Xd (n : Nod) : List D := [.v (.int .i64 n.id), .sl 1 (n.labels.map Xo), .sl 6 (n.props.map Xi)]
def Xl (e : Edg) : List D := [.v (.int .i64 e.id), .v (.int .i64 e.src), .v (.int .i64 e.dst), .v (.string (X5 e.typ)), .sl 6 (e.props.map Xi)]
def Xq (g : Gra) : AVal := .agg [.d (.sl 3 (g.nodes.map Xd)), .d (.sl 5 (g.edges.map Xl)), ai g.nn, ai g.ne]
def Yv : List (List UInt8) → Bool
 | a :: b :: r => !(Op.bytesLess b a || decide (b = a)) && Yv (b :: r)
 | _ => true
def Yf (ls : List (List UInt8)) (ps : List Prp) : Int :=
 if 8 < ls.length ∨ 16 < ps.length then 4
 else if ls.all Xg = false ∨ (ps.map Prp.key).all Xg = false then 6
 else if Yv ls = false ∨ Yv (ps.map Prp.key) = false then 26
 else if (ps.map Prp.v).all XJ = false then 8 else 0
def YK (nn : Int) (prev : Option Nod) (n : Nod) : Int :=
 if (∃ p, prev = some p ∧ n.id ≤ p.id) then 26 else if n.id < 1 ∨ nn ≤ n.id then 1 else Yf n.labels n.props
def Yl (nn : Int) : Option Nod → List Nod → Int
 | _, [] => 0
 | p, n :: r => if YK nn p n ≠ 0 then YK nn p n else Yl nn (some n) r
def XO (l : List Nod) (n : Int) : Bool := l.any fun x => decide (x.id = n)
def U4 (ns : List Nod) (ne : Int) (prev : Option Edg) (e : Edg) : Int :=
 if (∃ p, prev = some p ∧ e.id ≤ p.id) then 26 else if e.id < 1 ∨ ne ≤ e.id then 1
 else if XO ns e.src = false ∨ XO ns e.dst = false then 10 else if Xg e.typ = false then 6 else Yf [] e.props
def U8 (ns : List Nod) (ne : Int) : Option Edg → List Edg → Int
 | _, [] => 0
 | p, n :: r => if U4 ns ne p n ≠ 0 then U4 ns ne p n else U8 ns ne (some n) r
def Ya (g : Gra) : Int :=
 if 2000 < g.nodes.length ∨ 4000 < g.edges.length then 4
 else if g.nn < 1 ∨ 1000001 < g.nn ∨ g.ne < 1 ∨ 1000001 < g.ne then 1
 else if Yl g.nn none g.nodes ≠ 0 then Yl g.nn none g.nodes else U8 g.nodes g.ne none g.edges
def XL {α : Type} (l : List α) (i : Nat) : Option α := if i = 0 then none else l[i - 1]?
theorem UB {α : Type} {l : List α} {i : Nat} : XL l (i + 1) = l[i]? := by simp [XL]
theorem X86 {nn : Int} {l : List Nod} {i : Nat} {n : Nod} (h : l[i]? = some n) :
  Yl nn (XL l i) (l.drop i) = if YK nn (XL l i) n ≠ 0 then YK nn (XL l i) n else Yl nn (XL l (i + 1)) (l.drop (i + 1)) := by
 obtain ⟨hi, h⟩ := List.getElem?_eq_some_iff.1 h
 rw [List.drop_eq_getElem_cons hi, h, Yl, UB, List.getElem?_eq_getElem hi, h]
theorem X6L {ns : List Nod} {ne : Int} {l : List Edg} {i : Nat} {n : Edg} (h : l[i]? = some n) :
  U8 ns ne (XL l i) (l.drop i) = if U4 ns ne (XL l i) n ≠ 0 then U4 ns ne (XL l i) n else U8 ns ne (XL l (i + 1)) (l.drop (i + 1)) := by
 obtain ⟨hi, h⟩ := List.getElem?_eq_some_iff.1 h
 rw [List.drop_eq_getElem_cons hi, h, U8, UB, List.getElem?_eq_getElem hi, h]
def X0U (l : List Nod) : Prop := ∀ (i j : Nat) (a b : Nod), l[i]? = some a → l[j]? = some b → i < j → a.id < b.id
theorem X3q {nn : Int} : ∀ (l : List Nod) (p : Option Nod), Yl nn p l = 0 → (∀ a b, p = some a → b ∈ l → a.id < b.id) ∧ X0U l
 | [], p, _ => ⟨by simp, by intro i j a b h; simp at h⟩
 | x :: r, p, h => by
  rw [Yl] at h
  have h0 : YK nn p x = 0 := by
   by_cases h0 : YK nn p x = 0
   ·exact h0
   ·rw [if_pos h0] at h; exact absurd h h0
  rw [h0, if_neg (by simp)] at h
  obtain ⟨h1, h2⟩ := X3q r (some x) h
  have hp : ∀ a, p = some a → a.id < x.id := by
   intro a ha
   unfold YK at h0
   by_cases q : ∃ p', p = some p' ∧ x.id ≤ p'.id
   ·rw [if_pos q] at h0; simp at h0
   ·refine Int.lt_of_not_ge fun hc => q ⟨a, ha, hc⟩
  refine ⟨fun a b ha hb => ?_, fun i j a b hi hj hij => ?_⟩
  ·rcases List.mem_cons.1 hb with rfl | hb
   ·exact hp a ha
   ·exact Int.lt_trans (hp a ha) (h1 x b rfl hb)
  ·cases j with
   | zero => omega
   | succ j =>
    cases i with
    | zero =>
     simp only [List.getElem?_cons_zero, Option.some.injEq] at hi
     subst hi
     exact h1 x b rfl (List.mem_of_getElem? (by simpa using hj))
    | succ i => exact h2 i j a b (by simpa using hi) (by simpa using hj) (by omega)
def X0R (l : List Nod) (n : Int) : Nat := (l.takeWhile fun x => decide (x.id < n)).length
theorem X3i {α : Type} {p : α → Bool} : ∀ {l : List α} {i : Nat}, i ≤ l.length → (∀ k x, k < i → l[k]? = some x → p x = true) → (∀ x, l[i]? = some x → p x = false) → (l.takeWhile p).length = i
 | [], i, h, _, _ => by simp at h; simp [h]
 | x :: r, 0, _, _, h => by rw [List.takeWhile_cons_of_neg (by simp [h x (by simp)])]; rfl
 | x :: r, i + 1, h, h1, h2 => by
  rw [List.takeWhile_cons_of_pos (h1 0 x (by omega) (by simp)), List.length_cons, X3i (i := i) (by simpa using h) (fun k y hk hy => h1 (k + 1) y (by omega) (by simpa using hy)) (fun y hy => h2 y (by simpa using hy))]
theorem X87 {l : List Nod} {n : Int} {i : Nat} (h : i ≤ l.length) (h1 : ∀ k x, k < i → l[k]? = some x → x.id < n) (h2 : ∀ x, l[i]? = some x → ¬ x.id < n) : X0R l n = i :=
 X3i h (fun k x hk hx => by simpa using h1 k x hk hx) (fun x hx => by simpa using h2 x hx)
theorem X5X {l : List Nod} {n : Int} {i : Nat} (hr : X0U l) (h1 : ∀ k x, k < i → l[k]? = some x → x.id < n) (h2 : ∀ k x, i ≤ k → l[k]? = some x → n ≤ x.id) : XO l n = decide (∃ x, l[i]? = some x ∧ x.id = n) := by
 rw [Bool.eq_iff_iff]
 simp only [XO, List.any_eq_true, decide_eq_true_eq]
 constructor
 ·rintro ⟨x, hx, e⟩
  obtain ⟨k, hk⟩ := List.getElem?_of_mem hx
  have hki : i ≤ k := by
   by_cases q : k < i
   ·have := h1 k x q hk; omega
   ·omega
  have hi : i < l.length := by have := (List.getElem?_eq_some_iff.1 hk).1; omega
  refine ⟨l[i], List.getElem?_eq_getElem hi, ?_⟩
  have a := h2 i l[i] (Nat.le_refl _) (List.getElem?_eq_getElem hi)
  by_cases q : i = k
  ·subst q
   rw [List.getElem?_eq_getElem hi] at hk
   injection hk with hk
   rw [hk]; exact e
  ·have := hr i k l[i] x (List.getElem?_eq_getElem hi) hk (by omega)
   omega
 ·rintro ⟨x, hx, e⟩
  exact ⟨x, List.mem_of_getElem? hx, e⟩
def Xy (s t : List UInt8) : Int := if Op.bytesLess s t = true then -1 else if s = t then 0 else 1
def XZ (a b : Rul) : Int :=
 if a.kind < b.kind then -1 else if b.kind < a.kind then 1 else if Xy a.name b.name ≠ 0 then Xy a.name b.name else if Xy a.key b.key ≠ 0 then Xy a.key b.key
 else if a.n < b.n then -1 else if b.n < a.n then 1 else if Xy a.src b.src ≠ 0 then Xy a.src b.src else Xy a.dst b.dst
def Ym : Option Rul → List Rul → Bool
 | _, [] => true
 | p, r :: l => decide (Yy r = 0 ∧ ∀ q, p = some q → XZ q r < 0) && Ym (some r) l
def Y1 (l : List Rul) : Bool := Ym none l && decide (l.length ≤ 40)
end Go.Fw
namespace Go.Fw
open Go
set_option linter.unusedVariables false
theorem X32 {α : Type} {p : α → Bool} : ∀ (l : List α) (i : Nat), (∀ j, j < i → ∃ b, l[j]? = some b ∧ p b = true) → (∀ b, l[i]? = some b → p b = false) → (l.takeWhile p).length = i
 | [], 0, _, _ => rfl
 | [], i + 1, h, _ => by obtain ⟨b, hb, _⟩ := h 0 (by omega); simp at hb
 | x :: l, 0, _, h => by have := h x (by simp); simp [List.takeWhile, this]
 | x :: l, i + 1, h, k => by
  obtain ⟨b, hb, hp⟩ := h 0 (by omega)
  simp at hb; subst hb
  simp only [List.takeWhile, hp, List.length_cons]
  rw [X32 l i (fun j hj => by simpa using h (j + 1) (by omega)) (fun b hb => k b (by simpa using hb))]
end Go.Fw
namespace Go.Fw
open Go
set_option linter.unusedVariables false
def VA : List UInt8 → Prop
 | [] => False
 | [c] => c.toNat < 128
 | b :: c :: m => 128 ≤ b.toNat ∧ VA (c :: m) ∧ c :: m ≠ [0]
theorem X36 : ∀ {m : List UInt8}, VA m → m ≠ [0] → 0 < U1 m
 | [c], h, hn => by
  simp only [VA] at h
  have : c.toNat ≠ 0 := fun e => hn (by rw [show c = 0 from UInt8.toNat_inj.1 e])
  simp only [U1]; omega
 | b :: c :: m, h, _ => by
  have := X36 h.2.1 h.2.2
  simp only [U1] at this ⊢; omega
theorem X1T {n : Nat} (h : n < 256) : (UInt8.ofNat n).toNat = n := by simp; omega
theorem X6x (u : Nat) : VA (vS u) ∧ U1 (vS u) = u ∧ (vS u = [0] → u = 0) := by
 induction u using Nat.strongRecOn with
 | _ u ih =>
  rw [vS]
  by_cases h : u < 128
  ·rw [if_pos h]
   simp only [VA, U1, X1T (show u < 256 by omega)]
   refine ⟨h, by omega, fun e => ?_⟩
   have := congrArg (fun l : List UInt8 => (l.headD 1).toNat) e
   simp only [List.headD_cons, X1T (show u < 256 by omega)] at this
   simpa using this
  ·rw [if_neg h]
   obtain ⟨h1, h2, h3⟩ := ih (u / 128) (by omega)
   cases hv : vS (u / 128) with
   | nil => rw [hv] at h1; exact h1.elim
   | cons c m =>
    rw [hv] at h1 h2 h3
    have hb : (UInt8.ofNat (u % 128 + 128)).toNat = u % 128 + 128 := X1T (by omega)
    refine ⟨⟨by rw [hb]; omega, h1, fun e => by have := h3 e; omega⟩, ?_, fun e => by simp at e⟩
    simp only [U1] at h2 ⊢
    rw [hb]; omega
theorem X45 : ∀ {m : List UInt8} (k : Nat), VA m → U1 m < 2 ^ (7 * k) → 0 < k → m.length ≤ k
 | [c], k, _, _, hk => hk
 | b :: c :: m, k, h, hn, hk => by
  have h2 := X36 h.2.1 h.2.2
  cases k with
  | zero => omega
  | succ k =>
   by_cases hk0 : k = 0
   ·subst hk0
    have e : U1 (b :: c :: m) = b.toNat % 128 + 128 * U1 (c :: m) := rfl
    rw [e] at hn
    have : (2 : Nat) ^ (7 * (0 + 1)) = 128 := rfl
    omega
   ·have := X45 k h.2.1 (by
     have e : U1 (b :: c :: m) = b.toNat % 128 + 128 * U1 (c :: m) := rfl
     rw [e, show 7 * (k + 1) = 7 + 7 * k by omega, Nat.pow_add, show (2 : Nat) ^ 7 = 128 from rfl] at hn
     omega) (by omega)
    simp only [List.length_cons] at this ⊢; omega
end Go.Fw
namespace Go.Fw
open Go
set_option linter.unusedVariables false
theorem X4s {n : Int} (h : 0 ≤ n) : Ub n = vS n.toNat := by unfold Ub; rw [if_neg (by omega)]
theorem X5f {n : Int} (h : -9223372036854775808 ≤ n ∧ n ≤ 9223372036854775807) : zig n < 18446744073709551616 := by
 unfold zig; split <;> omega
def only (b : List UInt8) (a e : Int) (want : List UInt8) : Prop := 0 ≤ a ∧ a ≤ e ∧ e ≤ b.length ∧ (b.drop a.toNat).take (e - a).toNat = want
end Go.Fw
namespace Go.Fw
open Go
set_option linter.unusedVariables false
abbrev zV : Val := .mk 0 0 0 [] []
end Go.Fw
namespace Go.Fw
open Go Go.Proofs
set_option maxRecDepth 100000
set_option linter.unusedVariables false
set_option linter.unusedSimpArgs false
abbrev n64 (n : Nat) : Value := .int .u64 n
abbrev ni (n : Nat) : Value := .int .i64 n
theorem X1m {n : Nat} (h : n < 18446744073709551616) : (vS n).length ≤ 10 := by
 obtain ⟨h1, h2, _⟩ := X6x n
 exact X45 10 h1 (by rw [h2]; exact Nat.lt_of_lt_of_le h (by decide)) (by omega)
end Go.Fw
namespace Go.Fw
open Go Go.Proofs
set_option maxRecDepth 100000
set_option linter.unusedVariables false
set_option linter.unusedSimpArgs false
abbrev Xu (l : List UInt8) : AVal := .d (.v (.string (X5 l)))
end Go.Fw
namespace Go.Fw
open Go Go.Proofs
set_option maxRecDepth 100000
set_option linter.unusedVariables false
set_option linter.unusedSimpArgs false
theorem VR {c : UInt8} (h : (97 ≤ c.toNat ∧ c.toNat ≤ 122) ∨ (65 ≤ c.toNat ∧ c.toNat ≤ 90)) : Y7 c = true := decide_eq_true h
theorem UE {c : UInt8} (h : ¬ ((97 ≤ c.toNat ∧ c.toNat ≤ 122) ∨ (65 ≤ c.toNat ∧ c.toNat ≤ 90))) : Y7 c = false := decide_eq_false h
theorem X42 (c : UInt8) : Con Try.prog 42 [] [au8 c.toNat] [] (ab (Y7 c)) := by
 refine Xf (xs := [ab (Y7 c)]) Try.func42 rfl Try.ntmps42 rfl rfl rfl (fun E => ?_)
 by_cases h1 : 97 ≤ c.toNat
 ·by_cases h2 : c.toNat ≤ 122
  ·rw [VR (by omega)]
   refine X0 ?_; refine JR ?_; refine Z0 ?_; refine JD ?_; refine X0 ?_; refine JR ?_; refine Z1 ?_; refine Z2 ?_; refine Z1 ?_; refine Z1 ?_; refine Z3 ?_; refine Z4 ?_; refine Z1 ?_; refine Z5 ?_; refine Z5 ?_
   refine Z5 ?_; refine Z6 ?_; refine Z6 ?_; refine Z5 ?_; refine Z4 ?_; refine Z0 ?_; refine JD ?_
   first | exact X1 ⟨_, St.le_refl _, ⟨rfl, trivial⟩, X2 _⟩ | exact X1 ⟨_, Xn 2 (y := ab true) (AVal.le_of_eq (by refine Eq.trans (b := ab (decide _)) rfl ?_; exact congrArg ab (by simp; omega))), ⟨rfl, trivial⟩, X2 _⟩ | fail
  ·rw [UE (by omega)]
   refine X0 ?_; refine JR ?_; refine Z0 ?_; refine JD ?_; refine X0 ?_; refine JR ?_; refine Z1 ?_; refine Z2 ?_; refine Z1 ?_; refine Z1 ?_; refine Z3 ?_; refine Z4 ?_; refine Z1 ?_; refine Z1 ?_; refine Z2 ?_
   refine Z1 ?_; refine Z1 ?_; refine Z3 ?_; refine Z4 ?_; refine Z7 ?_; refine Z0 ?_; refine JD ?_
   first | exact X1 ⟨_, St.le_refl _, ⟨rfl, trivial⟩, X2 _⟩ | exact X1 ⟨_, Xn 2 (y := ab false) (AVal.le_of_eq (by refine Eq.trans (b := ab (decide _)) rfl ?_; exact congrArg ab (by simp; omega))), ⟨rfl, trivial⟩, X2 _⟩ | fail
 by_cases h3 : 65 ≤ c.toNat
 ·by_cases h4 : c.toNat ≤ 90
  ·rw [VR (by omega)]
   refine X0 ?_; refine JR ?_; refine Z0 ?_; refine JD ?_; refine X0 ?_; refine JR ?_; refine Z1 ?_; refine Z2 ?_; refine Z1 ?_; refine Z5 ?_; refine Z5 ?_; refine Z7 ?_; refine Z1 ?_; refine Z1 ?_; refine Z2 ?_
   refine Z1 ?_; refine Z1 ?_; refine Z3 ?_; refine Z4 ?_; refine Z7 ?_; refine Z0 ?_; refine JD ?_
   first | exact X1 ⟨_, St.le_refl _, ⟨rfl, trivial⟩, X2 _⟩ | exact X1 ⟨_, Xn 2 (y := ab true) (AVal.le_of_eq (by refine Eq.trans (b := ab (decide _)) rfl ?_; exact congrArg ab (by simp; omega))), ⟨rfl, trivial⟩, X2 _⟩ | fail
  ·rw [UE (by omega)]
   refine X0 ?_; refine JR ?_; refine Z0 ?_; refine JD ?_; refine X0 ?_; refine JR ?_; refine Z1 ?_; refine Z2 ?_; refine Z1 ?_; refine Z5 ?_; refine Z5 ?_; refine Z7 ?_; refine Z1 ?_; refine Z1 ?_; refine Z2 ?_
   refine Z1 ?_; refine Z1 ?_; refine Z3 ?_; refine Z4 ?_; refine Z7 ?_; refine Z0 ?_; refine JD ?_
   first | exact X1 ⟨_, St.le_refl _, ⟨rfl, trivial⟩, X2 _⟩ | exact X1 ⟨_, Xn 2 (y := ab false) (AVal.le_of_eq (by refine Eq.trans (b := ab (decide _)) rfl ?_; exact congrArg ab (by simp; omega))), ⟨rfl, trivial⟩, X2 _⟩ | fail
 rw [UE (by omega)]
 repeat first | refine X0 ?_ | (refine JR ?_; (repeat first | refine Z1 ?_ | refine Z0 ?_ | refine Z2 ?_ | refine Z7 ?_ | refine Z5 ?_); refine JD ?_)
 first | exact X1 ⟨_, St.le_refl _, ⟨rfl, trivial⟩, X2 _⟩ | exact X1 ⟨_, Xn 2 (y := ab false) (AVal.le_of_eq (by refine Eq.trans (b := ab (decide _)) rfl ?_; exact congrArg ab (by simp; omega))), ⟨rfl, trivial⟩, X2 _⟩ | fail
theorem X35 {s : List UInt8} (h : s = []) : Xg s = false := by subst h; rfl
theorem X4O {s : List UInt8} (h : 20 < s.length) : Xg s = false := by unfold Xg; rw [decide_eq_false (by omega)]; rfl
theorem X0o {s : List UInt8} {c : UInt8} (hc : s[0]? = some c) (h : Y7 c = false) : Xg s = false := by unfold Xg; rw [hc, Option.getD_some, h]; simp
theorem Vw {s : List UInt8} {c : UInt8} {i : Nat} (hc : s[i]? = some c) (h : Xr c = false) : Xg s = false := by
 unfold Xg
 rw [show s.all Xr = false by rw [List.all_eq_false]; exact ⟨c, List.mem_of_getElem? hc, by simp [h]⟩]
 simp
theorem X2x {s : List UInt8} {c : UInt8} (hc : s[0]? = some c) (h : Y7 c = true) (h20 : ¬ 20 < s.length) (hall : ∀ j, j < s.length → ∃ b, s[j]? = some b ∧ Xr b = true) : Xg s = true := by
 have hl := (List.getElem?_eq_some_iff.1 hc).1
 unfold Xg
 rw [hc, Option.getD_some, h, decide_eq_true (by omega)]
 simp only [Bool.true_and, List.all_eq_true]
 intro b hb
 obtain ⟨j, hj⟩ := List.getElem?_of_mem hb
 obtain ⟨b', h1, h2⟩ := hall j (List.getElem?_eq_some_iff.1 hj).1
 rw [hj] at h1
 obtain rfl := Option.some.inj h1
 exact h2
theorem Ux {s : List UInt8} {i : Nat} {c : UInt8} (hc : s[i]? = some c) (h : Xr c = true) (hall : ∀ j, j < i → ∃ b, s[j]? = some b ∧ Xr b = true) : ∀ j, j < i + 1 → ∃ b, s[j]? = some b ∧ Xr b = true := fun j hj => by
 by_cases e : j = i
 ·subst e; exact ⟨c, hc, h⟩
 ·exact hall j (by omega)
theorem Vm (s : List UInt8) : Con Try.prog 26 [] [.d (.v (.string (X5 s)))] [] (ab (Xg s)) := by
 refine Xf (xs := [ab (Xg s)]) Try.func26 rfl Try.ntmps26 rfl rfl rfl (fun E => ?_)
 have hsz : (X5 s).size = s.length := rfl
 by_cases h0 : s = []
 ·rw [X35 h0]
  subst h0
  repeat first | refine X0 ?_ | (refine JR ?_; (repeat first | refine Z1 ?_ | refine Z0 ?_ | refine Z8 ?_ | refine Z4 ?_ | refine Z5 ?_); refine JD ?_) | refine JT ?_
  exact X1 ⟨_, St.le_refl _, ⟨rfl, trivial⟩, X2 _⟩
 by_cases h20 : 20 < s.length
 ·rw [X4O h20]
  have h20' : (20 : Int) < (X5 s).size := by omega
  refine X0 ?_; refine JR ?_; refine Z0 ?_; refine JD ?_; refine X0 ?_; refine X0 ?_; refine JR ?_; refine Z1 ?_; refine Z8 ?_; refine Z1 ?_; refine Z1 ?_; refine Z9 ?_; refine Za ?_; refine Z7 ?_
  refine Z1 ?_; refine Z5 ?_; refine Z5 ?_; refine Z5 ?_; refine Z5 ?_; refine Z4 ?_; refine JD ?_; refine JT ?_; refine X0 ?_; refine JR ?_; refine Z0 ?_; refine JD ?_
  exact X1 ⟨_, St.le_refl _, ⟨rfl, trivial⟩, X2 _⟩
 have h20' : ¬ (20 : Int) < (X5 s).size := by omega
 obtain ⟨c, hc⟩ := Xs (l := s) (k := 0) (by cases s with | nil => exact absurd rfl h0 | cons => simp)
 have hl := X42 c
 cases hlc : Y7 c with
 | false =>
  rw [X0o hc hlc]
  rw [hlc] at hl
  refine X0 ?_; refine JR ?_; refine Z0 ?_; refine JD ?_; refine X0 ?_; refine X0 ?_; refine JR ?_; refine Z1 ?_; refine Z8 ?_; refine Z1 ?_; refine Z1 ?_; refine Z9 ?_; refine Za ?_; refine Z7 ?_
  refine Z1 ?_; refine Z1 ?_; refine Zb ?_; refine Zc (hcon := hl) ?_; refine Zd ?_; refine Z7 ?_; refine JD ?_; refine JT ?_; refine X0 ?_; refine JR ?_; refine Z0 ?_; refine JD ?_
  exact X1 ⟨_, St.le_refl _, ⟨rfl, trivial⟩, X2 _⟩
 | true =>
  rw [hlc] at hl
  refine X0 ?_; refine JR ?_; refine Z0 ?_; refine JD ?_; refine X0 ?_; refine X0 ?_; refine JR ?_; refine Z1 ?_; refine Z8 ?_; refine Z1 ?_; refine Z1 ?_; refine Z9 ?_; refine Za ?_; refine Z7 ?_
  refine Z1 ?_; refine Z1 ?_; refine Zb ?_; refine Zc (hcon := hl) ?_; refine Zd ?_; refine Z7 ?_; refine JD ?_; refine JF ?_; refine X3 ?_; refine X0 ?_; refine X0 ?_; refine JR ?_; refine Z1 ?_
  refine Z9 ?_; refine Z1 ?_; refine JD ?_; refine X4 ?_
  refine XD (fun i : Nat => i ≤ s.length ∧ ∀ j, j < i → ∃ b, s[j]? = some b ∧ Xr b = true) (fun i => ⟨46, [(0, .d (.v (.string (X5 s)))), (18, ai (X5 s).size), (19, ai i)], []⟩) (fun i => s.length - i) 0 ⟨by omega, fun j hj => by omega⟩
   (X8 rfl ⟨JL, JL, JL, trivial⟩ trivial) ?_
  rintro i ⟨hi, hall⟩
  by_cases hil : i < s.length
  case neg =>
   obtain rfl : i = s.length := by omega
   rw [X2x hc hlc h20 hall]
   have hn : ¬ ((s.length : Nat) : Int) < (X5 s).size := by omega
   refine X0 ?_; refine JR ?_; refine Ze ?_; refine JD ?_; refine X0 ?_; refine JF ?_; refine Xz ?_; refine X0 ?_; refine JR ?_; refine Z0 ?_; refine JD ?_
   exact X1 ⟨_, St.le_refl _, ⟨rfl, trivial⟩, X2 _⟩
  have hn : (i : Int) < (X5 s).size := by omega
  clear hl hlc hc
  obtain ⟨c, hc⟩ := Xs (l := s) hil
  have hl := X42 c
  cases hlc : Y7 c with
  | true =>
   rw [hlc] at hl
   have hnx := Ux hc (show Xr c = true by unfold Xr; rw [hlc]; rfl) hall
   repeat first | refine X0 ?_ | (refine JR ?_; (repeat first | refine Z1 ?_ | refine Z0 ?_ | refine Ze ?_ | refine Zf ?_ | refine Zd ?_ | refine Z7 ?_ | refine Zb ?_ | refine Z5 ?_ | refine Z6 ?_ | refine Zc (hcon := hl) ?_); refine JD ?_) | refine JT ?_ | refine JF ?_ | refine X4 ?_ | refine X3 ?_
   exact ⟨i + 1, ⟨by omega, hnx⟩, by omega, X8 rfl ⟨JL, JL, JL, trivial⟩ trivial⟩
  | false =>
   rw [hlc] at hl
   by_cases g1 : 48 ≤ c.toNat
   ·by_cases g2 : c.toNat ≤ 57
    ·have hnx := Ux hc (show Xr c = true by unfold Xr; rw [decide_eq_true (by omega)]; simp) hall
     repeat first | refine X0 ?_ | (refine JR ?_; (repeat first | refine Z1 ?_ | refine Z0 ?_ | refine Ze ?_ | refine Za ?_ | refine Zf ?_ | refine Zd ?_ | refine Z4 ?_ | refine Z7 ?_ | refine Zb ?_ | refine Z5 ?_ | refine Zc (hcon := hl) ?_); refine JD ?_) | refine JT ?_ | refine JF ?_ | refine X4 ?_ | refine X3 ?_
     exact ⟨i + 1, ⟨by omega, hnx⟩, by omega, X8 rfl ⟨JL, JL, JL, trivial⟩ trivial⟩
    by_cases g3 : c.toNat = 95
    ·have hnx := Ux hc (show Xr c = true by unfold Xr; rw [decide_eq_true (by omega)]; simp) hall
     repeat first | refine X0 ?_ | (refine JR ?_; (repeat first | refine Z1 ?_ | refine Z0 ?_ | refine Ze ?_ | refine Za ?_ | refine Zg ?_ | refine Zf ?_ | refine Zd ?_ | refine Z4 ?_ | refine Z7 ?_ | refine Zb ?_ | refine Zc (hcon := hl) ?_); refine JD ?_) | refine JT ?_ | refine JF ?_ | refine X4 ?_ | refine X3 ?_
     exact ⟨i + 1, ⟨by omega, hnx⟩, by omega, X8 rfl ⟨JL, JL, JL, trivial⟩ trivial⟩
    ·rw [Vw hc (show Xr c = false by unfold Xr; rw [hlc, decide_eq_false (by omega)]; rfl)]
     repeat first | refine X0 ?_ | (refine JR ?_; (repeat first | refine Z1 ?_ | refine Z0 ?_ | refine Ze ?_ | refine Za ?_ | refine Zg ?_ | refine Zd ?_ | refine Z4 ?_ | refine Z7 ?_ | refine Zb ?_ | refine Zc (hcon := hl) ?_); refine JD ?_) | refine JT ?_ | refine X4 ?_ | refine X3 ?_
     exact X1 ⟨_, St.le_refl _, ⟨rfl, trivial⟩, X2 _⟩
   ·have g3 : ¬ c.toNat = 95 := by omega
    rw [Vw hc (show Xr c = false by unfold Xr; rw [hlc, decide_eq_false (by omega)]; rfl)]
    repeat first | refine X0 ?_ | (refine JR ?_; (repeat first | refine Z1 ?_ | refine Z0 ?_ | refine Ze ?_ | refine Zg ?_ | refine Zd ?_ | refine Z4 ?_ | refine Zb ?_ | refine Z5 ?_ | refine Zc (hcon := hl) ?_); refine JD ?_) | refine JT ?_ | refine X4 ?_ | refine X3 ?_
    exact X1 ⟨_, St.le_refl _, ⟨rfl, trivial⟩, X2 _⟩
end Go.Fw
namespace Go.Fw
open Go Go.Proofs
set_option maxRecDepth 100000
set_option linter.unusedVariables false
set_option linter.unusedSimpArgs false
def Yk (k : Int) : Bool × Bool × Bool × Bool := (Ys k, decide (k = 3 ∨ k = 5 ∨ k = 7), decide (k = 6), decide (1 ≤ k ∧ k ≤ 7))
theorem X7W (op : Int) : Con Try.prog 31 [] [ai op] [] (.tup [.agg [ab (Yk op).1, ab (Yk op).2.1, ab (Yk op).2.2.1], ab (Yk op).2.2.2]) := by
 refine Xf (xs := [.agg [ab (Yk op).1, ab (Yk op).2.1, ab (Yk op).2.2.1], ab (Yk op).2.2.2]) Try.func31 rfl Try.ntmps31 rfl rfl rfl (fun E => ?_)
 by_cases k1 : op = 1
 ·subst k1
  refine X0 ?_; refine JR ?_; refine Zh (γ := 100) ?_; refine Z0 ?_; refine JD ?_; refine X0 ?_; refine X0 ?_; refine JR ?_; refine Z1 ?_; refine JD ?_; refine X4 ?_; refine X0 ?_
  refine X0 ?_; refine JR ?_; refine Zi ?_; refine Z0 ?_; refine JD ?_; refine JT ?_; refine X3 ?_; refine JT ?_; refine X0 ?_; refine JR ?_; refine Zj ?_; refine Zk ?_; refine Z0 ?_; refine JD ?_
  exact X1 ⟨_, St.le_refl _, ⟨⟨100, 0, _, rfl, rfl, .inr ⟨3, _, rfl, rfl, rfl, rfl⟩⟩, rfl, trivial⟩, X2 _⟩
 by_cases k2 : op = 2
 ·subst k2
  refine X0 ?_; refine JR ?_; refine Zh (γ := 100) ?_; refine Z0 ?_; refine JD ?_; refine X0 ?_; refine X0 ?_; refine JR ?_; refine Z1 ?_; refine JD ?_; refine X4 ?_; refine X0 ?_
  refine X0 ?_; refine JR ?_; refine Zi ?_; refine Z0 ?_; refine JD ?_; refine JF ?_; refine X0 ?_; refine JR ?_; refine Zi ?_; refine Z0 ?_; refine JD ?_; refine JT ?_; refine X3 ?_; refine JT ?_
  refine X0 ?_; refine JR ?_; refine Zj ?_; refine Zk ?_; refine Z0 ?_; refine JD ?_
  exact X1 ⟨_, St.le_refl _, ⟨⟨100, 0, _, rfl, rfl, .inr ⟨3, _, rfl, rfl, rfl, rfl⟩⟩, rfl, trivial⟩, X2 _⟩
 by_cases k4 : op = 4
 ·subst k4
  repeat first | refine X0 ?_ | (refine JR ?_; (repeat first | refine Z1 ?_ | refine Z0 ?_ | refine Zi ?_ | refine Zh (γ := 100) ?_ | refine Zk ?_ | refine Zj ?_); refine JD ?_) | refine JT ?_ | refine JF ?_ | refine X4 ?_
  exact X1 ⟨_, St.le_refl _, ⟨⟨100, 0, _, rfl, rfl, .inr ⟨3, _, rfl, rfl, rfl, rfl⟩⟩, rfl, trivial⟩, X2 _⟩
 by_cases k3 : op = 3
 ·subst k3
  repeat first | refine X0 ?_ | (refine JR ?_; (repeat first | refine Z1 ?_ | refine Z0 ?_ | refine Zi ?_ | refine Zh (γ := 100) ?_ | refine Zk ?_ | refine Zj ?_); refine JD ?_) | refine JT ?_ | refine JF ?_ | refine X4 ?_ | refine X3 ?_
  exact X1 ⟨_, St.le_refl _, ⟨⟨100, 0, _, rfl, rfl, .inr ⟨3, _, rfl, rfl, rfl, rfl⟩⟩, rfl, trivial⟩, X2 _⟩
 by_cases k5 : op = 5
 ·subst k5
  repeat first | refine X0 ?_ | (refine JR ?_; (repeat first | refine Z1 ?_ | refine Z0 ?_ | refine Zi ?_ | refine Zh (γ := 100) ?_ | refine Zk ?_ | refine Zj ?_); refine JD ?_) | refine JT ?_ | refine JF ?_ | refine X4 ?_
  exact X1 ⟨_, St.le_refl _, ⟨⟨100, 0, _, rfl, rfl, .inr ⟨3, _, rfl, rfl, rfl, rfl⟩⟩, rfl, trivial⟩, X2 _⟩
 by_cases k6 : op = 6
 ·subst k6
  repeat first | refine X0 ?_ | (refine JR ?_; (repeat first | refine Z1 ?_ | refine Z0 ?_ | refine Zi ?_ | refine Zh (γ := 100) ?_ | refine Zk ?_ | refine Zj ?_); refine JD ?_) | refine JT ?_ | refine JF ?_ | refine X4 ?_
  exact X1 ⟨_, St.le_refl _, ⟨⟨100, 0, _, rfl, rfl, .inr ⟨3, _, rfl, rfl, rfl, rfl⟩⟩, rfl, trivial⟩, X2 _⟩
 by_cases k7 : op = 7
 ·subst k7
  repeat first | refine X0 ?_ | (refine JR ?_; (repeat first | refine Z1 ?_ | refine Z0 ?_ | refine Zi ?_ | refine Zh (γ := 100) ?_ | refine Zk ?_ | refine Zj ?_); refine JD ?_) | refine JT ?_ | refine JF ?_ | refine X4 ?_
  exact X1 ⟨_, St.le_refl _, ⟨⟨100, 0, _, rfl, rfl, .inr ⟨3, _, rfl, rfl, rfl, rfl⟩⟩, rfl, trivial⟩, X2 _⟩
 rw [show Yk op = (false, false, false, false) by unfold Yk Ys; rw [decide_eq_false (by omega), decide_eq_false (by omega), decide_eq_false (by omega), decide_eq_false (by omega)]]
 repeat first | refine X0 ?_ | (refine JR ?_; (repeat first | refine Z1 ?_ | refine Z0 ?_ | refine Zi ?_ | refine Zh (γ := 100) ?_ | refine Zk ?_ | refine Zj ?_); refine JD ?_) | refine JF ?_ | refine X4 ?_ | refine X3 ?_
 exact X1 ⟨_, St.le_refl _, ⟨⟨100, 0, _, rfl, rfl, .inr ⟨3, _, rfl, rfl, rfl, rfl⟩⟩, rfl, trivial⟩, X2 _⟩
end Go.Fw
namespace Go.Fw
open Go Go.Proofs
set_option maxRecDepth 100000
set_option linter.unusedVariables false
set_option linter.unusedSimpArgs false
theorem X0A (s : List UInt8) : Con Try.prog 20 [] [.d (.v (.string (X5 s)))] [] (ab (Xg s)) := by
 refine Xf (xs := [ab (Xg s)]) Try.func20 rfl Try.ntmps20 rfl rfl rfl (fun E => ?_)
 have hsz : (X5 s).size = s.length := rfl
 by_cases h0 : s.length < 1
 ·rw [X35 (List.eq_nil_of_length_eq_zero (by omega))]
  have h0' : ((X5 s).size : Int) < 1 := by omega
  refine X0 ?_; refine JR ?_; refine Z0 ?_; refine JD ?_; refine X0 ?_; refine X0 ?_; refine JR ?_; refine Z1 ?_; refine Z9 ?_; refine Ze ?_; refine Z1 ?_; refine Z5 ?_; refine Z5 ?_; refine Z5 ?_
  refine Z4 ?_; refine JD ?_; refine JT ?_; refine X0 ?_; refine JR ?_; refine Z0 ?_; refine JD ?_
  exact X1 ⟨_, St.le_refl _, ⟨rfl, trivial⟩, X2 _⟩
 have h0' : ¬ ((X5 s).size : Int) < 1 := by omega
 by_cases h20 : 20 < s.length
 ·rw [X4O h20]
  have h20' : (20 : Int) < (X5 s).size := by omega
  refine X0 ?_; refine JR ?_; refine Z0 ?_; refine JD ?_; refine X0 ?_; refine X0 ?_; refine JR ?_; refine Z1 ?_; refine Z9 ?_; refine Ze ?_; refine Z1 ?_; refine Z1 ?_; refine Z9 ?_; refine Za ?_
  refine Z7 ?_; refine JD ?_; refine JT ?_; refine X0 ?_; refine JR ?_; refine Z0 ?_; refine JD ?_
  exact X1 ⟨_, St.le_refl _, ⟨rfl, trivial⟩, X2 _⟩
 have h20' : ¬ (20 : Int) < (X5 s).size := by omega
 obtain ⟨c, hc⟩ := Xs (l := s) (k := 0) (by omega)
 refine X0 ?_; refine JR ?_; refine Z0 ?_; refine JD ?_; refine X0 ?_; refine X0 ?_; refine JR ?_; refine Z1 ?_; refine Z9 ?_; refine Ze ?_; refine Z1 ?_; refine Z1 ?_; refine Z9 ?_; refine Za ?_
 refine Z7 ?_; refine JD ?_; refine JF ?_; refine X3 ?_; refine X0 ?_; refine X0 ?_; refine JR ?_; refine Z0 ?_; refine JD ?_; refine X4 ?_
 refine XD (fun i : Nat => i ≤ s.length ∧ (0 < i → Y7 c = true) ∧ ∀ j, j < i → ∃ b, s[j]? = some b ∧ Xr b = true) (fun i => ⟨65, [(0, .d (.v (.string (X5 s)))), (3, ai i)], []⟩) (fun i => s.length - i) 0
  ⟨by omega, fun h => absurd h (by omega), fun j hj => absurd hj (by omega)⟩
  (X8 rfl ⟨JL, JL, trivial⟩ trivial) ?_
 rintro i ⟨hi, hh, hall⟩
 by_cases hil : i < s.length
 case neg =>
  obtain rfl : i = s.length := by omega
  rw [X2x hc (hh (by omega)) h20 hall]
  have hn : ¬ ((s.length : Nat) : Int) < (X5 s).size := by omega
  refine X0 ?_; refine X0 ?_; refine JR ?_; refine Z1 ?_; refine Z1 ?_; refine Z9 ?_; refine Ze ?_; refine JD ?_; refine JF ?_; refine Xz ?_; refine X0 ?_; refine JR ?_; refine Z0 ?_; refine JD ?_
  exact X1 ⟨_, St.le_refl _, ⟨rfl, trivial⟩, X2 _⟩
 have hn : (i : Int) < (X5 s).size := by omega
 obtain ⟨x, hx⟩ := Xs (l := s) hil
 by_cases hi0 : i = 0
 ·subst hi0
  have hcx : c = x := by rw [hc] at hx; exact Option.some.inj hx
  clear hc hh
  by_cases a1 : 97 ≤ x.toNat
  ·by_cases a2 : x.toNat ≤ 122
   ·have hlx : Y7 x = true := VR (by omega)
    have hh := hlx
    have hnx : ∀ j, j < 0 + 1 → ∃ b, s[j]? = some b ∧ Xr b = true := Ux hx (show Xr x = true by unfold Xr; rw [hlx]; rfl) hall
    repeat first | refine X0 ?_ | (refine JR ?_; (repeat first | refine Z1 ?_ | refine Z0 ?_ | refine Z9 ?_ | refine Ze ?_ | refine Z3 ?_ | refine Z2 ?_ | refine Zf ?_ | refine Zd ?_ | refine Z4 ?_ | refine Z7 ?_ | refine Zb ?_ | refine Z5 ?_ | refine Z6 ?_); refine JD ?_) | refine JT ?_ | refine JF ?_ | refine X4 ?_ | refine X3 ?_
    exact ⟨0 + 1, ⟨by omega, fun _ => by rw [hcx]; exact hh, hnx⟩, by omega, X8 rfl ⟨JL, JL, trivial⟩ trivial⟩
   ·have hlx : Y7 x = false := UE (by omega)
    have a3 : 65 ≤ x.toNat := by omega
    have a4 : ¬ x.toNat ≤ 90 := by omega
    rw [X0o hx hlx]
    repeat first | refine X0 ?_ | (refine JR ?_; (repeat first | refine Z1 ?_ | refine Z0 ?_ | refine Z9 ?_ | refine Ze ?_ | refine Z3 ?_ | refine Z2 ?_ | refine Zi ?_ | refine Zd ?_ | refine Z4 ?_ | refine Z7 ?_ | refine Zb ?_ | refine Z5 ?_ | refine Z6 ?_); refine JD ?_) | refine JT ?_ | refine X4 ?_ | refine X3 ?_
    exact X1 ⟨_, St.le_refl _, ⟨rfl, trivial⟩, X2 _⟩
  by_cases a3 : 65 ≤ x.toNat
  ·by_cases a4 : x.toNat ≤ 90
   ·have hlx : Y7 x = true := VR (by omega)
    have hh := hlx
    have hnx : ∀ j, j < 0 + 1 → ∃ b, s[j]? = some b ∧ Xr b = true := Ux hx (show Xr x = true by unfold Xr; rw [hlx]; rfl) hall
    repeat first | refine X0 ?_ | (refine JR ?_; (repeat first | refine Z1 ?_ | refine Z0 ?_ | refine Z9 ?_ | refine Ze ?_ | refine Z3 ?_ | refine Z2 ?_ | refine Zf ?_ | refine Zd ?_ | refine Z4 ?_ | refine Z7 ?_ | refine Zb ?_ | refine Z5 ?_ | refine Z6 ?_); refine JD ?_) | refine JT ?_ | refine JF ?_ | refine X4 ?_ | refine X3 ?_
    exact ⟨0 + 1, ⟨by omega, fun _ => by rw [hcx]; exact hh, hnx⟩, by omega, X8 rfl ⟨JL, JL, trivial⟩ trivial⟩
   ·have hlx : Y7 x = false := UE (by omega)
    rw [X0o hx hlx]
    repeat first | refine X0 ?_ | (refine JR ?_; (repeat first | refine Z1 ?_ | refine Z0 ?_ | refine Z9 ?_ | refine Ze ?_ | refine Z3 ?_ | refine Z2 ?_ | refine Zi ?_ | refine Zd ?_ | refine Z4 ?_ | refine Z7 ?_ | refine Zb ?_ | refine Z5 ?_ | refine Z6 ?_); refine JD ?_) | refine JT ?_ | refine X4 ?_ | refine X3 ?_
    exact X1 ⟨_, St.le_refl _, ⟨rfl, trivial⟩, X2 _⟩
  have hlx : Y7 x = false := UE (by omega)
  rw [X0o hx hlx]
  repeat first | refine X0 ?_ | (refine JR ?_; (repeat first | refine Z1 ?_ | refine Z0 ?_ | refine Z9 ?_ | refine Ze ?_ | refine Z2 ?_ | refine Zi ?_ | refine Zd ?_ | refine Z4 ?_ | refine Z7 ?_ | refine Zb ?_ | refine Z5 ?_ | refine Z6 ?_); refine JD ?_) | refine JT ?_ | refine X4 ?_ | refine X3 ?_
  exact X1 ⟨_, St.le_refl _, ⟨rfl, trivial⟩, X2 _⟩
 replace hh := hh (by omega)
 have hi0' : ¬ (i : Int) = 0 := by omega
 clear hc
 by_cases a1 : 97 ≤ x.toNat
 ·by_cases a2 : x.toNat ≤ 122
  ·have hlx : Y7 x = true := VR (by omega)
   have hnx := Ux hx (show Xr x = true by unfold Xr; rw [hlx]; rfl) hall
   repeat first | refine X0 ?_ | (refine JR ?_; (repeat first | refine Z1 ?_ | refine Z0 ?_ | refine Z9 ?_ | refine Ze ?_ | refine Z3 ?_ | refine Z2 ?_ | refine Zf ?_ | refine Zd ?_ | refine Z4 ?_ | refine Z7 ?_ | refine Zb ?_ | refine Z5 ?_ | refine Z6 ?_); refine JD ?_) | refine JT ?_ | refine JF ?_ | refine X4 ?_ | refine X3 ?_
   exact ⟨i + 1, ⟨by omega, fun _ => hh, hnx⟩, by omega, X8 rfl ⟨JL, JL, trivial⟩ trivial⟩
  ·have hlx : Y7 x = false := UE (by omega)
   have a3 : 65 ≤ x.toNat := by omega
   have a4 : ¬ x.toNat ≤ 90 := by omega
   ·rw [Vw hx (show Xr x = false by unfold Xr; rw [hlx, decide_eq_false (by omega)]; rfl)]
    repeat first | refine X0 ?_ | (refine JR ?_; (repeat first | refine Z1 ?_ | refine Z0 ?_ | refine Z9 ?_ | refine Ze ?_ | refine Z3 ?_ | refine Za ?_ | refine Z2 ?_ | refine Zi ?_ | refine Zg ?_ | refine Zd ?_ | refine Z4 ?_ | refine Z7 ?_ | refine Zb ?_); refine JD ?_) | refine JT ?_ | refine X4 ?_ | refine X3 ?_
    exact X1 ⟨_, St.le_refl _, ⟨rfl, trivial⟩, X2 _⟩
 by_cases a3 : 65 ≤ x.toNat
 ·by_cases a4 : x.toNat ≤ 90
  ·have hlx : Y7 x = true := VR (by omega)
   have hnx := Ux hx (show Xr x = true by unfold Xr; rw [hlx]; rfl) hall
   repeat first | refine X0 ?_ | (refine JR ?_; (repeat first | refine Z1 ?_ | refine Z0 ?_ | refine Z9 ?_ | refine Ze ?_ | refine Z3 ?_ | refine Z2 ?_ | refine Zf ?_ | refine Zd ?_ | refine Z4 ?_ | refine Z7 ?_ | refine Zb ?_ | refine Z5 ?_ | refine Z6 ?_); refine JD ?_) | refine JT ?_ | refine JF ?_ | refine X4 ?_ | refine X3 ?_
   exact ⟨i + 1, ⟨by omega, fun _ => hh, hnx⟩, by omega, X8 rfl ⟨JL, JL, trivial⟩ trivial⟩
  ·have hlx : Y7 x = false := UE (by omega)
   by_cases g3 : x.toNat = 95
   ·have hnx := Ux hx (show Xr x = true by unfold Xr; rw [decide_eq_true (by omega)]; simp) hall
    repeat first | refine X0 ?_ | (refine JR ?_; (repeat first | refine Z1 ?_ | refine Z0 ?_ | refine Z9 ?_ | refine Ze ?_ | refine Z3 ?_ | refine Z2 ?_ | refine Zi ?_ | refine Zg ?_ | refine Zf ?_ | refine Zd ?_ | refine Z4 ?_ | refine Z7 ?_ | refine Zb ?_ | refine Z5 ?_ | refine Z6 ?_); refine JD ?_) | refine JT ?_ | refine JF ?_ | refine X4 ?_ | refine X3 ?_
    exact ⟨i + 1, ⟨by omega, fun _ => hh, hnx⟩, by omega, X8 rfl ⟨JL, JL, trivial⟩ trivial⟩
   ·rw [Vw hx (show Xr x = false by unfold Xr; rw [hlx, decide_eq_false (by omega)]; rfl)]
    repeat first | refine X0 ?_ | (refine JR ?_; (repeat first | refine Z1 ?_ | refine Z0 ?_ | refine Z9 ?_ | refine Ze ?_ | refine Z3 ?_ | refine Za ?_ | refine Z2 ?_ | refine Zi ?_ | refine Zg ?_ | refine Zd ?_ | refine Z4 ?_ | refine Z7 ?_ | refine Zb ?_ | refine Z5 ?_); refine JD ?_) | refine JT ?_ | refine X4 ?_ | refine X3 ?_
    exact X1 ⟨_, St.le_refl _, ⟨rfl, trivial⟩, X2 _⟩
 have hlx : Y7 x = false := UE (by omega)
 by_cases g1 : 48 ≤ x.toNat
 ·by_cases g2 : x.toNat ≤ 57
  ·have hnx := Ux hx (show Xr x = true by unfold Xr; rw [decide_eq_true (by omega)]; simp) hall
   repeat first | refine X0 ?_ | (refine JR ?_; (repeat first | refine Z1 ?_ | refine Z0 ?_ | refine Z9 ?_ | refine Ze ?_ | refine Za ?_ | refine Z2 ?_ | refine Zi ?_ | refine Zg ?_ | refine Zf ?_ | refine Zd ?_ | refine Z4 ?_ | refine Z7 ?_ | refine Zb ?_ | refine Z5 ?_); refine JD ?_) | refine JT ?_ | refine JF ?_ | refine X4 ?_ | refine X3 ?_
   exact ⟨i + 1, ⟨by omega, fun _ => hh, hnx⟩, by omega, X8 rfl ⟨JL, JL, trivial⟩ trivial⟩
  ·rw [Vw hx (show Xr x = false by unfold Xr; rw [hlx, decide_eq_false (by omega)]; rfl)]
   repeat first | refine X0 ?_ | (refine JR ?_; (repeat first | refine Z1 ?_ | refine Z0 ?_ | refine Z9 ?_ | refine Ze ?_ | refine Za ?_ | refine Z2 ?_ | refine Zi ?_ | refine Zg ?_ | refine Zd ?_ | refine Z4 ?_ | refine Z7 ?_ | refine Zb ?_ | refine Z5 ?_); refine JD ?_) | refine JT ?_ | refine X4 ?_ | refine X3 ?_
   exact X1 ⟨_, St.le_refl _, ⟨rfl, trivial⟩, X2 _⟩
 ·rw [Vw hx (show Xr x = false by unfold Xr; rw [hlx, decide_eq_false (by omega)]; rfl)]
  repeat first | refine X0 ?_ | (refine JR ?_; (repeat first | refine Z1 ?_ | refine Z0 ?_ | refine Z9 ?_ | refine Ze ?_ | refine Z2 ?_ | refine Zi ?_ | refine Zg ?_ | refine Zd ?_ | refine Z4 ?_ | refine Z7 ?_ | refine Zb ?_ | refine Z5 ?_); refine JD ?_) | refine JT ?_ | refine X4 ?_ | refine X3 ?_
  exact X1 ⟨_, St.le_refl _, ⟨rfl, trivial⟩, X2 _⟩
end Go.Fw
namespace Go.Fw
open Go Go.Proofs
set_option maxRecDepth 100000
set_option linter.unusedVariables false
set_option linter.unusedSimpArgs false
abbrev nj (n : Nat) : Value := .int .i64 n
def inV (n : Int) : Bool := decide (-1000000000000000 ≤ n ∧ n ≤ 1000000000000000)
theorem X0a (n : Int) : Con Try.prog 62 [] [ai n] [] (ab (inV n)) := by
 refine Xf (xs := [ab (inV n)]) Try.func62 rfl Try.ntmps62 rfl rfl rfl (fun E => ?_)
 by_cases h1 : -1000000000000000 ≤ n
 ·by_cases h2 : n ≤ 1000000000000000
  ·rw [show inV n = true by simp [inV, h1, h2]]
   refine X0 ?_; refine JR ?_; refine Z0 ?_; refine JD ?_; refine X0 ?_; refine JR ?_; refine Z1 ?_; refine Z2 ?_; refine Z1 ?_; refine Z1 ?_; refine Z3 ?_; refine Z4 ?_; refine Z0 ?_; refine JD ?_
   exact X1 ⟨_, Xn 2 (y := ab true) (AVal.le_of_eq (by refine Eq.trans (b := ab (decide (n ≤ 1000000000000000))) rfl ?_; rw [decide_eq_true h2])), ⟨rfl, trivial⟩, X2 _⟩
  ·rw [show inV n = false by simp [inV, h2]]
   refine X0 ?_; refine JR ?_; refine Z0 ?_; refine JD ?_; refine X0 ?_; refine JR ?_; refine Z1 ?_; refine Z2 ?_; refine Z1 ?_; refine Z1 ?_; refine Z3 ?_; refine Z4 ?_; refine Z0 ?_; refine JD ?_
   exact X1 ⟨_, Xn 2 (y := ab false) (AVal.le_of_eq (by refine Eq.trans (b := ab (decide (n ≤ 1000000000000000))) rfl ?_; rw [decide_eq_false h2])), ⟨rfl, trivial⟩, X2 _⟩
 ·rw [show inV n = false by simp [inV, h1]]
  refine X0 ?_; refine JR ?_; refine Z0 ?_; refine JD ?_; refine X0 ?_; refine JR ?_; refine Z1 ?_; refine Z2 ?_; refine Z1 ?_; refine Z5 ?_; refine Z5 ?_; refine Z7 ?_; refine Z0 ?_; refine JD ?_
  exact X1 ⟨_, Xn 2 (y := ab false) (AVal.le_refl _), ⟨rfl, trivial⟩, X2 _⟩
theorem X3H (n : Int) (h : -1000000000000000 ≤ n ∧ n ≤ 1000000000000000) : Con Try.prog 73 [] [ai n] [] (ai (n.natAbs : Nat)) := by
 refine Xf (xs := [ai (n.natAbs : Nat)]) Try.func73 rfl Try.ntmps73 rfl rfl rfl (fun E => ?_)
 refine X0 ?_; refine JR ?_; refine Z0 ?_; refine JD ?_; refine X0 ?_; refine JR ?_; refine Z1 ?_; refine Z1 ?_; refine Zd ?_; refine Zl ?_; refine Z0 ?_; refine JD ?_
 exact X1 ⟨_, Xn 2 (y := ai (n.natAbs : Nat)) (AVal.le_of_eq (by refine Eq.trans (b := ai (max n (-n))) rfl ?_; congr 3; omega)), ⟨rfl, trivial⟩, X2 _⟩
theorem X4Y (a b : Int) (ha : -1000000000000000 ≤ a ∧ a ≤ 1000000000000000) (hb : -1000000000000000 ≤ b ∧ b ≤ 1000000000000000) : Con Try.prog 70 [] [ai a, ai b] [] (ai (Nat.gcd a.natAbs b.natAbs : Nat)) := by
 refine Xf (xs := [ai (Nat.gcd a.natAbs b.natAbs : Nat)]) Try.func70 rfl Try.ntmps70 rfl rfl rfl (fun E => ?_)
 have h1 : Con Try.prog 62 [] [ai a] [] (ab true) := by
  have h := X0a a
  rwa [show inV a = true by simpa [inV] using ha] at h
 have h2 : Con Try.prog 62 [] [ai b] [] (ab true) := by
  have h := X0a b
  rwa [show inV b = true by simpa [inV] using hb] at h
 refine X0 ?_; refine JR ?_; refine Z0 ?_; refine JD ?_; refine X0 ?_; refine X0 ?_; refine JR ?_; refine Z1 ?_; refine Zc (hcon := h1) ?_; refine Zd ?_; refine Z1 ?_; refine Z1 ?_
 refine Zc (hcon := h2) ?_; refine Zd ?_; refine Z7 ?_; refine JD ?_; refine JF ?_; refine X3 ?_; refine X0 ?_; refine JR ?_; refine Z1 ?_; refine Zc (hcon := X3H a ha) ?_; refine Z1 ?_
 refine Zc (hcon := X3H b hb) ?_; refine Z0 ?_; refine Z0 ?_; refine JD ?_; refine X0 ?_; refine X4 ?_
 refine XD (ι := Nat × Nat) (fun i => Nat.gcd i.1 i.2 = Nat.gcd a.natAbs b.natAbs) (fun i => ⟨24, [(0, ai i.1), (1, ai i.2)], []⟩) (fun i => i.2) (a.natAbs, b.natAbs) rfl
  (X8 rfl ⟨JL, JL, trivial⟩ trivial) ?_
 rintro ⟨x, y⟩ hg
 simp only at hg
 by_cases hy : y = 0
 ·subst hy
  rw [← hg, Nat.gcd_zero_right]
  refine X0 ?_; refine X0 ?_; refine JR ?_; refine Z1 ?_; refine Zg ?_; refine JD ?_; refine JF ?_; refine Xz ?_; refine X0 ?_; refine JR ?_; refine Z1 ?_; refine Z0 ?_; refine JD ?_
  exact X1 ⟨_, St.le_refl _, ⟨rfl, trivial⟩, X2 _⟩
 ·have hy' : ¬ ((y : Int) = 0) := by omega
  refine X0 ?_; refine X0 ?_; refine JR ?_; refine Z1 ?_; refine Zg ?_; refine JD ?_; refine JT ?_; refine X3 ?_; refine X4 ?_; refine JR ?_; refine Z1 ?_; refine Z1 ?_; refine Z1 ?_
  refine Zm (op := .rem) (r' := nj (x % y)) (u := nj x) (v := nj y) ?_ (hr := by exact UV hy); refine Z0 ?_; refine Z0 ?_; refine JD ?_
  exact ⟨(y, x % y), by simp only; rw [← hg, Nat.gcd_comm x y, Nat.gcd_rec y x, Nat.gcd_comm], Nat.mod_lt _ (by omega), X8 rfl ⟨JL, JL, trivial⟩ trivial⟩
abbrev V9 (n d : Int) : AVal := .agg [ai n, ai d]
theorem X2d {n d : Int} (h : ¬ (1 ≤ d ∧ d ≤ 1000000000000000 ∧ -1000000000000000 ≤ n ∧ n ≤ 1000000000000000)) : Uz n d = false := by simp only [Uz, decide_eq_false h, Bool.false_and]
theorem X8e {n d : Int} (h : 1 ≤ d ∧ d ≤ 1000000000000000 ∧ -1000000000000000 ≤ n ∧ n ≤ 1000000000000000) : Uz n d = decide (Nat.gcd n.natAbs d.natAbs = 1) := by simp only [Uz, decide_eq_true h, Bool.true_and]
theorem X6r (n d : Int) : Con Try.prog 63 [] [V9 n d] [] (ab (Uz n d)) := by
 refine Xf (xs := [ab (Uz n d)]) Try.func63 rfl Try.ntmps63 rfl rfl rfl (fun E => ?_)
 by_cases h1 : 1 ≤ d
 case neg =>
  rw [X2d (by omega)]
  repeat first | refine X0 ?_ | (refine JR ?_; (repeat first | refine Z1 ?_ | refine Z0 ?_ | refine Zo ?_ | refine Zp ?_ | refine Z2 ?_ | refine Zn (γ := 100) ?_ | refine Z7 ?_ | refine Z5 ?_); refine JD ?_)
  exact X1 ⟨_, St.le_refl _, ⟨rfl, trivial⟩, X2 _⟩
 by_cases h2 : d ≤ 1000000000000000
 case neg =>
  rw [X2d (by omega)]
  refine X0 ?_; refine JR ?_; refine Zn (γ := 100) ?_; refine Z0 ?_; refine JD ?_; refine X0 ?_; refine JR ?_; refine Zo ?_; refine Zp ?_; refine Z2 ?_; refine Z1 ?_; refine Zo ?_; refine Zp ?_; refine Z3 ?_
  refine Z4 ?_; refine Z1 ?_; refine Z5 ?_; refine Z5 ?_; refine Z5 ?_; refine Z7 ?_; refine Z1 ?_; refine Z5 ?_; refine Z5 ?_; refine Z5 ?_; refine Z5 ?_; refine Z5 ?_; refine Z5 ?_; refine Z7 ?_; refine Z0 ?_
  refine JD ?_
  exact X1 ⟨_, St.le_refl _, ⟨rfl, trivial⟩, X2 _⟩
 by_cases h3 : -1000000000000000 ≤ n ∧ n ≤ 1000000000000000
 case neg =>
  rw [X2d (by omega)]
  have hin : Con Try.prog 62 [] [ai n] [] (ab false) := by
   have h := X0a n
   rwa [show inV n = false by simpa [inV] using h3] at h
  refine X0 ?_; refine JR ?_; refine Zn (γ := 100) ?_; refine Z0 ?_; refine JD ?_; refine X0 ?_; refine JR ?_; refine Zo ?_; refine Zp ?_; refine Z2 ?_; refine Z1 ?_; refine Zo ?_; refine Zp ?_; refine Z3 ?_
  refine Z4 ?_; refine Z1 ?_; refine Zo ?_; refine Zp ?_; refine Zc (hcon := hin) ?_; refine Z4 ?_; refine Z1 ?_; refine Z5 ?_; refine Z5 ?_; refine Z5 ?_; refine Z5 ?_; refine Z5 ?_; refine Z5 ?_; refine Z7 ?_
  refine Z0 ?_; refine JD ?_
  exact X1 ⟨_, St.le_refl _, ⟨rfl, trivial⟩, X2 _⟩
 rw [X8e (by omega)]
 have hin : Con Try.prog 62 [] [ai n] [] (ab true) := by
  have h := X0a n
  rwa [show inV n = true by simpa [inV] using h3] at h
 refine X0 ?_; refine JR ?_; refine Zn (γ := 100) ?_; refine Z0 ?_; refine JD ?_; refine X0 ?_; refine JR ?_; refine Zo ?_; refine Zp ?_; refine Z2 ?_; refine Z1 ?_; refine Zo ?_; refine Zp ?_; refine Z3 ?_
 refine Z4 ?_; refine Z1 ?_; refine Zo ?_; refine Zp ?_; refine Zc (hcon := hin) ?_; refine Z4 ?_; refine Z1 ?_; refine Zo ?_; refine Zp ?_; refine Zo ?_; refine Zp ?_; refine Zc (hcon := X4Y n d h3 (by omega)) ?_
 refine Zi ?_; refine Z4 ?_; refine Z0 ?_; refine JD ?_
 exact X1 ⟨_, Xn 2 (y := ab (decide (Nat.gcd n.natAbs d.natAbs = 1))) (AVal.le_of_eq (by refine Eq.trans (b := ab (decide (((Nat.gcd n.natAbs d.natAbs : Nat) : Int) = 1))) rfl ?_; exact congrArg ab (decide_eq_decide.2 (by omega)))), ⟨rfl, trivial⟩, X2 _⟩
end Go.Fw

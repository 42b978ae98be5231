/- The codec in plain Lean: what the functions compute. -/
import Derived.Test.YtbhleedlnaakkaaGreatChecked
import Derived.Test.YtbhleedlnaakkaaGreatL08
set_option maxHeartbeats 8000000
namespace Go.Fw
open Go
set_option linter.unusedVariables false
inductive Val where
 | mk (kind n d : Int) (s : List UInt8) (l : List Val)
namespace Val
def kind : Val → Int | mk k _ _ _ _ => k
def n : Val → Int | mk _ n _ _ _ => n
def d : Val → Int | mk _ _ d _ _ => d
def s : Val → List UInt8 | mk _ _ _ s _ => s
def l : Val → List Val | mk _ _ _ _ l => l
end Val
mutual
def Y8 : Val → List D
 | .mk k n d s l => [.v (.int .i64 k), .v (.int .i64 n), .v (.int .i64 d), .v (.string (X6 s)), .sl 5 (XG l)]
def XG : List Val → List (List D)
 | [] => []
 | v :: r => Y8 v :: XG r
end
theorem X0C : ∀ l : List Val, XG l = l.map Y8
 | [] => by simp [XG]
 | v :: r => by simp [XG, X0C r]
theorem Xr {α β : Type} {l : List α} {f : α → β} {k : Nat} {x : α} (h : l[k]? = some x) : (l.map f)[k]? = some (f x) := by simp [h]
theorem Xm {α : Type} {l : List α} {k : Nat} (h : k < l.length) : ∃ x, l[k]? = some x := ⟨_, List.getElem?_eq_getElem h⟩
def vS (n : Nat) : List UInt8 := if n < 128 then [UInt8.ofNat n] else UInt8.ofNat (n % 128 + 128) :: vS (n / 128)
termination_by n
decreasing_by omega
def Uz (n : Int) : List UInt8 := if n < 0 then [] else vS n.toNat
def zig (n : Int) : Nat := if n < 0 then 2 * (-(n + 1)).toNat + 1 else 2 * n.toNat
def X11 (n : Int) : List UInt8 := vS (zig n)
def Ui (s : List UInt8) : List UInt8 := Uz s.length ++ s
def XbO (l : List UInt8) : Nat := ((l.take 10).takeWhile fun b => decide (128 ≤ b.toNat)).length
def Ur : List UInt8 → Nat
 | [] => 0
 | b :: r => b.toNat % 128 + 128 * Ur r
def YN (n d : Int) : Bool := decide (1 ≤ d ∧ d ≤ 1000000000000000 ∧ -1000000000000000 ≤ n ∧ n ≤ 1000000000000000) && decide (Nat.gcd n.natAbs d.natAbs = 1)
def YM (s : List UInt8) : Bool := s.all fun b => decide (32 ≤ b.toNat ∧ b.toNat ≤ 126)
mutual
def X5 : Nat → Val → Bool
 | m, .mk k n d s l =>
  (k == 3 || d == 0) && (k == 4 || decide (s.length = 0)) && (k == 7 || k == 8 || decide (l.length = 0)) &&
  (if k = 0 then decide (n = 0) else if k = 1 then decide (n = 0 ∨ n = 1) else if k = 2 then decide (-1000000000000000 ≤ n ∧ n ≤ 1000000000000000)
   else if k = 3 then decide (2 ≤ d) && YN n d else if k = 4 then decide (n = 0 ∧ s.length ≤ 100) && YM s
   else if k = 5 ∨ k = 6 then decide (1 ≤ n ∧ n ≤ 1000000) else if k = 7 then decide (n = 0 ∧ l.length % 2 = 1 ∧ l.length ≤ 25) && YQ 0 l
   else if k = 8 then decide (n = 0 ∧ l.length ≤ 64 ∧ 1 ≤ m) && YX (m - 1) l else false)
def YX : Nat → List Val → Bool
 | m, [] => true
 | m, v :: r => X5 m v && YX m r
def YQ : Nat → List Val → Bool
 | i, [] => true
 | i, v :: r => decide (v.kind = 5 + (i % 2 : Nat)) && X5 0 v && YQ (i + 1) r
end
mutual
def X2d : Val → List UInt8
 | .mk k n d s l => UInt8.ofNat k.toNat :: (if k = 1 ∨ k = 2 ∨ k = 5 ∨ k = 6 then X11 n else if k = 3 then X11 n ++ X11 d else if k = 4 then Ui s
   else if k = 7 ∨ k = 8 then Uz l.length ++ X4S l else [])
def X4S : List Val → List UInt8
 | [] => []
 | v :: r => X2d v ++ X4S r
end
def X3p (v : Val) : List UInt8 := if X5 8 v then X2d v else []
end Go.Fw
namespace Go.Fw
open Go
set_option linter.unusedVariables false
structure Rul where
 kind : Int
 n : Int
 name : List UInt8
 key : List UInt8
 src : List UInt8
 dst : List UInt8
def Yc (c : UInt8) : Bool := decide ((97 ≤ c.toNat ∧ c.toNat ≤ 122) ∨ (65 ≤ c.toNat ∧ c.toNat ≤ 90))
def Xu (c : UInt8) : Bool := Yc c || decide ((48 ≤ c.toNat ∧ c.toNat ≤ 57) ∨ c.toNat = 95)
def Xj (s : List UInt8) : Bool := decide (1 ≤ s.length ∧ s.length ≤ 20) && Yc ((s[0]?).getD 0) && s.all Xu
def X1Z (b : Bool) (k : Int) : Bool := decide (k = 1 ∨ k = 2 ∨ k = 4) && b
def XF (v : Val) : Bool := X1Z (X5 8 v) v.kind
def X0Q (r : Rul) : Bool := if r.kind = 3 ∨ r.kind = 5 then decide (r.n = 1 ∨ r.n = 2 ∨ r.n = 4) else if r.kind = 7 then decide (0 ≤ r.n ∧ r.n ≤ 4000) else decide (r.n = 0)
def YW (k : Int) : Bool := decide (1 ≤ k ∧ k ≤ 5)
def Yq (r : Rul) : Int :=
 if decide (1 ≤ r.kind ∧ r.kind ≤ 7) = false ∨ X0Q r = false then 1
 else if (YW r.kind = false ∧ r.key ≠ []) ∨ (r.kind ≠ 6 ∧ (r.src ≠ [] ∨ r.dst ≠ [])) then 1
 else if Xj r.name = false ∨ (YW r.kind = true ∧ Xj r.key = false) ∨ (r.src ≠ [] ∧ Xj r.src = false) ∨ (r.dst ≠ [] ∧ Xj r.dst = false) then 6 else 0
def X3i (r : Rul) : List UInt8 := UInt8.ofNat r.kind.toNat :: (Ui r.name ++ Ui r.key ++ Ui r.src ++ Ui r.dst ++ X11 r.n)
def X6h (r : Rul) : List UInt8 := if Yq r = 0 then X3i r else []
end Go.Fw
namespace Go.Fw
open Go
set_option linter.unusedVariables false
structure Prp where
 key : List UInt8
 v : Val
structure Nod where
 id : Int
 labels : List (List UInt8)
 props : List Prp
structure Edg where
 id : Int
 src : Int
 dst : Int
 typ : List UInt8
 props : List Prp
structure Gra where
 nodes : List Nod
 edges : List Edg
 nn : Int
 ne : Int
def Xl (s : List UInt8) : List D := [.v (.string (X6 s))]
def Xg (p : Prp) : List D := .v (.string (X6 p.key)) :: Y8 p.v
def X8 (n : Nod) : List D := [.v (.int .i64 n.id), .sl 1 (n.labels.map Xl), .sl 6 (n.props.map Xg)]
def Xi (e : Edg) : List D := [.v (.int .i64 e.id), .v (.int .i64 e.src), .v (.int .i64 e.dst), .v (.string (X6 e.typ)), .sl 6 (e.props.map Xg)]
def Xp (g : Gra) : AVal := .agg [.d (.sl 3 (g.nodes.map X8)), .d (.sl 5 (g.edges.map Xi)), ai g.nn, ai g.ne]
def Ym : List (List UInt8) → Bool
 | a :: b :: r => !(Op.bytesLess b a || decide (b = a)) && Ym (b :: r)
 | _ => true
def Ya (ls : List (List UInt8)) (ps : List Prp) : Int :=
 if 8 < ls.length ∨ 16 < ps.length then 4
 else if ls.all Xj = false ∨ (ps.map Prp.key).all Xj = false then 6
 else if Ym ls = false ∨ Ym (ps.map Prp.key) = false then 26
 else if (ps.map Prp.v).all XF = false then 8 else 0
def Ye (nn : Int) (prev : Option Nod) (n : Nod) : Int :=
 if (∃ p, prev = some p ∧ n.id ≤ p.id) then 26 else if n.id < 1 ∨ nn ≤ n.id then 1 else Ya n.labels n.props
def XZ (nn : Int) : Option Nod → List Nod → Int
 | _, [] => 0
 | p, n :: r => if Ye nn p n ≠ 0 then Ye nn p n else XZ nn (some n) r
def XA (l : List Nod) (n : Int) : Bool := l.any fun x => decide (x.id = n)
def YI (ns : List Nod) (ne : Int) (prev : Option Edg) (e : Edg) : Int :=
 if (∃ p, prev = some p ∧ e.id ≤ p.id) then 26 else if e.id < 1 ∨ ne ≤ e.id then 1
 else if XA ns e.src = false ∨ XA ns e.dst = false then 10 else if Xj e.typ = false then 6 else Ya [] e.props
def YG (ns : List Nod) (ne : Int) : Option Edg → List Edg → Int
 | _, [] => 0
 | p, n :: r => if YI ns ne p n ≠ 0 then YI ns ne p n else YG ns ne (some n) r
def XC (g : Gra) : Int :=
 if 2000 < g.nodes.length ∨ 4000 < g.edges.length then 4
 else if g.nn < 1 ∨ 1000001 < g.nn ∨ g.ne < 1 ∨ 1000001 < g.ne then 1
 else if XZ g.nn none g.nodes ≠ 0 then XZ g.nn none g.nodes else YG g.nodes g.ne none g.edges
def XN {α : Type} (l : List α) (i : Nat) : Option α := if i = 0 then none else l[i - 1]?
theorem VW {α : Type} {l : List α} {i : Nat} : XN l (i + 1) = l[i]? := by simp [XN]
theorem X3C {nn : Int} {l : List Nod} {i : Nat} {n : Nod} (h : l[i]? = some n) :
  XZ nn (XN l i) (l.drop i) = if Ye nn (XN l i) n ≠ 0 then Ye nn (XN l i) n else XZ nn (XN l (i + 1)) (l.drop (i + 1)) := by
 obtain ⟨hi, h⟩ := List.getElem?_eq_some_iff.1 h
 rw [List.drop_eq_getElem_cons hi, h, XZ, VW, List.getElem?_eq_getElem hi, h]
theorem X3A {ns : List Nod} {ne : Int} {l : List Edg} {i : Nat} {n : Edg} (h : l[i]? = some n) :
  YG ns ne (XN l i) (l.drop i) = if YI ns ne (XN l i) n ≠ 0 then YI ns ne (XN l i) n else YG ns ne (XN l (i + 1)) (l.drop (i + 1)) := by
 obtain ⟨hi, h⟩ := List.getElem?_eq_some_iff.1 h
 rw [List.drop_eq_getElem_cons hi, h, YG, VW, List.getElem?_eq_getElem hi, h]
def X0E (l : List Nod) : Prop := ∀ (i j : Nat) (a b : Nod), l[i]? = some a → l[j]? = some b → i < j → a.id < b.id
theorem X35 {nn : Int} : ∀ (l : List Nod) (p : Option Nod), XZ nn p l = 0 → (∀ a b, p = some a → b ∈ l → a.id < b.id) ∧ X0E l
 | [], p, _ => ⟨by simp, by intro i j a b h; simp at h⟩
 | x :: r, p, h => by
  rw [XZ] at h
  have h0 : Ye nn p x = 0 := by
   by_cases h0 : Ye nn p x = 0
   ·exact h0
   ·rw [if_pos h0] at h; exact absurd h h0
  rw [h0, if_neg (by simp)] at h
  obtain ⟨h1, h2⟩ := X35 r (some x) h
  have hp : ∀ a, p = some a → a.id < x.id := by
   intro a ha
   unfold Ye at h0
   by_cases q : ∃ p', p = some p' ∧ x.id ≤ p'.id
   ·rw [if_pos q] at h0; simp at h0
   ·refine Int.lt_of_not_ge fun hc => q ⟨a, ha, hc⟩
  refine ⟨fun a b ha hb => ?_, fun i j a b hi hj hij => ?_⟩
  ·rcases List.mem_cons.1 hb with rfl | hb
   ·exact hp a ha
   ·exact Int.lt_trans (hp a ha) (h1 x b rfl hb)
  ·cases j with
   | zero => omega
   | succ j =>
    cases i with
    | zero =>
     simp only [List.getElem?_cons_zero, Option.some.injEq] at hi
     subst hi
     exact h1 x b rfl (List.mem_of_getElem? (by simpa using hj))
    | succ i => exact h2 i j a b (by simpa using hi) (by simpa using hj) (by omega)
def X1q (l : List Nod) (n : Int) : Nat := (l.takeWhile fun x => decide (x.id < n)).length
theorem X6e {α : Type} {p : α → Bool} : ∀ {l : List α} {i : Nat}, i ≤ l.length → (∀ k x, k < i → l[k]? = some x → p x = true) → (∀ x, l[i]? = some x → p x = false) → (l.takeWhile p).length = i
 | [], i, h, _, _ => by simp at h; simp [h]
 | x :: r, 0, _, _, h => by rw [List.takeWhile_cons_of_neg (by simp [h x (by simp)])]; rfl
 | x :: r, i + 1, h, h1, h2 => by
  rw [List.takeWhile_cons_of_pos (h1 0 x (by omega) (by simp)), List.length_cons, X6e (i := i) (by simpa using h) (fun k y hk hy => h1 (k + 1) y (by omega) (by simpa using hy)) (fun y hy => h2 y (by simpa using hy))]
theorem X7l {l : List Nod} {n : Int} {i : Nat} (h : i ≤ l.length) (h1 : ∀ k x, k < i → l[k]? = some x → x.id < n) (h2 : ∀ x, l[i]? = some x → ¬ x.id < n) : X1q l n = i :=
 X6e h (fun k x hk hx => by simpa using h1 k x hk hx) (fun x hx => by simpa using h2 x hx)
theorem X7i {l : List Nod} {n : Int} {i : Nat} (hr : X0E l) (h1 : ∀ k x, k < i → l[k]? = some x → x.id < n) (h2 : ∀ k x, i ≤ k → l[k]? = some x → n ≤ x.id) : XA l n = decide (∃ x, l[i]? = some x ∧ x.id = n) := by
 rw [Bool.eq_iff_iff]
 simp only [XA, List.any_eq_true, decide_eq_true_eq]
 constructor
 ·rintro ⟨x, hx, e⟩
  obtain ⟨k, hk⟩ := List.getElem?_of_mem hx
  have hki : i ≤ k := by
   by_cases q : k < i
   ·have := h1 k x q hk; omega
   ·omega
  have hi : i < l.length := by have := (List.getElem?_eq_some_iff.1 hk).1; omega
  refine ⟨l[i], List.getElem?_eq_getElem hi, ?_⟩
  have a := h2 i l[i] (Nat.le_refl _) (List.getElem?_eq_getElem hi)
  by_cases q : i = k
  ·subst q
   rw [List.getElem?_eq_getElem hi] at hk
   injection hk with hk
   rw [hk]; exact e
  ·have := hr i k l[i] x (List.getElem?_eq_getElem hi) hk (by omega)
   omega
 ·rintro ⟨x, hx, e⟩
  exact ⟨x, List.mem_of_getElem? hx, e⟩
def Yo (s t : List UInt8) : Int := if Op.bytesLess s t = true then -1 else if s = t then 0 else 1
def UA (a b : Rul) : Int :=
 if a.kind < b.kind then -1 else if b.kind < a.kind then 1 else if Yo a.name b.name ≠ 0 then Yo a.name b.name else if Yo a.key b.key ≠ 0 then Yo a.key b.key
 else if a.n < b.n then -1 else if b.n < a.n then 1 else if Yo a.src b.src ≠ 0 then Yo a.src b.src else Yo a.dst b.dst
def UT : Option Rul → List Rul → Bool
 | _, [] => true
 | p, r :: l => decide (Yq r = 0 ∧ ∀ q, p = some q → UA q r < 0) && UT (some r) l
def Uj (l : List Rul) : Bool := UT none l && decide (l.length ≤ 40)
end Go.Fw
namespace Go.Fw
open Go
set_option linter.unusedVariables false
theorem X5g {α : Type} {p : α → Bool} : ∀ (l : List α) (i : Nat), (∀ j, j < i → ∃ b, l[j]? = some b ∧ p b = true) → (∀ b, l[i]? = some b → p b = false) → (l.takeWhile p).length = i
 | [], 0, _, _ => rfl
 | [], i + 1, h, _ => by obtain ⟨b, hb, _⟩ := h 0 (by omega); simp at hb
 | x :: l, 0, _, h => by have := h x (by simp); simp [List.takeWhile, this]
 | x :: l, i + 1, h, k => by
  obtain ⟨b, hb, hp⟩ := h 0 (by omega)
  simp at hb; subst hb
  simp only [List.takeWhile, hp, List.length_cons]
  rw [X5g l i (fun j hj => by simpa using h (j + 1) (by omega)) (fun b hb => k b (by simpa using hb))]
end Go.Fw
namespace Go.Fw
open Go
set_option linter.unusedVariables false
def X06 : List UInt8 → Prop
 | [] => False
 | [c] => c.toNat < 128
 | b :: c :: m => 128 ≤ b.toNat ∧ X06 (c :: m) ∧ c :: m ≠ [0]
theorem X4u : ∀ {m : List UInt8}, X06 m → m ≠ [0] → 0 < Ur m
 | [c], h, hn => by
  simp only [X06] at h
  have : c.toNat ≠ 0 := fun e => hn (by rw [show c = 0 from UInt8.toNat_inj.1 e])
  simp only [Ur]; omega
 | b :: c :: m, h, _ => by
  have := X4u h.2.1 h.2.2
  simp only [Ur] at this ⊢; omega
theorem X3n {n : Nat} (h : n < 256) : (UInt8.ofNat n).toNat = n := by simp; omega
theorem X7R (u : Nat) : X06 (vS u) ∧ Ur (vS u) = u ∧ (vS u = [0] → u = 0) := by
 induction u using Nat.strongRecOn with
 | _ u ih =>
  rw [vS]
  by_cases h : u < 128
  ·rw [if_pos h]
   simp only [X06, Ur, X3n (show u < 256 by omega)]
   refine ⟨h, by omega, fun e => ?_⟩
   have := congrArg (fun l : List UInt8 => (l.headD 1).toNat) e
   simp only [List.headD_cons, X3n (show u < 256 by omega)] at this
   simpa using this
  ·rw [if_neg h]
   obtain ⟨h1, h2, h3⟩ := ih (u / 128) (by omega)
   cases hv : vS (u / 128) with
   | nil => rw [hv] at h1; exact h1.elim
   | cons c m =>
    rw [hv] at h1 h2 h3
    have hb : (UInt8.ofNat (u % 128 + 128)).toNat = u % 128 + 128 := X3n (by omega)
    refine ⟨⟨by rw [hb]; omega, h1, fun e => by have := h3 e; omega⟩, ?_, fun e => by simp at e⟩
    simp only [Ur] at h2 ⊢
    rw [hb]; omega
theorem X4m : ∀ {m : List UInt8} (k : Nat), X06 m → Ur m < 2 ^ (7 * k) → 0 < k → m.length ≤ k
 | [c], k, _, _, hk => hk
 | b :: c :: m, k, h, hn, hk => by
  have h2 := X4u h.2.1 h.2.2
  cases k with
  | zero => omega
  | succ k =>
   by_cases hk0 : k = 0
   ·subst hk0
    have e : Ur (b :: c :: m) = b.toNat % 128 + 128 * Ur (c :: m) := rfl
    rw [e] at hn
    have : (2 : Nat) ^ (7 * (0 + 1)) = 128 := rfl
    omega
   ·have := X4m k h.2.1 (by
     have e : Ur (b :: c :: m) = b.toNat % 128 + 128 * Ur (c :: m) := rfl
     rw [e, show 7 * (k + 1) = 7 + 7 * k by omega, Nat.pow_add, show (2 : Nat) ^ 7 = 128 from rfl] at hn
     omega) (by omega)
    simp only [List.length_cons] at this ⊢; omega
end Go.Fw
namespace Go.Fw
open Go
set_option linter.unusedVariables false
theorem X3I {n : Int} (h : 0 ≤ n) : Uz n = vS n.toNat := by unfold Uz; rw [if_neg (by omega)]
theorem X84 {n : Int} (h : -9223372036854775808 ≤ n ∧ n ≤ 9223372036854775807) : zig n < 18446744073709551616 := by
 unfold zig; split <;> omega
def only (b : List UInt8) (a e : Int) (want : List UInt8) : Prop := 0 ≤ a ∧ a ≤ e ∧ e ≤ b.length ∧ (b.drop a.toNat).take (e - a).toNat = want
end Go.Fw
namespace Go.Fw
open Go
set_option linter.unusedVariables false
abbrev zV : Val := .mk 0 0 0 [] []
end Go.Fw
namespace Go.Fw
open Go Go.Proofs
set_option maxRecDepth 100000
set_option linter.unusedVariables false
set_option linter.unusedSimpArgs false
abbrev n64 (n : Nat) : Value := .int .u64 n
abbrev ni (n : Nat) : Value := .int .i64 n
theorem X3q {n : Nat} (h : n < 18446744073709551616) : (vS n).length ≤ 10 := by
 obtain ⟨h1, h2, _⟩ := X7R n
 exact X4m 10 h1 (by rw [h2]; exact Nat.lt_of_lt_of_le h (by decide)) (by omega)
end Go.Fw
namespace Go.Fw
open Go Go.Proofs
set_option maxRecDepth 100000
set_option linter.unusedVariables false
set_option linter.unusedSimpArgs false
abbrev Xt (l : List UInt8) : AVal := .d (.v (.string (X6 l)))
end Go.Fw
namespace Go.Fw
open Go Go.Proofs
set_option maxRecDepth 100000
set_option linter.unusedVariables false
set_option linter.unusedSimpArgs false
theorem Vj {c : UInt8} (h : (97 ≤ c.toNat ∧ c.toNat ≤ 122) ∨ (65 ≤ c.toNat ∧ c.toNat ≤ 90)) : Yc c = true := decide_eq_true h
theorem Ul {c : UInt8} (h : ¬ ((97 ≤ c.toNat ∧ c.toNat ≤ 122) ∨ (65 ≤ c.toNat ∧ c.toNat ≤ 90))) : Yc c = false := decide_eq_false h
theorem X3F (c : UInt8) : Con Tryz.prog 155 [] [au8 c.toNat] [] (ab (Yc c)) := by
 refine X9 (xs := [ab (Yc c)]) Tryz.func155 rfl Tryz.ntmps155 rfl rfl rfl (fun E => ?_)
 by_cases h1 : 97 ≤ c.toNat
 ·by_cases h2 : c.toNat ≤ 122
  ·rw [Vj (by omega)]
   refine X0 ?_; refine JR ?_; refine Z0 ?_; refine JD ?_; refine X0 ?_; refine JR ?_; refine Z1 ?_; refine Z2 ?_; refine Z1 ?_; refine Z1 ?_; refine Zm ?_; refine Zn ?_; refine Z1 ?_; refine Zo ?_; refine Zo ?_
   refine Zo ?_; refine Zp ?_; refine Zp ?_; refine Zo ?_; refine Zn ?_; refine Z0 ?_; refine JD ?_
   first | exact X1 ⟨_, St.le_refl _, ⟨rfl, trivial⟩, X2 _⟩ | exact X1 ⟨_, Xe 2 (y := ab true) (AVal.le_of_eq (by refine Eq.trans (b := ab (decide _)) rfl ?_; exact congrArg ab (by simp; omega))), ⟨rfl, trivial⟩, X2 _⟩ | fail
  ·rw [Ul (by omega)]
   refine X0 ?_; refine JR ?_; refine Z0 ?_; refine JD ?_; refine X0 ?_; refine JR ?_; refine Z1 ?_; refine Z2 ?_; refine Z1 ?_; refine Z1 ?_; refine Zm ?_; refine Zn ?_; refine Z1 ?_; refine Z1 ?_; refine Z2 ?_
   refine Z1 ?_; refine Z1 ?_; refine Zm ?_; refine Zn ?_; refine Zq ?_; refine Z0 ?_; refine JD ?_
   first | exact X1 ⟨_, St.le_refl _, ⟨rfl, trivial⟩, X2 _⟩ | exact X1 ⟨_, Xe 2 (y := ab false) (AVal.le_of_eq (by refine Eq.trans (b := ab (decide _)) rfl ?_; exact congrArg ab (by simp; omega))), ⟨rfl, trivial⟩, X2 _⟩ | fail
 by_cases h3 : 65 ≤ c.toNat
 ·by_cases h4 : c.toNat ≤ 90
  ·rw [Vj (by omega)]
   refine X0 ?_; refine JR ?_; refine Z0 ?_; refine JD ?_; refine X0 ?_; refine JR ?_; refine Z1 ?_; refine Z2 ?_; refine Z1 ?_; refine Zo ?_; refine Zo ?_; refine Zq ?_; refine Z1 ?_; refine Z1 ?_; refine Z2 ?_
   refine Z1 ?_; refine Z1 ?_; refine Zm ?_; refine Zn ?_; refine Zq ?_; refine Z0 ?_; refine JD ?_
   first | exact X1 ⟨_, St.le_refl _, ⟨rfl, trivial⟩, X2 _⟩ | exact X1 ⟨_, Xe 2 (y := ab true) (AVal.le_of_eq (by refine Eq.trans (b := ab (decide _)) rfl ?_; exact congrArg ab (by simp; omega))), ⟨rfl, trivial⟩, X2 _⟩ | fail
  ·rw [Ul (by omega)]
   refine X0 ?_; refine JR ?_; refine Z0 ?_; refine JD ?_; refine X0 ?_; refine JR ?_; refine Z1 ?_; refine Z2 ?_; refine Z1 ?_; refine Zo ?_; refine Zo ?_; refine Zq ?_; refine Z1 ?_; refine Z1 ?_; refine Z2 ?_
   refine Z1 ?_; refine Z1 ?_; refine Zm ?_; refine Zn ?_; refine Zq ?_; refine Z0 ?_; refine JD ?_
   first | exact X1 ⟨_, St.le_refl _, ⟨rfl, trivial⟩, X2 _⟩ | exact X1 ⟨_, Xe 2 (y := ab false) (AVal.le_of_eq (by refine Eq.trans (b := ab (decide _)) rfl ?_; exact congrArg ab (by simp; omega))), ⟨rfl, trivial⟩, X2 _⟩ | fail
 rw [Ul (by omega)]
 repeat first | refine X0 ?_ | (refine JR ?_; (repeat first | refine Z1 ?_ | refine Z0 ?_ | refine Z2 ?_ | refine Zq ?_ | refine Zo ?_); refine JD ?_)
 first | exact X1 ⟨_, St.le_refl _, ⟨rfl, trivial⟩, X2 _⟩ | exact X1 ⟨_, Xe 2 (y := ab false) (AVal.le_of_eq (by refine Eq.trans (b := ab (decide _)) rfl ?_; exact congrArg ab (by simp; omega))), ⟨rfl, trivial⟩, X2 _⟩ | fail
theorem X57 (c : UInt8) : Con Tryz.prog 190 [] [au8 c.toNat] [] (ab (Yc c)) := by
 refine X9 (xs := [ab (Yc c)]) Tryz.func190 rfl Tryz.ntmps190 rfl rfl rfl (fun E => ?_)
 by_cases h1 : 97 ≤ c.toNat
 ·by_cases h2 : c.toNat ≤ 122
  ·rw [Vj (by omega)]
   refine X0 ?_; refine JR ?_; refine Z0 ?_; refine JD ?_; refine X0 ?_; refine JR ?_; refine Z1 ?_; refine Z2 ?_; refine Z1 ?_; refine Z1 ?_; refine Zm ?_; refine Zn ?_; refine Z1 ?_; refine Zo ?_; refine Zo ?_
   refine Zo ?_; refine Zp ?_; refine Zp ?_; refine Zo ?_; refine Zn ?_; refine Z0 ?_; refine JD ?_
   first | exact X1 ⟨_, St.le_refl _, ⟨rfl, trivial⟩, X2 _⟩ | exact X1 ⟨_, Xe 2 (y := ab true) (AVal.le_of_eq (by refine Eq.trans (b := ab (decide _)) rfl ?_; exact congrArg ab (by simp; omega))), ⟨rfl, trivial⟩, X2 _⟩ | fail
  ·rw [Ul (by omega)]
   refine X0 ?_; refine JR ?_; refine Z0 ?_; refine JD ?_; refine X0 ?_; refine JR ?_; refine Z1 ?_; refine Z2 ?_; refine Z1 ?_; refine Z1 ?_; refine Zm ?_; refine Zn ?_; refine Z1 ?_; refine Z1 ?_; refine Z2 ?_
   refine Z1 ?_; refine Z1 ?_; refine Zm ?_; refine Zn ?_; refine Zq ?_; refine Z0 ?_; refine JD ?_
   first | exact X1 ⟨_, St.le_refl _, ⟨rfl, trivial⟩, X2 _⟩ | exact X1 ⟨_, Xe 2 (y := ab false) (AVal.le_of_eq (by refine Eq.trans (b := ab (decide _)) rfl ?_; exact congrArg ab (by simp; omega))), ⟨rfl, trivial⟩, X2 _⟩ | fail
 by_cases h3 : 65 ≤ c.toNat
 ·by_cases h4 : c.toNat ≤ 90
  ·rw [Vj (by omega)]
   refine X0 ?_; refine JR ?_; refine Z0 ?_; refine JD ?_; refine X0 ?_; refine JR ?_; refine Z1 ?_; refine Z2 ?_; refine Z1 ?_; refine Zo ?_; refine Zo ?_; refine Zq ?_; refine Z1 ?_; refine Z1 ?_; refine Z2 ?_
   refine Z1 ?_; refine Z1 ?_; refine Zm ?_; refine Zn ?_; refine Zq ?_; refine Z0 ?_; refine JD ?_
   first | exact X1 ⟨_, St.le_refl _, ⟨rfl, trivial⟩, X2 _⟩ | exact X1 ⟨_, Xe 2 (y := ab true) (AVal.le_of_eq (by refine Eq.trans (b := ab (decide _)) rfl ?_; exact congrArg ab (by simp; omega))), ⟨rfl, trivial⟩, X2 _⟩ | fail
  ·rw [Ul (by omega)]
   refine X0 ?_; refine JR ?_; refine Z0 ?_; refine JD ?_; refine X0 ?_; refine JR ?_; refine Z1 ?_; refine Z2 ?_; refine Z1 ?_; refine Zo ?_; refine Zo ?_; refine Zq ?_; refine Z1 ?_; refine Z1 ?_; refine Z2 ?_
   refine Z1 ?_; refine Z1 ?_; refine Zm ?_; refine Zn ?_; refine Zq ?_; refine Z0 ?_; refine JD ?_
   first | exact X1 ⟨_, St.le_refl _, ⟨rfl, trivial⟩, X2 _⟩ | exact X1 ⟨_, Xe 2 (y := ab false) (AVal.le_of_eq (by refine Eq.trans (b := ab (decide _)) rfl ?_; exact congrArg ab (by simp; omega))), ⟨rfl, trivial⟩, X2 _⟩ | fail
 rw [Ul (by omega)]
 repeat first | refine X0 ?_ | (refine JR ?_; (repeat first | refine Z1 ?_ | refine Z0 ?_ | refine Z2 ?_ | refine Zq ?_ | refine Zo ?_); refine JD ?_)
 first | exact X1 ⟨_, St.le_refl _, ⟨rfl, trivial⟩, X2 _⟩ | exact X1 ⟨_, Xe 2 (y := ab false) (AVal.le_of_eq (by refine Eq.trans (b := ab (decide _)) rfl ?_; exact congrArg ab (by simp; omega))), ⟨rfl, trivial⟩, X2 _⟩ | fail
theorem X32 {s : List UInt8} (h : s = []) : Xj s = false := by subst h; rfl
theorem X2q {s : List UInt8} (h : 20 < s.length) : Xj s = false := by unfold Xj; rw [decide_eq_false (by omega)]; rfl
theorem X0S {s : List UInt8} {c : UInt8} (hc : s[0]? = some c) (h : Yc c = false) : Xj s = false := by unfold Xj; rw [hc, Option.getD_some, h]; simp
theorem Vq {s : List UInt8} {c : UInt8} {i : Nat} (hc : s[i]? = some c) (h : Xu c = false) : Xj s = false := by
 unfold Xj
 rw [show s.all Xu = false by rw [List.all_eq_false]; exact ⟨c, List.mem_of_getElem? hc, by simp [h]⟩]
 simp
theorem X2I {s : List UInt8} {c : UInt8} (hc : s[0]? = some c) (h : Yc c = true) (h20 : ¬ 20 < s.length) (hall : ∀ j, j < s.length → ∃ b, s[j]? = some b ∧ Xu b = true) : Xj s = true := by
 have hl := (List.getElem?_eq_some_iff.1 hc).1
 unfold Xj
 rw [hc, Option.getD_some, h, decide_eq_true (by omega)]
 simp only [Bool.true_and, List.all_eq_true]
 intro b hb
 obtain ⟨j, hj⟩ := List.getElem?_of_mem hb
 obtain ⟨b', h1, h2⟩ := hall j (List.getElem?_eq_some_iff.1 hj).1
 rw [hj] at h1
 obtain rfl := Option.some.inj h1
 exact h2
theorem Ux {s : List UInt8} {i : Nat} {c : UInt8} (hc : s[i]? = some c) (h : Xu c = true) (hall : ∀ j, j < i → ∃ b, s[j]? = some b ∧ Xu b = true) : ∀ j, j < i + 1 → ∃ b, s[j]? = some b ∧ Xu b = true := fun j hj => by
 by_cases e : j = i
 ·subst e; exact ⟨c, hc, h⟩
 ·exact hall j (by omega)
theorem X09 (s : List UInt8) : Con Tryz.prog 98 [] [.d (.v (.string (X6 s)))] [] (ab (Xj s)) := by
 refine X9 (xs := [ab (Xj s)]) Tryz.func98 rfl Tryz.ntmps98 rfl rfl rfl (fun E => ?_)
 have hsz : (X6 s).size = s.length := rfl
 by_cases h0 : s = []
 ·rw [X32 h0]
  subst h0
  repeat first | refine X0 ?_ | (refine JR ?_; (repeat first | refine Z1 ?_ | refine Z0 ?_ | refine Zr ?_ | refine Zn ?_ | refine Zo ?_); refine JD ?_) | refine JT ?_
  exact X1 ⟨_, St.le_refl _, ⟨rfl, trivial⟩, X2 _⟩
 by_cases h20 : 20 < s.length
 ·rw [X2q h20]
  have h20' : (20 : Int) < (X6 s).size := by omega
  refine X0 ?_; refine JR ?_; refine Z0 ?_; refine JD ?_; refine X0 ?_; refine X0 ?_; refine JR ?_; refine Z1 ?_; refine Zr ?_; refine Z1 ?_; refine Z1 ?_; refine Zc ?_; refine Zs ?_; refine Zq ?_
  refine Z1 ?_; refine Zo ?_; refine Zo ?_; refine Zo ?_; refine Zo ?_; refine Zn ?_; refine JD ?_; refine JT ?_; refine X0 ?_; refine JR ?_; refine Z0 ?_; refine JD ?_
  exact X1 ⟨_, St.le_refl _, ⟨rfl, trivial⟩, X2 _⟩
 have h20' : ¬ (20 : Int) < (X6 s).size := by omega
 obtain ⟨c, hc⟩ := Xm (l := s) (k := 0) (by cases s with | nil => exact absurd rfl h0 | cons => simp)
 have hl := X3F c
 cases hlc : Yc c with
 | false =>
  rw [X0S hc hlc]
  rw [hlc] at hl
  refine X0 ?_; refine JR ?_; refine Z0 ?_; refine JD ?_; refine X0 ?_; refine X0 ?_; refine JR ?_; refine Z1 ?_; refine Zr ?_; refine Z1 ?_; refine Z1 ?_; refine Zc ?_; refine Zs ?_; refine Zq ?_
  refine Z1 ?_; refine Z1 ?_; refine Zt ?_; refine Z9 (hcon := hl) ?_; refine Zu ?_; refine Zq ?_; refine JD ?_; refine JT ?_; refine X0 ?_; refine JR ?_; refine Z0 ?_; refine JD ?_
  exact X1 ⟨_, St.le_refl _, ⟨rfl, trivial⟩, X2 _⟩
 | true =>
  rw [hlc] at hl
  refine X0 ?_; refine JR ?_; refine Z0 ?_; refine JD ?_; refine X0 ?_; refine X0 ?_; refine JR ?_; refine Z1 ?_; refine Zr ?_; refine Z1 ?_; refine Z1 ?_; refine Zc ?_; refine Zs ?_; refine Zq ?_
  refine Z1 ?_; refine Z1 ?_; refine Zt ?_; refine Z9 (hcon := hl) ?_; refine Zu ?_; refine Zq ?_; refine JD ?_; refine JF ?_; refine X3 ?_; refine X0 ?_; refine X0 ?_; refine JR ?_; refine Z1 ?_
  refine Zc ?_; refine Z1 ?_; refine JD ?_; refine X4 ?_
  refine Xs (fun i : Nat => i ≤ s.length ∧ ∀ j, j < i → ∃ b, s[j]? = some b ∧ Xu b = true) (fun i => ⟨46, [(0, .d (.v (.string (X6 s)))), (18, ai (X6 s).size), (19, ai i)], []⟩) (fun i => s.length - i) 0 ⟨by omega, fun j hj => by omega⟩
   (X7 rfl ⟨JL, JL, JL, trivial⟩ trivial) ?_
  rintro i ⟨hi, hall⟩
  by_cases hil : i < s.length
  case neg =>
   obtain rfl : i = s.length := by omega
   rw [X2I hc hlc h20 hall]
   have hn : ¬ ((s.length : Nat) : Int) < (X6 s).size := by omega
   refine X0 ?_; refine JR ?_; refine Z8 ?_; refine JD ?_; refine X0 ?_; refine JF ?_; refine Xo ?_; refine X0 ?_; refine JR ?_; refine Z0 ?_; refine JD ?_
   exact X1 ⟨_, St.le_refl _, ⟨rfl, trivial⟩, X2 _⟩
  have hn : (i : Int) < (X6 s).size := by omega
  clear hl hlc hc
  obtain ⟨c, hc⟩ := Xm (l := s) hil
  have hl := X3F c
  cases hlc : Yc c with
  | true =>
   rw [hlc] at hl
   have hnx := Ux hc (show Xu c = true by unfold Xu; rw [hlc]; rfl) hall
   repeat first | refine X0 ?_ | (refine JR ?_; (repeat first | refine Z1 ?_ | refine Z0 ?_ | refine Z8 ?_ | refine Zb ?_ | refine Zu ?_ | refine Zq ?_ | refine Zt ?_ | refine Zo ?_ | refine Zp ?_ | refine Z9 (hcon := hl) ?_); refine JD ?_) | refine JT ?_ | refine JF ?_ | refine X4 ?_ | refine X3 ?_
   exact ⟨i + 1, ⟨by omega, hnx⟩, by omega, X7 rfl ⟨JL, JL, JL, trivial⟩ trivial⟩
  | false =>
   rw [hlc] at hl
   by_cases g1 : 48 ≤ c.toNat
   ·by_cases g2 : c.toNat ≤ 57
    ·have hnx := Ux hc (show Xu c = true by unfold Xu; rw [decide_eq_true (by omega)]; simp) hall
     repeat first | refine X0 ?_ | (refine JR ?_; (repeat first | refine Z1 ?_ | refine Z0 ?_ | refine Z8 ?_ | refine Zs ?_ | refine Zb ?_ | refine Zu ?_ | refine Zn ?_ | refine Zq ?_ | refine Zt ?_ | refine Zo ?_ | refine Z9 (hcon := hl) ?_); refine JD ?_) | refine JT ?_ | refine JF ?_ | refine X4 ?_ | refine X3 ?_
     exact ⟨i + 1, ⟨by omega, hnx⟩, by omega, X7 rfl ⟨JL, JL, JL, trivial⟩ trivial⟩
    by_cases g3 : c.toNat = 95
    ·have hnx := Ux hc (show Xu c = true by unfold Xu; rw [decide_eq_true (by omega)]; simp) hall
     repeat first | refine X0 ?_ | (refine JR ?_; (repeat first | refine Z1 ?_ | refine Z0 ?_ | refine Z8 ?_ | refine Zs ?_ | refine Zv ?_ | refine Zb ?_ | refine Zu ?_ | refine Zn ?_ | refine Zq ?_ | refine Zt ?_ | refine Z9 (hcon := hl) ?_); refine JD ?_) | refine JT ?_ | refine JF ?_ | refine X4 ?_ | refine X3 ?_
     exact ⟨i + 1, ⟨by omega, hnx⟩, by omega, X7 rfl ⟨JL, JL, JL, trivial⟩ trivial⟩
    ·rw [Vq hc (show Xu c = false by unfold Xu; rw [hlc, decide_eq_false (by omega)]; rfl)]
     repeat first | refine X0 ?_ | (refine JR ?_; (repeat first | refine Z1 ?_ | refine Z0 ?_ | refine Z8 ?_ | refine Zs ?_ | refine Zv ?_ | refine Zu ?_ | refine Zn ?_ | refine Zq ?_ | refine Zt ?_ | refine Z9 (hcon := hl) ?_); refine JD ?_) | refine JT ?_ | refine X4 ?_ | refine X3 ?_
     exact X1 ⟨_, St.le_refl _, ⟨rfl, trivial⟩, X2 _⟩
   ·have g3 : ¬ c.toNat = 95 := by omega
    rw [Vq hc (show Xu c = false by unfold Xu; rw [hlc, decide_eq_false (by omega)]; rfl)]
    repeat first | refine X0 ?_ | (refine JR ?_; (repeat first | refine Z1 ?_ | refine Z0 ?_ | refine Z8 ?_ | refine Zv ?_ | refine Zu ?_ | refine Zn ?_ | refine Zt ?_ | refine Zo ?_ | refine Z9 (hcon := hl) ?_); refine JD ?_) | refine JT ?_ | refine X4 ?_ | refine X3 ?_
    exact X1 ⟨_, St.le_refl _, ⟨rfl, trivial⟩, X2 _⟩
end Go.Fw
namespace Go.Fw
open Go Go.Proofs
set_option maxRecDepth 100000
set_option linter.unusedVariables false
set_option linter.unusedSimpArgs false
def YH (k : Int) : Bool × Bool × Bool × Bool := (YW k, decide (k = 3 ∨ k = 5 ∨ k = 7), decide (k = 6), decide (1 ≤ k ∧ k ≤ 7))
theorem X8p (op : Int) : Con Tryz.prog 123 [] [ai op] [] (.tup [.agg [ab (YH op).1, ab (YH op).2.1, ab (YH op).2.2.1], ab (YH op).2.2.2]) := by
 refine X9 (xs := [.agg [ab (YH op).1, ab (YH op).2.1, ab (YH op).2.2.1], ab (YH op).2.2.2]) Tryz.func123 rfl Tryz.ntmps123 rfl rfl rfl (fun E => ?_)
 by_cases k1 : op = 1
 ·subst k1
  refine X0 ?_; refine JR ?_; refine Zw (γ := 100) ?_; refine Z0 ?_; refine JD ?_; refine X0 ?_; refine X0 ?_; refine JR ?_; refine Z1 ?_; refine JD ?_; refine X4 ?_; refine X0 ?_
  refine X0 ?_; refine JR ?_; refine Zl ?_; refine Z0 ?_; refine JD ?_; refine JT ?_; refine X3 ?_; refine JT ?_; refine X0 ?_; refine JR ?_; refine Zx ?_; refine Zy ?_; refine Z0 ?_; refine JD ?_
  exact X1 ⟨_, St.le_refl _, ⟨⟨100, 0, _, rfl, rfl, .inr ⟨3, _, rfl, rfl, rfl, rfl⟩⟩, rfl, trivial⟩, X2 _⟩
 by_cases k2 : op = 2
 ·subst k2
  refine X0 ?_; refine JR ?_; refine Zw (γ := 100) ?_; refine Z0 ?_; refine JD ?_; refine X0 ?_; refine X0 ?_; refine JR ?_; refine Z1 ?_; refine JD ?_; refine X4 ?_; refine X0 ?_
  refine X0 ?_; refine JR ?_; refine Zl ?_; refine Z0 ?_; refine JD ?_; refine JF ?_; refine X0 ?_; refine JR ?_; refine Zl ?_; refine Z0 ?_; refine JD ?_; refine JT ?_; refine X3 ?_; refine JT ?_
  refine X0 ?_; refine JR ?_; refine Zx ?_; refine Zy ?_; refine Z0 ?_; refine JD ?_
  exact X1 ⟨_, St.le_refl _, ⟨⟨100, 0, _, rfl, rfl, .inr ⟨3, _, rfl, rfl, rfl, rfl⟩⟩, rfl, trivial⟩, X2 _⟩
 by_cases k4 : op = 4
 ·subst k4
  repeat first | refine X0 ?_ | (refine JR ?_; (repeat first | refine Z1 ?_ | refine Z0 ?_ | refine Zl ?_ | refine Zw (γ := 100) ?_ | refine Zy ?_ | refine Zx ?_); refine JD ?_) | refine JT ?_ | refine JF ?_ | refine X4 ?_
  exact X1 ⟨_, St.le_refl _, ⟨⟨100, 0, _, rfl, rfl, .inr ⟨3, _, rfl, rfl, rfl, rfl⟩⟩, rfl, trivial⟩, X2 _⟩
 by_cases k3 : op = 3
 ·subst k3
  repeat first | refine X0 ?_ | (refine JR ?_; (repeat first | refine Z1 ?_ | refine Z0 ?_ | refine Zl ?_ | refine Zw (γ := 100) ?_ | refine Zy ?_ | refine Zx ?_); refine JD ?_) | refine JT ?_ | refine JF ?_ | refine X4 ?_ | refine X3 ?_
  exact X1 ⟨_, St.le_refl _, ⟨⟨100, 0, _, rfl, rfl, .inr ⟨3, _, rfl, rfl, rfl, rfl⟩⟩, rfl, trivial⟩, X2 _⟩
 by_cases k5 : op = 5
 ·subst k5
  repeat first | refine X0 ?_ | (refine JR ?_; (repeat first | refine Z1 ?_ | refine Z0 ?_ | refine Zl ?_ | refine Zw (γ := 100) ?_ | refine Zy ?_ | refine Zx ?_); refine JD ?_) | refine JT ?_ | refine JF ?_ | refine X4 ?_
  exact X1 ⟨_, St.le_refl _, ⟨⟨100, 0, _, rfl, rfl, .inr ⟨3, _, rfl, rfl, rfl, rfl⟩⟩, rfl, trivial⟩, X2 _⟩
 by_cases k6 : op = 6
 ·subst k6
  repeat first | refine X0 ?_ | (refine JR ?_; (repeat first | refine Z1 ?_ | refine Z0 ?_ | refine Zl ?_ | refine Zw (γ := 100) ?_ | refine Zy ?_ | refine Zx ?_); refine JD ?_) | refine JT ?_ | refine JF ?_ | refine X4 ?_
  exact X1 ⟨_, St.le_refl _, ⟨⟨100, 0, _, rfl, rfl, .inr ⟨3, _, rfl, rfl, rfl, rfl⟩⟩, rfl, trivial⟩, X2 _⟩
 by_cases k7 : op = 7
 ·subst k7
  repeat first | refine X0 ?_ | (refine JR ?_; (repeat first | refine Z1 ?_ | refine Z0 ?_ | refine Zl ?_ | refine Zw (γ := 100) ?_ | refine Zy ?_ | refine Zx ?_); refine JD ?_) | refine JT ?_ | refine JF ?_ | refine X4 ?_
  exact X1 ⟨_, St.le_refl _, ⟨⟨100, 0, _, rfl, rfl, .inr ⟨3, _, rfl, rfl, rfl, rfl⟩⟩, rfl, trivial⟩, X2 _⟩
 rw [show YH op = (false, false, false, false) by unfold YH YW; rw [decide_eq_false (by omega), decide_eq_false (by omega), decide_eq_false (by omega), decide_eq_false (by omega)]]
 repeat first | refine X0 ?_ | (refine JR ?_; (repeat first | refine Z1 ?_ | refine Z0 ?_ | refine Zl ?_ | refine Zw (γ := 100) ?_ | refine Zy ?_ | refine Zx ?_); refine JD ?_) | refine JF ?_ | refine X4 ?_ | refine X3 ?_
 exact X1 ⟨_, St.le_refl _, ⟨⟨100, 0, _, rfl, rfl, .inr ⟨3, _, rfl, rfl, rfl, rfl⟩⟩, rfl, trivial⟩, X2 _⟩
end Go.Fw
namespace Go.Fw
open Go Go.Proofs
set_option maxRecDepth 100000
set_option linter.unusedVariables false
set_option linter.unusedSimpArgs false
theorem X2t (s : List UInt8) : Con Tryz.prog 133 [] [.d (.v (.string (X6 s)))] [] (ab (Xj s)) := by
 refine X9 (xs := [ab (Xj s)]) Tryz.func133 rfl Tryz.ntmps133 rfl rfl rfl (fun E => ?_)
 have hsz : (X6 s).size = s.length := rfl
 by_cases h0 : s.length < 1
 ·rw [X32 (List.eq_nil_of_length_eq_zero (by omega))]
  have h0' : ((X6 s).size : Int) < 1 := by omega
  repeat first | refine X0 ?_ | (refine JR ?_; (repeat first | refine Z1 ?_ | refine Z0 ?_ | refine Zc ?_ | refine Z8 ?_ | refine Zn ?_ | refine Zo ?_); refine JD ?_) | refine JT ?_
  exact X1 ⟨_, St.le_refl _, ⟨rfl, trivial⟩, X2 _⟩
 have h0' : ¬ ((X6 s).size : Int) < 1 := by omega
 by_cases h20 : 20 < s.length
 ·rw [X2q h20]
  have h20' : (20 : Int) < (X6 s).size := by omega
  refine X0 ?_; refine JR ?_; refine Z0 ?_; refine JD ?_; refine X0 ?_; refine X0 ?_; refine JR ?_; refine Z1 ?_; refine Zc ?_; refine Z8 ?_; refine Z1 ?_; refine Z1 ?_; refine Zc ?_; refine Zs ?_
  refine Zq ?_; refine Z1 ?_; refine Zo ?_; refine Zo ?_; refine Zo ?_; refine Zo ?_; refine Zn ?_; refine JD ?_; refine JT ?_; refine X0 ?_; refine JR ?_; refine Z0 ?_; refine JD ?_
  exact X1 ⟨_, St.le_refl _, ⟨rfl, trivial⟩, X2 _⟩
 have h20' : ¬ (20 : Int) < (X6 s).size := by omega
 obtain ⟨c, hc⟩ := Xm (l := s) (k := 0) (by omega)
 have hl := X57 c
 cases hlc : Yc c with
 | false =>
  rw [X0S hc hlc]
  rw [hlc] at hl
  refine X0 ?_; refine JR ?_; refine Z0 ?_; refine JD ?_; refine X0 ?_; refine X0 ?_; refine JR ?_; refine Z1 ?_; refine Zc ?_; refine Z8 ?_; refine Z1 ?_; refine Z1 ?_; refine Zc ?_; refine Zs ?_
  refine Zq ?_; refine Z1 ?_; refine Z1 ?_; refine Zt ?_; refine Z9 (hcon := hl) ?_; refine Zu ?_; refine Zq ?_; refine JD ?_; refine JT ?_; refine X0 ?_; refine JR ?_; refine Z0 ?_; refine JD ?_
  exact X1 ⟨_, St.le_refl _, ⟨rfl, trivial⟩, X2 _⟩
 | true =>
  rw [hlc] at hl
  refine X0 ?_; refine JR ?_; refine Z0 ?_; refine JD ?_; refine X0 ?_; refine X0 ?_; refine JR ?_; refine Z1 ?_; refine Zc ?_; refine Z8 ?_; refine Z1 ?_; refine Z1 ?_; refine Zc ?_; refine Zs ?_
  refine Zq ?_; refine Z1 ?_; refine Z1 ?_; refine Zt ?_; refine Z9 (hcon := hl) ?_; refine Zu ?_; refine Zq ?_; refine JD ?_; refine JF ?_; refine X3 ?_; refine X0 ?_; refine X0 ?_; refine JR ?_
  refine Z0 ?_; refine JD ?_; refine X4 ?_
  refine Xs (fun i : Nat => 1 ≤ i ∧ i ≤ s.length ∧ ∀ j, j < i → ∃ b, s[j]? = some b ∧ Xu b = true) (fun i => ⟨47, [(0, .d (.v (.string (X6 s)))), (3, ai i)], []⟩) (fun i => s.length - i) 1
   ⟨by omega, by omega, fun j hj => ⟨c, by rw [show j = 0 by omega]; exact hc, by unfold Xu; rw [hlc]; rfl⟩⟩
   (X7 rfl ⟨JL, JL, trivial⟩ trivial) ?_
  rintro i ⟨hi1, hi, hall⟩
  by_cases hil : i < s.length
  case neg =>
   obtain rfl : i = s.length := by omega
   rw [X2I hc hlc h20 hall]
   have hn : ¬ ((s.length : Nat) : Int) < (X6 s).size := by omega
   refine X0 ?_; refine X0 ?_; refine JR ?_; refine Z1 ?_; refine Z1 ?_; refine Zc ?_; refine Z8 ?_; refine JD ?_; refine JF ?_; refine Xo ?_; refine X0 ?_; refine JR ?_; refine Z0 ?_; refine JD ?_
   exact X1 ⟨_, St.le_refl _, ⟨rfl, trivial⟩, X2 _⟩
  have hn : (i : Int) < (X6 s).size := by omega
  clear hl hlc hc
  obtain ⟨c, hc⟩ := Xm (l := s) hil
  have hl := X57 c
  cases hlc : Yc c with
  | true =>
   rw [hlc] at hl
   have hnx := Ux hc (show Xu c = true by unfold Xu; rw [hlc]; rfl) hall
   repeat first | refine X0 ?_ | (refine JR ?_; (repeat first | refine Z1 ?_ | refine Z0 ?_ | refine Zc ?_ | refine Z8 ?_ | refine Zb ?_ | refine Zu ?_ | refine Zq ?_ | refine Zt ?_ | refine Zo ?_ | refine Zp ?_ | refine Z9 (hcon := hl) ?_); refine JD ?_) | refine JT ?_ | refine JF ?_ | refine X4 ?_ | refine X3 ?_
   exact ⟨i + 1, ⟨by omega, by omega, hnx⟩, by omega, X7 rfl ⟨JL, JL, trivial⟩ trivial⟩
  | false =>
   rw [hlc] at hl
   by_cases g3 : c.toNat = 95
   ·have hnx := Ux hc (show Xu c = true by unfold Xu; rw [decide_eq_true (by omega)]; simp) hall
    refine X0 ?_; refine X0 ?_; refine JR ?_; refine Z1 ?_; refine Z1 ?_; refine Zc ?_; refine Z8 ?_; refine JD ?_; refine JT ?_; refine X3 ?_; refine X0 ?_; refine X4 ?_; refine X0 ?_
    refine JR ?_; refine Z1 ?_; refine Z1 ?_; refine Zt ?_; refine Z9 (hcon := hl) ?_; refine Zu ?_; refine Z1 ?_; refine Z1 ?_; refine Z1 ?_; refine Zt ?_; refine Zv ?_; refine Zn ?_; refine Z1 ?_; refine Zo ?_
    refine Zo ?_; refine Zo ?_; refine Zo ?_; refine Zo ?_; refine Zp ?_; refine Zp ?_; refine Zp ?_; refine Zp ?_; refine Zo ?_; refine Zq ?_; refine JD ?_; refine JF ?_; refine X3 ?_; refine JR ?_; refine Z1 ?_
    refine Zb ?_; refine Z0 ?_; refine JD ?_
    exact ⟨i + 1, ⟨by omega, by omega, hnx⟩, by omega, X7 rfl ⟨JL, JL, trivial⟩ trivial⟩
   by_cases g1 : 48 ≤ c.toNat
   ·by_cases g2 : c.toNat ≤ 57
    ·have hnx := Ux hc (show Xu c = true by unfold Xu; rw [decide_eq_true (by omega)]; simp) hall
     refine X0 ?_; refine X0 ?_; refine JR ?_; refine Z1 ?_; refine Z1 ?_; refine Zc ?_; refine Z8 ?_; refine JD ?_; refine JT ?_; refine X3 ?_; refine X0 ?_; refine X4 ?_; refine X0 ?_
     refine JR ?_; refine Z1 ?_; refine Z1 ?_; refine Zt ?_; refine Z9 (hcon := hl) ?_; refine Zu ?_; refine Z1 ?_; refine Z1 ?_; refine Z1 ?_; refine Zt ?_; refine Zv ?_; refine Zn ?_; refine Z1 ?_; refine Z1 ?_
     refine Z1 ?_; refine Zt ?_; refine Z8 ?_; refine Z1 ?_; refine Z1 ?_; refine Z1 ?_; refine Zt ?_; refine Zs ?_; refine Zq ?_; refine Zn ?_; refine JD ?_; refine JF ?_; refine X3 ?_; refine JR ?_; refine Z1 ?_
     refine Zb ?_; refine Z0 ?_; refine JD ?_
     exact ⟨i + 1, ⟨by omega, by omega, hnx⟩, by omega, X7 rfl ⟨JL, JL, trivial⟩ trivial⟩
    ·rw [Vq hc (show Xu c = false by unfold Xu; rw [hlc, decide_eq_false (by omega)]; rfl)]
     repeat first | refine X0 ?_ | (refine JR ?_; (repeat first | refine Z1 ?_ | refine Z0 ?_ | refine Zc ?_ | refine Z8 ?_ | refine Zs ?_ | refine Zv ?_ | refine Zu ?_ | refine Zn ?_ | refine Zq ?_ | refine Zt ?_ | refine Z9 (hcon := hl) ?_); refine JD ?_) | refine JT ?_ | refine X4 ?_ | refine X3 ?_
     exact X1 ⟨_, St.le_refl _, ⟨rfl, trivial⟩, X2 _⟩
   ·rw [Vq hc (show Xu c = false by unfold Xu; rw [hlc, decide_eq_false (by omega)]; rfl)]
    repeat first | refine X0 ?_ | (refine JR ?_; (repeat first | refine Z1 ?_ | refine Z0 ?_ | refine Zc ?_ | refine Z8 ?_ | refine Zv ?_ | refine Zu ?_ | refine Zn ?_ | refine Zt ?_ | refine Zo ?_ | refine Z9 (hcon := hl) ?_); refine JD ?_) | refine JT ?_ | refine X4 ?_ | refine X3 ?_
    exact X1 ⟨_, St.le_refl _, ⟨rfl, trivial⟩, X2 _⟩
end Go.Fw

/- The codec in plain Lean: what the functions compute. -/
import Derived.Test.YtbhleedlnaakkaaGreatChecked
import Derived.Test.YtbhleedlnaakkaaGreatG08
set_option maxHeartbeats 8000000
namespace Go.Fw
open Go
set_option linter.unusedVariables false
inductive Val where
 | mk (kind n d : Int) (s : List UInt8) (l : List Val)
namespace Val
def kind : Val → Int | mk k _ _ _ _ => k
def n : Val → Int | mk _ n _ _ _ => n
def d : Val → Int | mk _ _ d _ _ => d
def s : Val → List UInt8 | mk _ _ _ s _ => s
def l : Val → List Val | mk _ _ _ _ l => l
end Val
abbrev X6 (b : UInt8) : List D := [.v (.int .u8 b.toNat)]
abbrev Xa (l : List UInt8) : D := .sl 1 (l.map X6)
mutual
def YO : Val → List D
 | .mk k n d s l => [.v (.int .i64 k), .v (.int .i64 n), .v (.int .i64 d), .v (.string (X5 s)), .sl 5 (XJ l)]
def XJ : List Val → List (List D)
 | [] => []
 | v :: r => YO v :: XJ r
end
theorem X14 : ∀ l : List Val, XJ l = l.map YO
 | [] => by simp [XJ]
 | v :: r => by simp [XJ, X14 r]
theorem XS {α β : Type} {l : List α} {f : α → β} {k : Nat} {x : α} (h : l[k]? = some x) : (l.map f)[k]? = some (f x) := by simp [h]
theorem Xu {α : Type} {l : List α} {k : Nat} (h : k < l.length) : ∃ x, l[k]? = some x := ⟨_, List.getElem?_eq_getElem h⟩
def vS (n : Nat) : List UInt8 := if n < 128 then [UInt8.ofNat n] else UInt8.ofNat (n % 128 + 128) :: vS (n / 128)
termination_by n
decreasing_by omega
def Xc (n : Int) : List UInt8 := if n < 0 then [] else vS n.toNat
def zig (n : Int) : Nat := if n < 0 then 2 * (-(n + 1)).toNat + 1 else 2 * n.toNat
def zag (u : Nat) : Int := if u % 2 = 1 then -((u / 2 : Nat) : Int) - 1 else ((u / 2 : Nat) : Int)
def XP (n : Int) : List UInt8 := vS (zig n)
def Xz (s : List UInt8) : List UInt8 := Xc s.length ++ s
def Y6 (l : List UInt8) : Nat := ((l.take 10).takeWhile fun b => decide (128 ≤ b.toNat)).length
def XE : List UInt8 → Nat
 | [] => 0
 | b :: r => b.toNat % 128 + 128 * XE r
def XH (b : List UInt8) (a : Int) : Nat × Int × Int :=
 if a < 0 ∨ (b.length : Int) < a then (0, 0, 1) else
  let l := b.drop a.toNat
  let n := Y6 l
  if n = 10 then (0, 0, 4) else if l.length ≤ n then (0, 0, 3) else
   if n = 9 ∧ 1 < ((l[n]?).getD 0).toNat then (0, 0, 4) else (XE (l.take (n + 1)), a + n + 1, 0)
def YX (b : List UInt8) (a : Int) : Bool := let l := b.drop a.toNat; decide (0 < Y6 l) && decide ((l[Y6 l]?).getD 0 = 0)
def Xe (b : List UInt8) (a : Int) : Int × Int × Int :=
 let r := XH b a
 if r.2.2 ≠ 0 then (0, 0, r.2.2) else if 9223372036854775807 < r.1 then (0, 0, 4) else if YX b a then (0, 0, 2) else ((r.1 : Int), r.2.1, 0)
def Xq (b : List UInt8) (a : Int) : Int × Int × Int :=
 let r := XH b a
 if r.2.2 ≠ 0 then (0, 0, r.2.2) else if YX b a then (0, 0, 2) else (zag r.1, r.2.1, 0)
def Y3 (b : List UInt8) (a : Int) : Nat × Int × Int :=
 let r := XH b a
 if r.2.2 ≠ 0 then (0, 0, r.2.2) else if YX b a then (r.1, 0, 2) else r
def Y9 (b : List UInt8) (a : Int) (most : Int) : List UInt8 × Int × Int :=
 let r := Xe b a
 if r.2.2 ≠ 0 then ([], 0, r.2.2) else if most < r.1 then ([], 0, 4) else if (b.length : Int) - r.2.1 < r.1 then ([], 0, 3) else
  ((b.drop r.2.1.toNat).take r.1.toNat, r.2.1 + r.1, 0)
def VD (c : Nat) : Nat := if c % 2 = 1 then (c / 2) ^^^ 3988292384 else c / 2
def X05 : Nat → Nat → Nat
 | 0, c => c
 | k + 1, c => VD (X05 k c)
def X3r (c : Nat) (x : UInt8) : Nat := X05 8 (c ^^^ x.toNat)
def X0K (l : List UInt8) : Nat := l.foldl X3r 4294967295
def XT (l : List UInt8) : Nat := 4294967295 - X0K l
def Ua (l : List UInt8) : List UInt8 := let c := XT l; [UInt8.ofNat (c % 256), UInt8.ofNat (c / 256 % 256), UInt8.ofNat (c / 65536 % 256), UInt8.ofNat (c / 16777216)]
def Y2 (b : List UInt8) : List UInt8 := Xc b.length ++ b ++ Ua b
def UX (b : List UInt8) (k : Nat) : Nat := ((b[k]?).getD 0).toNat + 256 * ((b[k + 1]?).getD 0).toNat + 65536 * ((b[k + 2]?).getD 0).toNat + 16777216 * ((b[k + 3]?).getD 0).toNat
def YQ (b : List UInt8) (a : Int) : List UInt8 × Int × Int :=
 let r := Xe b a
 if r.2.2 ≠ 0 then ([], 0, r.2.2) else if (b.length : Int) - r.2.1 < 4 ∨ (b.length : Int) - r.2.1 - 4 < r.1 then ([], 0, 3) else
  let body := (b.drop r.2.1.toNat).take r.1.toNat
  if UX b (r.2.1 + r.1).toNat ≠ XT body then ([], 0, 21) else (body, r.2.1 + r.1 + 4, 0)
def V6 (n d : Int) : Bool := decide (1 ≤ d ∧ d ≤ 1000000000000000 ∧ -1000000000000000 ≤ n ∧ n ≤ 1000000000000000) && decide (Nat.gcd n.natAbs d.natAbs = 1)
def US (s : List UInt8) : Bool := s.all fun b => decide (32 ≤ b.toNat ∧ b.toNat ≤ 126)
mutual
def X7 : Nat → Val → Bool
 | m, .mk k n d s l =>
  (k == 3 || d == 0) && (k == 4 || decide (s.length = 0)) && (k == 7 || k == 8 || decide (l.length = 0)) &&
  (if k = 0 then decide (n = 0) else if k = 1 then decide (n = 0 ∨ n = 1) else if k = 2 then decide (-1000000000000000 ≤ n ∧ n ≤ 1000000000000000)
   else if k = 3 then decide (2 ≤ d) && V6 n d else if k = 4 then decide (n = 0 ∧ s.length ≤ 100) && US s
   else if k = 5 ∨ k = 6 then decide (1 ≤ n ∧ n ≤ 1000000) else if k = 7 then decide (n = 0 ∧ l.length % 2 = 1 ∧ l.length ≤ 25) && Uc 0 l
   else if k = 8 then decide (n = 0 ∧ l.length ≤ 64 ∧ 1 ≤ m) && Ui (m - 1) l else false)
def Ui : Nat → List Val → Bool
 | m, [] => true
 | m, v :: r => X7 m v && Ui m r
def Uc : Nat → List Val → Bool
 | i, [] => true
 | i, v :: r => decide (v.kind = 5 + (i % 2 : Nat)) && X7 0 v && Uc (i + 1) r
end
mutual
def XA : Val → List UInt8
 | .mk k n d s l => UInt8.ofNat k.toNat :: (if k = 1 ∨ k = 2 ∨ k = 5 ∨ k = 6 then XP n else if k = 3 then XP n ++ XP d else if k = 4 then Xz s
   else if k = 7 ∨ k = 8 then Xc l.length ++ XU l else [])
def XU : List Val → List UInt8
 | [] => []
 | v :: r => XA v ++ XU r
end
def Ys (v : Val) : List UInt8 := if X7 8 v then XA v else []
end Go.Fw
namespace Go.Fw
open Go
set_option linter.unusedVariables false
structure Rul where
 kind : Int
 n : Int
 name : List UInt8
 key : List UInt8
 src : List UInt8
 dst : List UInt8
def U6 (c : UInt8) : Bool := decide ((97 ≤ c.toNat ∧ c.toNat ≤ 122) ∨ (65 ≤ c.toNat ∧ c.toNat ≤ 90))
def XZ (c : UInt8) : Bool := U6 c || decide ((48 ≤ c.toNat ∧ c.toNat ≤ 57) ∨ c.toNat = 95)
def XG (s : List UInt8) : Bool := decide (1 ≤ s.length ∧ s.length ≤ 20) && U6 ((s[0]?).getD 0) && s.all XZ
def X4M (b : Bool) (k : Int) : Bool := decide (k = 1 ∨ k = 2 ∨ k = 4) && b
def YN (v : Val) : Bool := X4M (X7 8 v) v.kind
def XcT (r : Rul) : Bool := if r.kind = 3 ∨ r.kind = 5 then decide (r.n = 1 ∨ r.n = 2 ∨ r.n = 4) else if r.kind = 7 then decide (0 ≤ r.n ∧ r.n ≤ 4000) else decide (r.n = 0)
def V2 (k : Int) : Bool := decide (1 ≤ k ∧ k ≤ 5)
def YW (r : Rul) : Int :=
 if decide (1 ≤ r.kind ∧ r.kind ≤ 7) = false ∨ XcT r = false then 1
 else if (V2 r.kind = false ∧ r.key ≠ []) ∨ (r.kind ≠ 6 ∧ (r.src ≠ [] ∨ r.dst ≠ [])) then 1
 else if XG r.name = false ∨ (V2 r.kind = true ∧ XG r.key = false) ∨ (r.src ≠ [] ∧ XG r.src = false) ∨ (r.dst ≠ [] ∧ XG r.dst = false) then 6 else 0
def UA (r : Rul) : List UInt8 := UInt8.ofNat r.kind.toNat :: (Xz r.name ++ Xz r.key ++ Xz r.src ++ Xz r.dst ++ XP r.n)
def XN (r : Rul) : List UInt8 := if YW r = 0 then UA r else []
abbrev zR : Rul := ⟨0, 0, [], [], [], []⟩
end Go.Fw
namespace Go.Fw
open Go
set_option linter.unusedVariables false
structure Prp where
 key : List UInt8
 v : Val
structure Nod where
 id : Int
 labels : List (List UInt8)
 props : List Prp
structure Edg where
 id : Int
 src : Int
 dst : Int
 typ : List UInt8
 props : List Prp
structure Gra where
 nodes : List Nod
 edges : List Edg
 nn : Int
 ne : Int
def Xn (s : List UInt8) : List D := [.v (.string (X5 s))]
def Xk (p : Prp) : List D := .v (.string (X5 p.key)) :: YO p.v
def Xi (n : Nod) : List D := [.v (.int .i64 n.id), .sl 1 (n.labels.map Xn), .sl 6 (n.props.map Xk)]
def Xr (e : Edg) : List D := [.v (.int .i64 e.id), .v (.int .i64 e.src), .v (.int .i64 e.dst), .v (.string (X5 e.typ)), .sl 6 (e.props.map Xk)]
def Y4 (g : Gra) : AVal := .agg [.d (.sl 3 (g.nodes.map Xi)), .d (.sl 5 (g.edges.map Xr)), ai g.nn, ai g.ne]
abbrev X0k : Gra := ⟨[], [], 0, 0⟩
def Uh : List (List UInt8) → Bool
 | a :: b :: r => !(Op.bytesLess b a || decide (b = a)) && Uh (b :: r)
 | _ => true
def U1 (ls : List (List UInt8)) (ps : List Prp) : Int :=
 if 8 < ls.length ∨ 16 < ps.length then 4
 else if ls.all XG = false ∨ (ps.map Prp.key).all XG = false then 6
 else if Uh ls = false ∨ Uh (ps.map Prp.key) = false then 26
 else if (ps.map Prp.v).all YN = false then 8 else 0
def UU (nn : Int) (prev : Option Nod) (n : Nod) : Int :=
 if (∃ p, prev = some p ∧ n.id ≤ p.id) then 26 else if n.id < 1 ∨ nn ≤ n.id then 1 else U1 n.labels n.props
def Uo (nn : Int) : Option Nod → List Nod → Int
 | _, [] => 0
 | p, n :: r => if UU nn p n ≠ 0 then UU nn p n else Uo nn (some n) r
def Yv (l : List Nod) (n : Int) : Bool := l.any fun x => decide (x.id = n)
def Vh (ns : List Nod) (ne : Int) (prev : Option Edg) (e : Edg) : Int :=
 if (∃ p, prev = some p ∧ e.id ≤ p.id) then 26 else if e.id < 1 ∨ ne ≤ e.id then 1
 else if Yv ns e.src = false ∨ Yv ns e.dst = false then 10 else if XG e.typ = false then 6 else U1 [] e.props
def Vq (ns : List Nod) (ne : Int) : Option Edg → List Edg → Int
 | _, [] => 0
 | p, n :: r => if Vh ns ne p n ≠ 0 then Vh ns ne p n else Vq ns ne (some n) r
def Yh (g : Gra) : Int :=
 if 2000 < g.nodes.length ∨ 4000 < g.edges.length then 4
 else if g.nn < 1 ∨ 1000001 < g.nn ∨ g.ne < 1 ∨ 1000001 < g.ne then 1
 else if Uo g.nn none g.nodes ≠ 0 then Uo g.nn none g.nodes else Vq g.nodes g.ne none g.edges
def Yj {α : Type} (l : List α) (i : Nat) : Option α := if i = 0 then none else l[i - 1]?
theorem X0Q {α : Type} {l : List α} {i : Nat} : Yj l (i + 1) = l[i]? := by simp [Yj]
theorem Xbe {nn : Int} {l : List Nod} {i : Nat} {n : Nod} (h : l[i]? = some n) :
  Uo nn (Yj l i) (l.drop i) = if UU nn (Yj l i) n ≠ 0 then UU nn (Yj l i) n else Uo nn (Yj l (i + 1)) (l.drop (i + 1)) := by
 obtain ⟨hi, h⟩ := List.getElem?_eq_some_iff.1 h
 rw [List.drop_eq_getElem_cons hi, h, Uo, X0Q, List.getElem?_eq_getElem hi, h]
theorem X8q {ns : List Nod} {ne : Int} {l : List Edg} {i : Nat} {n : Edg} (h : l[i]? = some n) :
  Vq ns ne (Yj l i) (l.drop i) = if Vh ns ne (Yj l i) n ≠ 0 then Vh ns ne (Yj l i) n else Vq ns ne (Yj l (i + 1)) (l.drop (i + 1)) := by
 obtain ⟨hi, h⟩ := List.getElem?_eq_some_iff.1 h
 rw [List.drop_eq_getElem_cons hi, h, Vq, X0Q, List.getElem?_eq_getElem hi, h]
def X45 (l : List Nod) : Prop := ∀ (i j : Nat) (a b : Nod), l[i]? = some a → l[j]? = some b → i < j → a.id < b.id
theorem X8P {nn : Int} : ∀ (l : List Nod) (p : Option Nod), Uo nn p l = 0 → (∀ a b, p = some a → b ∈ l → a.id < b.id) ∧ X45 l
 | [], p, _ => ⟨by simp, by intro i j a b h; simp at h⟩
 | x :: r, p, h => by
  rw [Uo] at h
  have h0 : UU nn p x = 0 := by
   by_cases h0 : UU nn p x = 0
   ·exact h0
   ·rw [if_pos h0] at h; exact absurd h h0
  rw [h0, if_neg (by simp)] at h
  obtain ⟨h1, h2⟩ := X8P r (some x) h
  have hp : ∀ a, p = some a → a.id < x.id := by
   intro a ha
   unfold UU at h0
   by_cases q : ∃ p', p = some p' ∧ x.id ≤ p'.id
   ·rw [if_pos q] at h0; simp at h0
   ·refine Int.lt_of_not_ge fun hc => q ⟨a, ha, hc⟩
  refine ⟨fun a b ha hb => ?_, fun i j a b hi hj hij => ?_⟩
  ·rcases List.mem_cons.1 hb with rfl | hb
   ·exact hp a ha
   ·exact Int.lt_trans (hp a ha) (h1 x b rfl hb)
  ·cases j with
   | zero => omega
   | succ j =>
    cases i with
    | zero =>
     simp only [List.getElem?_cons_zero, Option.some.injEq] at hi
     subst hi
     exact h1 x b rfl (List.mem_of_getElem? (by simpa using hj))
    | succ i => exact h2 i j a b (by simpa using hi) (by simpa using hj) (by omega)
def X4g (l : List Nod) (n : Int) : Nat := (l.takeWhile fun x => decide (x.id < n)).length
theorem X7Z {α : Type} {p : α → Bool} : ∀ {l : List α} {i : Nat}, i ≤ l.length → (∀ k x, k < i → l[k]? = some x → p x = true) → (∀ x, l[i]? = some x → p x = false) → (l.takeWhile p).length = i
 | [], i, h, _, _ => by simp at h; simp [h]
 | x :: r, 0, _, _, h => by rw [List.takeWhile_cons_of_neg (by simp [h x (by simp)])]; rfl
 | x :: r, i + 1, h, h1, h2 => by
  rw [List.takeWhile_cons_of_pos (h1 0 x (by omega) (by simp)), List.length_cons, X7Z (i := i) (by simpa using h) (fun k y hk hy => h1 (k + 1) y (by omega) (by simpa using hy)) (fun y hy => h2 y (by simpa using hy))]
theorem XeA {l : List Nod} {n : Int} {i : Nat} (h : i ≤ l.length) (h1 : ∀ k x, k < i → l[k]? = some x → x.id < n) (h2 : ∀ x, l[i]? = some x → ¬ x.id < n) : X4g l n = i :=
 X7Z h (fun k x hk hx => by simpa using h1 k x hk hx) (fun x hx => by simpa using h2 x hx)
theorem XeP {l : List Nod} {n : Int} {i : Nat} (hr : X45 l) (h1 : ∀ k x, k < i → l[k]? = some x → x.id < n) (h2 : ∀ k x, i ≤ k → l[k]? = some x → n ≤ x.id) : Yv l n = decide (∃ x, l[i]? = some x ∧ x.id = n) := by
 rw [Bool.eq_iff_iff]
 simp only [Yv, List.any_eq_true, decide_eq_true_eq]
 constructor
 ·rintro ⟨x, hx, e⟩
  obtain ⟨k, hk⟩ := List.getElem?_of_mem hx
  have hki : i ≤ k := by
   by_cases q : k < i
   ·have := h1 k x q hk; omega
   ·omega
  have hi : i < l.length := by have := (List.getElem?_eq_some_iff.1 hk).1; omega
  refine ⟨l[i], List.getElem?_eq_getElem hi, ?_⟩
  have a := h2 i l[i] (Nat.le_refl _) (List.getElem?_eq_getElem hi)
  by_cases q : i = k
  ·subst q
   rw [List.getElem?_eq_getElem hi] at hk
   injection hk with hk
   rw [hk]; exact e
  ·have := hr i k l[i] x (List.getElem?_eq_getElem hi) hk (by omega)
   omega
 ·rintro ⟨x, hx, e⟩
  exact ⟨x, List.mem_of_getElem? hx, e⟩
def YU (s t : List UInt8) : Int := if Op.bytesLess s t = true then -1 else if s = t then 0 else 1
def UW (a b : Rul) : Int :=
 if a.kind < b.kind then -1 else if b.kind < a.kind then 1 else if YU a.name b.name ≠ 0 then YU a.name b.name else if YU a.key b.key ≠ 0 then YU a.key b.key
 else if a.n < b.n then -1 else if b.n < a.n then 1 else if YU a.src b.src ≠ 0 then YU a.src b.src else YU a.dst b.dst
def VC : Option Rul → List Rul → Bool
 | _, [] => true
 | p, r :: l => decide (YW r = 0 ∧ ∀ q, p = some q → UW q r < 0) && VC (some r) l
def Uj (l : List Rul) : Bool := VC none l && decide (l.length ≤ 40)
end Go.Fw
namespace Go.Fw
open Go
set_option linter.unusedVariables false
theorem X49 {α : Type} {p : α → Bool} : ∀ (l : List α) (i : Nat), (∀ j, j < i → ∃ b, l[j]? = some b ∧ p b = true) → (∀ b, l[i]? = some b → p b = false) → (l.takeWhile p).length = i
 | [], 0, _, _ => rfl
 | [], i + 1, h, _ => by obtain ⟨b, hb, _⟩ := h 0 (by omega); simp at hb
 | x :: l, 0, _, h => by have := h x (by simp); simp [List.takeWhile, this]
 | x :: l, i + 1, h, k => by
  obtain ⟨b, hb, hp⟩ := h 0 (by omega)
  simp at hb; subst hb
  simp only [List.takeWhile, hp, List.length_cons]
  rw [X49 l i (fun j hj => by simpa using h (j + 1) (by omega)) (fun b hb => k b (by simpa using hb))]
def big (l : List UInt8) (i : Nat) : Prop := ∀ j, j < i → ∃ b, l[j]? = some b ∧ 128 ≤ b.toNat
theorem X4Z {l : List UInt8} {i : Nat} {c : UInt8} (h : big l i) (hc : l[i]? = some c) (hlt : c.toNat < 128) (hi : i < 10) : Y6 l = i := by
 refine X49 _ _ (fun j hj => ?_) (fun b hb => ?_)
 ·obtain ⟨b, h1, h2⟩ := h j hj
  exact ⟨b, by rw [List.getElem?_take_of_lt (by omega)]; exact h1, by simpa using h2⟩
 ·rw [List.getElem?_take_of_lt hi, hc] at hb
  cases hb; simpa using hlt
theorem X3T {l : List UInt8} {i : Nat} (h : big l i) (hi : i = min 10 l.length) : Y6 l = i := by
 refine X49 _ _ (fun j hj => ?_) (fun b hb => ?_)
 ·obtain ⟨b, h1, h2⟩ := h j hj
  exact ⟨b, by rw [List.getElem?_take_of_lt (by omega)]; exact h1, by simpa using h2⟩
 ·exfalso
  have := (List.getElem?_eq_some_iff.1 hb).1
  simp at this; omega
theorem X5b {l : List UInt8} {i : Nat} {c : UInt8} (h : big l i) (hc : l[i]? = some c) (h128 : 128 ≤ c.toNat) : big l (i + 1) := fun j hj => by
 by_cases e : j = i
 ·subst e; exact ⟨c, hc, h128⟩
 ·exact h j (by omega)
theorem X1J : ∀ (l : List UInt8) (i : Nat) (c : UInt8), l[i]? = some c → XE (l.take (i + 1)) = XE (l.take i) + 2 ^ (7 * i) * (c.toNat % 128)
 | [], _, _, h => by simp at h
 | x :: l, 0, c, h => by simp at h; subst h; simp [XE]
 | x :: l, i + 1, c, h => by
  have := X1J l i c (by simpa using h)
  simp only [List.take_succ_cons, XE, this]
  rw [Nat.mul_add, ← Nat.mul_assoc, show 7 * (i + 1) = 7 + 7 * i by omega, Nat.pow_add, show (2 : Nat) ^ 7 = 128 from rfl]
  omega
theorem X7G : ∀ (l : List UInt8), XE l < 2 ^ (7 * l.length)
 | [] => by simp [XE]
 | x :: l => by
  have := X7G l
  have hx := Nat.mod_lt x.toNat (show 0 < 128 by omega)
  simp only [XE, List.length_cons]
  rw [show 7 * (l.length + 1) = 7 + 7 * l.length by omega, Nat.pow_add]
  omega
theorem X3c (l : List UInt8) (i : Nat) : XE (l.take i) < 2 ^ (7 * i) :=
 Nat.lt_of_lt_of_le (X7G _) (Nat.pow_le_pow_right (by omega) (by simp; omega))
def Y5 (l : List UInt8) : Nat → Nat
 | 0 => 0
 | i + 1 => Y5 l i ||| (((l[i]?).getD 0).toNat % 128) * 2 ^ (7 * i) % 18446744073709551616
theorem X2O (l : List UInt8) : ∀ i, Y5 l i < 18446744073709551616
 | 0 => by simp [Y5]
 | i + 1 => by
  have := X2O l i
  exact Nat.or_lt_two_pow (n := 64) this (Nat.mod_lt _ (by omega))
theorem X5T {a b i : Nat} (h : a < 2 ^ i) : a ||| b * 2 ^ i = a + 2 ^ i * b := by
 rw [Nat.or_comm, Nat.mul_comm b, ← Nat.two_pow_add_eq_or_of_lt h, Nat.add_comm]
theorem X3m (l : List UInt8) : ∀ i, i ≤ 9 → i ≤ l.length → Y5 l i = XE (l.take i)
 | 0, _, _ => by simp [Y5, XE]
 | i + 1, h, hl => by
  obtain ⟨c, hc⟩ := Xu (l := l) (k := i) (by omega)
  have h1 := X3m l i (by omega) (by omega)
  have h2 := X3c l i
  have h3 := Nat.mod_lt c.toNat (show 0 < 128 by omega)
  have h4 : c.toNat % 128 * 2 ^ (7 * i) < 2 ^ (7 + 7 * i) := by rw [Nat.pow_add]; exact Nat.mul_lt_mul_of_pos_right h3 (Nat.pow_pos (by omega))
  have h5 : 2 ^ (7 + 7 * i) ≤ 2 ^ 64 := Nat.pow_le_pow_right (by omega) (by omega)
  simp only [Y5, hc, Option.getD_some]
  rw [Nat.mod_eq_of_lt (Nat.lt_of_lt_of_le h4 h5), h1, X5T h2, X1J l i c hc]
theorem X8T (l : List UInt8) {c : UInt8} (hc : l[9]? = some c) (h : c.toNat ≤ 1) : Y5 l 10 = XE (l.take 10) := by
 have hl := (List.getElem?_eq_some_iff.1 hc).1
 have h1 := X3m l 9 (by omega) (by omega)
 have h2 := X3c l 9
 simp only [Y5, hc, Option.getD_some] at h1 ⊢
 rw [X1J l 9 c hc, Nat.mod_eq_of_lt (a := c.toNat % 128 * 2 ^ (7 * 9)) (by
  have : c.toNat % 128 ≤ 1 := by omega
  have : c.toNat % 128 * 2 ^ (7 * 9) ≤ 1 * 2 ^ (7 * 9) := Nat.mul_le_mul_right _ this
  omega)]
 have := X3m l 9 (by omega) (by omega)
 simp only [Y5] at this
 rw [this]
 exact X5T h2
end Go.Fw
namespace Go.Fw
open Go
set_option linter.unusedVariables false
def VG : List UInt8 → Prop
 | [] => False
 | [c] => c.toNat < 128
 | b :: c :: m => 128 ≤ b.toNat ∧ VG (c :: m) ∧ c :: m ≠ [0]
theorem X5M : ∀ {m : List UInt8}, VG m → m ≠ [0] → 0 < XE m
 | [c], h, hn => by
  simp only [VG] at h
  have : c.toNat ≠ 0 := fun e => hn (by rw [show c = 0 from UInt8.toNat_inj.1 e])
  simp only [XE]; omega
 | b :: c :: m, h, _ => by
  have := X5M h.2.1 h.2.2
  simp only [XE] at this ⊢; omega
theorem UL {n : Nat} (h : n < 256) : (UInt8.ofNat n).toNat = n := by simp; omega
theorem X5X (u : Nat) : VG (vS u) ∧ XE (vS u) = u ∧ (vS u = [0] → u = 0) := by
 induction u using Nat.strongRecOn with
 | _ u ih =>
  rw [vS]
  by_cases h : u < 128
  ·rw [if_pos h]
   simp only [VG, XE, UL (show u < 256 by omega)]
   refine ⟨h, by omega, fun e => ?_⟩
   have := congrArg (fun l : List UInt8 => (l.headD 1).toNat) e
   simp only [List.headD_cons, UL (show u < 256 by omega)] at this
   simpa using this
  ·rw [if_neg h]
   obtain ⟨h1, h2, h3⟩ := ih (u / 128) (by omega)
   cases hv : vS (u / 128) with
   | nil => rw [hv] at h1; exact h1.elim
   | cons c m =>
    rw [hv] at h1 h2 h3
    have hb : (UInt8.ofNat (u % 128 + 128)).toNat = u % 128 + 128 := UL (by omega)
    refine ⟨⟨by rw [hb]; omega, h1, fun e => by have := h3 e; omega⟩, ?_, fun e => by simp at e⟩
    simp only [XE] at h2 ⊢
    rw [hb]; omega
theorem Xbh : ∀ {m : List UInt8}, VG m → vS (XE m) = m
 | [c], h => by
  simp only [VG] at h
  have e : XE [c] = c.toNat := by simp only [XE]; omega
  rw [e, vS, if_pos h]; simp
 | b :: c :: m, h => by
  have h1 := Xbh h.2.1
  have h2 := X5M h.2.1 h.2.2
  have hb := b.toNat_lt
  have e : XE (b :: c :: m) = b.toNat % 128 + 128 * XE (c :: m) := rfl
  rw [e, vS, if_neg (by omega), show (b.toNat % 128 + 128 * XE (c :: m)) / 128 = XE (c :: m) by omega, h1]
  rw [show (b.toNat % 128 + 128 * XE (c :: m)) % 128 + 128 = b.toNat by have := h.1; omega]
  simp
theorem X6e : ∀ {m : List UInt8}, VG m → big m (m.length - 1) ∧ ∃ c, m[m.length - 1]? = some c ∧ c.toNat < 128 ∧ (1 < m.length → c ≠ 0)
 | [c], h => ⟨fun j hj => by simp at hj, c, rfl, h, fun h => by simp at h⟩
 | b :: c :: m, h => by
  obtain ⟨h1, x, h2, h3, h4⟩ := X6e h.2.1
  refine ⟨fun j hj => ?_, x, by simpa using h2, h3, fun _ e => ?_⟩
  ·cases j with
   | zero => exact ⟨b, rfl, h.1⟩
   | succ j => simpa using h1 j (by simp at hj ⊢; omega)
  ·by_cases hm : m = []
   ·subst hm; simp at h2; subst h2; subst e; exact h.2.2 rfl
   ·refine h4 (by cases m with | nil => exact absurd rfl hm | cons _ _ => simp) e
theorem X79 : ∀ {m : List UInt8} (k : Nat), VG m → XE m < 2 ^ (7 * k) → 0 < k → m.length ≤ k
 | [c], k, _, _, hk => hk
 | b :: c :: m, k, h, hn, hk => by
  have h2 := X5M h.2.1 h.2.2
  cases k with
  | zero => omega
  | succ k =>
   by_cases hk0 : k = 0
   ·subst hk0
    have e : XE (b :: c :: m) = b.toNat % 128 + 128 * XE (c :: m) := rfl
    rw [e] at hn
    have : (2 : Nat) ^ (7 * (0 + 1)) = 128 := rfl
    omega
   ·have := X79 k h.2.1 (by
     have e : XE (b :: c :: m) = b.toNat % 128 + 128 * XE (c :: m) := rfl
     rw [e, show 7 * (k + 1) = 7 + 7 * k by omega, Nat.pow_add, show (2 : Nat) ^ 7 = 128 from rfl] at hn
     omega) (by omega)
    simp only [List.length_cons] at this ⊢; omega
theorem Xcj {m : List UInt8} {c : UInt8} (h : VG m) (hl : m.length = 10) (hn : XE m < 18446744073709551616) (hc : m[9]? = some c) : c.toNat ≤ 1 := by
 obtain ⟨_, x, hx, h128, _⟩ := X6e h
 rw [hl, hc] at hx; cases hx
 have := X1J m 9 c hc
 rw [List.take_of_length_le (by omega)] at this
 have h9 : (2 : Nat) ^ (7 * 9) = 9223372036854775808 := rfl
 rw [this, h9] at hn
 omega
theorem X8e {m back : List UInt8} (h : VG m) (hn : XE m < 18446744073709551616) (front : List UInt8) :
  XH (front ++ m ++ back) front.length = (XE m, (front.length : Int) + m.length, 0) ∧ YX (front ++ m ++ back) front.length = false := by
 obtain ⟨hb, c, hc, h128, h0⟩ := X6e h
 have hlen := X79 10 h (Nat.lt_of_lt_of_le hn (by decide)) (by omega)
 have hpos : 0 < m.length := by cases m with | nil => exact h.elim | cons _ _ => simp
 have hd : (front ++ m ++ back).drop (front.length : Int).toNat = m ++ back := by rw [Int.toNat_natCast, List.append_assoc, List.drop_left]
 have hc' : (m ++ back)[m.length - 1]? = some c := by rw [List.getElem?_append_left (by omega)]; exact hc
 have hm : Y6 (m ++ back) = m.length - 1 := X4Z (fun j hj => by
  obtain ⟨b, h1, h2⟩ := hb j hj
  exact ⟨b, by rw [List.getElem?_append_left (by omega)]; exact h1, h2⟩) hc' h128 (by omega)
 constructor
 ·unfold XH
  rw [if_neg (by simp; omega)]
  simp only [hd, hm]
  rw [if_neg (by omega), if_neg (by simp; omega), if_neg (by
   rintro ⟨e, h1⟩
   rw [hc'] at h1
   have := Xcj h (by omega) hn (c := c) (by rw [← e]; exact hc)
   simp at h1; omega)]
  rw [show m.length - 1 + 1 = m.length by omega, List.take_left]
  refine Prod.ext rfl (Prod.ext ?_ rfl)
  simp only; omega
 ·unfold YX
  simp only [hd, hm, hc', Option.getD_some]
  by_cases h1 : m.length = 1
  ·simp [h1]
  ·have := h0 (by omega)
   simp [this]
theorem X6d {b : List UInt8} {a e : Int} {u : Nat} (h : XH b a = (u, e, 0)) (hp : YX b a = false) :
  0 ≤ a ∧ a < e ∧ e ≤ b.length ∧ (b.drop a.toNat).take (e - a).toNat = vS u ∧ u < 18446744073709551616 := by
 unfold XH at h
 split at h
 ·simp at h
 rename_i ha
 simp only at h
 split at h
 ·simp at h
 rename_i h10
 split at h
 ·simp at h
 rename_i hle
 split at h
 ·simp at h
 rename_i h9
 simp only [Prod.mk.injEq] at h
 obtain ⟨rfl, rfl, _⟩ := h
 generalize hl : b.drop a.toNat = l at *
 have hbig : big l (Y6 l) ∧ (∀ c, l[Y6 l]? = some c → c.toNat < 128) ∧ Y6 l < 10 := by
  have hw : ∀ (q : List UInt8), big q ((q.takeWhile fun b => decide (128 ≤ b.toNat)).length) ∧ ∀ c, q[(q.takeWhile fun b => decide (128 ≤ b.toNat)).length]? = some c → c.toNat < 128 := by
   intro q
   induction q with
   | nil => exact ⟨fun j hj => by simp at hj, fun c hc => by simp at hc⟩
   | cons x q ih =>
    by_cases hx : 128 ≤ x.toNat
    ·simp only [List.takeWhile, hx, decide_true, List.length_cons]
     refine ⟨fun j hj => ?_, fun c hc => ih.2 c (by simpa using hc)⟩
     cases j with
     | zero => exact ⟨x, rfl, hx⟩
     | succ j => simpa using ih.1 j (by omega)
    ·simp only [List.takeWhile, hx, decide_false, List.length_nil]
     exact ⟨fun j hj => by omega, fun c hc => by simp at hc; subst hc; omega⟩
  have h1 := hw (l.take 10)
  have hmore : Y6 l ≤ (l.take 10).length := by unfold Y6; exact (List.takeWhile_sublist _).length_le
  have hlt : Y6 l < 10 := by simp at hmore; omega
  refine ⟨fun j hj => ?_, fun c hc => h1.2 c (by unfold Y6 at hc hlt; rw [List.getElem?_take_of_lt hlt]; exact hc), hlt⟩
  obtain ⟨x, h2, h3⟩ := h1.1 j hj
  rw [List.getElem?_take_of_lt (by omega)] at h2
  exact ⟨x, h2, h3⟩
 obtain ⟨hb1, hb2, hb3⟩ := hbig
 have hll : l.length = b.length - a.toNat := by rw [← hl, List.length_drop]
 obtain ⟨c, hc⟩ := Xu (l := l) (k := Y6 l) (by omega)
 have hc128 := hb2 c hc
 have hcan : ∀ (k : Nat) (q : List UInt8) (c : UInt8), big q k → q[k]? = some c → c.toNat < 128 → (0 < k → c ≠ 0) → VG (q.take (k + 1)) := by
  intro k
  induction k with
  | zero =>
   intro q c _ hq hc _
   cases q with
   | nil => simp at hq
   | cons x q => simp at hq; subst hq; simpa [VG] using hc
  | succ k ih =>
   intro q c hb hq hc h0
   cases q with
   | nil => simp at hq
   | cons x q =>
    obtain ⟨y, hy, hy2⟩ := hb 0 (by omega)
    simp at hy; subst hy
    have h1 := ih q c (fun j hj => by simpa using hb (j + 1) (by omega)) (by simpa using hq) hc (fun _ => h0 (by omega))
    rw [List.take_succ_cons]
    cases q with
    | nil => simp at hq
    | cons z q =>
     refine ⟨hy2, h1, fun e => ?_⟩
     have e1 : z = 0 := by simpa using (List.cons.inj e).1
     have e2 : (q.take k) = [] := (List.cons.inj e).2
     cases k with
     | zero =>
      simp at hq; subst hq
      exact h0 (by omega) e1
     | succ k =>
      have hlt := (List.getElem?_eq_some_iff.1 hq).1
      have := congrArg List.length e2
      rw [List.length_take, List.length_nil] at this
      simp only [List.length_cons] at hlt
      omega
 have hpad : 0 < Y6 l → c ≠ 0 := by
  intro h0 e
  unfold YX at hp
  simp only [hl, hc, Option.getD_some] at hp
  simp [h0, e] at hp
 have hcn := hcan _ _ _ hb1 hc hc128 hpad
 have ha' : ¬(a < 0) ∧ ¬((b.length : Int) < a) := by simpa using ha
 refine ⟨by omega, by omega, by omega, ?_, ?_⟩
 ·rw [show (a + (Y6 l : Int) + 1 - a).toNat = Y6 l + 1 by omega, Xbh hcn]
 ·have h1 := X3c l (Y6 l)
  rw [X1J l _ c hc]
  by_cases hm9 : Y6 l = 9
  ·have : c.toNat ≤ 1 := by
    have h2 := h9
    rw [hc] at h2
    simp only [hm9, true_and, Option.getD_some] at h2; omega
   rw [hm9] at h1 ⊢
   have e9 : (2 : Nat) ^ (7 * 9) = 9223372036854775808 := rfl
   rw [e9] at h1 ⊢
   omega
  ·have h2 : (2 : Nat) ^ (7 * Y6 l) ≤ 2 ^ 56 := Nat.pow_le_pow_right (by omega) (by omega)
   have e56 : (2 : Nat) ^ 56 = 72057594037927936 := rfl
   rw [e56] at h2
   have h3 := Nat.mod_lt c.toNat (show 0 < 128 by omega)
   have h4 : 2 ^ (7 * Y6 l) * (c.toNat % 128) ≤ 72057594037927936 * 127 := Nat.mul_le_mul h2 (by omega)
   omega
end Go.Fw
namespace Go.Fw
open Go
set_option linter.unusedVariables false
theorem Xed {c : Nat} (h : c < 4294967296) : VD c < 4294967296 := by
 unfold VD
 split
 ·exact Nat.xor_lt_two_pow (n := 32) (by omega) (by decide)
 ·omega
theorem X3W {c : Nat} (h : c < 4294967296) : ∀ k, X05 k c < 4294967296
 | 0 => h
 | k + 1 => Xed (X3W h k)
theorem X6t {c : Nat} (h : c < 4294967296) (x : UInt8) : c ^^^ x.toNat < 4294967296 :=
 Nat.xor_lt_two_pow (n := 32) h (by have := x.toNat_lt; omega)
theorem Xc9 {c : Nat} (h : c < 4294967296) (x : UInt8) : X3r c x < 4294967296 := X3W (X6t h x) 8
theorem XaA : ∀ (l : List UInt8) {c : Nat}, c < 4294967296 → l.foldl X3r c < 4294967296
 | [], c, h => h
 | x :: l, c, h => XaA l (Xc9 h x)
theorem X1T (l : List UInt8) : XT l < 4294967296 := by unfold XT; omega
theorem X11 (l : List UInt8) : (Ua l).length = 4 := rfl
theorem XaO {p q : List UInt8} (l : List UInt8) : UX (p ++ Ua l ++ q) p.length = XT l := by
 have hs := X1T l
 have g : ∀ i, i < 4 → (p ++ Ua l ++ q)[p.length + i]? = (Ua l)[i]? := fun i hi => by
  rw [List.append_assoc, List.getElem?_append_right (by omega), List.getElem?_append_left (by rw [X11]; omega)]
  congr 1; omega
 unfold UX
 rw [show p.length = p.length + 0 from rfl, g 0 (by omega), show p.length + 0 + 1 = p.length + 1 from rfl, g 1 (by omega), show p.length + 0 + 2 = p.length + 2 from rfl, g 2 (by omega), show p.length + 0 + 3 = p.length + 3 from rfl, g 3 (by omega)]
 simp only [Ua, List.getElem?_cons_zero, List.getElem?_cons_succ, Option.getD_some, UInt8.toNat_ofNat']
 omega
theorem XfV {a b c d a' b' c' d' : UInt8} (h : a.toNat + 256 * b.toNat + 65536 * c.toNat + 16777216 * d.toNat = a'.toNat + 256 * b'.toNat + 65536 * c'.toNat + 16777216 * d'.toNat) : a = a' ∧ b = b' ∧ c = c' ∧ d = d' := by
 have h1 := a.toNat_lt; have h2 := b.toNat_lt; have h3 := c.toNat_lt; have h4 := d.toNat_lt
 have h5 := a'.toNat_lt; have h6 := b'.toNat_lt; have h7 := c'.toNat_lt; have h8 := d'.toNat_lt
 refine ⟨UInt8.toNat_inj.1 ?_, UInt8.toNat_inj.1 ?_, UInt8.toNat_inj.1 ?_, UInt8.toNat_inj.1 ?_⟩ <;> omega
end Go.Fw
namespace Go.Fw
open Go
set_option linter.unusedVariables false
theorem X1o {n : Int} (h : 0 ≤ n) : Xc n = vS n.toNat := by unfold Xc; rw [if_neg (by omega)]
theorem X4K {n : Int} (h : 0 ≤ n ∧ n ≤ 9223372036854775807) (front back : List UInt8) :
  Xe (front ++ Xc n ++ back) front.length = (n, (front.length : Int) + (Xc n).length, 0) := by
 obtain ⟨h1, h2, _⟩ := X5X n.toNat
 rw [X1o h.1]
 obtain ⟨h3, h4⟩ := X8e (m := vS n.toNat) (back := back) h1 (by omega) front
 unfold Xe
 rw [h3, h4, h2]
 simp only [ne_eq, not_true_eq_false, if_false, Bool.false_eq_true]
 rw [if_neg (by omega)]
 refine Prod.ext ?_ rfl
 simp only; omega
theorem XeC {n : Int} : zag (zig n) = n := by
 unfold zig zag
 split <;> split <;> omega
theorem XfL {u : Nat} : zig (zag u) = u := by
 unfold zig zag
 split <;> split <;> omega
theorem Xab {n : Int} (h : -9223372036854775808 ≤ n ∧ n ≤ 9223372036854775807) : zig n < 18446744073709551616 := by
 unfold zig; split <;> omega
theorem X4d {n : Int} (h : -9223372036854775808 ≤ n ∧ n ≤ 9223372036854775807) (front back : List UInt8) :
  Xq (front ++ XP n ++ back) front.length = (n, (front.length : Int) + (XP n).length, 0) := by
 obtain ⟨h1, h2, _⟩ := X5X (zig n)
 obtain ⟨h3, h4⟩ := X8e (m := vS (zig n)) (back := back) h1 (by rw [h2]; exact Xab h) front
 unfold Xq XP
 rw [h3, h4, h2]
 simp [XeC]
theorem Xb5 {s : List UInt8} {most : Int} (hs : (s.length : Int) ≤ 9223372036854775807) (hm : (s.length : Int) ≤ most) (front back : List UInt8) :
  Y9 (front ++ Xz s ++ back) front.length most = (s, (front.length : Int) + (Xz s).length, 0) := by
 have h1 := X4K (n := s.length) ⟨by omega, hs⟩ front (s ++ back)
 have e : front ++ Xz s ++ back = front ++ Xc s.length ++ (s ++ back) := by simp [Xz]
 unfold Y9
 rw [e, h1]
 simp only [ne_eq, not_true_eq_false, if_false]
 rw [if_neg (by omega), if_neg (by simp only [List.length_append]; omega)]
 have e2 : ((front.length : Int) + ((Xc (s.length : Int)).length : Int)).toNat = (front ++ Xc s.length).length := by simp only [List.length_append]; omega
 refine Prod.ext ?_ (Prod.ext ?_ rfl)
 ·simp only [e2, List.drop_left, Int.toNat_natCast, List.take_left]
 ·simp only [Xz, List.length_append]; omega
theorem Xff {s : List UInt8} (hs : (s.length : Int) ≤ 9223372036854775807) (front back : List UInt8) :
  YQ (front ++ Y2 s ++ back) front.length = (s, (front.length : Int) + (Y2 s).length, 0) := by
 have h1 := X4K (n := s.length) ⟨by omega, hs⟩ front (s ++ Ua s ++ back)
 have e : front ++ Y2 s ++ back = front ++ Xc s.length ++ (s ++ Ua s ++ back) := by simp [Y2]
 have h4 := X11 s
 unfold YQ
 rw [e, h1]
 simp only [ne_eq, not_true_eq_false, if_false]
 rw [if_neg (by simp only [List.length_append]; omega)]
 have e2 : ((front.length : Int) + ((Xc (s.length : Int)).length : Int)).toNat = (front ++ Xc s.length).length := by simp only [List.length_append]; omega
 have e3 : ((front.length : Int) + ((Xc (s.length : Int)).length : Int) + (s.length : Int)).toNat = (front ++ Xc s.length ++ s).length := by simp only [List.length_append]; omega
 have e4 : (List.drop (front ++ Xc (s.length : Int)).length (front ++ Xc (s.length : Int) ++ (s ++ Ua s ++ back))).take s.length = s := by rw [List.drop_left, List.append_assoc, List.take_left]
 have e5 : UX (front ++ Xc (s.length : Int) ++ (s ++ Ua s ++ back)) (front ++ Xc s.length ++ s).length = XT s := by
  have := XaO (p := front ++ Xc s.length ++ s) (q := back) s
  rwa [show front ++ Xc (s.length : Int) ++ s ++ Ua s ++ back = front ++ Xc (s.length : Int) ++ (s ++ Ua s ++ back) by simp] at this
 rw [e2, e3, Int.toNat_natCast, e4, e5]
 simp only [not_true_eq_false, if_false]
 refine Prod.ext rfl (Prod.ext ?_ rfl)
 simp only [Y2, List.length_append, h4]; omega
def only (b : List UInt8) (a e : Int) (want : List UInt8) : Prop := 0 ≤ a ∧ a ≤ e ∧ e ≤ b.length ∧ (b.drop a.toNat).take (e - a).toNat = want
theorem X1v {b : List UInt8} {a n e : Int} (h : Xe b a = (n, e, 0)) : only b a e (Xc n) ∧ 0 ≤ n ∧ n ≤ 9223372036854775807 ∧ a < e := by
 unfold Xe at h
 simp only at h
 split at h
 ·rename_i h0; exact absurd (congrArg (fun r => r.2.2) h) h0
 rename_i h0
 split at h
 ·exact absurd (congrArg (fun r => r.2.2) h) (by simp)
 rename_i h1
 split at h
 ·exact absurd (congrArg (fun r => r.2.2) h) (by simp)
 rename_i h2
 have h0 : (XH b a).2.2 = 0 := by simpa using h0
 simp only [Prod.mk.injEq] at h
 obtain ⟨rfl, rfl, _⟩ := h
 obtain ⟨k1, k2, k3, k4, k5⟩ := X6d (b := b) (a := a) (e := (XH b a).2.1) (u := (XH b a).1) (by rw [← h0]) (by simpa using h2)
 exact ⟨⟨k1, by omega, k3, by rw [X1o (by omega), Int.toNat_natCast]; exact k4⟩, by omega, by omega, k2⟩
theorem X4u {b : List UInt8} {a n e : Int} (h : Xq b a = (n, e, 0)) : only b a e (XP n) ∧ a < e ∧ -9223372036854775808 ≤ n ∧ n ≤ 9223372036854775807 := by
 unfold Xq at h
 simp only at h
 split at h
 ·rename_i h0; exact absurd (congrArg (fun r => r.2.2) h) h0
 rename_i h0
 split at h
 ·exact absurd (congrArg (fun r => r.2.2) h) (by simp)
 rename_i h2
 have h0 : (XH b a).2.2 = 0 := by simpa using h0
 simp only [Prod.mk.injEq] at h
 obtain ⟨rfl, rfl, _⟩ := h
 obtain ⟨k1, k2, k3, k4, k5⟩ := X6d (b := b) (a := a) (e := (XH b a).2.1) (u := (XH b a).1) (by rw [← h0]) (by simpa using h2)
 refine ⟨⟨k1, by omega, k3, by unfold XP; rw [XfL]; exact k4⟩, k2, ?_, ?_⟩ <;> unfold zag <;> split <;> omega
theorem X1S {b : List UInt8} {a e most : Int} {s : List UInt8} (h : Y9 b a most = (s, e, 0)) : only b a e (Xz s) ∧ (s.length : Int) ≤ most ∧ a < e := by
 unfold Y9 at h
 simp only at h
 split at h
 ·rename_i h0; exact absurd (congrArg (fun r => r.2.2) h) h0
 rename_i h0
 split at h
 ·exact absurd (congrArg (fun r => r.2.2) h) (by simp)
 rename_i h1
 split at h
 ·exact absurd (congrArg (fun r => r.2.2) h) (by simp)
 rename_i h2
 have h0 : (Xe b a).2.2 = 0 := by simpa using h0
 obtain ⟨⟨k1, k2, k3, k4⟩, k5, k6, k7⟩ := X1v (b := b) (a := a) (n := (Xe b a).1) (e := (Xe b a).2.1) (by rw [← h0])
 generalize (Xe b a).1 = n at *
 generalize (Xe b a).2.1 = f at *
 simp only [Prod.mk.injEq] at h
 obtain ⟨rfl, rfl, _⟩ := h
 have hl : ((b.drop f.toNat).take n.toNat).length = n.toNat := by simp; omega
 refine ⟨⟨k1, by omega, by omega, ?_⟩, by omega, by omega⟩
 rw [show (f + n - a).toNat = (f - a).toNat + n.toNat by omega, List.take_add, k4, List.drop_drop, show a.toNat + (f - a).toNat = f.toNat by omega]
 unfold Xz
 rw [hl, show ((n.toNat : Nat) : Int) = n by omega]
theorem X5h {b : List UInt8} {a e : Int} {x : List UInt8} (h : YQ b a = (x, e, 0)) : only b a e (Y2 x) := by
 unfold YQ at h
 simp only at h
 split at h
 ·rename_i h0; exact absurd (congrArg (fun r => r.2.2) h) h0
 rename_i h0
 split at h
 ·exact absurd (congrArg (fun r => r.2.2) h) (by simp)
 rename_i h1
 split at h
 ·exact absurd (congrArg (fun r => r.2.2) h) (by simp)
 rename_i h2
 have h0 : (Xe b a).2.2 = 0 := by simpa using h0
 obtain ⟨⟨k1, k2, k3, k4⟩, k5, k6, k7⟩ := X1v (b := b) (a := a) (n := (Xe b a).1) (e := (Xe b a).2.1) (by rw [← h0])
 generalize (Xe b a).1 = n at *
 generalize (Xe b a).2.1 = f at *
 simp only [Prod.mk.injEq] at h
 obtain ⟨rfl, rfl, _⟩ := h
 have hl : ((b.drop f.toNat).take n.toNat).length = n.toNat := by simp; omega
 have h2 : UX b (f + n).toNat = XT ((b.drop f.toNat).take n.toNat) := by simpa using h2
 have h4 : (b.drop (f + n).toNat).take 4 = Ua ((b.drop f.toNat).take n.toNat) := by
  generalize hx : (b.drop f.toNat).take n.toNat = x at *
  generalize hk : (f + n).toNat = k at *
  obtain ⟨q0, g0⟩ := Xu (l := b) (k := k) (by omega)
  obtain ⟨q1, g1⟩ := Xu (l := b) (k := k + 1) (by omega)
  obtain ⟨q2, g2⟩ := Xu (l := b) (k := k + 2) (by omega)
  obtain ⟨q3, g3⟩ := Xu (l := b) (k := k + 3) (by omega)
  have hs := X1T x
  have hb := XaO (p := []) (q := []) x
  simp only [List.nil_append, List.append_nil, List.length_nil] at hb
  rw [← hb] at h2
  unfold UX at h2
  simp only [g0, g1, g2, g3, Option.getD_some, Ua, Nat.zero_add, List.getElem?_cons_zero, List.getElem?_cons_succ] at h2
  obtain ⟨e0, e1, e2, e3⟩ := XfV h2
  apply List.ext_getElem?
  intro i
  rw [List.getElem?_take]
  split
  ·rename_i hi
   rw [List.getElem?_drop]
   rcases i with _ | _ | _ | _ | i
   ·rw [Nat.add_zero, g0, e0]; rfl
   ·rw [g1, e1]; rfl
   ·rw [g2, e2]; rfl
   ·rw [g3, e3]; rfl
   ·omega
  ·rename_i hi
   rw [List.getElem?_eq_none (by rw [X11]; omega)]
 refine ⟨k1, by omega, by omega, ?_⟩
 rw [show (f + n + 4 - a).toNat = (f - a).toNat + (n.toNat + 4) by omega, List.take_add, k4, List.drop_drop, show a.toNat + (f - a).toNat = f.toNat by omega, List.take_add, List.drop_drop, show f.toNat + n.toNat = (f + n).toNat by omega, h4]
 unfold Y2
 rw [hl, show ((n.toNat : Nat) : Int) = n by omega, List.append_assoc]
end Go.Fw
namespace Go.Fw
open Go
set_option linter.unusedVariables false
theorem XaP {n : Nat} (h : n < 128) : vS n = [UInt8.ofNat n] := by rw [vS, if_pos h]
end Go.Fw
namespace Go.Fw
open Go
set_option linter.unusedVariables false
abbrev zV : Val := .mk 0 0 0 [] []
def XC (g : Nat → Int → Val × Int × Int) (a : Int) : Nat → List Val × Int × Int
 | 0 => ([], a, 0)
 | k + 1 => let p := XC g a k
  if p.2.2 ≠ 0 then p else let r := g k p.2.1; (p.1 ++ [r.1], r.2.1, r.2.2)
def Ul (k n : Int) : Bool := if k = 8 then decide (64 < n) else decide (25 < n) || decide (n % 2 = 0)
def Y8 (gl gp : Nat → Int → Val × Int × Int) (b : List UInt8) (a k : Int) : Val × Int × Int :=
 if k = 1 ∨ k = 2 ∨ k = 5 ∨ k = 6 then let r := Xq b a; (.mk k r.1 0 [] [], r.2.1, r.2.2)
 else if k = 3 then let r := Xq b a
  if r.2.2 ≠ 0 then (.mk 3 0 0 [] [], r.2.1, r.2.2) else let q := Xq b r.2.1; (.mk 3 r.1 q.1 [] [], q.2.1, q.2.2)
 else if k = 4 then let r := Y9 b a 100; (.mk 4 0 0 r.1 [], r.2.1, r.2.2)
 else if k = 7 ∨ k = 8 then let c := Xe b a
  if c.2.2 ≠ 0 then (.mk k 0 0 [] [], c.2.1, c.2.2) else if Ul k c.1 then (.mk k 0 0 [] [], c.2.1, 2) else
   let p := XC (if k = 8 then gl else gp) c.2.1 c.1.toNat; (.mk k 0 0 [] p.1, p.2.1, p.2.2)
 else (.mk k 0 0 [] [], a, 0)
def Ud (gl gp : Nat → Int → Val × Int × Int) (m : Nat) (b : List UInt8) (a want : Int) : Val × Int × Int :=
 if a = b.length then (zV, a, 3) else
  let k : Int := ((b[a.toNat]?).getD 0).toNat
  if 8 < k ∨ (k = 8 ∧ m = 0) ∨ (want ≠ 0 ∧ k ≠ want) then (zV, a, 2) else
   let c := Y8 gl gp b (a + 1) k
   if c.2.2 = 0 ∧ X7 8 c.1 = false then (c.1, c.2.1, 2) else c
def noG (_ : Nat) (a : Int) : Val × Int × Int := (zV, a, 2)
def X2I (b : List UInt8) (a want : Int) : Val × Int × Int := Ud noG noG 0 b a want
def Uu (b : List UInt8) (i : Nat) (a : Int) : Val × Int × Int := X2I b a (5 + (i % 2 : Nat))
def V5 (b : List UInt8) : Nat → Int → Val × Int × Int
 | 0, a => Ud noG (Uu b) 0 b a 0
 | m + 1, a => Ud (fun _ e => V5 b m e) (Uu b) (m + 1) b a 0
def VZ (b : List UInt8) : Nat → Nat → Int → Val × Int × Int
 | 0 => noG
 | m + 1 => fun _ e => V5 b m e
theorem X0q (b : List UInt8) (m : Nat) (a : Int) : V5 b m a = Ud (VZ b m) (Uu b) m b a 0 := by
 cases m <;> rfl
def Yf (b : List UInt8) (a : Int) : Val × Int × Int :=
 if a < 0 ∨ (b.length : Int) < a then (zV, 0, 1) else let r := V5 b 8 a; if r.2.2 ≠ 0 then (zV, 0, r.2.2) else r
theorem X6P : ∀ (v : Val) (m m' : Nat), m ≤ m' → X7 m v = true → X7 m' v = true := by
 intro v
 induction v using Val.rec (motive_2 := fun l => ∀ (m m' : Nat), m ≤ m' → Ui m l = true → Ui m' l = true) with
 | mk k n d s l ih =>
  intro m m' hm h
  rw [X7] at h ⊢
  by_cases hk : k = 8
  ·subst hk
   simp at h ⊢
   refine ⟨h.1, ⟨h.2.1.1, h.2.1.2.1, by omega⟩, ih _ _ (by omega) h.2.2⟩
  ·simp only [hk, if_false] at h ⊢
   exact h
 | nil => rfl
 | cons v r ih1 ih2 =>
  rename_i hm h
  rw [Ui] at h ⊢
  simp at h ⊢
  exact ⟨ih1 _ _ hm h.1, ih2 _ _ hm h.2⟩
end Go.Fw
namespace Go.Fw
open Go Go.Proofs
set_option maxRecDepth 100000
set_option linter.unusedVariables false
set_option linter.unusedSimpArgs false
abbrev X00 (n : Nat) : AVal := .d (.v (.int .u64 n))
abbrev n8 (n : Nat) : Value := .int .u8 n
abbrev n32 (n : Nat) : Value := .int .u32 n
abbrev n64 (n : Nat) : Value := .int .u64 n
abbrev ni (n : Nat) : Value := .int .i64 n
theorem YJ {src dst : TypeId} {k : IntKind} {a : Nat} (hs : (Tryz.prog.underlying src).isSome = true) (hd : X1R Tryz.prog dst .u8 = true) (w : World) : (convert src dst (.int k (a : Int))).run Tryz.prog w = .ok (n8 (a % 256)) w :=
 XhP hs hd rfl w
theorem XfW : ∀ m, m < 256 → m ||| 128 = m % 128 + 128 := by decide +kernel
theorem X0I {n : Nat} (h : n < 18446744073709551616) : (vS n).length ≤ 10 := by
 obtain ⟨h1, h2, _⟩ := X5X n
 exact X79 10 h1 (by rw [h2]; exact Nat.lt_of_lt_of_le h (by decide)) (by omega)
theorem X8k {n : Nat} (h : 128 ≤ n) : vS n = UInt8.ofNat (n % 128 + 128) :: vS (n / 128) := by rw [vS, if_neg (by omega)]
theorem X7c (n : Nat) (hn : n < 18446744073709551616) : Con Tryz.prog 147 [] [ani, X00 n] [(130, .row 1 ((vS n).map X6))] (.own 130 (vS n).length) := by
 refine X9 (xs := [.own 130 (vS n).length]) Tryz.func147 rfl Tryz.ntmps147 rfl rfl rfl (fun E => ?_)
 refine X0 ?_; refine JR ?_; refine Z0 ?_; refine JD ?_; refine X0 ?_; refine X4 ?_
 refine Xm (VR 0 130 1 rfl rfl rfl) ?_
 refine Xy (ι := List UInt8 × Nat) (fun i => i.1 ++ vS i.2 = vS n ∧ i.2 ≤ n) (fun i => ⟨20, [(1, X00 i.2), (0, .own 130 i.1.length)], [(130, .row 1 (i.1.map X6))]⟩) (fun i => i.2) ([], n) ⟨rfl, Nat.le_refl _⟩
  (X8 rfl ⟨JL, JL, trivial⟩ ⟨rfl, trivial⟩) ?_
 rintro ⟨pre, m⟩ ⟨hpre, hm⟩
 simp only at hpre hm
 have hlen : pre.length ≤ 10 := by
  have h1 := congrArg List.length hpre
  have h2 := X0I hn
  simp only [List.length_append] at h1; omega
 by_cases h : 128 ≤ m
 ·have hv := X8k h
  have e1 : n8 (m % 256 ||| 128) = n8 (UInt8.ofNat (m % 128 + 128)).toNat := by rw [XfW _ (by omega), UL (by omega)]; congr 2; omega
  have e2 : n64 (m / 2 ^ 7) = n64 (m / 128) := rfl
  refine X0 ?_; refine X0 ?_; refine JR ?_; refine Z1 ?_; refine Z2 ?_; refine JD ?_; refine JT ?_; refine X2 ?_; refine X4 ?_; refine X0 ?_; refine JR ?_; refine Z1 ?_; refine Z1 ?_
  refine Z3 (u := n64 m) (r := n8 (m % 256)) ?_ (hr := by exact YJ rfl rfl)
  refine Z4 (op := .or) (r' := _) (u := n8 (m % 256)) (v := n8 128) ?_ (hr' := by exact e1) (hr := by exact Vd (by rw [YM]; omega) (by rw [YM]; omega)); refine Z5 ?_; refine Z6 ?_; refine Z0 ?_; refine JD ?_
  refine JR ?_; refine Z1 ?_; refine Z4 (op := .shr) (r' := _) (u := n64 m) (v := n64 7) ?_ (hr' := by exact e2) (hr := by exact X1a (by decide)); refine Z0 ?_; refine JD ?_
  refine ⟨(pre ++ [UInt8.ofNat (m % 128 + 128)], m / 128), ⟨by simp only; rw [← hpre, hv]; simp, by simp only; omega⟩, by simp only; omega, X8 rfl ⟨JL, (by refine AVal.le_of_eq ?_; refine Eq.trans (b := AVal.own 130 (_ + _)) rfl ?_; simp), trivial⟩ ⟨?_, trivial⟩⟩
  refine Eq.trans (b := AObj.row 1 (_ ++ [[.v (n8 _)]])) rfl ?_
  simp
 ·have hv : vS m = [UInt8.ofNat m] := XaP (by omega)
  have e3 : n8 (m % 256) = n8 (UInt8.ofNat m).toNat := by rw [UL (by omega)]; congr 2; omega
  refine X0 ?_; refine X0 ?_; refine JR ?_; refine Z1 ?_; refine Z2 ?_; refine JD ?_; refine JF ?_; refine Xj ?_; refine X0 ?_; refine JR ?_; refine Z1 ?_; refine Z1 ?_
  refine Z3 (u := n64 m) (r := n8 (UInt8.ofNat m).toNat) ?_ (hr := by exact by rw [← e3]; exact YJ rfl rfl); refine Z5 ?_; refine Z6 ?_; refine Z0 ?_; refine JD ?_
  refine X1 ⟨_, Xh 4 (y := .own 130 (vS n).length) (AVal.le_of_eq ?_), ⟨rfl, trivial⟩, Xd ⟨?_, trivial⟩⟩
  ·refine Eq.trans (b := AVal.own 130 (_ + _)) rfl ?_
   rw [← hpre, hv]; simp
  ·refine Eq.trans (b := AObj.row 1 (_ ++ [[.v (n8 _)]])) rfl ?_
   rw [← hpre, hv]; simp
end Go.Fw
namespace Go.Fw
open Go Go.Proofs
set_option maxRecDepth 100000
set_option linter.unusedVariables false
set_option linter.unusedSimpArgs false
theorem Xfh (n : Int) (hn : n ≤ 9223372036854775807) : Con Tryz.prog 94 [] [ai n] [(130, .row 1 ((Xc n).map X6))] (.own 130 (Xc n).length) := by
 refine X9 (xs := [.own 130 (Xc n).length]) Tryz.func94 rfl Tryz.ntmps94 rfl rfl rfl (fun E => ?_)
 by_cases h : n < 0
 ·rw [show Xc n = [] by simp [Xc, h]]
  refine X0 ?_; refine JR ?_; refine Z0 ?_; refine JD ?_; refine X0 ?_; refine X0 ?_; refine JR ?_; refine Z1 ?_; refine Z8 ?_; refine JD ?_; refine JT ?_; refine X0 ?_; refine JR ?_; refine Z0 ?_
  refine JD ?_
  refine Xm (VR 2 130 1 rfl rfl rfl) ?_
  exact X1 ⟨_, St.le_refl _, ⟨rfl, trivial⟩, Xd ⟨rfl, trivial⟩⟩
 ·obtain ⟨m, rfl⟩ : ∃ m : Nat, n = m := ⟨n.toNat, by omega⟩
  rw [show Xc (m : Int) = vS m by unfold Xc; rw [if_neg h, Int.toNat_natCast]]
  refine X0 ?_; refine JR ?_; refine Z0 ?_; refine JD ?_; refine X0 ?_; refine X0 ?_; refine JR ?_; refine Z1 ?_; refine Z8 ?_; refine JD ?_; refine JF ?_; refine X2 ?_; refine X0 ?_; refine JR ?_
  refine Z1 ?_; refine Z3 (u := ni m) (r := n64 m) ?_ (hr := by exact Yu rfl rfl (by rw [XK]; omega)); refine Z9 (hcon := X7c m (by omega)) ?_; refine Z0 ?_; refine JD ?_
  exact X1 ⟨_, St.le_refl _, ⟨rfl, trivial⟩, Xd ⟨rfl, trivial⟩⟩
theorem XgR (n : Int) (hn : -9223372036854775808 ≤ n ∧ n ≤ 9223372036854775807) : Con Tryz.prog 158 [] [ai n] [(130, .row 1 ((XP n).map X6))] (.own 130 (XP n).length) := by
 refine X9 (xs := [.own 130 (XP n).length]) Tryz.func158 rfl Tryz.ntmps158 rfl rfl rfl (fun E => ?_)
 by_cases h : n < 0
 ·obtain ⟨m, rfl⟩ : ∃ m : Nat, n = -(m : Int) - 1 := ⟨(-n - 1).toNat, by omega⟩
  have ez : zig (-(m : Int) - 1) = 2 * m + 1 := by unfold zig; rw [if_pos (by omega)]; omega
  unfold XP; rw [ez]
  have ew : IntKind.u64.wrap (-(m : Int) - 1) = ((18446744073709551615 - m : Nat) : Int) := by rw [IntKind.wrap_u64]; omega
  have es : (18446744073709551615 - m) * 2 ^ 1 % 2 ^ IntKind.u64.bits = 18446744073709551614 - 2 * m := by
   rw [show 2 ^ IntKind.u64.bits = 18446744073709551616 from rfl]; omega
  have ec : 2 ^ IntKind.u64.bits - 1 - (18446744073709551614 - 2 * m) = 2 * m + 1 := by
   rw [show 2 ^ IntKind.u64.bits = 18446744073709551616 from rfl]; omega
  have hcompl : ∀ w, (Op.unary .xor (n64 (18446744073709551614 - 2 * m))).run Tryz.prog w = .ok (n64 (2 * m + 1)) w := fun w => by
   have h := XaT (P := Tryz.prog) (k := .u64) (a := 18446744073709551614 - 2 * m) rfl (by rw [show 2 ^ IntKind.u64.bits = 18446744073709551616 from rfl]; omega) w
   rwa [ec] at h
  refine X0 ?_; refine JR ?_; refine Z0 ?_; refine JD ?_; refine X0 ?_; refine JR ?_; refine Z1 ?_
  refine Z3 (u := .int .i64 (-(m : Int) - 1)) (r := n64 (18446744073709551615 - m)) ?_ (hr := by exact by intro w; show _ = Result.ok (Value.int .u64 ((18446744073709551615 - m : Nat) : Int)) w; rw [← ew]; exact X2X rfl rfl w)
  refine Z4 (op := .shl) (r' := n64 (18446744073709551614 - 2 * m)) (u := n64 (18446744073709551615 - m)) (v := n64 1) ?_ (hr' := by exact congrArg n64 es) (hr := by exact Vc rfl (by decide)); refine Z0 ?_
  refine JD ?_; refine X0 ?_; refine X0 ?_; refine JR ?_; refine Z1 ?_; refine Z8 ?_; refine JD ?_; refine JT ?_; refine JR ?_; refine Z1 ?_
  refine Za (u := n64 (18446744073709551614 - 2 * m)) (r := n64 (2 * m + 1)) ?_ (hr := by exact hcompl); refine Z0 ?_; refine JD ?_; refine X0 ?_; refine JR ?_; refine Z1 ?_
  refine Z9 (hcon := X7c (2 * m + 1) (by omega)) ?_; refine Z0 ?_; refine JD ?_
  exact X1 ⟨_, St.le_refl _, ⟨rfl, trivial⟩, Xd ⟨rfl, trivial⟩⟩
 ·obtain ⟨m, rfl⟩ : ∃ m : Nat, n = m := ⟨n.toNat, by omega⟩
  have ez : zig (m : Int) = 2 * m := by unfold zig; rw [if_neg (by omega)]; omega
  unfold XP; rw [ez]
  have es : m * 2 ^ 1 % 2 ^ IntKind.u64.bits = 2 * m := by
   rw [show 2 ^ IntKind.u64.bits = 18446744073709551616 from rfl]; omega
  refine X0 ?_; refine JR ?_; refine Z0 ?_; refine JD ?_; refine X0 ?_; refine JR ?_; refine Z1 ?_; refine Z3 (u := ni m) (r := n64 m) ?_ (hr := by exact Yu rfl rfl (by rw [XK]; omega))
  refine Z4 (op := .shl) (r' := n64 (2 * m)) (u := n64 m) (v := n64 1) ?_ (hr' := by exact congrArg n64 es) (hr := by exact Vc rfl (by decide)); refine Z0 ?_; refine JD ?_; refine X0 ?_; refine X0 ?_
  refine JR ?_; refine Z1 ?_; refine Z8 ?_; refine JD ?_; refine JF ?_; refine X2 ?_; refine X0 ?_; refine JR ?_; refine Z1 ?_; refine Z9 (hcon := X7c (2 * m) (by omega)) ?_; refine Z0 ?_; refine JD ?_
  exact X1 ⟨_, St.le_refl _, ⟨rfl, trivial⟩, Xd ⟨rfl, trivial⟩⟩
theorem X2V (n : Int) (hn : n ≤ 9223372036854775807) : Con Tryz.prog 94 [] [ai n] [] (.d (Xa (Xc n))) := (Xfh n hn).data (by simp)
theorem X1E (n : Int) (hn : -9223372036854775808 ≤ n ∧ n ≤ 9223372036854775807) : Con Tryz.prog 158 [] [ai n] [] (.d (Xa (XP n))) := (XgR n hn).data (by simp)
end Go.Fw

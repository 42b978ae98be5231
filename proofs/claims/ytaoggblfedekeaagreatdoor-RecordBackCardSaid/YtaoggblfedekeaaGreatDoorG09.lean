/- The codec in plain Lean: what the functions compute. -/
import Derived.Test.YtaoggblfedekeaaGreatDoorG06
import Derived.Test.YtaoggblfedekeaaGreatDoorG08
import Derived.Test.YtaoggblfedekeaaGreatDoorChecked
import Derived.Test.YtaoggblfedekeaaGreatDoorG07
set_option maxHeartbeats 8000000
namespace Go.Fw
open Go
set_option linter.unusedVariables false
inductive Val where
 | mk (kind n d : Int) (s : List UInt8) (l : List Val)
namespace Val
def kind : Val → Int | mk k _ _ _ _ => k
def n : Val → Int | mk _ n _ _ _ => n
def d : Val → Int | mk _ _ d _ _ => d
def s : Val → List UInt8 | mk _ _ _ s _ => s
def l : Val → List Val | mk _ _ _ _ l => l
end Val
abbrev Xa (b : UInt8) : List D := [.v (.int .u8 b.toNat)]
abbrev Xh (l : List UInt8) : D := .sl 1 (l.map Xa)
mutual
def YP : Val → List D
 | .mk k n d s l => [.v (.int .i64 k), .v (.int .i64 n), .v (.int .i64 d), .v (.string (X4 s)), .sl 5 (Xs l)]
def Xs : List Val → List (List D)
 | [] => []
 | v :: r => YP v :: Xs r
end
theorem VQ : ∀ l : List Val, Xs l = l.map YP
 | [] => by simp [Xs]
 | v :: r => by simp [Xs, VQ r]
theorem YR {α β : Type} {l : List α} {f : α → β} {k : Nat} {x : α} (h : l[k]? = some x) : (l.map f)[k]? = some (f x) := by simp [h]
theorem XT {α : Type} {l : List α} {k : Nat} (h : k < l.length) : ∃ x, l[k]? = some x := ⟨_, List.getElem?_eq_getElem h⟩
def vS (n : Nat) : List UInt8 := if n < 128 then [UInt8.ofNat n] else UInt8.ofNat (n % 128 + 128) :: vS (n / 128)
termination_by n
decreasing_by omega
def Xe (n : Int) : List UInt8 := if n < 0 then [] else vS n.toNat
def zig (n : Int) : Nat := if n < 0 then 2 * (-(n + 1)).toNat + 1 else 2 * n.toNat
def zag (u : Nat) : Int := if u % 2 = 1 then -((u / 2 : Nat) : Int) - 1 else ((u / 2 : Nat) : Int)
def XD (n : Int) : List UInt8 := vS (zig n)
def Xo (s : List UInt8) : List UInt8 := Xe s.length ++ s
def XX (l : List UInt8) : Nat := ((l.take 10).takeWhile fun b => decide (128 ≤ b.toNat)).length
def Xt : List UInt8 → Nat
 | [] => 0
 | b :: r => b.toNat % 128 + 128 * Xt r
def Xw (b : List UInt8) (a : Int) : Nat × Int × Int :=
 if a < 0 ∨ (b.length : Int) < a then (0, 0, 1) else
  let l := b.drop a.toNat
  let n := XX l
  if n = 10 then (0, 0, 4) else if l.length ≤ n then (0, 0, 3) else
   if n = 9 ∧ 1 < ((l[n]?).getD 0).toNat then (0, 0, 4) else (Xt (l.take (n + 1)), a + n + 1, 0)
def Yr (b : List UInt8) (a : Int) : Bool := let l := b.drop a.toNat; decide (0 < XX l) && decide ((l[XX l]?).getD 0 = 0)
def Xg (b : List UInt8) (a : Int) : Int × Int × Int :=
 let r := Xw b a
 if r.2.2 ≠ 0 then (0, 0, r.2.2) else if 9223372036854775807 < r.1 then (0, 0, 4) else if Yr b a then (0, 0, 2) else ((r.1 : Int), r.2.1, 0)
def Xl (b : List UInt8) (a : Int) : Int × Int × Int :=
 let r := Xw b a
 if r.2.2 ≠ 0 then (0, 0, r.2.2) else if Yr b a then (0, 0, 2) else (zag r.1, r.2.1, 0)
def XM (b : List UInt8) (a : Int) : Nat × Int × Int :=
 let r := Xw b a
 if r.2.2 ≠ 0 then (0, 0, r.2.2) else if Yr b a then (r.1, 0, 2) else r
def Y3 (b : List UInt8) (a : Int) (most : Int) : List UInt8 × Int × Int :=
 let r := Xg b a
 if r.2.2 ≠ 0 then ([], 0, r.2.2) else if most < r.1 then ([], 0, 4) else if (b.length : Int) - r.2.1 < r.1 then ([], 0, 3) else
  ((b.drop r.2.1.toNat).take r.1.toNat, r.2.1 + r.1, 0)
def Ub (n d : Int) : Bool := decide (1 ≤ d ∧ d ≤ 1000000000000000 ∧ -1000000000000000 ≤ n ∧ n ≤ 1000000000000000) && decide (Nat.gcd n.natAbs d.natAbs = 1)
def YZ (s : List UInt8) : Bool := s.all fun b => decide (32 ≤ b.toNat ∧ b.toNat ≤ 126)
mutual
def X6 : Nat → Val → Bool
 | m, .mk k n d s l =>
  (k == 3 || d == 0) && (k == 4 || decide (s.length = 0)) && (k == 7 || k == 8 || decide (l.length = 0)) &&
  (if k = 0 then decide (n = 0) else if k = 1 then decide (n = 0 ∨ n = 1) else if k = 2 then decide (-1000000000000000 ≤ n ∧ n ≤ 1000000000000000)
   else if k = 3 then decide (2 ≤ d) && Ub n d else if k = 4 then decide (n = 0 ∧ s.length ≤ 100) && YZ s
   else if k = 5 ∨ k = 6 then decide (1 ≤ n ∧ n ≤ 1000000) else if k = 7 then decide (n = 0 ∧ l.length % 2 = 1 ∧ l.length ≤ 25) && Yx 0 l
   else if k = 8 then decide (n = 0 ∧ l.length ≤ 64 ∧ 1 ≤ m) && YA (m - 1) l else false)
def YA : Nat → List Val → Bool
 | m, [] => true
 | m, v :: r => X6 m v && YA m r
def Yx : Nat → List Val → Bool
 | i, [] => true
 | i, v :: r => decide (v.kind = 5 + (i % 2 : Nat)) && X6 0 v && Yx (i + 1) r
end
mutual
def Xn : Val → List UInt8
 | .mk k n d s l => UInt8.ofNat k.toNat :: (if k = 1 ∨ k = 2 ∨ k = 5 ∨ k = 6 then XD n else if k = 3 then XD n ++ XD d else if k = 4 then Xo s
   else if k = 7 ∨ k = 8 then Xe l.length ++ XG l else [])
def XG : List Val → List UInt8
 | [] => []
 | v :: r => Xn v ++ XG r
end
def XV (v : Val) : List UInt8 := if X6 8 v then Xn v else []
end Go.Fw
namespace Go.Fw
open Go
set_option linter.unusedVariables false
structure Chg where
 op : Int
 id : Int
 src : Int
 dst : Int
 name : List UInt8
 v : Val
structure Rul where
 kind : Int
 n : Int
 name : List UInt8
 key : List UInt8
 src : List UInt8
 dst : List UInt8
structure Rcd where
 kind : Int
 ts : Int
 changes : List Chg
 rule : Rul
 off : Bool
def Yv (c : UInt8) : Bool := decide ((97 ≤ c.toNat ∧ c.toNat ≤ 122) ∨ (65 ≤ c.toNat ∧ c.toNat ≤ 90))
def XJ (c : UInt8) : Bool := Yv c || decide ((48 ≤ c.toNat ∧ c.toNat ≤ 57) ∨ c.toNat = 95)
def XW (s : List UInt8) : Bool := decide (1 ≤ s.length ∧ s.length ≤ 20) && Yv ((s[0]?).getD 0) && s.all XJ
def U0 (v : Val) : Bool := X6 8 v && decide (v.kind = 0)
def X26 (b : Bool) (k : Int) : Bool := decide (k = 1 ∨ k = 2 ∨ k = 4) && b
def UQ (v : Val) : Bool := X26 (X6 8 v) v.kind
def idV (n : Int) : Bool := decide (1 ≤ n ∧ n ≤ 1000000)
def XC (op : Int) : Bool := decide (op = 3 ∨ op = 4 ∨ op = 5 ∨ op = 6 ∨ op = 8)
def Xz (op : Int) : Bool := decide (op = 5 ∨ op = 8)
def Y8 (c : Chg) : Int :=
 if decide (1 ≤ c.op ∧ c.op ≤ 8) = false ∨ idV c.id = false then 1
 else if (c.op = 6 ∧ (idV c.src = false ∨ idV c.dst = false)) ∨ (c.op ≠ 6 ∧ (c.src ≠ 0 ∨ c.dst ≠ 0)) then 1
 else if (XC c.op = false ∧ c.name ≠ []) ∨ (Xz c.op = false ∧ U0 c.v = false) then 1
 else if XC c.op = true ∧ XW c.name = false then 6
 else if Xz c.op = true ∧ U0 c.v = false ∧ UQ c.v = false then 8 else 0
def X9w (r : Rul) : Bool := if r.kind = 3 ∨ r.kind = 5 then decide (r.n = 1 ∨ r.n = 2 ∨ r.n = 4) else if r.kind = 7 then decide (0 ≤ r.n ∧ r.n ≤ 4000) else decide (r.n = 0)
def U4 (k : Int) : Bool := decide (1 ≤ k ∧ k ≤ 5)
def YS (r : Rul) : Int :=
 if decide (1 ≤ r.kind ∧ r.kind ≤ 7) = false ∨ X9w r = false then 1
 else if (U4 r.kind = false ∧ r.key ≠ []) ∨ (r.kind ≠ 6 ∧ (r.src ≠ [] ∨ r.dst ≠ [])) then 1
 else if XW r.name = false ∨ (U4 r.kind = true ∧ XW r.key = false) ∨ (r.src ≠ [] ∧ XW r.src = false) ∨ (r.dst ≠ [] ∧ XW r.dst = false) then 6 else 0
def XK (c : Chg) : List UInt8 :=
 UInt8.ofNat c.op.toNat :: (Xe c.id ++ (if c.op = 6 then Xe c.src ++ Xe c.dst else []) ++ (if XC c.op = true then Xo c.name else []) ++ (if Xz c.op = true then XV c.v else []))
def VB (c : Chg) : List UInt8 := if Y8 c = 0 then XK c else []
def Ym (r : Rul) : List UInt8 := UInt8.ofNat r.kind.toNat :: (Xo r.name ++ Xo r.key ++ Xo r.src ++ Xo r.dst ++ XD r.n)
def Vy (r : Rul) : List UInt8 := if YS r = 0 then Ym r else []
abbrev zR : Rul := ⟨0, 0, [], [], [], []⟩
def Vu (r : Rul) : Bool := decide (r.kind = 0 ∧ r.n = 0 ∧ r.name = [] ∧ r.key = [] ∧ r.src = [] ∧ r.dst = [])
def UD : List Chg → Int
 | [] => 0
 | c :: r => if Y8 c ≠ 0 then Y8 c else UD r
def Yj (r : Rcd) : Int :=
 if ¬ (1 ≤ r.kind ∧ r.kind ≤ 3 ∧ 0 ≤ r.ts ∧ r.ts ≤ 1000000000000000) then 1
 else if (r.kind ≠ 1 ∧ 0 < r.changes.length) ∨ (r.kind ≠ 2 ∧ (r.off = true ∨ Vu r.rule = false)) then 1
 else if r.kind = 2 then YS r.rule else if UD r.changes ≠ 0 then UD r.changes else if 1000 < r.changes.length then 4 else 0
def Yl (l : List Chg) : List UInt8 := (l.map XK).flatten
def YB (r : Rcd) : List UInt8 :=
 UInt8.ofNat r.kind.toNat :: (Xe r.ts ++ (if r.kind = 1 then Xe r.changes.length ++ Yl r.changes else if r.kind = 2 then Ym r.rule ++ [if r.off then 1 else 0] else []))
def X0B (r : Rcd) : List UInt8 := if Yj r = 0 then YB r else []
end Go.Fw
namespace Go.Fw
open Go
set_option linter.unusedVariables false
theorem X1F {α : Type} {p : α → Bool} : ∀ (l : List α) (i : Nat), (∀ j, j < i → ∃ b, l[j]? = some b ∧ p b = true) → (∀ b, l[i]? = some b → p b = false) → (l.takeWhile p).length = i
 | [], 0, _, _ => rfl
 | [], i + 1, h, _ => by obtain ⟨b, hb, _⟩ := h 0 (by omega); simp at hb
 | x :: l, 0, _, h => by have := h x (by simp); simp [List.takeWhile, this]
 | x :: l, i + 1, h, k => by
  obtain ⟨b, hb, hp⟩ := h 0 (by omega)
  simp at hb; subst hb
  simp only [List.takeWhile, hp, List.length_cons]
  rw [X1F l i (fun j hj => by simpa using h (j + 1) (by omega)) (fun b hb => k b (by simpa using hb))]
def big (l : List UInt8) (i : Nat) : Prop := ∀ j, j < i → ∃ b, l[j]? = some b ∧ 128 ≤ b.toNat
theorem X1A {l : List UInt8} {i : Nat} {c : UInt8} (h : big l i) (hc : l[i]? = some c) (hlt : c.toNat < 128) (hi : i < 10) : XX l = i := by
 refine X1F _ _ (fun j hj => ?_) (fun b hb => ?_)
 ·obtain ⟨b, h1, h2⟩ := h j hj
  exact ⟨b, by rw [List.getElem?_take_of_lt (by omega)]; exact h1, by simpa using h2⟩
 ·rw [List.getElem?_take_of_lt hi, hc] at hb
  cases hb; simpa using hlt
theorem X22 {l : List UInt8} {i : Nat} (h : big l i) (hi : i = min 10 l.length) : XX l = i := by
 refine X1F _ _ (fun j hj => ?_) (fun b hb => ?_)
 ·obtain ⟨b, h1, h2⟩ := h j hj
  exact ⟨b, by rw [List.getElem?_take_of_lt (by omega)]; exact h1, by simpa using h2⟩
 ·exfalso
  have := (List.getElem?_eq_some_iff.1 hb).1
  simp at this; omega
theorem X3h {l : List UInt8} {i : Nat} {c : UInt8} (h : big l i) (hc : l[i]? = some c) (h128 : 128 ≤ c.toNat) : big l (i + 1) := fun j hj => by
 by_cases e : j = i
 ·subst e; exact ⟨c, hc, h128⟩
 ·exact h j (by omega)
theorem X0r : ∀ (l : List UInt8) (i : Nat) (c : UInt8), l[i]? = some c → Xt (l.take (i + 1)) = Xt (l.take i) + 2 ^ (7 * i) * (c.toNat % 128)
 | [], _, _, h => by simp at h
 | x :: l, 0, c, h => by simp at h; subst h; simp [Xt]
 | x :: l, i + 1, c, h => by
  have := X0r l i c (by simpa using h)
  simp only [List.take_succ_cons, Xt, this]
  rw [Nat.mul_add, ← Nat.mul_assoc, show 7 * (i + 1) = 7 + 7 * i by omega, Nat.pow_add, show (2 : Nat) ^ 7 = 128 from rfl]
  omega
theorem X5l : ∀ (l : List UInt8), Xt l < 2 ^ (7 * l.length)
 | [] => by simp [Xt]
 | x :: l => by
  have := X5l l
  have hx := Nat.mod_lt x.toNat (show 0 < 128 by omega)
  simp only [Xt, List.length_cons]
  rw [show 7 * (l.length + 1) = 7 + 7 * l.length by omega, Nat.pow_add]
  omega
theorem X1i (l : List UInt8) (i : Nat) : Xt (l.take i) < 2 ^ (7 * i) :=
 Nat.lt_of_lt_of_le (X5l _) (Nat.pow_le_pow_right (by omega) (by simp; omega))
def XP (l : List UInt8) : Nat → Nat
 | 0 => 0
 | i + 1 => XP l i ||| (((l[i]?).getD 0).toNat % 128) * 2 ^ (7 * i) % 18446744073709551616
theorem X1o (l : List UInt8) : ∀ i, XP l i < 18446744073709551616
 | 0 => by simp [XP]
 | i + 1 => by
  have := X1o l i
  exact Nat.or_lt_two_pow (n := 64) this (Nat.mod_lt _ (by omega))
theorem X6M {a b i : Nat} (h : a < 2 ^ i) : a ||| b * 2 ^ i = a + 2 ^ i * b := by
 rw [Nat.or_comm, Nat.mul_comm b, ← Nat.two_pow_add_eq_or_of_lt h, Nat.add_comm]
theorem X1q (l : List UInt8) : ∀ i, i ≤ 9 → i ≤ l.length → XP l i = Xt (l.take i)
 | 0, _, _ => by simp [XP, Xt]
 | i + 1, h, hl => by
  obtain ⟨c, hc⟩ := XT (l := l) (k := i) (by omega)
  have h1 := X1q l i (by omega) (by omega)
  have h2 := X1i l i
  have h3 := Nat.mod_lt c.toNat (show 0 < 128 by omega)
  have h4 : c.toNat % 128 * 2 ^ (7 * i) < 2 ^ (7 + 7 * i) := by rw [Nat.pow_add]; exact Nat.mul_lt_mul_of_pos_right h3 (Nat.pow_pos (by omega))
  have h5 : 2 ^ (7 + 7 * i) ≤ 2 ^ 64 := Nat.pow_le_pow_right (by omega) (by omega)
  simp only [XP, hc, Option.getD_some]
  rw [Nat.mod_eq_of_lt (Nat.lt_of_lt_of_le h4 h5), h1, X6M h2, X0r l i c hc]
theorem X7x (l : List UInt8) {c : UInt8} (hc : l[9]? = some c) (h : c.toNat ≤ 1) : XP l 10 = Xt (l.take 10) := by
 have hl := (List.getElem?_eq_some_iff.1 hc).1
 have h1 := X1q l 9 (by omega) (by omega)
 have h2 := X1i l 9
 simp only [XP, hc, Option.getD_some] at h1 ⊢
 rw [X0r l 9 c hc, Nat.mod_eq_of_lt (a := c.toNat % 128 * 2 ^ (7 * 9)) (by
  have : c.toNat % 128 ≤ 1 := by omega
  have : c.toNat % 128 * 2 ^ (7 * 9) ≤ 1 * 2 ^ (7 * 9) := Nat.mul_le_mul_right _ this
  omega)]
 have := X1q l 9 (by omega) (by omega)
 simp only [XP] at this
 rw [this]
 exact X6M h2
end Go.Fw
namespace Go.Fw
open Go
set_option linter.unusedVariables false
def UG : List UInt8 → Prop
 | [] => False
 | [c] => c.toNat < 128
 | b :: c :: m => 128 ≤ b.toNat ∧ UG (c :: m) ∧ c :: m ≠ [0]
theorem X30 : ∀ {m : List UInt8}, UG m → m ≠ [0] → 0 < Xt m
 | [c], h, hn => by
  simp only [UG] at h
  have : c.toNat ≠ 0 := fun e => hn (by rw [show c = 0 from UInt8.toNat_inj.1 e])
  simp only [Xt]; omega
 | b :: c :: m, h, _ => by
  have := X30 h.2.1 h.2.2
  simp only [Xt] at this ⊢; omega
theorem V4 {n : Nat} (h : n < 256) : (UInt8.ofNat n).toNat = n := by simp; omega
theorem X3x (u : Nat) : UG (vS u) ∧ Xt (vS u) = u ∧ (vS u = [0] → u = 0) := by
 induction u using Nat.strongRecOn with
 | _ u ih =>
  rw [vS]
  by_cases h : u < 128
  ·rw [if_pos h]
   simp only [UG, Xt, V4 (show u < 256 by omega)]
   refine ⟨h, by omega, fun e => ?_⟩
   have := congrArg (fun l : List UInt8 => (l.headD 1).toNat) e
   simp only [List.headD_cons, V4 (show u < 256 by omega)] at this
   simpa using this
  ·rw [if_neg h]
   obtain ⟨h1, h2, h3⟩ := ih (u / 128) (by omega)
   cases hv : vS (u / 128) with
   | nil => rw [hv] at h1; exact h1.elim
   | cons c m =>
    rw [hv] at h1 h2 h3
    have hb : (UInt8.ofNat (u % 128 + 128)).toNat = u % 128 + 128 := V4 (by omega)
    refine ⟨⟨by rw [hb]; omega, h1, fun e => by have := h3 e; omega⟩, ?_, fun e => by simp at e⟩
    simp only [Xt] at h2 ⊢
    rw [hb]; omega
theorem X55 : ∀ {m : List UInt8}, UG m → vS (Xt m) = m
 | [c], h => by
  simp only [UG] at h
  have e : Xt [c] = c.toNat := by simp only [Xt]; omega
  rw [e, vS, if_pos h]; simp
 | b :: c :: m, h => by
  have h1 := X55 h.2.1
  have h2 := X30 h.2.1 h.2.2
  have hb := b.toNat_lt
  have e : Xt (b :: c :: m) = b.toNat % 128 + 128 * Xt (c :: m) := rfl
  rw [e, vS, if_neg (by omega), show (b.toNat % 128 + 128 * Xt (c :: m)) / 128 = Xt (c :: m) by omega, h1]
  rw [show (b.toNat % 128 + 128 * Xt (c :: m)) % 128 + 128 = b.toNat by have := h.1; omega]
  simp
theorem X3T : ∀ {m : List UInt8}, UG m → big m (m.length - 1) ∧ ∃ c, m[m.length - 1]? = some c ∧ c.toNat < 128 ∧ (1 < m.length → c ≠ 0)
 | [c], h => ⟨fun j hj => by simp at hj, c, rfl, h, fun h => by simp at h⟩
 | b :: c :: m, h => by
  obtain ⟨h1, x, h2, h3, h4⟩ := X3T h.2.1
  refine ⟨fun j hj => ?_, x, by simpa using h2, h3, fun _ e => ?_⟩
  ·cases j with
   | zero => exact ⟨b, rfl, h.1⟩
   | succ j => simpa using h1 j (by simp at hj ⊢; omega)
  ·by_cases hm : m = []
   ·subst hm; simp at h2; subst h2; subst e; exact h.2.2 rfl
   ·refine h4 (by cases m with | nil => exact absurd rfl hm | cons _ _ => simp) e
theorem X32 : ∀ {m : List UInt8} (k : Nat), UG m → Xt m < 2 ^ (7 * k) → 0 < k → m.length ≤ k
 | [c], k, _, _, hk => hk
 | b :: c :: m, k, h, hn, hk => by
  have h2 := X30 h.2.1 h.2.2
  cases k with
  | zero => omega
  | succ k =>
   by_cases hk0 : k = 0
   ·subst hk0
    have e : Xt (b :: c :: m) = b.toNat % 128 + 128 * Xt (c :: m) := rfl
    rw [e] at hn
    have : (2 : Nat) ^ (7 * (0 + 1)) = 128 := rfl
    omega
   ·have := X32 k h.2.1 (by
     have e : Xt (b :: c :: m) = b.toNat % 128 + 128 * Xt (c :: m) := rfl
     rw [e, show 7 * (k + 1) = 7 + 7 * k by omega, Nat.pow_add, show (2 : Nat) ^ 7 = 128 from rfl] at hn
     omega) (by omega)
    simp only [List.length_cons] at this ⊢; omega
theorem X9M {m : List UInt8} {c : UInt8} (h : UG m) (hl : m.length = 10) (hn : Xt m < 18446744073709551616) (hc : m[9]? = some c) : c.toNat ≤ 1 := by
 obtain ⟨_, x, hx, h128, _⟩ := X3T h
 rw [hl, hc] at hx; cases hx
 have := X0r m 9 c hc
 rw [List.take_of_length_le (by omega)] at this
 have h9 : (2 : Nat) ^ (7 * 9) = 9223372036854775808 := rfl
 rw [this, h9] at hn
 omega
theorem X7k {m back : List UInt8} (h : UG m) (hn : Xt m < 18446744073709551616) (front : List UInt8) :
  Xw (front ++ m ++ back) front.length = (Xt m, (front.length : Int) + m.length, 0) ∧ Yr (front ++ m ++ back) front.length = false := by
 obtain ⟨hb, c, hc, h128, h0⟩ := X3T h
 have hlen := X32 10 h (Nat.lt_of_lt_of_le hn (by decide)) (by omega)
 have hpos : 0 < m.length := by cases m with | nil => exact h.elim | cons _ _ => simp
 have hd : (front ++ m ++ back).drop (front.length : Int).toNat = m ++ back := by rw [Int.toNat_natCast, List.append_assoc, List.drop_left]
 have hc' : (m ++ back)[m.length - 1]? = some c := by rw [List.getElem?_append_left (by omega)]; exact hc
 have hm : XX (m ++ back) = m.length - 1 := X1A (fun j hj => by
  obtain ⟨b, h1, h2⟩ := hb j hj
  exact ⟨b, by rw [List.getElem?_append_left (by omega)]; exact h1, h2⟩) hc' h128 (by omega)
 constructor
 ·unfold Xw
  rw [if_neg (by simp; omega)]
  simp only [hd, hm]
  rw [if_neg (by omega), if_neg (by simp; omega), if_neg (by
   rintro ⟨e, h1⟩
   rw [hc'] at h1
   have := X9M h (by omega) hn (c := c) (by rw [← e]; exact hc)
   simp at h1; omega)]
  rw [show m.length - 1 + 1 = m.length by omega, List.take_left]
  refine Prod.ext rfl (Prod.ext ?_ rfl)
  simp only; omega
 ·unfold Yr
  simp only [hd, hm, hc', Option.getD_some]
  by_cases h1 : m.length = 1
  ·simp [h1]
  ·have := h0 (by omega)
   simp [this]
theorem X3j {b : List UInt8} {a e : Int} {u : Nat} (h : Xw b a = (u, e, 0)) (hp : Yr b a = false) :
  0 ≤ a ∧ a < e ∧ e ≤ b.length ∧ (b.drop a.toNat).take (e - a).toNat = vS u ∧ u < 18446744073709551616 := by
 unfold Xw at h
 split at h
 ·simp at h
 rename_i ha
 simp only at h
 split at h
 ·simp at h
 rename_i h10
 split at h
 ·simp at h
 rename_i hle
 split at h
 ·simp at h
 rename_i h9
 simp only [Prod.mk.injEq] at h
 obtain ⟨rfl, rfl, _⟩ := h
 generalize hl : b.drop a.toNat = l at *
 have hbig : big l (XX l) ∧ (∀ c, l[XX l]? = some c → c.toNat < 128) ∧ XX l < 10 := by
  have hw : ∀ (q : List UInt8), big q ((q.takeWhile fun b => decide (128 ≤ b.toNat)).length) ∧ ∀ c, q[(q.takeWhile fun b => decide (128 ≤ b.toNat)).length]? = some c → c.toNat < 128 := by
   intro q
   induction q with
   | nil => exact ⟨fun j hj => by simp at hj, fun c hc => by simp at hc⟩
   | cons x q ih =>
    by_cases hx : 128 ≤ x.toNat
    ·simp only [List.takeWhile, hx, decide_true, List.length_cons]
     refine ⟨fun j hj => ?_, fun c hc => ih.2 c (by simpa using hc)⟩
     cases j with
     | zero => exact ⟨x, rfl, hx⟩
     | succ j => simpa using ih.1 j (by omega)
    ·simp only [List.takeWhile, hx, decide_false, List.length_nil]
     exact ⟨fun j hj => by omega, fun c hc => by simp at hc; subst hc; omega⟩
  have h1 := hw (l.take 10)
  have hmore : XX l ≤ (l.take 10).length := by unfold XX; exact (List.takeWhile_sublist _).length_le
  have hlt : XX l < 10 := by simp at hmore; omega
  refine ⟨fun j hj => ?_, fun c hc => h1.2 c (by unfold XX at hc hlt; rw [List.getElem?_take_of_lt hlt]; exact hc), hlt⟩
  obtain ⟨x, h2, h3⟩ := h1.1 j hj
  rw [List.getElem?_take_of_lt (by omega)] at h2
  exact ⟨x, h2, h3⟩
 obtain ⟨hb1, hb2, hb3⟩ := hbig
 have hll : l.length = b.length - a.toNat := by rw [← hl, List.length_drop]
 obtain ⟨c, hc⟩ := XT (l := l) (k := XX l) (by omega)
 have hc128 := hb2 c hc
 have hcan : ∀ (k : Nat) (q : List UInt8) (c : UInt8), big q k → q[k]? = some c → c.toNat < 128 → (0 < k → c ≠ 0) → UG (q.take (k + 1)) := by
  intro k
  induction k with
  | zero =>
   intro q c _ hq hc _
   cases q with
   | nil => simp at hq
   | cons x q => simp at hq; subst hq; simpa [UG] using hc
  | succ k ih =>
   intro q c hb hq hc h0
   cases q with
   | nil => simp at hq
   | cons x q =>
    obtain ⟨y, hy, hy2⟩ := hb 0 (by omega)
    simp at hy; subst hy
    have h1 := ih q c (fun j hj => by simpa using hb (j + 1) (by omega)) (by simpa using hq) hc (fun _ => h0 (by omega))
    rw [List.take_succ_cons]
    cases q with
    | nil => simp at hq
    | cons z q =>
     refine ⟨hy2, h1, fun e => ?_⟩
     have e1 : z = 0 := by simpa using (List.cons.inj e).1
     have e2 : (q.take k) = [] := (List.cons.inj e).2
     cases k with
     | zero =>
      simp at hq; subst hq
      exact h0 (by omega) e1
     | succ k =>
      have hlt := (List.getElem?_eq_some_iff.1 hq).1
      have := congrArg List.length e2
      rw [List.length_take, List.length_nil] at this
      simp only [List.length_cons] at hlt
      omega
 have hpad : 0 < XX l → c ≠ 0 := by
  intro h0 e
  unfold Yr at hp
  simp only [hl, hc, Option.getD_some] at hp
  simp [h0, e] at hp
 have hcn := hcan _ _ _ hb1 hc hc128 hpad
 have ha' : ¬(a < 0) ∧ ¬((b.length : Int) < a) := by simpa using ha
 refine ⟨by omega, by omega, by omega, ?_, ?_⟩
 ·rw [show (a + (XX l : Int) + 1 - a).toNat = XX l + 1 by omega, X55 hcn]
 ·have h1 := X1i l (XX l)
  rw [X0r l _ c hc]
  by_cases hm9 : XX l = 9
  ·have : c.toNat ≤ 1 := by
    have h2 := h9
    rw [hc] at h2
    simp only [hm9, true_and, Option.getD_some] at h2; omega
   rw [hm9] at h1 ⊢
   have e9 : (2 : Nat) ^ (7 * 9) = 9223372036854775808 := rfl
   rw [e9] at h1 ⊢
   omega
  ·have h2 : (2 : Nat) ^ (7 * XX l) ≤ 2 ^ 56 := Nat.pow_le_pow_right (by omega) (by omega)
   have e56 : (2 : Nat) ^ 56 = 72057594037927936 := rfl
   rw [e56] at h2
   have h3 := Nat.mod_lt c.toNat (show 0 < 128 by omega)
   have h4 : 2 ^ (7 * XX l) * (c.toNat % 128) ≤ 72057594037927936 * 127 := Nat.mul_le_mul h2 (by omega)
   omega
end Go.Fw
namespace Go.Fw
open Go
set_option linter.unusedVariables false
theorem UM {n : Int} (h : 0 ≤ n) : Xe n = vS n.toNat := by unfold Xe; rw [if_neg (by omega)]
theorem X2K {n : Int} (h : 0 ≤ n ∧ n ≤ 9223372036854775807) (front back : List UInt8) :
  Xg (front ++ Xe n ++ back) front.length = (n, (front.length : Int) + (Xe n).length, 0) := by
 obtain ⟨h1, h2, _⟩ := X3x n.toNat
 rw [UM h.1]
 obtain ⟨h3, h4⟩ := X7k (m := vS n.toNat) (back := back) h1 (by omega) front
 unfold Xg
 rw [h3, h4, h2]
 simp only [ne_eq, not_true_eq_false, if_false, Bool.false_eq_true]
 rw [if_neg (by omega)]
 refine Prod.ext ?_ rfl
 simp only; omega
theorem X8P {n : Int} : zag (zig n) = n := by
 unfold zig zag
 split <;> split <;> omega
theorem XbC {u : Nat} : zig (zag u) = u := by
 unfold zig zag
 split <;> split <;> omega
theorem X5f {n : Int} (h : -9223372036854775808 ≤ n ∧ n ≤ 9223372036854775807) : zig n < 18446744073709551616 := by
 unfold zig; split <;> omega
theorem X1G {n : Int} (h : -9223372036854775808 ≤ n ∧ n ≤ 9223372036854775807) (front back : List UInt8) :
  Xl (front ++ XD n ++ back) front.length = (n, (front.length : Int) + (XD n).length, 0) := by
 obtain ⟨h1, h2, _⟩ := X3x (zig n)
 obtain ⟨h3, h4⟩ := X7k (m := vS (zig n)) (back := back) h1 (by rw [h2]; exact X5f h) front
 unfold Xl XD
 rw [h3, h4, h2]
 simp [X8P]
theorem X7i {s : List UInt8} {most : Int} (hs : (s.length : Int) ≤ 9223372036854775807) (hm : (s.length : Int) ≤ most) (front back : List UInt8) :
  Y3 (front ++ Xo s ++ back) front.length most = (s, (front.length : Int) + (Xo s).length, 0) := by
 have h1 := X2K (n := s.length) ⟨by omega, hs⟩ front (s ++ back)
 have e : front ++ Xo s ++ back = front ++ Xe s.length ++ (s ++ back) := by simp [Xo]
 unfold Y3
 rw [e, h1]
 simp only [ne_eq, not_true_eq_false, if_false]
 rw [if_neg (by omega), if_neg (by simp only [List.length_append]; omega)]
 have e2 : ((front.length : Int) + ((Xe (s.length : Int)).length : Int)).toNat = (front ++ Xe s.length).length := by simp only [List.length_append]; omega
 refine Prod.ext ?_ (Prod.ext ?_ rfl)
 ·simp only [e2, List.drop_left, Int.toNat_natCast, List.take_left]
 ·simp only [Xo, List.length_append]; omega
def only (b : List UInt8) (a e : Int) (want : List UInt8) : Prop := 0 ≤ a ∧ a ≤ e ∧ e ≤ b.length ∧ (b.drop a.toNat).take (e - a).toNat = want
theorem X08 {b : List UInt8} {a n e : Int} (h : Xg b a = (n, e, 0)) : only b a e (Xe n) ∧ 0 ≤ n ∧ n ≤ 9223372036854775807 ∧ a < e := by
 unfold Xg at h
 simp only at h
 split at h
 ·rename_i h0; exact absurd (congrArg (fun r => r.2.2) h) h0
 rename_i h0
 split at h
 ·exact absurd (congrArg (fun r => r.2.2) h) (by simp)
 rename_i h1
 split at h
 ·exact absurd (congrArg (fun r => r.2.2) h) (by simp)
 rename_i h2
 have h0 : (Xw b a).2.2 = 0 := by simpa using h0
 simp only [Prod.mk.injEq] at h
 obtain ⟨rfl, rfl, _⟩ := h
 obtain ⟨k1, k2, k3, k4, k5⟩ := X3j (b := b) (a := a) (e := (Xw b a).2.1) (u := (Xw b a).1) (by rw [← h0]) (by simpa using h2)
 exact ⟨⟨k1, by omega, k3, by rw [UM (by omega), Int.toNat_natCast]; exact k4⟩, by omega, by omega, k2⟩
theorem X2g {b : List UInt8} {a n e : Int} (h : Xl b a = (n, e, 0)) : only b a e (XD n) ∧ a < e ∧ -9223372036854775808 ≤ n ∧ n ≤ 9223372036854775807 := by
 unfold Xl at h
 simp only at h
 split at h
 ·rename_i h0; exact absurd (congrArg (fun r => r.2.2) h) h0
 rename_i h0
 split at h
 ·exact absurd (congrArg (fun r => r.2.2) h) (by simp)
 rename_i h2
 have h0 : (Xw b a).2.2 = 0 := by simpa using h0
 simp only [Prod.mk.injEq] at h
 obtain ⟨rfl, rfl, _⟩ := h
 obtain ⟨k1, k2, k3, k4, k5⟩ := X3j (b := b) (a := a) (e := (Xw b a).2.1) (u := (Xw b a).1) (by rw [← h0]) (by simpa using h2)
 refine ⟨⟨k1, by omega, k3, by unfold XD; rw [XbC]; exact k4⟩, k2, ?_, ?_⟩ <;> unfold zag <;> split <;> omega
theorem X0S {b : List UInt8} {a e most : Int} {s : List UInt8} (h : Y3 b a most = (s, e, 0)) : only b a e (Xo s) ∧ (s.length : Int) ≤ most ∧ a < e := by
 unfold Y3 at h
 simp only at h
 split at h
 ·rename_i h0; exact absurd (congrArg (fun r => r.2.2) h) h0
 rename_i h0
 split at h
 ·exact absurd (congrArg (fun r => r.2.2) h) (by simp)
 rename_i h1
 split at h
 ·exact absurd (congrArg (fun r => r.2.2) h) (by simp)
 rename_i h2
 have h0 : (Xg b a).2.2 = 0 := by simpa using h0
 obtain ⟨⟨k1, k2, k3, k4⟩, k5, k6, k7⟩ := X08 (b := b) (a := a) (n := (Xg b a).1) (e := (Xg b a).2.1) (by rw [← h0])
 generalize (Xg b a).1 = n at *
 generalize (Xg b a).2.1 = f at *
 simp only [Prod.mk.injEq] at h
 obtain ⟨rfl, rfl, _⟩ := h
 have hl : ((b.drop f.toNat).take n.toNat).length = n.toNat := by simp; omega
 refine ⟨⟨k1, by omega, by omega, ?_⟩, by omega, by omega⟩
 rw [show (f + n - a).toNat = (f - a).toNat + n.toNat by omega, List.take_add, k4, List.drop_drop, show a.toNat + (f - a).toNat = f.toNat by omega]
 unfold Xo
 rw [hl, show ((n.toNat : Nat) : Int) = n by omega]
end Go.Fw
namespace Go.Fw
open Go
set_option linter.unusedVariables false
theorem X4J {n : Nat} (h : n < 128) : vS n = [UInt8.ofNat n] := by rw [vS, if_pos h]
end Go.Fw
namespace Go.Fw
open Go
set_option linter.unusedVariables false
abbrev zV : Val := .mk 0 0 0 [] []
def Xq (g : Nat → Int → Val × Int × Int) (a : Int) : Nat → List Val × Int × Int
 | 0 => ([], a, 0)
 | k + 1 => let p := Xq g a k
  if p.2.2 ≠ 0 then p else let r := g k p.2.1; (p.1 ++ [r.1], r.2.1, r.2.2)
def YC (k n : Int) : Bool := if k = 8 then decide (64 < n) else decide (25 < n) || decide (n % 2 = 0)
def XS (gl gp : Nat → Int → Val × Int × Int) (b : List UInt8) (a k : Int) : Val × Int × Int :=
 if k = 1 ∨ k = 2 ∨ k = 5 ∨ k = 6 then let r := Xl b a; (.mk k r.1 0 [] [], r.2.1, r.2.2)
 else if k = 3 then let r := Xl b a
  if r.2.2 ≠ 0 then (.mk 3 0 0 [] [], r.2.1, r.2.2) else let q := Xl b r.2.1; (.mk 3 r.1 q.1 [] [], q.2.1, q.2.2)
 else if k = 4 then let r := Y3 b a 100; (.mk 4 0 0 r.1 [], r.2.1, r.2.2)
 else if k = 7 ∨ k = 8 then let c := Xg b a
  if c.2.2 ≠ 0 then (.mk k 0 0 [] [], c.2.1, c.2.2) else if YC k c.1 then (.mk k 0 0 [] [], c.2.1, 2) else
   let p := Xq (if k = 8 then gl else gp) c.2.1 c.1.toNat; (.mk k 0 0 [] p.1, p.2.1, p.2.2)
 else (.mk k 0 0 [] [], a, 0)
def Yw (gl gp : Nat → Int → Val × Int × Int) (m : Nat) (b : List UInt8) (a want : Int) : Val × Int × Int :=
 if a = b.length then (zV, a, 3) else
  let k : Int := ((b[a.toNat]?).getD 0).toNat
  if 8 < k ∨ (k = 8 ∧ m = 0) ∨ (want ≠ 0 ∧ k ≠ want) then (zV, a, 2) else
   let c := XS gl gp b (a + 1) k
   if c.2.2 = 0 ∧ X6 8 c.1 = false then (c.1, c.2.1, 2) else c
def noG (_ : Nat) (a : Int) : Val × Int × Int := (zV, a, 2)
def X0Z (b : List UInt8) (a want : Int) : Val × Int × Int := Yw noG noG 0 b a want
def YM (b : List UInt8) (i : Nat) (a : Int) : Val × Int × Int := X0Z b a (5 + (i % 2 : Nat))
def U9 (b : List UInt8) : Nat → Int → Val × Int × Int
 | 0, a => Yw noG (YM b) 0 b a 0
 | m + 1, a => Yw (fun _ e => U9 b m e) (YM b) (m + 1) b a 0
def UW (b : List UInt8) : Nat → Nat → Int → Val × Int × Int
 | 0 => noG
 | m + 1 => fun _ e => U9 b m e
theorem Va (b : List UInt8) (m : Nat) (a : Int) : U9 b m a = Yw (UW b m) (YM b) m b a 0 := by
 cases m <;> rfl
def Y5 (b : List UInt8) (a : Int) : Val × Int × Int :=
 if a < 0 ∨ (b.length : Int) < a then (zV, 0, 1) else let r := U9 b 8 a; if r.2.2 ≠ 0 then (zV, 0, r.2.2) else r
theorem X33 : ∀ (v : Val) (m m' : Nat), m ≤ m' → X6 m v = true → X6 m' v = true := by
 intro v
 induction v using Val.rec (motive_2 := fun l => ∀ (m m' : Nat), m ≤ m' → YA m l = true → YA m' l = true) with
 | mk k n d s l ih =>
  intro m m' hm h
  rw [X6] at h ⊢
  by_cases hk : k = 8
  ·subst hk
   simp at h ⊢
   refine ⟨h.1, ⟨h.2.1.1, h.2.1.2.1, by omega⟩, ih _ _ (by omega) h.2.2⟩
  ·simp only [hk, if_false] at h ⊢
   exact h
 | nil => rfl
 | cons v r ih1 ih2 =>
  rename_i hm h
  rw [YA] at h ⊢
  simp at h ⊢
  exact ⟨ih1 _ _ hm h.1, ih2 _ _ hm h.2⟩
end Go.Fw
namespace Go.Fw
open Go Go.Proofs
set_option maxRecDepth 100000
set_option linter.unusedVariables false
set_option linter.unusedSimpArgs false
abbrev UO (n : Nat) : AVal := .d (.v (.int .u64 n))
abbrev n8 (n : Nat) : Value := .int .u8 n
abbrev n64 (n : Nat) : Value := .int .u64 n
abbrev ni (n : Nat) : Value := .int .i64 n
theorem XQ {src dst : TypeId} {k : IntKind} {a : Nat} (hs : (Tryz.prog.underlying src).isSome = true) (hd : X0d Tryz.prog dst .u8 = true) (w : World) : (convert src dst (.int k (a : Int))).run Tryz.prog w = .ok (n8 (a % 256)) w :=
 XbT hs hd rfl w
theorem X7U : ∀ m, m < 256 → m ||| 128 = m % 128 + 128 := by decide +kernel
theorem UJ {n : Nat} (h : n < 18446744073709551616) : (vS n).length ≤ 10 := by
 obtain ⟨h1, h2, _⟩ := X3x n
 exact X32 10 h1 (by rw [h2]; exact Nat.lt_of_lt_of_le h (by decide)) (by omega)
theorem X5d {n : Nat} (h : 128 ≤ n) : vS n = UInt8.ofNat (n % 128 + 128) :: vS (n / 128) := by rw [vS, if_neg (by omega)]
theorem X2E (n : Nat) (hn : n < 18446744073709551616) : Con Tryz.prog 73 [] [ani, UO n] [(130, .row 1 ((vS n).map Xa))] (.own 130 (vS n).length) := by
 refine X8 (xs := [.own 130 (vS n).length]) Tryz.func73 rfl Tryz.ntmps73 rfl rfl rfl (fun E => ?_)
 refine X0 ?_; refine JR ?_; refine Z0 ?_; refine JD ?_; refine X0 ?_; refine X5 ?_
 refine Xu (X1P 0 130 1 rfl rfl rfl) ?_
 refine XR (ι := List UInt8 × Nat) (fun i => i.1 ++ vS i.2 = vS n ∧ i.2 ≤ n) (fun i => ⟨20, [(1, UO i.2), (0, .own 130 i.1.length)], [(130, .row 1 (i.1.map Xa))]⟩) (fun i => i.2) ([], n) ⟨rfl, Nat.le_refl _⟩
  (Xc rfl ⟨JL, JL, trivial⟩ ⟨rfl, trivial⟩) ?_
 rintro ⟨pre, m⟩ ⟨hpre, hm⟩
 simp only at hpre hm
 have hlen : pre.length ≤ 10 := by
  have h1 := congrArg List.length hpre
  have h2 := UJ hn
  simp only [List.length_append] at h1; omega
 by_cases h : 128 ≤ m
 ·have hv := X5d h
  have e1 : n8 (m % 256 ||| 128) = n8 (UInt8.ofNat (m % 128 + 128)).toNat := by rw [X7U _ (by omega), V4 (by omega)]; congr 2; omega
  have e2 : n64 (m / 2 ^ 7) = n64 (m / 128) := rfl
  refine X0 ?_; refine X0 ?_; refine JR ?_; refine Z1 ?_; refine Z2 ?_; refine JD ?_; refine JT ?_; refine X3 ?_; refine X5 ?_; refine X0 ?_; refine JR ?_; refine Z1 ?_; refine Z1 ?_
  refine Z3 (u := n64 m) (r := n8 (m % 256)) ?_ (hr := by exact XQ rfl rfl)
  refine Z4 (op := .or) (r' := _) (u := n8 (m % 256)) (v := n8 128) ?_ (hr' := by exact e1) (hr := by exact Us (by rw [Yf]; omega) (by rw [Yf]; omega)); refine Z5 ?_; refine Z6 ?_; refine Z0 ?_; refine JD ?_
  refine JR ?_; refine Z1 ?_; refine Z4 (op := .shr) (r' := _) (u := n64 m) (v := n64 7) ?_ (hr' := by exact e2) (hr := by exact X3v (by decide)); refine Z0 ?_; refine JD ?_
  refine ⟨(pre ++ [UInt8.ofNat (m % 128 + 128)], m / 128), ⟨by simp only; rw [← hpre, hv]; simp, by simp only; omega⟩, by simp only; omega, Xc rfl ⟨JL, (by refine AVal.le_of_eq ?_; refine Eq.trans (b := AVal.own 130 (_ + _)) rfl ?_; simp), trivial⟩ ⟨?_, trivial⟩⟩
  refine Eq.trans (b := AObj.row 1 (_ ++ [[.v (n8 _)]])) rfl ?_
  simp
 ·have hv : vS m = [UInt8.ofNat m] := X4J (by omega)
  have e3 : n8 (m % 256) = n8 (UInt8.ofNat m).toNat := by rw [V4 (by omega)]; congr 2; omega
  refine X0 ?_; refine X0 ?_; refine JR ?_; refine Z1 ?_; refine Z2 ?_; refine JD ?_; refine JF ?_; refine Xv ?_; refine X0 ?_; refine JR ?_; refine Z1 ?_; refine Z1 ?_
  refine Z3 (u := n64 m) (r := n8 (UInt8.ofNat m).toNat) ?_ (hr := by exact by rw [← e3]; exact XQ rfl rfl); refine Z5 ?_; refine Z6 ?_; refine Z0 ?_; refine JD ?_
  refine X1 ⟨_, X9 4 (y := .own 130 (vS n).length) (AVal.le_of_eq ?_), ⟨rfl, trivial⟩, Xi ⟨?_, trivial⟩⟩
  ·refine Eq.trans (b := AVal.own 130 (_ + _)) rfl ?_
   rw [← hpre, hv]; simp
  ·refine Eq.trans (b := AObj.row 1 (_ ++ [[.v (n8 _)]])) rfl ?_
   rw [← hpre, hv]; simp
theorem X3y (n : Nat) (hn : n < 18446744073709551616) : Con Tryz.prog 65 [] [UO n] [(130, .row 1 ((vS n).map Xa))] (.own 130 (vS n).length) := by
 refine X8 (xs := [.own 130 (vS n).length]) Tryz.func65 rfl Tryz.ntmps65 rfl rfl rfl (fun E => ?_)
 refine X0 ?_; refine JR ?_; refine Z0 ?_; refine JD ?_; refine X0 ?_; refine JR ?_; refine Z0 ?_; refine JD ?_; refine X0 ?_; refine X5 ?_
 refine Xu (X1P 3 130 1 rfl rfl rfl) ?_
 refine XR (ι := List UInt8 × Nat) (fun i => i.1 ++ vS i.2 = vS n ∧ i.2 ≤ n) (fun i => ⟨20, [(0, UO i.2), (3, .own 130 i.1.length)], [(130, .row 1 (i.1.map Xa))]⟩) (fun i => i.2) ([], n) ⟨rfl, Nat.le_refl _⟩
  (Xc rfl ⟨JL, JL, trivial⟩ ⟨rfl, trivial⟩) ?_
 rintro ⟨pre, m⟩ ⟨hpre, hm⟩
 simp only at hpre hm
 have hlen : pre.length ≤ 10 := by
  have h1 := congrArg List.length hpre
  have h2 := UJ hn
  simp only [List.length_append] at h1; omega
 by_cases h : 128 ≤ m
 ·have hv := X5d h
  have e1 : n8 ((m % 128 + 128) % 256) = n8 (UInt8.ofNat (m % 128 + 128)).toNat := by rw [V4 (by omega)]; congr 2; omega
  refine X0 ?_; refine X0 ?_; refine JR ?_; refine Z1 ?_; refine Z2 ?_; refine JD ?_; refine JT ?_; refine X3 ?_; refine X5 ?_; refine X0 ?_; refine JR ?_; refine Z1 ?_; refine Z1 ?_
  refine Z7 (op := .rem) (r' := n64 (m % 128)) (u := n64 m) (v := n64 128) ?_ (hr := by exact Ys (by omega))
  refine Z7 (op := .add) (r' := n64 (m % 128 + 128)) (u := n64 (m % 128)) (v := n64 128) ?_ (hr := by exact Yy (by rw [XA]; omega))
  refine Z3 (u := n64 (m % 128 + 128)) (r := n8 (UInt8.ofNat (m % 128 + 128)).toNat) ?_ (hr := by exact by rw [← e1]; exact XQ rfl rfl); refine Z5 ?_; refine Z6 ?_; refine Z0 ?_; refine JD ?_; refine JR ?_
  refine Z1 ?_; refine Z7 (op := .quo) (r' := n64 (m / 128)) (u := n64 m) (v := n64 128) ?_ (hr := by exact UK (by omega) (by rw [XA]; omega)); refine Z0 ?_; refine JD ?_
  refine ⟨(pre ++ [UInt8.ofNat (m % 128 + 128)], m / 128), ⟨by simp only; rw [← hpre, hv]; simp, by simp only; omega⟩, by simp only; omega, Xc rfl ⟨JL, (by refine AVal.le_of_eq ?_; refine Eq.trans (b := AVal.own 130 (_ + _)) rfl ?_; simp), trivial⟩ ⟨?_, trivial⟩⟩
  refine Eq.trans (b := AObj.row 1 (_ ++ [[.v (n8 _)]])) rfl ?_
  simp
 ·have hv : vS m = [UInt8.ofNat m] := X4J (by omega)
  have e3 : n8 (m % 256) = n8 (UInt8.ofNat m).toNat := by rw [V4 (by omega)]; congr 2; omega
  refine X0 ?_; refine X0 ?_; refine JR ?_; refine Z1 ?_; refine Z2 ?_; refine JD ?_; refine JF ?_; refine Xv ?_; refine X0 ?_; refine JR ?_; refine Z1 ?_; refine Z1 ?_
  refine Z3 (u := n64 m) (r := n8 (UInt8.ofNat m).toNat) ?_ (hr := by exact by rw [← e3]; exact XQ rfl rfl); refine Z5 ?_; refine Z6 ?_; refine Z0 ?_; refine JD ?_
  refine X1 ⟨_, X9 2 (y := .own 130 (vS n).length) (AVal.le_of_eq ?_), ⟨rfl, trivial⟩, Xi ⟨?_, trivial⟩⟩
  ·refine Eq.trans (b := AVal.own 130 (_ + _)) rfl ?_
   rw [← hpre, hv]; simp
  ·refine Eq.trans (b := AObj.row 1 (_ ++ [[.v (n8 _)]])) rfl ?_
   rw [← hpre, hv]; simp
end Go.Fw
namespace Go.Fw
open Go Go.Proofs
set_option maxRecDepth 100000
set_option linter.unusedVariables false
set_option linter.unusedSimpArgs false
theorem X93 (n : Int) (hn : n ≤ 9223372036854775807) : Con Tryz.prog 39 [] [ai n] [(130, .row 1 ((Xe n).map Xa))] (.own 130 (Xe n).length) := by
 refine X8 (xs := [.own 130 (Xe n).length]) Tryz.func39 rfl Tryz.ntmps39 rfl rfl rfl (fun E => ?_)
 by_cases h : n < 0
 ·rw [show Xe n = [] by simp [Xe, h]]
  refine X0 ?_; refine JR ?_; refine Z0 ?_; refine JD ?_; refine X0 ?_; refine X0 ?_; refine JR ?_; refine Z1 ?_; refine Z8 ?_; refine JD ?_; refine JT ?_; refine X0 ?_; refine JR ?_; refine Z0 ?_
  refine JD ?_
  refine Xu (X1P 2 130 1 rfl rfl rfl) ?_
  exact X1 ⟨_, St.le_refl _, ⟨rfl, trivial⟩, Xi ⟨rfl, trivial⟩⟩
 ·obtain ⟨m, rfl⟩ : ∃ m : Nat, n = m := ⟨n.toNat, by omega⟩
  rw [show Xe (m : Int) = vS m by unfold Xe; rw [if_neg h, Int.toNat_natCast]]
  refine X0 ?_; refine JR ?_; refine Z0 ?_; refine JD ?_; refine X0 ?_; refine X0 ?_; refine JR ?_; refine Z1 ?_; refine Z8 ?_; refine JD ?_; refine JF ?_; refine X3 ?_; refine X0 ?_; refine JR ?_
  refine Z1 ?_; refine Z3 (u := ni m) (r := n64 m) ?_ (hr := by exact Yi rfl rfl (by rw [XA]; omega)); refine Z9 (hcon := X2E m (by omega)) ?_; refine Z0 ?_; refine JD ?_
  exact X1 ⟨_, St.le_refl _, ⟨rfl, trivial⟩, Xi ⟨rfl, trivial⟩⟩
theorem X74 (n : Int) (hn : n ≤ 9223372036854775807) : Con Tryz.prog 30 [] [ai n] [(130, .row 1 ((Xe n).map Xa))] (.own 130 (Xe n).length) := by
 refine X8 (xs := [.own 130 (Xe n).length]) Tryz.func30 rfl Tryz.ntmps30 rfl rfl rfl (fun E => ?_)
 by_cases h : n < 0
 ·rw [show Xe n = [] by simp [Xe, h]]
  refine X0 ?_; refine JR ?_; refine Z0 ?_; refine JD ?_; refine X0 ?_; refine X0 ?_; refine JR ?_; refine Z1 ?_; refine Z8 ?_; refine JD ?_; refine JT ?_; refine X0 ?_; refine JR ?_; refine Z0 ?_
  refine JD ?_
  refine Xu (X1P 2 130 1 rfl rfl rfl) ?_
  exact X1 ⟨_, St.le_refl _, ⟨rfl, trivial⟩, Xi ⟨rfl, trivial⟩⟩
 ·obtain ⟨m, rfl⟩ : ∃ m : Nat, n = m := ⟨n.toNat, by omega⟩
  rw [show Xe (m : Int) = vS m by unfold Xe; rw [if_neg h, Int.toNat_natCast]]
  refine X0 ?_; refine JR ?_; refine Z0 ?_; refine JD ?_; refine X0 ?_; refine X0 ?_; refine JR ?_; refine Z1 ?_; refine Z8 ?_; refine JD ?_; refine JF ?_; refine X3 ?_; refine X0 ?_; refine JR ?_
  refine Z1 ?_; refine Z3 (u := ni m) (r := n64 m) ?_ (hr := by exact Yi rfl rfl (by rw [XA]; omega)); refine Z9 (hcon := X3y m (by omega)) ?_; refine Z0 ?_; refine JD ?_
  exact X1 ⟨_, St.le_refl _, ⟨rfl, trivial⟩, Xi ⟨rfl, trivial⟩⟩
theorem Xb0 (n : Int) (hn : -9223372036854775808 ≤ n ∧ n ≤ 9223372036854775807) : Con Tryz.prog 69 [] [ai n] [(130, .row 1 ((XD n).map Xa))] (.own 130 (XD n).length) := by
 refine X8 (xs := [.own 130 (XD n).length]) Tryz.func69 rfl Tryz.ntmps69 rfl rfl rfl (fun E => ?_)
 by_cases h : n < 0
 ·obtain ⟨m, rfl⟩ : ∃ m : Nat, n = -(m : Int) - 1 := ⟨(-n - 1).toNat, by omega⟩
  have ez : zig (-(m : Int) - 1) = 2 * m + 1 := by unfold zig; rw [if_pos (by omega)]; omega
  unfold XD; rw [ez]
  have ew : IntKind.u64.wrap (-(m : Int) - 1) = ((18446744073709551615 - m : Nat) : Int) := by rw [IntKind.wrap_u64]; omega
  have es : (18446744073709551615 - m) * 2 ^ 1 % 2 ^ IntKind.u64.bits = 18446744073709551614 - 2 * m := by
   rw [show 2 ^ IntKind.u64.bits = 18446744073709551616 from rfl]; omega
  have ec : 2 ^ IntKind.u64.bits - 1 - (18446744073709551614 - 2 * m) = 2 * m + 1 := by
   rw [show 2 ^ IntKind.u64.bits = 18446744073709551616 from rfl]; omega
  have hcompl : ∀ w, (Op.unary .xor (n64 (18446744073709551614 - 2 * m))).run Tryz.prog w = .ok (n64 (2 * m + 1)) w := fun w => by
   have h := XbA (P := Tryz.prog) (k := .u64) (a := 18446744073709551614 - 2 * m) rfl (by rw [show 2 ^ IntKind.u64.bits = 18446744073709551616 from rfl]; omega) w
   rwa [ec] at h
  refine X0 ?_; refine JR ?_; refine Z0 ?_; refine JD ?_; refine X0 ?_; refine JR ?_; refine Z1 ?_
  refine Z3 (u := .int .i64 (-(m : Int) - 1)) (r := n64 (18446744073709551615 - m)) ?_ (hr := by exact by intro w; show _ = Result.ok (Value.int .u64 ((18446744073709551615 - m : Nat) : Int)) w; rw [← ew]; exact X1p rfl rfl w)
  refine Z4 (op := .shl) (r' := n64 (18446744073709551614 - 2 * m)) (u := n64 (18446744073709551615 - m)) (v := n64 1) ?_ (hr' := by exact congrArg n64 es) (hr := by exact Ue rfl (by decide)); refine Z0 ?_
  refine JD ?_; refine X0 ?_; refine X0 ?_; refine JR ?_; refine Z1 ?_; refine Z8 ?_; refine JD ?_; refine JT ?_; refine JR ?_; refine Z1 ?_
  refine Za (u := n64 (18446744073709551614 - 2 * m)) (r := n64 (2 * m + 1)) ?_ (hr := by exact hcompl); refine Z0 ?_; refine JD ?_; refine X0 ?_; refine JR ?_; refine Z1 ?_
  refine Z9 (hcon := X2E (2 * m + 1) (by omega)) ?_; refine Z0 ?_; refine JD ?_
  exact X1 ⟨_, St.le_refl _, ⟨rfl, trivial⟩, Xi ⟨rfl, trivial⟩⟩
 ·obtain ⟨m, rfl⟩ : ∃ m : Nat, n = m := ⟨n.toNat, by omega⟩
  have ez : zig (m : Int) = 2 * m := by unfold zig; rw [if_neg (by omega)]; omega
  unfold XD; rw [ez]
  have es : m * 2 ^ 1 % 2 ^ IntKind.u64.bits = 2 * m := by
   rw [show 2 ^ IntKind.u64.bits = 18446744073709551616 from rfl]; omega
  refine X0 ?_; refine JR ?_; refine Z0 ?_; refine JD ?_; refine X0 ?_; refine JR ?_; refine Z1 ?_; refine Z3 (u := ni m) (r := n64 m) ?_ (hr := by exact Yi rfl rfl (by rw [XA]; omega))
  refine Z4 (op := .shl) (r' := n64 (2 * m)) (u := n64 m) (v := n64 1) ?_ (hr' := by exact congrArg n64 es) (hr := by exact Ue rfl (by decide)); refine Z0 ?_; refine JD ?_; refine X0 ?_; refine X0 ?_
  refine JR ?_; refine Z1 ?_; refine Z8 ?_; refine JD ?_; refine JF ?_; refine X3 ?_; refine X0 ?_; refine JR ?_; refine Z1 ?_; refine Z9 (hcon := X2E (2 * m) (by omega)) ?_; refine Z0 ?_; refine JD ?_
  exact X1 ⟨_, St.le_refl _, ⟨rfl, trivial⟩, Xi ⟨rfl, trivial⟩⟩
theorem X8V (n : Int) (hn : -9223372036854775808 ≤ n ∧ n ≤ 9223372036854775807) : Con Tryz.prog 38 [] [ai n] [(130, .row 1 ((XD n).map Xa))] (.own 130 (XD n).length) := by
 refine X8 (xs := [.own 130 (XD n).length]) Tryz.func38 rfl Tryz.ntmps38 rfl rfl rfl (fun E => ?_)
 by_cases h : n < 0
 ·obtain ⟨m, hm⟩ : ∃ m : Nat, -(n + 1) = (m : Int) := ⟨(-(n + 1)).toNat, by omega⟩
  have ez : zig n = 2 * m + 1 := by unfold zig; rw [if_pos h, hm, Int.toNat_natCast]
  unfold XD; rw [ez]
  have hneg : ∀ w, (Op.unary .neg (.int .i64 (n + 1))).run Tryz.prog w = .ok (ni m) w := fun w => by
   have h := X3a (P := Tryz.prog) (n := n + 1) (by omega) w
   rwa [hm] at h
  refine X0 ?_; refine JR ?_; refine Z0 ?_; refine JD ?_; refine X0 ?_; refine X0 ?_; refine JR ?_; refine Z1 ?_; refine Z8 ?_; refine JD ?_; refine JT ?_; refine X0 ?_; refine JR ?_; refine Z1 ?_
  refine Zb ?_; refine Za (u := .int .i64 (n + 1)) (r := ni m) ?_ (hr := by exact hneg); refine Z3 (u := ni m) (r := n64 m) ?_ (hr := by exact Yi rfl rfl (by rw [XA]; omega))
  refine Z7 (op := .mul) (r' := n64 (2 * m)) (u := n64 2) (v := n64 m) ?_ (hr := by exact YO (by rw [XA]; omega))
  refine Z7 (op := .add) (r' := n64 (2 * m + 1)) (u := n64 (2 * m)) (v := n64 1) ?_ (hr := by exact Yy (by rw [XA]; omega)); refine Z9 (hcon := X3y (2 * m + 1) (by omega)) ?_; refine Z0 ?_; refine JD ?_
  exact X1 ⟨_, St.le_refl _, ⟨rfl, trivial⟩, Xi ⟨rfl, trivial⟩⟩
 ·obtain ⟨m, rfl⟩ : ∃ m : Nat, n = m := ⟨n.toNat, by omega⟩
  have ez : zig (m : Int) = 2 * m := by unfold zig; rw [if_neg (by omega)]; omega
  unfold XD; rw [ez]
  refine X0 ?_; refine JR ?_; refine Z0 ?_; refine JD ?_; refine X0 ?_; refine X0 ?_; refine JR ?_; refine Z1 ?_; refine Z8 ?_; refine JD ?_; refine JF ?_; refine X3 ?_; refine X0 ?_; refine JR ?_
  refine Z1 ?_; refine Z3 (u := ni m) (r := n64 m) ?_ (hr := by exact Yi rfl rfl (by rw [XA]; omega))
  refine Z7 (op := .mul) (r' := n64 (2 * m)) (u := n64 2) (v := n64 m) ?_ (hr := by exact YO (by rw [XA]; omega)); refine Z9 (hcon := X3y (2 * m) (by omega)) ?_; refine Z0 ?_; refine JD ?_
  exact X1 ⟨_, St.le_refl _, ⟨rfl, trivial⟩, Xi ⟨rfl, trivial⟩⟩
theorem VG (n : Int) (hn : n ≤ 9223372036854775807) : Con Tryz.prog 39 [] [ai n] [] (.d (Xh (Xe n))) := (X93 n hn).data (by simp)
theorem X0k (n : Int) (hn : n ≤ 9223372036854775807) : Con Tryz.prog 30 [] [ai n] [] (.d (Xh (Xe n))) := (X74 n hn).data (by simp)
theorem VY (n : Int) (hn : -9223372036854775808 ≤ n ∧ n ≤ 9223372036854775807) : Con Tryz.prog 69 [] [ai n] [] (.d (Xh (XD n))) := (Xb0 n hn).data (by simp)
theorem X02 (n : Int) (hn : -9223372036854775808 ≤ n ∧ n ≤ 9223372036854775807) : Con Tryz.prog 38 [] [ai n] [] (.d (Xh (XD n))) := (X8V n hn).data (by simp)
end Go.Fw
namespace Go.Fw
open Go Go.Proofs
set_option maxRecDepth 100000
set_option linter.unusedVariables false
set_option linter.unusedSimpArgs false
abbrev X7 (l : List UInt8) : AVal := .d (.v (.string (X4 l)))
theorem Xad (s : List UInt8) (hs : s.length ≤ 65536) : Con Tryz.prog 57 [] [X7 s] [(131, .row 1 ((Xo s).map Xa))] (.own 131 (Xo s).length) := by
 refine X8 (xs := [.own 131 (Xo s).length]) Tryz.func57 rfl Tryz.ntmps57 rfl rfl rfl (fun E => ?_)
 have hl : (Xe (s.length : Int)).length ≤ 10 := by rw [UM (by omega)]; exact UJ (by omega)
 have hsz : (X4 s).size = s.length := rfl
 have hlm : (List.map Xa (Xe (s.length : Int))).length = (Xe (s.length : Int)).length := by simp
 generalize hhd : Xe (s.length : Int) = hd at *
 have hput : Xo s = hd ++ s := by unfold Xo; rw [hhd]
 have hpc := VG s.length (by omega)
 rw [hhd] at hpc
 have hm1 : hd.length = min (hd.map Xa).length (List.replicate ((hd.map Xa).length + (X4 s).size) (zD (Value.int IntKind.u8 0).cells.toList)).length := by simp
 have hk : hd.length ≤ ((hd.map Xa).take hd.length ++ (List.replicate ((hd.map Xa).length + (X4 s).size) (zD (Value.int IntKind.u8 0).cells.toList)).drop hd.length).length := by simp
 have hm2 : s.length = min (s.map Xa).length (((hd.map Xa).take hd.length ++ (List.replicate ((hd.map Xa).length + (X4 s).size) (zD (Value.int IntKind.u8 0).cells.toList)).drop hd.length).length - hd.length) := by simp [hsz]
 refine X0 ?_; refine JR ?_; refine Z0 ?_; refine JD ?_; refine X0 ?_; refine JR ?_; refine Z1 ?_; refine Zc ?_; refine Z9 (hcon := hpc) ?_; refine Z0 ?_; refine JD ?_; refine X0 ?_; refine JR ?_
 refine Z1 ?_; refine Zd ?_; refine Z1 ?_; refine Zc ?_; refine Zb ?_; refine Ze (γ := 131) ?_; refine Z0 ?_; refine JD ?_; refine X0 ?_; refine JR ?_; refine Z1 ?_; refine Z1 ?_; refine Z1 ?_
 refine Zf (m := hd.length) ?_ (hm := by exact hm1); refine Zg (k := hd.length) ?_ (hk := by exact hk); refine Z1 ?_; refine Zh (m := s.length) ?_ (hk := by exact hk) (hm := by exact hm2); refine JD ?_; refine X0 ?_
 refine JR ?_; refine Z1 ?_; refine Z0 ?_; refine JD ?_
 refine X1 ⟨_, X9 2 (y := .own 131 (Xo s).length) (AVal.le_of_eq ?_), ⟨rfl, trivial⟩, Xi ⟨?_, trivial⟩⟩
 ·refine Eq.trans (b := AVal.own 131 (_ + _)) rfl ?_
  simp [hput, hsz]
 ·refine Eq.trans (b := AObj.row 1 (List.take _ _ ++ _ ++ List.drop _ _)) rfl ?_
  rw [hput]
  congr 1
  rw [List.take_of_length_le (l := hd.map Xa) (by simp), List.take_left' (by simp), List.take_of_length_le (by simp), List.drop_of_length_le (by simp [hsz]), List.append_nil, List.map_append]
theorem X9C (s : List UInt8) (hs : s.length ≤ 65536) : Con Tryz.prog 32 [] [X7 s] [(130, .row 1 ((Xo s).map Xa))] (.own 130 (Xo s).length) := by
 refine X8 (xs := [.own 130 (Xo s).length]) Tryz.func32 rfl Tryz.ntmps32 rfl rfl rfl (fun E => ?_)
 have hl : (Xe (s.length : Int)).length ≤ 10 := by rw [UM (by omega)]; exact UJ (by omega)
 have hsz : (X4 s).size = s.length := rfl
 refine X0 ?_; refine JR ?_; refine Z0 ?_; refine JD ?_; refine X0 ?_; refine JR ?_; refine Z1 ?_; refine Zc ?_; refine Z9 (hcon := X74 s.length (by omega)) ?_; refine Z1 ?_; refine Zi ?_; refine Z6 ?_
 refine Z0 ?_; refine JD ?_
 refine X1 ⟨_, X9 2 (y := .own 130 (Xo s).length) (AVal.le_of_eq ?_), ⟨rfl, trivial⟩, Xi ⟨?_, trivial⟩⟩
 ·refine Eq.trans (b := AVal.own 130 (_ + _)) rfl ?_
  simp [Xo]
 ·refine Eq.trans (b := AObj.row 1 (_ ++ _)) rfl ?_
  simp [Xo]
theorem X0i (s : List UInt8) (hs : s.length ≤ 65536) : Con Tryz.prog 57 [] [X7 s] [] (.d (Xh (Xo s))) := (Xad s hs).data (by simp)
theorem Vf (s : List UInt8) (hs : s.length ≤ 65536) : Con Tryz.prog 32 [] [X7 s] [] (.d (Xh (Xo s))) := (X9C s hs).data (by simp)
end Go.Fw

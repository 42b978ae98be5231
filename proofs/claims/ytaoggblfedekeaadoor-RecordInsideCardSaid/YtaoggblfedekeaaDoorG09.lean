/- The codec in plain Lean: what the functions compute. -/
import Derived.Test.YtaoggblfedekeaaDoorG06
import Derived.Test.YtaoggblfedekeaaDoorG08
import Derived.Test.YtaoggblfedekeaaDoorChecked
import Derived.Test.YtaoggblfedekeaaDoorG07
set_option maxHeartbeats 8000000
namespace Go.Fw
open Go
set_option linter.unusedVariables false
inductive Val where
 | mk (kind n d : Int) (s : List UInt8) (l : List Val)
namespace Val
def kind : Val → Int | mk k _ _ _ _ => k
def n : Val → Int | mk _ n _ _ _ => n
def d : Val → Int | mk _ _ d _ _ => d
def s : Val → List UInt8 | mk _ _ _ s _ => s
def l : Val → List Val | mk _ _ _ _ l => l
end Val
abbrev Xa (b : UInt8) : List D := [.v (.int .u8 b.toNat)]
abbrev Xv (l : List UInt8) : D := .sl 1 (l.map Xa)
mutual
def YK : Val → List D
 | .mk k n d s l => [.v (.int .i64 k), .v (.int .i64 n), .v (.int .i64 d), .v (.string (X4 s)), .sl 5 (Xm l)]
def Xm : List Val → List (List D)
 | [] => []
 | v :: r => YK v :: Xm r
end
theorem Vl : ∀ l : List Val, Xm l = l.map YK
 | [] => by simp [Xm]
 | v :: r => by simp [Xm, Vl r]
theorem Ua {α β : Type} {l : List α} {f : α → β} {k : Nat} {x : α} (h : l[k]? = some x) : (l.map f)[k]? = some (f x) := by simp [h]
theorem XX {α : Type} {l : List α} {k : Nat} (h : k < l.length) : ∃ x, l[k]? = some x := ⟨_, List.getElem?_eq_getElem h⟩
def vS (n : Nat) : List UInt8 := if n < 128 then [UInt8.ofNat n] else UInt8.ofNat (n % 128 + 128) :: vS (n / 128)
termination_by n
decreasing_by omega
def Xk (n : Int) : List UInt8 := if n < 0 then [] else vS n.toNat
def zig (n : Int) : Nat := if n < 0 then 2 * (-(n + 1)).toNat + 1 else 2 * n.toNat
def zag (u : Nat) : Int := if u % 2 = 1 then -((u / 2 : Nat) : Int) - 1 else ((u / 2 : Nat) : Int)
def XF (n : Int) : List UInt8 := vS (zig n)
def Xo (s : List UInt8) : List UInt8 := Xk s.length ++ s
def XK (l : List UInt8) : Nat := ((l.take 10).takeWhile fun b => decide (128 ≤ b.toNat)).length
def Xp : List UInt8 → Nat
 | [] => 0
 | b :: r => b.toNat % 128 + 128 * Xp r
def XC (b : List UInt8) (a : Int) : Nat × Int × Int :=
 if a < 0 ∨ (b.length : Int) < a then (0, 0, 1) else
  let l := b.drop a.toNat
  let n := XK l
  if n = 10 then (0, 0, 4) else if l.length ≤ n then (0, 0, 3) else
   if n = 9 ∧ 1 < ((l[n]?).getD 0).toNat then (0, 0, 4) else (Xp (l.take (n + 1)), a + n + 1, 0)
def YL (b : List UInt8) (a : Int) : Bool := let l := b.drop a.toNat; decide (0 < XK l) && decide ((l[XK l]?).getD 0 = 0)
def Xf (b : List UInt8) (a : Int) : Int × Int × Int :=
 let r := XC b a
 if r.2.2 ≠ 0 then (0, 0, r.2.2) else if 9223372036854775807 < r.1 then (0, 0, 4) else if YL b a then (0, 0, 2) else ((r.1 : Int), r.2.1, 0)
def Xn (b : List UInt8) (a : Int) : Int × Int × Int :=
 let r := XC b a
 if r.2.2 ≠ 0 then (0, 0, r.2.2) else if YL b a then (0, 0, 2) else (zag r.1, r.2.1, 0)
def Xu (b : List UInt8) (a : Int) : Nat × Int × Int :=
 let r := XC b a
 if r.2.2 ≠ 0 then (0, 0, r.2.2) else if YL b a then (r.1, 0, 2) else r
def Ye (b : List UInt8) (a : Int) (most : Int) : List UInt8 × Int × Int :=
 let r := Xf b a
 if r.2.2 ≠ 0 then ([], 0, r.2.2) else if most < r.1 then ([], 0, 4) else if (b.length : Int) - r.2.1 < r.1 then ([], 0, 3) else
  ((b.drop r.2.1.toNat).take r.1.toNat, r.2.1 + r.1, 0)
def YV (n d : Int) : Bool := decide (1 ≤ d ∧ d ≤ 1000000000000000 ∧ -1000000000000000 ≤ n ∧ n ≤ 1000000000000000) && decide (Nat.gcd n.natAbs d.natAbs = 1)
def YJ (s : List UInt8) : Bool := s.all fun b => decide (32 ≤ b.toNat ∧ b.toNat ≤ 126)
mutual
def X6 : Nat → Val → Bool
 | m, .mk k n d s l =>
  (k == 3 || d == 0) && (k == 4 || decide (s.length = 0)) && (k == 7 || k == 8 || decide (l.length = 0)) &&
  (if k = 0 then decide (n = 0) else if k = 1 then decide (n = 0 ∨ n = 1) else if k = 2 then decide (-1000000000000000 ≤ n ∧ n ≤ 1000000000000000)
   else if k = 3 then decide (2 ≤ d) && YV n d else if k = 4 then decide (n = 0 ∧ s.length ≤ 100) && YJ s
   else if k = 5 ∨ k = 6 then decide (1 ≤ n ∧ n ≤ 1000000) else if k = 7 then decide (n = 0 ∧ l.length % 2 = 1 ∧ l.length ≤ 25) && Yh 0 l
   else if k = 8 then decide (n = 0 ∧ l.length ≤ 64 ∧ 1 ≤ m) && Yk (m - 1) l else false)
def Yk : Nat → List Val → Bool
 | m, [] => true
 | m, v :: r => X6 m v && Yk m r
def Yh : Nat → List Val → Bool
 | i, [] => true
 | i, v :: r => decide (v.kind = 5 + (i % 2 : Nat)) && X6 0 v && Yh (i + 1) r
end
mutual
def Xq : Val → List UInt8
 | .mk k n d s l => UInt8.ofNat k.toNat :: (if k = 1 ∨ k = 2 ∨ k = 5 ∨ k = 6 then XF n else if k = 3 then XF n ++ XF d else if k = 4 then Xo s
   else if k = 7 ∨ k = 8 then Xk l.length ++ XE l else [])
def XE : List Val → List UInt8
 | [] => []
 | v :: r => Xq v ++ XE r
end
def Y4 (v : Val) : List UInt8 := if X6 8 v then Xq v else []
end Go.Fw
namespace Go.Fw
open Go
set_option linter.unusedVariables false
structure Chg where
 op : Int
 id : Int
 src : Int
 dst : Int
 name : List UInt8
 v : Val
structure Rul where
 kind : Int
 n : Int
 name : List UInt8
 key : List UInt8
 src : List UInt8
 dst : List UInt8
structure Rcd where
 kind : Int
 ts : Int
 changes : List Chg
 rule : Rul
 off : Bool
def US (c : UInt8) : Bool := decide ((97 ≤ c.toNat ∧ c.toNat ≤ 122) ∨ (65 ≤ c.toNat ∧ c.toNat ≤ 90))
def YM (c : UInt8) : Bool := US c || decide ((48 ≤ c.toNat ∧ c.toNat ≤ 57) ∨ c.toNat = 95)
def XM (s : List UInt8) : Bool := decide (1 ≤ s.length ∧ s.length ≤ 20) && US ((s[0]?).getD 0) && s.all YM
def Uq (v : Val) : Bool := X6 8 v && decide (v.kind = 0)
def X21 (b : Bool) (k : Int) : Bool := decide (k = 1 ∨ k = 2 ∨ k = 4) && b
def Vt (v : Val) : Bool := X21 (X6 8 v) v.kind
def idV (n : Int) : Bool := decide (1 ≤ n ∧ n ≤ 1000000)
def XT (op : Int) : Bool := decide (op = 3 ∨ op = 4 ∨ op = 5 ∨ op = 6 ∨ op = 8)
def XP (op : Int) : Bool := decide (op = 5 ∨ op = 8)
def Y9 (c : Chg) : Int :=
 if decide (1 ≤ c.op ∧ c.op ≤ 8) = false ∨ idV c.id = false then 1
 else if (c.op = 6 ∧ (idV c.src = false ∨ idV c.dst = false)) ∨ (c.op ≠ 6 ∧ (c.src ≠ 0 ∨ c.dst ≠ 0)) then 1
 else if (XT c.op = false ∧ c.name ≠ []) ∨ (XP c.op = false ∧ Uq c.v = false) then 1
 else if XT c.op = true ∧ XM c.name = false then 6
 else if XP c.op = true ∧ Uq c.v = false ∧ Vt c.v = false then 8 else 0
def XaA (r : Rul) : Bool := if r.kind = 3 ∨ r.kind = 5 then decide (r.n = 1 ∨ r.n = 2 ∨ r.n = 4) else if r.kind = 7 then decide (0 ≤ r.n ∧ r.n ≤ 4000) else decide (r.n = 0)
def Vm (k : Int) : Bool := decide (1 ≤ k ∧ k ≤ 5)
def YU (r : Rul) : Int :=
 if decide (1 ≤ r.kind ∧ r.kind ≤ 7) = false ∨ XaA r = false then 1
 else if (Vm r.kind = false ∧ r.key ≠ []) ∨ (r.kind ≠ 6 ∧ (r.src ≠ [] ∨ r.dst ≠ [])) then 1
 else if XM r.name = false ∨ (Vm r.kind = true ∧ XM r.key = false) ∨ (r.src ≠ [] ∧ XM r.src = false) ∨ (r.dst ≠ [] ∧ XM r.dst = false) then 6 else 0
def XI (c : Chg) : List UInt8 :=
 UInt8.ofNat c.op.toNat :: (Xk c.id ++ (if c.op = 6 then Xk c.src ++ Xk c.dst else []) ++ (if XT c.op = true then Xo c.name else []) ++ (if XP c.op = true then Y4 c.v else []))
def Vk (c : Chg) : List UInt8 := if Y9 c = 0 then XI c else []
def Yc (r : Rul) : List UInt8 := UInt8.ofNat r.kind.toNat :: (Xo r.name ++ Xo r.key ++ Xo r.src ++ Xo r.dst ++ XF r.n)
def Vh (r : Rul) : List UInt8 := if YU r = 0 then Yc r else []
abbrev zR : Rul := ⟨0, 0, [], [], [], []⟩
def X03 (r : Rul) : Bool := decide (r.kind = 0 ∧ r.n = 0 ∧ r.name = [] ∧ r.key = [] ∧ r.src = [] ∧ r.dst = [])
def UA : List Chg → Int
 | [] => 0
 | c :: r => if Y9 c ≠ 0 then Y9 c else UA r
def YI (r : Rcd) : Int :=
 if ¬ (1 ≤ r.kind ∧ r.kind ≤ 3 ∧ 0 ≤ r.ts ∧ r.ts ≤ 1000000000000000) then 1
 else if (r.kind ≠ 1 ∧ 0 < r.changes.length) ∨ (r.kind ≠ 2 ∧ (r.off = true ∨ X03 r.rule = false)) then 1
 else if r.kind = 2 then YU r.rule else if UA r.changes ≠ 0 then UA r.changes else if 1000 < r.changes.length then 4 else 0
def YS (l : List Chg) : List UInt8 := (l.map XI).flatten
def Um (r : Rcd) : List UInt8 :=
 UInt8.ofNat r.kind.toNat :: (Xk r.ts ++ (if r.kind = 1 then Xk r.changes.length ++ YS r.changes else if r.kind = 2 then Yc r.rule ++ [if r.off then 1 else 0] else []))
def X2G (r : Rcd) : List UInt8 := if YI r = 0 then Um r else []
end Go.Fw
namespace Go.Fw
open Go
set_option linter.unusedVariables false
theorem X1x {α : Type} {p : α → Bool} : ∀ (l : List α) (i : Nat), (∀ j, j < i → ∃ b, l[j]? = some b ∧ p b = true) → (∀ b, l[i]? = some b → p b = false) → (l.takeWhile p).length = i
 | [], 0, _, _ => rfl
 | [], i + 1, h, _ => by obtain ⟨b, hb, _⟩ := h 0 (by omega); simp at hb
 | x :: l, 0, _, h => by have := h x (by simp); simp [List.takeWhile, this]
 | x :: l, i + 1, h, k => by
  obtain ⟨b, hb, hp⟩ := h 0 (by omega)
  simp at hb; subst hb
  simp only [List.takeWhile, hp, List.length_cons]
  rw [X1x l i (fun j hj => by simpa using h (j + 1) (by omega)) (fun b hb => k b (by simpa using hb))]
def big (l : List UInt8) (i : Nat) : Prop := ∀ j, j < i → ∃ b, l[j]? = some b ∧ 128 ≤ b.toNat
theorem X2n {l : List UInt8} {i : Nat} {c : UInt8} (h : big l i) (hc : l[i]? = some c) (hlt : c.toNat < 128) (hi : i < 10) : XK l = i := by
 refine X1x _ _ (fun j hj => ?_) (fun b hb => ?_)
 ·obtain ⟨b, h1, h2⟩ := h j hj
  exact ⟨b, by rw [List.getElem?_take_of_lt (by omega)]; exact h1, by simpa using h2⟩
 ·rw [List.getElem?_take_of_lt hi, hc] at hb
  cases hb; simpa using hlt
theorem X5m {l : List UInt8} {i : Nat} (h : big l i) (hi : i = min 10 l.length) : XK l = i := by
 refine X1x _ _ (fun j hj => ?_) (fun b hb => ?_)
 ·obtain ⟨b, h1, h2⟩ := h j hj
  exact ⟨b, by rw [List.getElem?_take_of_lt (by omega)]; exact h1, by simpa using h2⟩
 ·exfalso
  have := (List.getElem?_eq_some_iff.1 hb).1
  simp at this; omega
theorem X5r {l : List UInt8} {i : Nat} {c : UInt8} (h : big l i) (hc : l[i]? = some c) (h128 : 128 ≤ c.toNat) : big l (i + 1) := fun j hj => by
 by_cases e : j = i
 ·subst e; exact ⟨c, hc, h128⟩
 ·exact h j (by omega)
theorem X0e : ∀ (l : List UInt8) (i : Nat) (c : UInt8), l[i]? = some c → Xp (l.take (i + 1)) = Xp (l.take i) + 2 ^ (7 * i) * (c.toNat % 128)
 | [], _, _, h => by simp at h
 | x :: l, 0, c, h => by simp at h; subst h; simp [Xp]
 | x :: l, i + 1, c, h => by
  have := X0e l i c (by simpa using h)
  simp only [List.take_succ_cons, Xp, this]
  rw [Nat.mul_add, ← Nat.mul_assoc, show 7 * (i + 1) = 7 + 7 * i by omega, Nat.pow_add, show (2 : Nat) ^ 7 = 128 from rfl]
  omega
theorem X6f : ∀ (l : List UInt8), Xp l < 2 ^ (7 * l.length)
 | [] => by simp [Xp]
 | x :: l => by
  have := X6f l
  have hx := Nat.mod_lt x.toNat (show 0 < 128 by omega)
  simp only [Xp, List.length_cons]
  rw [show 7 * (l.length + 1) = 7 + 7 * l.length by omega, Nat.pow_add]
  omega
theorem X1q (l : List UInt8) (i : Nat) : Xp (l.take i) < 2 ^ (7 * i) :=
 Nat.lt_of_lt_of_le (X6f _) (Nat.pow_le_pow_right (by omega) (by simp; omega))
def Xx (l : List UInt8) : Nat → Nat
 | 0 => 0
 | i + 1 => Xx l i ||| (((l[i]?).getD 0).toNat % 128) * 2 ^ (7 * i) % 18446744073709551616
theorem X0L (l : List UInt8) : ∀ i, Xx l i < 18446744073709551616
 | 0 => by simp [Xx]
 | i + 1 => by
  have := X0L l i
  exact Nat.or_lt_two_pow (n := 64) this (Nat.mod_lt _ (by omega))
theorem X4Y {a b i : Nat} (h : a < 2 ^ i) : a ||| b * 2 ^ i = a + 2 ^ i * b := by
 rw [Nat.or_comm, Nat.mul_comm b, ← Nat.two_pow_add_eq_or_of_lt h, Nat.add_comm]
theorem X0R (l : List UInt8) : ∀ i, i ≤ 9 → i ≤ l.length → Xx l i = Xp (l.take i)
 | 0, _, _ => by simp [Xx, Xp]
 | i + 1, h, hl => by
  obtain ⟨c, hc⟩ := XX (l := l) (k := i) (by omega)
  have h1 := X0R l i (by omega) (by omega)
  have h2 := X1q l i
  have h3 := Nat.mod_lt c.toNat (show 0 < 128 by omega)
  have h4 : c.toNat % 128 * 2 ^ (7 * i) < 2 ^ (7 + 7 * i) := by rw [Nat.pow_add]; exact Nat.mul_lt_mul_of_pos_right h3 (Nat.pow_pos (by omega))
  have h5 : 2 ^ (7 + 7 * i) ≤ 2 ^ 64 := Nat.pow_le_pow_right (by omega) (by omega)
  simp only [Xx, hc, Option.getD_some]
  rw [Nat.mod_eq_of_lt (Nat.lt_of_lt_of_le h4 h5), h1, X4Y h2, X0e l i c hc]
theorem X4y (l : List UInt8) {c : UInt8} (hc : l[9]? = some c) (h : c.toNat ≤ 1) : Xx l 10 = Xp (l.take 10) := by
 have hl := (List.getElem?_eq_some_iff.1 hc).1
 have h1 := X0R l 9 (by omega) (by omega)
 have h2 := X1q l 9
 simp only [Xx, hc, Option.getD_some] at h1 ⊢
 rw [X0e l 9 c hc, Nat.mod_eq_of_lt (a := c.toNat % 128 * 2 ^ (7 * 9)) (by
  have : c.toNat % 128 ≤ 1 := by omega
  have : c.toNat % 128 * 2 ^ (7 * 9) ≤ 1 * 2 ^ (7 * 9) := Nat.mul_le_mul_right _ this
  omega)]
 have := X0R l 9 (by omega) (by omega)
 simp only [Xx] at this
 rw [this]
 exact X4Y h2
end Go.Fw
namespace Go.Fw
open Go
set_option linter.unusedVariables false
def Up : List UInt8 → Prop
 | [] => False
 | [c] => c.toNat < 128
 | b :: c :: m => 128 ≤ b.toNat ∧ Up (c :: m) ∧ c :: m ≠ [0]
theorem X3g : ∀ {m : List UInt8}, Up m → m ≠ [0] → 0 < Xp m
 | [c], h, hn => by
  simp only [Up] at h
  have : c.toNat ≠ 0 := fun e => hn (by rw [show c = 0 from UInt8.toNat_inj.1 e])
  simp only [Xp]; omega
 | b :: c :: m, h, _ => by
  have := X3g h.2.1 h.2.2
  simp only [Xp] at this ⊢; omega
theorem Ve {n : Nat} (h : n < 256) : (UInt8.ofNat n).toNat = n := by simp; omega
theorem X23 (u : Nat) : Up (vS u) ∧ Xp (vS u) = u ∧ (vS u = [0] → u = 0) := by
 induction u using Nat.strongRecOn with
 | _ u ih =>
  rw [vS]
  by_cases h : u < 128
  ·rw [if_pos h]
   simp only [Up, Xp, Ve (show u < 256 by omega)]
   refine ⟨h, by omega, fun e => ?_⟩
   have := congrArg (fun l : List UInt8 => (l.headD 1).toNat) e
   simp only [List.headD_cons, Ve (show u < 256 by omega)] at this
   simpa using this
  ·rw [if_neg h]
   obtain ⟨h1, h2, h3⟩ := ih (u / 128) (by omega)
   cases hv : vS (u / 128) with
   | nil => rw [hv] at h1; exact h1.elim
   | cons c m =>
    rw [hv] at h1 h2 h3
    have hb : (UInt8.ofNat (u % 128 + 128)).toNat = u % 128 + 128 := Ve (by omega)
    refine ⟨⟨by rw [hb]; omega, h1, fun e => by have := h3 e; omega⟩, ?_, fun e => by simp at e⟩
    simp only [Xp] at h2 ⊢
    rw [hb]; omega
theorem X4J : ∀ {m : List UInt8}, Up m → vS (Xp m) = m
 | [c], h => by
  simp only [Up] at h
  have e : Xp [c] = c.toNat := by simp only [Xp]; omega
  rw [e, vS, if_pos h]; simp
 | b :: c :: m, h => by
  have h1 := X4J h.2.1
  have h2 := X3g h.2.1 h.2.2
  have hb := b.toNat_lt
  have e : Xp (b :: c :: m) = b.toNat % 128 + 128 * Xp (c :: m) := rfl
  rw [e, vS, if_neg (by omega), show (b.toNat % 128 + 128 * Xp (c :: m)) / 128 = Xp (c :: m) by omega, h1]
  rw [show (b.toNat % 128 + 128 * Xp (c :: m)) % 128 + 128 = b.toNat by have := h.1; omega]
  simp
theorem X3f : ∀ {m : List UInt8}, Up m → big m (m.length - 1) ∧ ∃ c, m[m.length - 1]? = some c ∧ c.toNat < 128 ∧ (1 < m.length → c ≠ 0)
 | [c], h => ⟨fun j hj => by simp at hj, c, rfl, h, fun h => by simp at h⟩
 | b :: c :: m, h => by
  obtain ⟨h1, x, h2, h3, h4⟩ := X3f h.2.1
  refine ⟨fun j hj => ?_, x, by simpa using h2, h3, fun _ e => ?_⟩
  ·cases j with
   | zero => exact ⟨b, rfl, h.1⟩
   | succ j => simpa using h1 j (by simp at hj ⊢; omega)
  ·by_cases hm : m = []
   ·subst hm; simp at h2; subst h2; subst e; exact h.2.2 rfl
   ·refine h4 (by cases m with | nil => exact absurd rfl hm | cons _ _ => simp) e
theorem X2I : ∀ {m : List UInt8} (k : Nat), Up m → Xp m < 2 ^ (7 * k) → 0 < k → m.length ≤ k
 | [c], k, _, _, hk => hk
 | b :: c :: m, k, h, hn, hk => by
  have h2 := X3g h.2.1 h.2.2
  cases k with
  | zero => omega
  | succ k =>
   by_cases hk0 : k = 0
   ·subst hk0
    have e : Xp (b :: c :: m) = b.toNat % 128 + 128 * Xp (c :: m) := rfl
    rw [e] at hn
    have : (2 : Nat) ^ (7 * (0 + 1)) = 128 := rfl
    omega
   ·have := X2I k h.2.1 (by
     have e : Xp (b :: c :: m) = b.toNat % 128 + 128 * Xp (c :: m) := rfl
     rw [e, show 7 * (k + 1) = 7 + 7 * k by omega, Nat.pow_add, show (2 : Nat) ^ 7 = 128 from rfl] at hn
     omega) (by omega)
    simp only [List.length_cons] at this ⊢; omega
theorem X6D {m : List UInt8} {c : UInt8} (h : Up m) (hl : m.length = 10) (hn : Xp m < 18446744073709551616) (hc : m[9]? = some c) : c.toNat ≤ 1 := by
 obtain ⟨_, x, hx, h128, _⟩ := X3f h
 rw [hl, hc] at hx; cases hx
 have := X0e m 9 c hc
 rw [List.take_of_length_le (by omega)] at this
 have h9 : (2 : Nat) ^ (7 * 9) = 9223372036854775808 := rfl
 rw [this, h9] at hn
 omega
theorem X5E {m back : List UInt8} (h : Up m) (hn : Xp m < 18446744073709551616) (front : List UInt8) :
  XC (front ++ m ++ back) front.length = (Xp m, (front.length : Int) + m.length, 0) ∧ YL (front ++ m ++ back) front.length = false := by
 obtain ⟨hb, c, hc, h128, h0⟩ := X3f h
 have hlen := X2I 10 h (Nat.lt_of_lt_of_le hn (by decide)) (by omega)
 have hpos : 0 < m.length := by cases m with | nil => exact h.elim | cons _ _ => simp
 have hd : (front ++ m ++ back).drop (front.length : Int).toNat = m ++ back := by rw [Int.toNat_natCast, List.append_assoc, List.drop_left]
 have hc' : (m ++ back)[m.length - 1]? = some c := by rw [List.getElem?_append_left (by omega)]; exact hc
 have hm : XK (m ++ back) = m.length - 1 := X2n (fun j hj => by
  obtain ⟨b, h1, h2⟩ := hb j hj
  exact ⟨b, by rw [List.getElem?_append_left (by omega)]; exact h1, h2⟩) hc' h128 (by omega)
 constructor
 ·unfold XC
  rw [if_neg (by simp; omega)]
  simp only [hd, hm]
  rw [if_neg (by omega), if_neg (by simp; omega), if_neg (by
   rintro ⟨e, h1⟩
   rw [hc'] at h1
   have := X6D h (by omega) hn (c := c) (by rw [← e]; exact hc)
   simp at h1; omega)]
  rw [show m.length - 1 + 1 = m.length by omega, List.take_left]
  refine Prod.ext rfl (Prod.ext ?_ rfl)
  simp only; omega
 ·unfold YL
  simp only [hd, hm, hc', Option.getD_some]
  by_cases h1 : m.length = 1
  ·simp [h1]
  ·have := h0 (by omega)
   simp [this]
theorem X2Q {b : List UInt8} {a e : Int} {u : Nat} (h : XC b a = (u, e, 0)) (hp : YL b a = false) :
  0 ≤ a ∧ a < e ∧ e ≤ b.length ∧ (b.drop a.toNat).take (e - a).toNat = vS u ∧ u < 18446744073709551616 := by
 unfold XC at h
 split at h
 ·simp at h
 rename_i ha
 simp only at h
 split at h
 ·simp at h
 rename_i h10
 split at h
 ·simp at h
 rename_i hle
 split at h
 ·simp at h
 rename_i h9
 simp only [Prod.mk.injEq] at h
 obtain ⟨rfl, rfl, _⟩ := h
 generalize hl : b.drop a.toNat = l at *
 have hbig : big l (XK l) ∧ (∀ c, l[XK l]? = some c → c.toNat < 128) ∧ XK l < 10 := by
  have hw : ∀ (q : List UInt8), big q ((q.takeWhile fun b => decide (128 ≤ b.toNat)).length) ∧ ∀ c, q[(q.takeWhile fun b => decide (128 ≤ b.toNat)).length]? = some c → c.toNat < 128 := by
   intro q
   induction q with
   | nil => exact ⟨fun j hj => by simp at hj, fun c hc => by simp at hc⟩
   | cons x q ih =>
    by_cases hx : 128 ≤ x.toNat
    ·simp only [List.takeWhile, hx, decide_true, List.length_cons]
     refine ⟨fun j hj => ?_, fun c hc => ih.2 c (by simpa using hc)⟩
     cases j with
     | zero => exact ⟨x, rfl, hx⟩
     | succ j => simpa using ih.1 j (by omega)
    ·simp only [List.takeWhile, hx, decide_false, List.length_nil]
     exact ⟨fun j hj => by omega, fun c hc => by simp at hc; subst hc; omega⟩
  have h1 := hw (l.take 10)
  have hmore : XK l ≤ (l.take 10).length := by unfold XK; exact (List.takeWhile_sublist _).length_le
  have hlt : XK l < 10 := by simp at hmore; omega
  refine ⟨fun j hj => ?_, fun c hc => h1.2 c (by unfold XK at hc hlt; rw [List.getElem?_take_of_lt hlt]; exact hc), hlt⟩
  obtain ⟨x, h2, h3⟩ := h1.1 j hj
  rw [List.getElem?_take_of_lt (by omega)] at h2
  exact ⟨x, h2, h3⟩
 obtain ⟨hb1, hb2, hb3⟩ := hbig
 have hll : l.length = b.length - a.toNat := by rw [← hl, List.length_drop]
 obtain ⟨c, hc⟩ := XX (l := l) (k := XK l) (by omega)
 have hc128 := hb2 c hc
 have hcan : ∀ (k : Nat) (q : List UInt8) (c : UInt8), big q k → q[k]? = some c → c.toNat < 128 → (0 < k → c ≠ 0) → Up (q.take (k + 1)) := by
  intro k
  induction k with
  | zero =>
   intro q c _ hq hc _
   cases q with
   | nil => simp at hq
   | cons x q => simp at hq; subst hq; simpa [Up] using hc
  | succ k ih =>
   intro q c hb hq hc h0
   cases q with
   | nil => simp at hq
   | cons x q =>
    obtain ⟨y, hy, hy2⟩ := hb 0 (by omega)
    simp at hy; subst hy
    have h1 := ih q c (fun j hj => by simpa using hb (j + 1) (by omega)) (by simpa using hq) hc (fun _ => h0 (by omega))
    rw [List.take_succ_cons]
    cases q with
    | nil => simp at hq
    | cons z q =>
     refine ⟨hy2, h1, fun e => ?_⟩
     have e1 : z = 0 := by simpa using (List.cons.inj e).1
     have e2 : (q.take k) = [] := (List.cons.inj e).2
     cases k with
     | zero =>
      simp at hq; subst hq
      exact h0 (by omega) e1
     | succ k =>
      have hlt := (List.getElem?_eq_some_iff.1 hq).1
      have := congrArg List.length e2
      rw [List.length_take, List.length_nil] at this
      simp only [List.length_cons] at hlt
      omega
 have hpad : 0 < XK l → c ≠ 0 := by
  intro h0 e
  unfold YL at hp
  simp only [hl, hc, Option.getD_some] at hp
  simp [h0, e] at hp
 have hcn := hcan _ _ _ hb1 hc hc128 hpad
 have ha' : ¬(a < 0) ∧ ¬((b.length : Int) < a) := by simpa using ha
 refine ⟨by omega, by omega, by omega, ?_, ?_⟩
 ·rw [show (a + (XK l : Int) + 1 - a).toNat = XK l + 1 by omega, X4J hcn]
 ·have h1 := X1q l (XK l)
  rw [X0e l _ c hc]
  by_cases hm9 : XK l = 9
  ·have : c.toNat ≤ 1 := by
    have h2 := h9
    rw [hc] at h2
    simp only [hm9, true_and, Option.getD_some] at h2; omega
   rw [hm9] at h1 ⊢
   have e9 : (2 : Nat) ^ (7 * 9) = 9223372036854775808 := rfl
   rw [e9] at h1 ⊢
   omega
  ·have h2 : (2 : Nat) ^ (7 * XK l) ≤ 2 ^ 56 := Nat.pow_le_pow_right (by omega) (by omega)
   have e56 : (2 : Nat) ^ 56 = 72057594037927936 := rfl
   rw [e56] at h2
   have h3 := Nat.mod_lt c.toNat (show 0 < 128 by omega)
   have h4 : 2 ^ (7 * XK l) * (c.toNat % 128) ≤ 72057594037927936 * 127 := Nat.mul_le_mul h2 (by omega)
   omega
end Go.Fw
namespace Go.Fw
open Go
set_option linter.unusedVariables false
theorem Vd {n : Int} (h : 0 ≤ n) : Xk n = vS n.toNat := by unfold Xk; rw [if_neg (by omega)]
theorem X2F {n : Int} (h : 0 ≤ n ∧ n ≤ 9223372036854775807) (front back : List UInt8) :
  Xf (front ++ Xk n ++ back) front.length = (n, (front.length : Int) + (Xk n).length, 0) := by
 obtain ⟨h1, h2, _⟩ := X23 n.toNat
 rw [Vd h.1]
 obtain ⟨h3, h4⟩ := X5E (m := vS n.toNat) (back := back) h1 (by omega) front
 unfold Xf
 rw [h3, h4, h2]
 simp only [ne_eq, not_true_eq_false, if_false, Bool.false_eq_true]
 rw [if_neg (by omega)]
 refine Prod.ext ?_ rfl
 simp only; omega
theorem X94 {n : Int} : zag (zig n) = n := by
 unfold zig zag
 split <;> split <;> omega
theorem X7K {u : Nat} : zig (zag u) = u := by
 unfold zig zag
 split <;> split <;> omega
theorem X5w {n : Int} (h : -9223372036854775808 ≤ n ∧ n ≤ 9223372036854775807) : zig n < 18446744073709551616 := by
 unfold zig; split <;> omega
theorem X1Y {n : Int} (h : -9223372036854775808 ≤ n ∧ n ≤ 9223372036854775807) (front back : List UInt8) :
  Xn (front ++ XF n ++ back) front.length = (n, (front.length : Int) + (XF n).length, 0) := by
 obtain ⟨h1, h2, _⟩ := X23 (zig n)
 obtain ⟨h3, h4⟩ := X5E (m := vS (zig n)) (back := back) h1 (by rw [h2]; exact X5w h) front
 unfold Xn XF
 rw [h3, h4, h2]
 simp [X94]
theorem X47 {s : List UInt8} {most : Int} (hs : (s.length : Int) ≤ 9223372036854775807) (hm : (s.length : Int) ≤ most) (front back : List UInt8) :
  Ye (front ++ Xo s ++ back) front.length most = (s, (front.length : Int) + (Xo s).length, 0) := by
 have h1 := X2F (n := s.length) ⟨by omega, hs⟩ front (s ++ back)
 have e : front ++ Xo s ++ back = front ++ Xk s.length ++ (s ++ back) := by simp [Xo]
 unfold Ye
 rw [e, h1]
 simp only [ne_eq, not_true_eq_false, if_false]
 rw [if_neg (by omega), if_neg (by simp only [List.length_append]; omega)]
 have e2 : ((front.length : Int) + ((Xk (s.length : Int)).length : Int)).toNat = (front ++ Xk s.length).length := by simp only [List.length_append]; omega
 refine Prod.ext ?_ (Prod.ext ?_ rfl)
 ·simp only [e2, List.drop_left, Int.toNat_natCast, List.take_left]
 ·simp only [Xo, List.length_append]; omega
def only (b : List UInt8) (a e : Int) (want : List UInt8) : Prop := 0 ≤ a ∧ a ≤ e ∧ e ≤ b.length ∧ (b.drop a.toNat).take (e - a).toNat = want
theorem UJ {b : List UInt8} {a n e : Int} (h : Xf b a = (n, e, 0)) : only b a e (Xk n) ∧ 0 ≤ n ∧ n ≤ 9223372036854775807 ∧ a < e := by
 unfold Xf at h
 simp only at h
 split at h
 ·rename_i h0; exact absurd (congrArg (fun r => r.2.2) h) h0
 rename_i h0
 split at h
 ·exact absurd (congrArg (fun r => r.2.2) h) (by simp)
 rename_i h1
 split at h
 ·exact absurd (congrArg (fun r => r.2.2) h) (by simp)
 rename_i h2
 have h0 : (XC b a).2.2 = 0 := by simpa using h0
 simp only [Prod.mk.injEq] at h
 obtain ⟨rfl, rfl, _⟩ := h
 obtain ⟨k1, k2, k3, k4, k5⟩ := X2Q (b := b) (a := a) (e := (XC b a).2.1) (u := (XC b a).1) (by rw [← h0]) (by simpa using h2)
 exact ⟨⟨k1, by omega, k3, by rw [Vd (by omega), Int.toNat_natCast]; exact k4⟩, by omega, by omega, k2⟩
theorem X1J {b : List UInt8} {a n e : Int} (h : Xn b a = (n, e, 0)) : only b a e (XF n) ∧ a < e ∧ -9223372036854775808 ≤ n ∧ n ≤ 9223372036854775807 := by
 unfold Xn at h
 simp only at h
 split at h
 ·rename_i h0; exact absurd (congrArg (fun r => r.2.2) h) h0
 rename_i h0
 split at h
 ·exact absurd (congrArg (fun r => r.2.2) h) (by simp)
 rename_i h2
 have h0 : (XC b a).2.2 = 0 := by simpa using h0
 simp only [Prod.mk.injEq] at h
 obtain ⟨rfl, rfl, _⟩ := h
 obtain ⟨k1, k2, k3, k4, k5⟩ := X2Q (b := b) (a := a) (e := (XC b a).2.1) (u := (XC b a).1) (by rw [← h0]) (by simpa using h2)
 refine ⟨⟨k1, by omega, k3, by unfold XF; rw [X7K]; exact k4⟩, k2, ?_, ?_⟩ <;> unfold zag <;> split <;> omega
theorem X0l {b : List UInt8} {a e most : Int} {s : List UInt8} (h : Ye b a most = (s, e, 0)) : only b a e (Xo s) ∧ (s.length : Int) ≤ most ∧ a < e := by
 unfold Ye at h
 simp only at h
 split at h
 ·rename_i h0; exact absurd (congrArg (fun r => r.2.2) h) h0
 rename_i h0
 split at h
 ·exact absurd (congrArg (fun r => r.2.2) h) (by simp)
 rename_i h1
 split at h
 ·exact absurd (congrArg (fun r => r.2.2) h) (by simp)
 rename_i h2
 have h0 : (Xf b a).2.2 = 0 := by simpa using h0
 obtain ⟨⟨k1, k2, k3, k4⟩, k5, k6, k7⟩ := UJ (b := b) (a := a) (n := (Xf b a).1) (e := (Xf b a).2.1) (by rw [← h0])
 generalize (Xf b a).1 = n at *
 generalize (Xf b a).2.1 = f at *
 simp only [Prod.mk.injEq] at h
 obtain ⟨rfl, rfl, _⟩ := h
 have hl : ((b.drop f.toNat).take n.toNat).length = n.toNat := by simp; omega
 refine ⟨⟨k1, by omega, by omega, ?_⟩, by omega, by omega⟩
 rw [show (f + n - a).toNat = (f - a).toNat + n.toNat by omega, List.take_add, k4, List.drop_drop, show a.toNat + (f - a).toNat = f.toNat by omega]
 unfold Xo
 rw [hl, show ((n.toNat : Nat) : Int) = n by omega]
end Go.Fw
namespace Go.Fw
open Go
set_option linter.unusedVariables false
theorem X7I {n : Nat} (h : n < 128) : vS n = [UInt8.ofNat n] := by rw [vS, if_pos h]
end Go.Fw
namespace Go.Fw
open Go
set_option linter.unusedVariables false
abbrev zV : Val := .mk 0 0 0 [] []
def Xr (g : Nat → Int → Val × Int × Int) (a : Int) : Nat → List Val × Int × Int
 | 0 => ([], a, 0)
 | k + 1 => let p := Xr g a k
  if p.2.2 ≠ 0 then p else let r := g k p.2.1; (p.1 ++ [r.1], r.2.1, r.2.2)
def Ui (k n : Int) : Bool := if k = 8 then decide (64 < n) else decide (25 < n) || decide (n % 2 = 0)
def XW (gl gp : Nat → Int → Val × Int × Int) (b : List UInt8) (a k : Int) : Val × Int × Int :=
 if k = 1 ∨ k = 2 ∨ k = 5 ∨ k = 6 then let r := Xn b a; (.mk k r.1 0 [] [], r.2.1, r.2.2)
 else if k = 3 then let r := Xn b a
  if r.2.2 ≠ 0 then (.mk 3 0 0 [] [], r.2.1, r.2.2) else let q := Xn b r.2.1; (.mk 3 r.1 q.1 [] [], q.2.1, q.2.2)
 else if k = 4 then let r := Ye b a 100; (.mk 4 0 0 r.1 [], r.2.1, r.2.2)
 else if k = 7 ∨ k = 8 then let c := Xf b a
  if c.2.2 ≠ 0 then (.mk k 0 0 [] [], c.2.1, c.2.2) else if Ui k c.1 then (.mk k 0 0 [] [], c.2.1, 2) else
   let p := Xr (if k = 8 then gl else gp) c.2.1 c.1.toNat; (.mk k 0 0 [] p.1, p.2.1, p.2.2)
 else (.mk k 0 0 [] [], a, 0)
def Yt (gl gp : Nat → Int → Val × Int × Int) (m : Nat) (b : List UInt8) (a want : Int) : Val × Int × Int :=
 if a = b.length then (zV, a, 3) else
  let k : Int := ((b[a.toNat]?).getD 0).toNat
  if 8 < k ∨ (k = 8 ∧ m = 0) ∨ (want ≠ 0 ∧ k ≠ want) then (zV, a, 2) else
   let c := XW gl gp b (a + 1) k
   if c.2.2 = 0 ∧ X6 8 c.1 = false then (c.1, c.2.1, 2) else c
def noG (_ : Nat) (a : Int) : Val × Int × Int := (zV, a, 2)
def X04 (b : List UInt8) (a want : Int) : Val × Int × Int := Yt noG noG 0 b a want
def UI (b : List UInt8) (i : Nat) (a : Int) : Val × Int × Int := X04 b a (5 + (i % 2 : Nat))
def Uo (b : List UInt8) : Nat → Int → Val × Int × Int
 | 0, a => Yt noG (UI b) 0 b a 0
 | m + 1, a => Yt (fun _ e => Uo b m e) (UI b) (m + 1) b a 0
def X0F (b : List UInt8) : Nat → Nat → Int → Val × Int × Int
 | 0 => noG
 | m + 1 => fun _ e => Uo b m e
theorem Vz (b : List UInt8) (m : Nat) (a : Int) : Uo b m a = Yt (X0F b m) (UI b) m b a 0 := by
 cases m <;> rfl
def Yl (b : List UInt8) (a : Int) : Val × Int × Int :=
 if a < 0 ∨ (b.length : Int) < a then (zV, 0, 1) else let r := Uo b 8 a; if r.2.2 ≠ 0 then (zV, 0, r.2.2) else r
theorem X37 : ∀ (v : Val) (m m' : Nat), m ≤ m' → X6 m v = true → X6 m' v = true := by
 intro v
 induction v using Val.rec (motive_2 := fun l => ∀ (m m' : Nat), m ≤ m' → Yk m l = true → Yk m' l = true) with
 | mk k n d s l ih =>
  intro m m' hm h
  rw [X6] at h ⊢
  by_cases hk : k = 8
  ·subst hk
   simp at h ⊢
   refine ⟨h.1, ⟨h.2.1.1, h.2.1.2.1, by omega⟩, ih _ _ (by omega) h.2.2⟩
  ·simp only [hk, if_false] at h ⊢
   exact h
 | nil => rfl
 | cons v r ih1 ih2 =>
  rename_i hm h
  rw [Yk] at h ⊢
  simp at h ⊢
  exact ⟨ih1 _ _ hm h.1, ih2 _ _ hm h.2⟩
end Go.Fw
namespace Go.Fw
open Go Go.Proofs
set_option maxRecDepth 100000
set_option linter.unusedVariables false
set_option linter.unusedSimpArgs false
abbrev X0i (n : Nat) : AVal := .d (.v (.int .u64 n))
abbrev n8 (n : Nat) : Value := .int .u8 n
abbrev n64 (n : Nat) : Value := .int .u64 n
abbrev ni (n : Nat) : Value := .int .i64 n
theorem Yi {src dst : TypeId} {k : IntKind} {a : Nat} (hs : (Tryd.prog.underlying src).isSome = true) (hd : VA Tryd.prog dst .u8 = true) (w : World) : (convert src dst (.int k (a : Int))).run Tryd.prog w = .ok (n8 (a % 256)) w :=
 Xal hs hd rfl w
theorem Xax : ∀ m, m < 256 → m ||| 128 = m % 128 + 128 := by decide +kernel
theorem Vv {n : Nat} (h : n < 18446744073709551616) : (vS n).length ≤ 10 := by
 obtain ⟨h1, h2, _⟩ := X23 n
 exact X2I 10 h1 (by rw [h2]; exact Nat.lt_of_lt_of_le h (by decide)) (by omega)
theorem X8O {n : Nat} (h : 128 ≤ n) : vS n = UInt8.ofNat (n % 128 + 128) :: vS (n / 128) := by rw [vS, if_neg (by omega)]
theorem X3j (n : Nat) (hn : n < 18446744073709551616) : Con Tryd.prog 32 [] [ani, X0i n] [(130, .row 1 ((vS n).map Xa))] (.own 130 (vS n).length) := by
 refine Xb (xs := [.own 130 (vS n).length]) Tryd.func32 rfl Tryd.ntmps32 rfl rfl rfl (fun E => ?_)
 refine X0 ?_; refine JR ?_; refine Z0 ?_; refine JD ?_; refine X0 ?_; refine X5 ?_
 refine Y6 (X4E 0 130 1 rfl rfl rfl) ?_
 refine XR (ι := List UInt8 × Nat) (fun i => i.1 ++ vS i.2 = vS n ∧ i.2 ≤ n) (fun i => ⟨20, [(1, X0i i.2), (0, .own 130 i.1.length)], [(130, .row 1 (i.1.map Xa))]⟩) (fun i => i.2) ([], n) ⟨rfl, Nat.le_refl _⟩
  (Xg rfl ⟨JL, JL, trivial⟩ ⟨rfl, trivial⟩) ?_
 rintro ⟨pre, m⟩ ⟨hpre, hm⟩
 simp only at hpre hm
 have hlen : pre.length ≤ 10 := by
  have h1 := congrArg List.length hpre
  have h2 := Vv hn
  simp only [List.length_append] at h1; omega
 by_cases h : 128 ≤ m
 ·have hv := X8O h
  have e1 : n8 (m % 256 ||| 128) = n8 (UInt8.ofNat (m % 128 + 128)).toNat := by rw [Xax _ (by omega), Ve (by omega)]; congr 2; omega
  have e2 : n64 (m / 2 ^ 7) = n64 (m / 128) := rfl
  refine X0 ?_; refine X0 ?_; refine JR ?_; refine Z1 ?_; refine Z2 ?_; refine JD ?_; refine JT ?_; refine X3 ?_; refine X5 ?_; refine X0 ?_; refine JR ?_; refine Z1 ?_; refine Z1 ?_
  refine Z3 (u := n64 m) (r := n8 (m % 256)) ?_ (hr := by exact Yi rfl rfl)
  refine Z4 (op := .or) (r' := _) (u := n8 (m % 256)) (v := n8 128) ?_ (hr' := by exact e1) (hr := by exact U6 (by rw [Y0]; omega) (by rw [Y0]; omega)); refine Z5 ?_; refine Z6 ?_; refine Z0 ?_; refine JD ?_
  refine JR ?_; refine Z1 ?_; refine Z4 (op := .shr) (r' := _) (u := n64 m) (v := n64 7) ?_ (hr' := by exact e2) (hr := by exact X2L (by decide)); refine Z0 ?_; refine JD ?_
  refine ⟨(pre ++ [UInt8.ofNat (m % 128 + 128)], m / 128), ⟨by simp only; rw [← hpre, hv]; simp, by simp only; omega⟩, by simp only; omega, Xg rfl ⟨JL, (by refine AVal.le_of_eq ?_; refine Eq.trans (b := AVal.own 130 (_ + _)) rfl ?_; simp), trivial⟩ ⟨?_, trivial⟩⟩
  refine Eq.trans (b := AObj.row 1 (_ ++ [[.v (n8 _)]])) rfl ?_
  simp
 ·have hv : vS m = [UInt8.ofNat m] := X7I (by omega)
  have e3 : n8 (m % 256) = n8 (UInt8.ofNat m).toNat := by rw [Ve (by omega)]; congr 2; omega
  refine X0 ?_; refine X0 ?_; refine JR ?_; refine Z1 ?_; refine Z2 ?_; refine JD ?_; refine JF ?_; refine Xt ?_; refine X0 ?_; refine JR ?_; refine Z1 ?_; refine Z1 ?_
  refine Z3 (u := n64 m) (r := n8 (UInt8.ofNat m).toNat) ?_ (hr := by exact by rw [← e3]; exact Yi rfl rfl); refine Z5 ?_; refine Z6 ?_; refine Z0 ?_; refine JD ?_
  refine X1 ⟨_, Xi 4 (y := .own 130 (vS n).length) (AVal.le_of_eq ?_), ⟨rfl, trivial⟩, Xc ⟨?_, trivial⟩⟩
  ·refine Eq.trans (b := AVal.own 130 (_ + _)) rfl ?_
   rw [← hpre, hv]; simp
  ·refine Eq.trans (b := AObj.row 1 (_ ++ [[.v (n8 _)]])) rfl ?_
   rw [← hpre, hv]; simp
end Go.Fw
namespace Go.Fw
open Go Go.Proofs
set_option maxRecDepth 100000
set_option linter.unusedVariables false
set_option linter.unusedSimpArgs false
theorem X7J (n : Int) (hn : n ≤ 9223372036854775807) : Con Tryd.prog 20 [] [ai n] [(130, .row 1 ((Xk n).map Xa))] (.own 130 (Xk n).length) := by
 refine Xb (xs := [.own 130 (Xk n).length]) Tryd.func20 rfl Tryd.ntmps20 rfl rfl rfl (fun E => ?_)
 by_cases h : n < 0
 ·rw [show Xk n = [] by simp [Xk, h]]
  refine X0 ?_; refine JR ?_; refine Z0 ?_; refine JD ?_; refine X0 ?_; refine X0 ?_; refine JR ?_; refine Z1 ?_; refine Z7 ?_; refine JD ?_; refine JT ?_; refine X0 ?_; refine JR ?_; refine Z0 ?_
  refine JD ?_
  refine Y6 (X4E 2 130 1 rfl rfl rfl) ?_
  exact X1 ⟨_, St.le_refl _, ⟨rfl, trivial⟩, Xc ⟨rfl, trivial⟩⟩
 ·obtain ⟨m, rfl⟩ : ∃ m : Nat, n = m := ⟨n.toNat, by omega⟩
  rw [show Xk (m : Int) = vS m by unfold Xk; rw [if_neg h, Int.toNat_natCast]]
  refine X0 ?_; refine JR ?_; refine Z0 ?_; refine JD ?_; refine X0 ?_; refine X0 ?_; refine JR ?_; refine Z1 ?_; refine Z7 ?_; refine JD ?_; refine JF ?_; refine X3 ?_; refine X0 ?_; refine JR ?_
  refine Z1 ?_; refine Z3 (u := ni m) (r := n64 m) ?_ (hr := by exact YE rfl rfl (by rw [Xz]; omega)); refine Z8 (hcon := X3j m (by omega)) ?_; refine Z0 ?_; refine JD ?_
  exact X1 ⟨_, St.le_refl _, ⟨rfl, trivial⟩, Xc ⟨rfl, trivial⟩⟩
theorem X7f (n : Int) (hn : -9223372036854775808 ≤ n ∧ n ≤ 9223372036854775807) : Con Tryd.prog 35 [] [ai n] [(130, .row 1 ((XF n).map Xa))] (.own 130 (XF n).length) := by
 refine Xb (xs := [.own 130 (XF n).length]) Tryd.func35 rfl Tryd.ntmps35 rfl rfl rfl (fun E => ?_)
 by_cases h : n < 0
 ·obtain ⟨m, rfl⟩ : ∃ m : Nat, n = -(m : Int) - 1 := ⟨(-n - 1).toNat, by omega⟩
  have ez : zig (-(m : Int) - 1) = 2 * m + 1 := by unfold zig; rw [if_pos (by omega)]; omega
  unfold XF; rw [ez]
  have ew : IntKind.u64.wrap (-(m : Int) - 1) = ((18446744073709551615 - m : Nat) : Int) := by rw [IntKind.wrap_u64]; omega
  have es : (18446744073709551615 - m) * 2 ^ 1 % 2 ^ IntKind.u64.bits = 18446744073709551614 - 2 * m := by
   rw [show 2 ^ IntKind.u64.bits = 18446744073709551616 from rfl]; omega
  have ec : 2 ^ IntKind.u64.bits - 1 - (18446744073709551614 - 2 * m) = 2 * m + 1 := by
   rw [show 2 ^ IntKind.u64.bits = 18446744073709551616 from rfl]; omega
  have hcompl : ∀ w, (Op.unary .xor (n64 (18446744073709551614 - 2 * m))).run Tryd.prog w = .ok (n64 (2 * m + 1)) w := fun w => by
   have h := X8r (P := Tryd.prog) (k := .u64) (a := 18446744073709551614 - 2 * m) rfl (by rw [show 2 ^ IntKind.u64.bits = 18446744073709551616 from rfl]; omega) w
   rwa [ec] at h
  refine X0 ?_; refine JR ?_; refine Z0 ?_; refine JD ?_; refine X0 ?_; refine JR ?_; refine Z1 ?_
  refine Z3 (u := .int .i64 (-(m : Int) - 1)) (r := n64 (18446744073709551615 - m)) ?_ (hr := by exact by intro w; show _ = Result.ok (Value.int .u64 ((18446744073709551615 - m : Nat) : Int)) w; rw [← ew]; exact X0V rfl rfl w)
  refine Z4 (op := .shl) (r' := n64 (18446744073709551614 - 2 * m)) (u := n64 (18446744073709551615 - m)) (v := n64 1) ?_ (hr' := by exact congrArg n64 es) (hr := by exact YX rfl (by decide)); refine Z0 ?_
  refine JD ?_; refine X0 ?_; refine X0 ?_; refine JR ?_; refine Z1 ?_; refine Z7 ?_; refine JD ?_; refine JT ?_; refine JR ?_; refine Z1 ?_
  refine Z9 (u := n64 (18446744073709551614 - 2 * m)) (r := n64 (2 * m + 1)) ?_ (hr := by exact hcompl); refine Z0 ?_; refine JD ?_; refine X0 ?_; refine JR ?_; refine Z1 ?_
  refine Z8 (hcon := X3j (2 * m + 1) (by omega)) ?_; refine Z0 ?_; refine JD ?_
  exact X1 ⟨_, St.le_refl _, ⟨rfl, trivial⟩, Xc ⟨rfl, trivial⟩⟩
 ·obtain ⟨m, rfl⟩ : ∃ m : Nat, n = m := ⟨n.toNat, by omega⟩
  have ez : zig (m : Int) = 2 * m := by unfold zig; rw [if_neg (by omega)]; omega
  unfold XF; rw [ez]
  have es : m * 2 ^ 1 % 2 ^ IntKind.u64.bits = 2 * m := by
   rw [show 2 ^ IntKind.u64.bits = 18446744073709551616 from rfl]; omega
  refine X0 ?_; refine JR ?_; refine Z0 ?_; refine JD ?_; refine X0 ?_; refine JR ?_; refine Z1 ?_; refine Z3 (u := ni m) (r := n64 m) ?_ (hr := by exact YE rfl rfl (by rw [Xz]; omega))
  refine Z4 (op := .shl) (r' := n64 (2 * m)) (u := n64 m) (v := n64 1) ?_ (hr' := by exact congrArg n64 es) (hr := by exact YX rfl (by decide)); refine Z0 ?_; refine JD ?_; refine X0 ?_; refine X0 ?_
  refine JR ?_; refine Z1 ?_; refine Z7 ?_; refine JD ?_; refine JF ?_; refine X3 ?_; refine X0 ?_; refine JR ?_; refine Z1 ?_; refine Z8 (hcon := X3j (2 * m) (by omega)) ?_; refine Z0 ?_; refine JD ?_
  exact X1 ⟨_, St.le_refl _, ⟨rfl, trivial⟩, Xc ⟨rfl, trivial⟩⟩
theorem Vu (n : Int) (hn : n ≤ 9223372036854775807) : Con Tryd.prog 20 [] [ai n] [] (.d (Xv (Xk n))) := (X7J n hn).data (by simp)
theorem VG (n : Int) (hn : -9223372036854775808 ≤ n ∧ n ≤ 9223372036854775807) : Con Tryd.prog 35 [] [ai n] [] (.d (Xv (XF n))) := (X7f n hn).data (by simp)
end Go.Fw
namespace Go.Fw
open Go Go.Proofs
set_option maxRecDepth 100000
set_option linter.unusedVariables false
set_option linter.unusedSimpArgs false
abbrev X8 (l : List UInt8) : AVal := .d (.v (.string (X4 l)))
theorem X8L (s : List UInt8) (hs : s.length ≤ 65536) : Con Tryd.prog 33 [] [X8 s] [(131, .row 1 ((Xo s).map Xa))] (.own 131 (Xo s).length) := by
 refine Xb (xs := [.own 131 (Xo s).length]) Tryd.func33 rfl Tryd.ntmps33 rfl rfl rfl (fun E => ?_)
 have hl : (Xk (s.length : Int)).length ≤ 10 := by rw [Vd (by omega)]; exact Vv (by omega)
 have hsz : (X4 s).size = s.length := rfl
 have hlm : (List.map Xa (Xk (s.length : Int))).length = (Xk (s.length : Int)).length := by simp
 generalize hhd : Xk (s.length : Int) = hd at *
 have hput : Xo s = hd ++ s := by unfold Xo; rw [hhd]
 have hpc := Vu s.length (by omega)
 rw [hhd] at hpc
 have hm1 : hd.length = min (hd.map Xa).length (List.replicate ((hd.map Xa).length + (X4 s).size) (zD (Value.int IntKind.u8 0).cells.toList)).length := by simp
 have hk : hd.length ≤ ((hd.map Xa).take hd.length ++ (List.replicate ((hd.map Xa).length + (X4 s).size) (zD (Value.int IntKind.u8 0).cells.toList)).drop hd.length).length := by simp
 have hm2 : s.length = min (s.map Xa).length (((hd.map Xa).take hd.length ++ (List.replicate ((hd.map Xa).length + (X4 s).size) (zD (Value.int IntKind.u8 0).cells.toList)).drop hd.length).length - hd.length) := by simp [hsz]
 refine X0 ?_; refine JR ?_; refine Z0 ?_; refine JD ?_; refine X0 ?_; refine JR ?_; refine Z1 ?_; refine Za ?_; refine Z8 (hcon := hpc) ?_; refine Z0 ?_; refine JD ?_; refine X0 ?_; refine JR ?_
 refine Z1 ?_; refine Zb ?_; refine Z1 ?_; refine Za ?_; refine Zc ?_; refine Zd (γ := 131) ?_; refine Z0 ?_; refine JD ?_; refine X0 ?_; refine JR ?_; refine Z1 ?_; refine Z1 ?_; refine Z1 ?_
 refine Ze (m := hd.length) ?_ (hm := by exact hm1); refine Zf (k := hd.length) ?_ (hk := by exact hk); refine Z1 ?_; refine Zg (m := s.length) ?_ (hk := by exact hk) (hm := by exact hm2); refine JD ?_; refine X0 ?_
 refine JR ?_; refine Z1 ?_; refine Z0 ?_; refine JD ?_
 refine X1 ⟨_, Xi 2 (y := .own 131 (Xo s).length) (AVal.le_of_eq ?_), ⟨rfl, trivial⟩, Xc ⟨?_, trivial⟩⟩
 ·refine Eq.trans (b := AVal.own 131 (_ + _)) rfl ?_
  simp [hput, hsz]
 ·refine Eq.trans (b := AObj.row 1 (List.take _ _ ++ _ ++ List.drop _ _)) rfl ?_
  rw [hput]
  congr 1
  rw [List.take_of_length_le (l := hd.map Xa) (by simp), List.take_left' (by simp), List.take_of_length_le (by simp), List.drop_of_length_le (by simp [hsz]), List.append_nil, List.map_append]
theorem VB (s : List UInt8) (hs : s.length ≤ 65536) : Con Tryd.prog 33 [] [X8 s] [] (.d (Xv (Xo s))) := (X8L s hs).data (by simp)
end Go.Fw
namespace Go.Fw
open Go Go.Proofs
set_option maxRecDepth 100000
set_option linter.unusedVariables false
set_option linter.unusedSimpArgs false
theorem X52 {c : UInt8} (h : (97 ≤ c.toNat ∧ c.toNat ≤ 122) ∨ (65 ≤ c.toNat ∧ c.toNat ≤ 90)) : US c = true := decide_eq_true h
theorem X3d {c : UInt8} (h : ¬ ((97 ≤ c.toNat ∧ c.toNat ≤ 122) ∨ (65 ≤ c.toNat ∧ c.toNat ≤ 90))) : US c = false := decide_eq_false h
theorem X54 (c : UInt8) : Con Tryd.prog 56 [] [au8 c.toNat] [] (ab (US c)) := by
 refine Xb (xs := [ab (US c)]) Tryd.func56 rfl Tryd.ntmps56 rfl rfl rfl (fun E => ?_)
 by_cases h1 : 97 ≤ c.toNat
 ·by_cases h2 : c.toNat ≤ 122
  ·rw [X52 (by omega)]
   refine X0 ?_; refine JR ?_; refine Z0 ?_; refine JD ?_; refine X0 ?_; refine JR ?_; refine Z1 ?_; refine Z2 ?_; refine Z1 ?_; refine Z1 ?_; refine Zh ?_; refine Zi ?_; refine Z1 ?_; refine Zj ?_; refine Zj ?_
   refine Zj ?_; refine Zk ?_; refine Zk ?_; refine Zj ?_; refine Zi ?_; refine Z0 ?_; refine JD ?_
   first | exact X1 ⟨_, St.le_refl _, ⟨rfl, trivial⟩, X2 _⟩ | exact X1 ⟨_, Xi 2 (y := ab true) (AVal.le_of_eq (by refine Eq.trans (b := ab (decide _)) rfl ?_; exact congrArg ab (by simp; omega))), ⟨rfl, trivial⟩, X2 _⟩ | fail
  ·rw [X3d (by omega)]
   refine X0 ?_; refine JR ?_; refine Z0 ?_; refine JD ?_; refine X0 ?_; refine JR ?_; refine Z1 ?_; refine Z2 ?_; refine Z1 ?_; refine Z1 ?_; refine Zh ?_; refine Zi ?_; refine Z1 ?_; refine Z1 ?_; refine Z2 ?_
   refine Z1 ?_; refine Z1 ?_; refine Zh ?_; refine Zi ?_; refine Zl ?_; refine Z0 ?_; refine JD ?_
   first | exact X1 ⟨_, St.le_refl _, ⟨rfl, trivial⟩, X2 _⟩ | exact X1 ⟨_, Xi 2 (y := ab false) (AVal.le_of_eq (by refine Eq.trans (b := ab (decide _)) rfl ?_; exact congrArg ab (by simp; omega))), ⟨rfl, trivial⟩, X2 _⟩ | fail
 by_cases h3 : 65 ≤ c.toNat
 ·by_cases h4 : c.toNat ≤ 90
  ·rw [X52 (by omega)]
   refine X0 ?_; refine JR ?_; refine Z0 ?_; refine JD ?_; refine X0 ?_; refine JR ?_; refine Z1 ?_; refine Z2 ?_; refine Z1 ?_; refine Zj ?_; refine Zj ?_; refine Zl ?_; refine Z1 ?_; refine Z1 ?_; refine Z2 ?_
   refine Z1 ?_; refine Z1 ?_; refine Zh ?_; refine Zi ?_; refine Zl ?_; refine Z0 ?_; refine JD ?_
   first | exact X1 ⟨_, St.le_refl _, ⟨rfl, trivial⟩, X2 _⟩ | exact X1 ⟨_, Xi 2 (y := ab true) (AVal.le_of_eq (by refine Eq.trans (b := ab (decide _)) rfl ?_; exact congrArg ab (by simp; omega))), ⟨rfl, trivial⟩, X2 _⟩ | fail
  ·rw [X3d (by omega)]
   refine X0 ?_; refine JR ?_; refine Z0 ?_; refine JD ?_; refine X0 ?_; refine JR ?_; refine Z1 ?_; refine Z2 ?_; refine Z1 ?_; refine Zj ?_; refine Zj ?_; refine Zl ?_; refine Z1 ?_; refine Z1 ?_; refine Z2 ?_
   refine Z1 ?_; refine Z1 ?_; refine Zh ?_; refine Zi ?_; refine Zl ?_; refine Z0 ?_; refine JD ?_
   first | exact X1 ⟨_, St.le_refl _, ⟨rfl, trivial⟩, X2 _⟩ | exact X1 ⟨_, Xi 2 (y := ab false) (AVal.le_of_eq (by refine Eq.trans (b := ab (decide _)) rfl ?_; exact congrArg ab (by simp; omega))), ⟨rfl, trivial⟩, X2 _⟩ | fail
 rw [X3d (by omega)]
 repeat first | refine X0 ?_ | (refine JR ?_; (repeat first | refine Z1 ?_ | refine Z0 ?_ | refine Z2 ?_ | refine Zl ?_ | refine Zj ?_); refine JD ?_)
 first | exact X1 ⟨_, St.le_refl _, ⟨rfl, trivial⟩, X2 _⟩ | exact X1 ⟨_, Xi 2 (y := ab false) (AVal.le_of_eq (by refine Eq.trans (b := ab (decide _)) rfl ?_; exact congrArg ab (by simp; omega))), ⟨rfl, trivial⟩, X2 _⟩ | fail
theorem X9X {s : List UInt8} (h : s = []) : XM s = false := by subst h; rfl
theorem X8S {s : List UInt8} (h : 20 < s.length) : XM s = false := by unfold XM; rw [decide_eq_false (by omega)]; rfl
theorem X90 {s : List UInt8} {c : UInt8} (hc : s[0]? = some c) (h : US c = false) : XM s = false := by unfold XM; rw [hc, Option.getD_some, h]; simp
theorem X3r {s : List UInt8} {c : UInt8} {i : Nat} (hc : s[i]? = some c) (h : YM c = false) : XM s = false := by
 unfold XM
 rw [show s.all YM = false by rw [List.all_eq_false]; exact ⟨c, List.mem_of_getElem? hc, by simp [h]⟩]
 simp
theorem X7T {s : List UInt8} {c : UInt8} (hc : s[0]? = some c) (h : US c = true) (h20 : ¬ 20 < s.length) (hall : ∀ j, j < s.length → ∃ b, s[j]? = some b ∧ YM b = true) : XM s = true := by
 have hl := (List.getElem?_eq_some_iff.1 hc).1
 unfold XM
 rw [hc, Option.getD_some, h, decide_eq_true (by omega)]
 simp only [Bool.true_and, List.all_eq_true]
 intro b hb
 obtain ⟨j, hj⟩ := List.getElem?_of_mem hb
 obtain ⟨b', h1, h2⟩ := hall j (List.getElem?_eq_some_iff.1 hj).1
 rw [hj] at h1
 obtain rfl := Option.some.inj h1
 exact h2
theorem X2U {s : List UInt8} {i : Nat} {c : UInt8} (hc : s[i]? = some c) (h : YM c = true) (hall : ∀ j, j < i → ∃ b, s[j]? = some b ∧ YM b = true) : ∀ j, j < i + 1 → ∃ b, s[j]? = some b ∧ YM b = true := fun j hj => by
 by_cases e : j = i
 ·subst e; exact ⟨c, hc, h⟩
 ·exact hall j (by omega)
theorem X10 (s : List UInt8) : Con Tryd.prog 39 [] [.d (.v (.string (X4 s)))] [] (ab (XM s)) := by
 refine Xb (xs := [ab (XM s)]) Tryd.func39 rfl Tryd.ntmps39 rfl rfl rfl (fun E => ?_)
 have hsz : (X4 s).size = s.length := rfl
 by_cases h0 : s = []
 ·rw [X9X h0]
  subst h0
  repeat first | refine X0 ?_ | (refine JR ?_; (repeat first | refine Z1 ?_ | refine Z0 ?_ | refine Zm ?_ | refine Zi ?_ | refine Zj ?_); refine JD ?_) | refine JT ?_
  exact X1 ⟨_, St.le_refl _, ⟨rfl, trivial⟩, X2 _⟩
 by_cases h20 : 20 < s.length
 ·rw [X8S h20]
  have h20' : (20 : Int) < (X4 s).size := by omega
  refine X0 ?_; refine JR ?_; refine Z0 ?_; refine JD ?_; refine X0 ?_; refine X0 ?_; refine JR ?_; refine Z1 ?_; refine Zm ?_; refine Z1 ?_; refine Z1 ?_; refine Za ?_; refine Zn ?_; refine Zl ?_
  refine Z1 ?_; refine Zj ?_; refine Zj ?_; refine Zj ?_; refine Zj ?_; refine Zi ?_; refine JD ?_; refine JT ?_; refine X0 ?_; refine JR ?_; refine Z0 ?_; refine JD ?_
  exact X1 ⟨_, St.le_refl _, ⟨rfl, trivial⟩, X2 _⟩
 have h20' : ¬ (20 : Int) < (X4 s).size := by omega
 obtain ⟨c, hc⟩ := XX (l := s) (k := 0) (by cases s with | nil => exact absurd rfl h0 | cons => simp)
 have hl := X54 c
 cases hlc : US c with
 | false =>
  rw [X90 hc hlc]
  rw [hlc] at hl
  refine X0 ?_; refine JR ?_; refine Z0 ?_; refine JD ?_; refine X0 ?_; refine X0 ?_; refine JR ?_; refine Z1 ?_; refine Zm ?_; refine Z1 ?_; refine Z1 ?_; refine Za ?_; refine Zn ?_; refine Zl ?_
  refine Z1 ?_; refine Z1 ?_; refine Zo ?_; refine Z8 (hcon := hl) ?_; refine Zp ?_; refine Zl ?_; refine JD ?_; refine JT ?_; refine X0 ?_; refine JR ?_; refine Z0 ?_; refine JD ?_
  exact X1 ⟨_, St.le_refl _, ⟨rfl, trivial⟩, X2 _⟩
 | true =>
  rw [hlc] at hl
  refine X0 ?_; refine JR ?_; refine Z0 ?_; refine JD ?_; refine X0 ?_; refine X0 ?_; refine JR ?_; refine Z1 ?_; refine Zm ?_; refine Z1 ?_; refine Z1 ?_; refine Za ?_; refine Zn ?_; refine Zl ?_
  refine Z1 ?_; refine Z1 ?_; refine Zo ?_; refine Z8 (hcon := hl) ?_; refine Zp ?_; refine Zl ?_; refine JD ?_; refine JF ?_; refine X3 ?_; refine X0 ?_; refine X0 ?_; refine JR ?_; refine Z1 ?_
  refine Za ?_; refine Z1 ?_; refine JD ?_; refine X5 ?_
  refine XR (fun i : Nat => i ≤ s.length ∧ ∀ j, j < i → ∃ b, s[j]? = some b ∧ YM b = true) (fun i => ⟨46, [(0, .d (.v (.string (X4 s)))), (18, ai (X4 s).size), (19, ai i)], []⟩) (fun i => s.length - i) 0 ⟨by omega, fun j hj => by omega⟩
   (Xg rfl ⟨JL, JL, JL, trivial⟩ trivial) ?_
  rintro i ⟨hi, hall⟩
  by_cases hil : i < s.length
  case neg =>
   obtain rfl : i = s.length := by omega
   rw [X7T hc hlc h20 hall]
   have hn : ¬ ((s.length : Nat) : Int) < (X4 s).size := by omega
   refine X0 ?_; refine JR ?_; refine Z7 ?_; refine JD ?_; refine X0 ?_; refine JF ?_; refine Xt ?_; refine X0 ?_; refine JR ?_; refine Z0 ?_; refine JD ?_
   exact X1 ⟨_, St.le_refl _, ⟨rfl, trivial⟩, X2 _⟩
  have hn : (i : Int) < (X4 s).size := by omega
  clear hl hlc hc
  obtain ⟨c, hc⟩ := XX (l := s) hil
  have hl := X54 c
  cases hlc : US c with
  | true =>
   rw [hlc] at hl
   have hnx := X2U hc (show YM c = true by unfold YM; rw [hlc]; rfl) hall
   repeat first | refine X0 ?_ | (refine JR ?_; (repeat first | refine Z1 ?_ | refine Z0 ?_ | refine Z7 ?_ | refine Zc ?_ | refine Zp ?_ | refine Zl ?_ | refine Zo ?_ | refine Zj ?_ | refine Zk ?_ | refine Z8 (hcon := hl) ?_); refine JD ?_) | refine JT ?_ | refine JF ?_ | refine X5 ?_ | refine X3 ?_
   exact ⟨i + 1, ⟨by omega, hnx⟩, by omega, Xg rfl ⟨JL, JL, JL, trivial⟩ trivial⟩
  | false =>
   rw [hlc] at hl
   by_cases g1 : 48 ≤ c.toNat
   ·by_cases g2 : c.toNat ≤ 57
    ·have hnx := X2U hc (show YM c = true by unfold YM; rw [decide_eq_true (by omega)]; simp) hall
     repeat first | refine X0 ?_ | (refine JR ?_; (repeat first | refine Z1 ?_ | refine Z0 ?_ | refine Z7 ?_ | refine Zn ?_ | refine Zc ?_ | refine Zp ?_ | refine Zi ?_ | refine Zl ?_ | refine Zo ?_ | refine Zj ?_ | refine Z8 (hcon := hl) ?_); refine JD ?_) | refine JT ?_ | refine JF ?_ | refine X5 ?_ | refine X3 ?_
     exact ⟨i + 1, ⟨by omega, hnx⟩, by omega, Xg rfl ⟨JL, JL, JL, trivial⟩ trivial⟩
    by_cases g3 : c.toNat = 95
    ·have hnx := X2U hc (show YM c = true by unfold YM; rw [decide_eq_true (by omega)]; simp) hall
     repeat first | refine X0 ?_ | (refine JR ?_; (repeat first | refine Z1 ?_ | refine Z0 ?_ | refine Z7 ?_ | refine Zn ?_ | refine Zq ?_ | refine Zc ?_ | refine Zp ?_ | refine Zi ?_ | refine Zl ?_ | refine Zo ?_ | refine Z8 (hcon := hl) ?_); refine JD ?_) | refine JT ?_ | refine JF ?_ | refine X5 ?_ | refine X3 ?_
     exact ⟨i + 1, ⟨by omega, hnx⟩, by omega, Xg rfl ⟨JL, JL, JL, trivial⟩ trivial⟩
    ·rw [X3r hc (show YM c = false by unfold YM; rw [hlc, decide_eq_false (by omega)]; rfl)]
     repeat first | refine X0 ?_ | (refine JR ?_; (repeat first | refine Z1 ?_ | refine Z0 ?_ | refine Z7 ?_ | refine Zn ?_ | refine Zq ?_ | refine Zp ?_ | refine Zi ?_ | refine Zl ?_ | refine Zo ?_ | refine Z8 (hcon := hl) ?_); refine JD ?_) | refine JT ?_ | refine X5 ?_ | refine X3 ?_
     exact X1 ⟨_, St.le_refl _, ⟨rfl, trivial⟩, X2 _⟩
   ·have g3 : ¬ c.toNat = 95 := by omega
    rw [X3r hc (show YM c = false by unfold YM; rw [hlc, decide_eq_false (by omega)]; rfl)]
    repeat first | refine X0 ?_ | (refine JR ?_; (repeat first | refine Z1 ?_ | refine Z0 ?_ | refine Z7 ?_ | refine Zq ?_ | refine Zp ?_ | refine Zi ?_ | refine Zo ?_ | refine Zj ?_ | refine Z8 (hcon := hl) ?_); refine JD ?_) | refine JT ?_ | refine X5 ?_ | refine X3 ?_
    exact X1 ⟨_, St.le_refl _, ⟨rfl, trivial⟩, X2 _⟩
end Go.Fw

/- The codec in plain Lean: what the functions compute. -/
import Derived.Test.YtpfldfkhgplcgaaGreatDoorChecked
import Derived.Test.YtpfldfkhgplcgaaGreatDoorM10
set_option maxHeartbeats 8000000
namespace Go.Fw
open Go
set_option linter.unusedVariables false
inductive Val where
 | mk (kind n d : Int) (s : List UInt8) (l : List Val)
namespace Val
def kind : Val → Int | mk k _ _ _ _ => k
def n : Val → Int | mk _ n _ _ _ => n
def d : Val → Int | mk _ _ d _ _ => d
def s : Val → List UInt8 | mk _ _ _ s _ => s
def l : Val → List Val | mk _ _ _ _ l => l
end Val
abbrev X6 (b : UInt8) : List D := [.v (.int .u8 b.toNat)]
abbrev Xf (l : List UInt8) : D := .sl 1 (l.map X6)
mutual
def V5 : Val → List D
 | .mk k n d s l => [.v (.int .i64 k), .v (.int .i64 n), .v (.int .i64 d), .v (.string (X7 s)), .sl 5 (XF l)]
def XF : List Val → List (List D)
 | [] => []
 | v :: r => V5 v :: XF r
end
theorem X25 : ∀ l : List Val, XF l = l.map V5
 | [] => by simp [XF]
 | v :: r => by simp [XF, X25 r]
theorem YR {α β : Type} {l : List α} {f : α → β} {k : Nat} {x : α} (h : l[k]? = some x) : (l.map f)[k]? = some (f x) := by simp [h]
theorem Xx {α : Type} {l : List α} {k : Nat} (h : k < l.length) : ∃ x, l[k]? = some x := ⟨_, List.getElem?_eq_getElem h⟩
def vS (n : Nat) : List UInt8 := if n < 128 then [UInt8.ofNat n] else UInt8.ofNat (n % 128 + 128) :: vS (n / 128)
termination_by n
decreasing_by omega
def Xh (n : Int) : List UInt8 := if n < 0 then [] else vS n.toNat
def zig (n : Int) : Nat := if n < 0 then 2 * (-(n + 1)).toNat + 1 else 2 * n.toNat
def zag (u : Nat) : Int := if u % 2 = 1 then -((u / 2 : Nat) : Int) - 1 else ((u / 2 : Nat) : Int)
def XS (n : Int) : List UInt8 := vS (zig n)
def Xw (s : List UInt8) : List UInt8 := Xh s.length ++ s
def Yx (l : List UInt8) : Nat := ((l.take 10).takeWhile fun b => decide (128 ≤ b.toNat)).length
def Y0 : List UInt8 → Nat
 | [] => 0
 | b :: r => b.toNat % 128 + 128 * Y0 r
def Yr (b : List UInt8) (a : Int) : Nat × Int × Int :=
 if a < 0 ∨ (b.length : Int) < a then (0, 0, 1) else
  let l := b.drop a.toNat
  let n := Yx l
  if n = 10 then (0, 0, 4) else if l.length ≤ n then (0, 0, 3) else
   if n = 9 ∧ 1 < ((l[n]?).getD 0).toNat then (0, 0, 4) else (Y0 (l.take (n + 1)), a + n + 1, 0)
def V4 (b : List UInt8) (a : Int) : Bool := let l := b.drop a.toNat; decide (0 < Yx l) && decide ((l[Yx l]?).getD 0 = 0)
def Xk (b : List UInt8) (a : Int) : Int × Int × Int :=
 let r := Yr b a
 if r.2.2 ≠ 0 then (0, 0, r.2.2) else if 9223372036854775807 < r.1 then (0, 0, 4) else if V4 b a then (0, 0, 2) else ((r.1 : Int), r.2.1, 0)
def XO (b : List UInt8) (a : Int) : Int × Int × Int :=
 let r := Yr b a
 if r.2.2 ≠ 0 then (0, 0, r.2.2) else if V4 b a then (0, 0, 2) else (zag r.1, r.2.1, 0)
def Y9 (b : List UInt8) (a : Int) : Nat × Int × Int :=
 let r := Yr b a
 if r.2.2 ≠ 0 then (0, 0, r.2.2) else if V4 b a then (r.1, 0, 2) else r
def U8 (b : List UInt8) (a : Int) (most : Int) : List UInt8 × Int × Int :=
 let r := Xk b a
 if r.2.2 ≠ 0 then ([], 0, r.2.2) else if most < r.1 then ([], 0, 4) else if (b.length : Int) - r.2.1 < r.1 then ([], 0, 3) else
  ((b.drop r.2.1.toNat).take r.1.toNat, r.2.1 + r.1, 0)
def VU (c : Nat) : Nat := if c % 2 = 1 then (c / 2) ^^^ 3988292384 else c / 2
def X0w : Nat → Nat → Nat
 | 0, c => c
 | k + 1, c => VU (X0w k c)
def X3y (c : Nat) (x : UInt8) : Nat := X0w 8 (c ^^^ x.toNat)
def X0S (l : List UInt8) : Nat := l.foldl X3y 4294967295
def XZ (l : List UInt8) : Nat := 4294967295 - X0S l
def YS (l : List UInt8) : List UInt8 := let c := XZ l; [UInt8.ofNat (c % 256), UInt8.ofNat (c / 256 % 256), UInt8.ofNat (c / 65536 % 256), UInt8.ofNat (c / 16777216)]
def XD (b : List UInt8) : List UInt8 := Xh b.length ++ b ++ YS b
def X0k (b : List UInt8) (k : Nat) : Nat := ((b[k]?).getD 0).toNat + 256 * ((b[k + 1]?).getD 0).toNat + 65536 * ((b[k + 2]?).getD 0).toNat + 16777216 * ((b[k + 3]?).getD 0).toNat
def Uo (b : List UInt8) (a : Int) : List UInt8 × Int × Int :=
 let r := Xk b a
 if r.2.2 ≠ 0 then ([], 0, r.2.2) else if (b.length : Int) - r.2.1 < 4 ∨ (b.length : Int) - r.2.1 - 4 < r.1 then ([], 0, 3) else
  let body := (b.drop r.2.1.toNat).take r.1.toNat
  if X0k b (r.2.1 + r.1).toNat ≠ XZ body then ([], 0, 21) else (body, r.2.1 + r.1 + 4, 0)
def Vc (n d : Int) : Bool := decide (1 ≤ d ∧ d ≤ 1000000000000000 ∧ -1000000000000000 ≤ n ∧ n ≤ 1000000000000000) && decide (Nat.gcd n.natAbs d.natAbs = 1)
def V7 (s : List UInt8) : Bool := s.all fun b => decide (32 ≤ b.toNat ∧ b.toNat ≤ 126)
mutual
def X8 : Nat → Val → Bool
 | m, .mk k n d s l =>
  (k == 3 || d == 0) && (k == 4 || decide (s.length = 0)) && (k == 7 || k == 8 || decide (l.length = 0)) &&
  (if k = 0 then decide (n = 0) else if k = 1 then decide (n = 0 ∨ n = 1) else if k = 2 then decide (-1000000000000000 ≤ n ∧ n ≤ 1000000000000000)
   else if k = 3 then decide (2 ≤ d) && Vc n d else if k = 4 then decide (n = 0 ∧ s.length ≤ 100) && V7 s
   else if k = 5 ∨ k = 6 then decide (1 ≤ n ∧ n ≤ 1000000) else if k = 7 then decide (n = 0 ∧ l.length % 2 = 1 ∧ l.length ≤ 25) && Ue 0 l
   else if k = 8 then decide (n = 0 ∧ l.length ≤ 64 ∧ 1 ≤ m) && Un (m - 1) l else false)
def Un : Nat → List Val → Bool
 | m, [] => true
 | m, v :: r => X8 m v && Un m r
def Ue : Nat → List Val → Bool
 | i, [] => true
 | i, v :: r => decide (v.kind = 5 + (i % 2 : Nat)) && X8 0 v && Ue (i + 1) r
end
mutual
def Xs : Val → List UInt8
 | .mk k n d s l => UInt8.ofNat k.toNat :: (if k = 1 ∨ k = 2 ∨ k = 5 ∨ k = 6 then XS n else if k = 3 then XS n ++ XS d else if k = 4 then Xw s
   else if k = 7 ∨ k = 8 then Xh l.length ++ XX l else [])
def XX : List Val → List UInt8
 | [] => []
 | v :: r => Xs v ++ XX r
end
def Ym (v : Val) : List UInt8 := if X8 8 v then Xs v else []
structure Chg where
 op : Int
 id : Int
 src : Int
 dst : Int
 name : List UInt8
 v : Val
structure Rul where
 kind : Int
 n : Int
 name : List UInt8
 key : List UInt8
 src : List UInt8
 dst : List UInt8
structure Rcd where
 kind : Int
 ts : Int
 changes : List Chg
 rule : Rul
 off : Bool
def Ub (c : UInt8) : Bool := decide ((97 ≤ c.toNat ∧ c.toNat ≤ 122) ∨ (65 ≤ c.toNat ∧ c.toNat ≤ 90))
def Y5 (c : UInt8) : Bool := Ub c || decide ((48 ≤ c.toNat ∧ c.toNat ≤ 57) ∨ c.toNat = 95)
def Yl (s : List UInt8) : Bool := decide (1 ≤ s.length ∧ s.length ≤ 20) && Ub ((s[0]?).getD 0) && s.all Y5
def V6 (v : Val) : Bool := X8 8 v && decide (v.kind = 0)
def X43 (b : Bool) (k : Int) : Bool := decide (k = 1 ∨ k = 2 ∨ k = 4) && b
def X07 (v : Val) : Bool := X43 (X8 8 v) v.kind
def idV (n : Int) : Bool := decide (1 ≤ n ∧ n ≤ 1000000)
def XV (op : Int) : Bool := decide (op = 3 ∨ op = 4 ∨ op = 5 ∨ op = 6 ∨ op = 8)
def XQ (op : Int) : Bool := decide (op = 5 ∨ op = 8)
def YM (c : Chg) : Int :=
 if decide (1 ≤ c.op ∧ c.op ≤ 8) = false ∨ idV c.id = false then 1
 else if (c.op = 6 ∧ (idV c.src = false ∨ idV c.dst = false)) ∨ (c.op ≠ 6 ∧ (c.src ≠ 0 ∨ c.dst ≠ 0)) then 1
 else if (XV c.op = false ∧ c.name ≠ []) ∨ (XQ c.op = false ∧ V6 c.v = false) then 1
 else if XV c.op = true ∧ Yl c.name = false then 6
 else if XQ c.op = true ∧ V6 c.v = false ∧ X07 c.v = false then 8 else 0
def Xdo (r : Rul) : Bool := if r.kind = 3 ∨ r.kind = 5 then decide (r.n = 1 ∨ r.n = 2 ∨ r.n = 4) else if r.kind = 7 then decide (0 ≤ r.n ∧ r.n ≤ 4000) else decide (r.n = 0)
def V9 (k : Int) : Bool := decide (1 ≤ k ∧ k ≤ 5)
def V2 (r : Rul) : Int :=
 if decide (1 ≤ r.kind ∧ r.kind ≤ 7) = false ∨ Xdo r = false then 1
 else if (V9 r.kind = false ∧ r.key ≠ []) ∨ (r.kind ≠ 6 ∧ (r.src ≠ [] ∨ r.dst ≠ [])) then 1
 else if Yl r.name = false ∨ (V9 r.kind = true ∧ Yl r.key = false) ∨ (r.src ≠ [] ∧ Yl r.src = false) ∨ (r.dst ≠ [] ∧ Yl r.dst = false) then 6 else 0
def Ya (c : Chg) : List UInt8 :=
 UInt8.ofNat c.op.toNat :: (Xh c.id ++ (if c.op = 6 then Xh c.src ++ Xh c.dst else []) ++ (if XV c.op = true then Xw c.name else []) ++ (if XQ c.op = true then Ym c.v else []))
def Ua (r : Rul) : List UInt8 := UInt8.ofNat r.kind.toNat :: (Xw r.name ++ Xw r.key ++ Xw r.src ++ Xw r.dst ++ XS r.n)
abbrev zR : Rul := ⟨0, 0, [], [], [], []⟩
def X0G (r : Rul) : Bool := decide (r.kind = 0 ∧ r.n = 0 ∧ r.name = [] ∧ r.key = [] ∧ r.src = [] ∧ r.dst = [])
def UD : List Chg → Int
 | [] => 0
 | c :: r => if YM c ≠ 0 then YM c else UD r
def Yy (r : Rcd) : Int :=
 if ¬ (1 ≤ r.kind ∧ r.kind ≤ 3 ∧ 0 ≤ r.ts ∧ r.ts ≤ 1000000000000000) then 1
 else if (r.kind ≠ 1 ∧ 0 < r.changes.length) ∨ (r.kind ≠ 2 ∧ (r.off = true ∨ X0G r.rule = false)) then 1
 else if r.kind = 2 then V2 r.rule else if UD r.changes ≠ 0 then UD r.changes else if 1000 < r.changes.length then 4 else 0
def YV (l : List Chg) : List UInt8 := (l.map Ya).flatten
def Uu (r : Rcd) : List UInt8 :=
 UInt8.ofNat r.kind.toNat :: (Xh r.ts ++ (if r.kind = 1 then Xh r.changes.length ++ YV r.changes else if r.kind = 2 then Ua r.rule ++ [if r.off then 1 else 0] else []))
def U7 (r : Rcd) : List UInt8 := if Yy r = 0 then Uu r else []
theorem X4o {α : Type} {p : α → Bool} : ∀ (l : List α) (i : Nat), (∀ j, j < i → ∃ b, l[j]? = some b ∧ p b = true) → (∀ b, l[i]? = some b → p b = false) → (l.takeWhile p).length = i
 | [], 0, _, _ => rfl
 | [], i + 1, h, _ => by obtain ⟨b, hb, _⟩ := h 0 (by omega); simp at hb
 | x :: l, 0, _, h => by have := h x (by simp); simp [List.takeWhile, this]
 | x :: l, i + 1, h, k => by
  obtain ⟨b, hb, hp⟩ := h 0 (by omega)
  simp at hb; subst hb
  simp only [List.takeWhile, hp, List.length_cons]
  rw [X4o l i (fun j hj => by simpa using h (j + 1) (by omega)) (fun b hb => k b (by simpa using hb))]
def big (l : List UInt8) (i : Nat) : Prop := ∀ j, j < i → ∃ b, l[j]? = some b ∧ 128 ≤ b.toNat
theorem X7b {l : List UInt8} {i : Nat} {c : UInt8} (h : big l i) (hc : l[i]? = some c) (hlt : c.toNat < 128) (hi : i < 10) : Yx l = i := by
 refine X4o _ _ (fun j hj => ?_) (fun b hb => ?_)
 ·obtain ⟨b, h1, h2⟩ := h j hj
  exact ⟨b, by rw [List.getElem?_take_of_lt (by omega)]; exact h1, by simpa using h2⟩
 ·rw [List.getElem?_take_of_lt hi, hc] at hb
  cases hb; simpa using hlt
theorem X7Y {l : List UInt8} {i : Nat} (h : big l i) (hi : i = min 10 l.length) : Yx l = i := by
 refine X4o _ _ (fun j hj => ?_) (fun b hb => ?_)
 ·obtain ⟨b, h1, h2⟩ := h j hj
  exact ⟨b, by rw [List.getElem?_take_of_lt (by omega)]; exact h1, by simpa using h2⟩
 ·exfalso
  have := (List.getElem?_eq_some_iff.1 hb).1
  simp at this; omega
theorem XaM {l : List UInt8} {i : Nat} {c : UInt8} (h : big l i) (hc : l[i]? = some c) (h128 : 128 ≤ c.toNat) : big l (i + 1) := fun j hj => by
 by_cases e : j = i
 ·subst e; exact ⟨c, hc, h128⟩
 ·exact h j (by omega)
theorem X2t : ∀ (l : List UInt8) (i : Nat) (c : UInt8), l[i]? = some c → Y0 (l.take (i + 1)) = Y0 (l.take i) + 2 ^ (7 * i) * (c.toNat % 128)
 | [], _, _, h => by simp at h
 | x :: l, 0, c, h => by simp at h; subst h; simp [Y0]
 | x :: l, i + 1, c, h => by
  have := X2t l i c (by simpa using h)
  simp only [List.take_succ_cons, Y0, this]
  rw [Nat.mul_add, ← Nat.mul_assoc, show 7 * (i + 1) = 7 + 7 * i by omega, Nat.pow_add, show (2 : Nat) ^ 7 = 128 from rfl]
  omega
theorem X7Z : ∀ (l : List UInt8), Y0 l < 2 ^ (7 * l.length)
 | [] => by simp [Y0]
 | x :: l => by
  have := X7Z l
  have hx := Nat.mod_lt x.toNat (show 0 < 128 by omega)
  simp only [Y0, List.length_cons]
  rw [show 7 * (l.length + 1) = 7 + 7 * l.length by omega, Nat.pow_add]
  omega
theorem X4P (l : List UInt8) (i : Nat) : Y0 (l.take i) < 2 ^ (7 * i) :=
 Nat.lt_of_lt_of_le (X7Z _) (Nat.pow_le_pow_right (by omega) (by simp; omega))
def Yf (l : List UInt8) : Nat → Nat
 | 0 => 0
 | i + 1 => Yf l i ||| (((l[i]?).getD 0).toNat % 128) * 2 ^ (7 * i) % 18446744073709551616
theorem X3I (l : List UInt8) : ∀ i, Yf l i < 18446744073709551616
 | 0 => by simp [Yf]
 | i + 1 => by
  have := X3I l i
  exact Nat.or_lt_two_pow (n := 64) this (Nat.mod_lt _ (by omega))
theorem X6D {a b i : Nat} (h : a < 2 ^ i) : a ||| b * 2 ^ i = a + 2 ^ i * b := by
 rw [Nat.or_comm, Nat.mul_comm b, ← Nat.two_pow_add_eq_or_of_lt h, Nat.add_comm]
theorem X3d (l : List UInt8) : ∀ i, i ≤ 9 → i ≤ l.length → Yf l i = Y0 (l.take i)
 | 0, _, _ => by simp [Yf, Y0]
 | i + 1, h, hl => by
  obtain ⟨c, hc⟩ := Xx (l := l) (k := i) (by omega)
  have h1 := X3d l i (by omega) (by omega)
  have h2 := X4P l i
  have h3 := Nat.mod_lt c.toNat (show 0 < 128 by omega)
  have h4 : c.toNat % 128 * 2 ^ (7 * i) < 2 ^ (7 + 7 * i) := by rw [Nat.pow_add]; exact Nat.mul_lt_mul_of_pos_right h3 (Nat.pow_pos (by omega))
  have h5 : 2 ^ (7 + 7 * i) ≤ 2 ^ 64 := Nat.pow_le_pow_right (by omega) (by omega)
  simp only [Yf, hc, Option.getD_some]
  rw [Nat.mod_eq_of_lt (Nat.lt_of_lt_of_le h4 h5), h1, X6D h2, X2t l i c hc]
theorem X7R (l : List UInt8) {c : UInt8} (hc : l[9]? = some c) (h : c.toNat ≤ 1) : Yf l 10 = Y0 (l.take 10) := by
 have hl := (List.getElem?_eq_some_iff.1 hc).1
 have h1 := X3d l 9 (by omega) (by omega)
 have h2 := X4P l 9
 simp only [Yf, hc, Option.getD_some] at h1 ⊢
 rw [X2t l 9 c hc, Nat.mod_eq_of_lt (a := c.toNat % 128 * 2 ^ (7 * 9)) (by
  have : c.toNat % 128 ≤ 1 := by omega
  have : c.toNat % 128 * 2 ^ (7 * 9) ≤ 1 * 2 ^ (7 * 9) := Nat.mul_le_mul_right _ this
  omega)]
 have := X3d l 9 (by omega) (by omega)
 simp only [Yf] at this
 rw [this]
 exact X6D h2
def VV : List UInt8 → Prop
 | [] => False
 | [c] => c.toNat < 128
 | b :: c :: m => 128 ≤ b.toNat ∧ VV (c :: m) ∧ c :: m ≠ [0]
theorem X5v : ∀ {m : List UInt8}, VV m → m ≠ [0] → 0 < Y0 m
 | [c], h, hn => by
  simp only [VV] at h
  have : c.toNat ≠ 0 := fun e => hn (by rw [show c = 0 from UInt8.toNat_inj.1 e])
  simp only [Y0]; omega
 | b :: c :: m, h, _ => by
  have := X5v h.2.1 h.2.2
  simp only [Y0] at this ⊢; omega
theorem UZ {n : Nat} (h : n < 256) : (UInt8.ofNat n).toNat = n := by simp; omega
theorem X6u (u : Nat) : VV (vS u) ∧ Y0 (vS u) = u ∧ (vS u = [0] → u = 0) := by
 induction u using Nat.strongRecOn with
 | _ u ih =>
  rw [vS]
  by_cases h : u < 128
  ·rw [if_pos h]
   simp only [VV, Y0, UZ (show u < 256 by omega)]
   refine ⟨h, by omega, fun e => ?_⟩
   have := congrArg (fun l : List UInt8 => (l.headD 1).toNat) e
   simp only [List.headD_cons, UZ (show u < 256 by omega)] at this
   simpa using this
  ·rw [if_neg h]
   obtain ⟨h1, h2, h3⟩ := ih (u / 128) (by omega)
   cases hv : vS (u / 128) with
   | nil => rw [hv] at h1; exact h1.elim
   | cons c m =>
    rw [hv] at h1 h2 h3
    have hb : (UInt8.ofNat (u % 128 + 128)).toNat = u % 128 + 128 := UZ (by omega)
    refine ⟨⟨by rw [hb]; omega, h1, fun e => by have := h3 e; omega⟩, ?_, fun e => by simp at e⟩
    simp only [Y0] at h2 ⊢
    rw [hb]; omega
theorem X8n : ∀ {m : List UInt8}, VV m → vS (Y0 m) = m
 | [c], h => by
  simp only [VV] at h
  have e : Y0 [c] = c.toNat := by simp only [Y0]; omega
  rw [e, vS, if_pos h]; simp
 | b :: c :: m, h => by
  have h1 := X8n h.2.1
  have h2 := X5v h.2.1 h.2.2
  have hb := b.toNat_lt
  have e : Y0 (b :: c :: m) = b.toNat % 128 + 128 * Y0 (c :: m) := rfl
  rw [e, vS, if_neg (by omega), show (b.toNat % 128 + 128 * Y0 (c :: m)) / 128 = Y0 (c :: m) by omega, h1]
  rw [show (b.toNat % 128 + 128 * Y0 (c :: m)) % 128 + 128 = b.toNat by have := h.1; omega]
  simp
theorem X7q : ∀ {m : List UInt8}, VV m → big m (m.length - 1) ∧ ∃ c, m[m.length - 1]? = some c ∧ c.toNat < 128 ∧ (1 < m.length → c ≠ 0)
 | [c], h => ⟨fun j hj => by simp at hj, c, rfl, h, fun h => by simp at h⟩
 | b :: c :: m, h => by
  obtain ⟨h1, x, h2, h3, h4⟩ := X7q h.2.1
  refine ⟨fun j hj => ?_, x, by simpa using h2, h3, fun _ e => ?_⟩
  ·cases j with
   | zero => exact ⟨b, rfl, h.1⟩
   | succ j => simpa using h1 j (by simp at hj ⊢; omega)
  ·by_cases hm : m = []
   ·subst hm; simp at h2; subst h2; subst e; exact h.2.2 rfl
   ·refine h4 (by cases m with | nil => exact absurd rfl hm | cons _ _ => simp) e
theorem X6F : ∀ {m : List UInt8} (k : Nat), VV m → Y0 m < 2 ^ (7 * k) → 0 < k → m.length ≤ k
 | [c], k, _, _, hk => hk
 | b :: c :: m, k, h, hn, hk => by
  have h2 := X5v h.2.1 h.2.2
  cases k with
  | zero => omega
  | succ k =>
   by_cases hk0 : k = 0
   ·subst hk0
    have e : Y0 (b :: c :: m) = b.toNat % 128 + 128 * Y0 (c :: m) := rfl
    rw [e] at hn
    have : (2 : Nat) ^ (7 * (0 + 1)) = 128 := rfl
    omega
   ·have := X6F k h.2.1 (by
     have e : Y0 (b :: c :: m) = b.toNat % 128 + 128 * Y0 (c :: m) := rfl
     rw [e, show 7 * (k + 1) = 7 + 7 * k by omega, Nat.pow_add, show (2 : Nat) ^ 7 = 128 from rfl] at hn
     omega) (by omega)
    simp only [List.length_cons] at this ⊢; omega
theorem Xfk {m : List UInt8} {c : UInt8} (h : VV m) (hl : m.length = 10) (hn : Y0 m < 18446744073709551616) (hc : m[9]? = some c) : c.toNat ≤ 1 := by
 obtain ⟨_, x, hx, h128, _⟩ := X7q h
 rw [hl, hc] at hx; cases hx
 have := X2t m 9 c hc
 rw [List.take_of_length_le (by omega)] at this
 have h9 : (2 : Nat) ^ (7 * 9) = 9223372036854775808 := rfl
 rw [this, h9] at hn
 omega
theorem Xak {m back : List UInt8} (h : VV m) (hn : Y0 m < 18446744073709551616) (front : List UInt8) :
  Yr (front ++ m ++ back) front.length = (Y0 m, (front.length : Int) + m.length, 0) ∧ V4 (front ++ m ++ back) front.length = false := by
 obtain ⟨hb, c, hc, h128, h0⟩ := X7q h
 have hlen := X6F 10 h (Nat.lt_of_lt_of_le hn (by decide)) (by omega)
 have hpos : 0 < m.length := by cases m with | nil => exact h.elim | cons _ _ => simp
 have hd : (front ++ m ++ back).drop (front.length : Int).toNat = m ++ back := by rw [Int.toNat_natCast, List.append_assoc, List.drop_left]
 have hc' : (m ++ back)[m.length - 1]? = some c := by rw [List.getElem?_append_left (by omega)]; exact hc
 have hm : Yx (m ++ back) = m.length - 1 := X7b (fun j hj => by
  obtain ⟨b, h1, h2⟩ := hb j hj
  exact ⟨b, by rw [List.getElem?_append_left (by omega)]; exact h1, h2⟩) hc' h128 (by omega)
 constructor
 ·unfold Yr
  rw [if_neg (by simp; omega)]
  simp only [hd, hm]
  rw [if_neg (by omega), if_neg (by simp; omega), if_neg (by
   rintro ⟨e, h1⟩
   rw [hc'] at h1
   have := Xfk h (by omega) hn (c := c) (by rw [← e]; exact hc)
   simp at h1; omega)]
  rw [show m.length - 1 + 1 = m.length by omega, List.take_left]
  refine Prod.ext rfl (Prod.ext ?_ rfl)
  simp only; omega
 ·unfold V4
  simp only [hd, hm, hc', Option.getD_some]
  by_cases h1 : m.length = 1
  ·simp [h1]
  ·have := h0 (by omega)
   simp [this]
theorem X6p {b : List UInt8} {a e : Int} {u : Nat} (h : Yr b a = (u, e, 0)) (hp : V4 b a = false) :
  0 ≤ a ∧ a < e ∧ e ≤ b.length ∧ (b.drop a.toNat).take (e - a).toNat = vS u ∧ u < 18446744073709551616 := by
 unfold Yr at h
 split at h
 ·simp at h
 rename_i ha
 simp only at h
 split at h
 ·simp at h
 rename_i h10
 split at h
 ·simp at h
 rename_i hle
 split at h
 ·simp at h
 rename_i h9
 simp only [Prod.mk.injEq] at h
 obtain ⟨rfl, rfl, _⟩ := h
 generalize hl : b.drop a.toNat = l at *
 have hbig : big l (Yx l) ∧ (∀ c, l[Yx l]? = some c → c.toNat < 128) ∧ Yx l < 10 := by
  have hw : ∀ (q : List UInt8), big q ((q.takeWhile fun b => decide (128 ≤ b.toNat)).length) ∧ ∀ c, q[(q.takeWhile fun b => decide (128 ≤ b.toNat)).length]? = some c → c.toNat < 128 := by
   intro q
   induction q with
   | nil => exact ⟨fun j hj => by simp at hj, fun c hc => by simp at hc⟩
   | cons x q ih =>
    by_cases hx : 128 ≤ x.toNat
    ·simp only [List.takeWhile, hx, decide_true, List.length_cons]
     refine ⟨fun j hj => ?_, fun c hc => ih.2 c (by simpa using hc)⟩
     cases j with
     | zero => exact ⟨x, rfl, hx⟩
     | succ j => simpa using ih.1 j (by omega)
    ·simp only [List.takeWhile, hx, decide_false, List.length_nil]
     exact ⟨fun j hj => by omega, fun c hc => by simp at hc; subst hc; omega⟩
  have h1 := hw (l.take 10)
  have hmore : Yx l ≤ (l.take 10).length := by unfold Yx; exact (List.takeWhile_sublist _).length_le
  have hlt : Yx l < 10 := by simp at hmore; omega
  refine ⟨fun j hj => ?_, fun c hc => h1.2 c (by unfold Yx at hc hlt; rw [List.getElem?_take_of_lt hlt]; exact hc), hlt⟩
  obtain ⟨x, h2, h3⟩ := h1.1 j hj
  rw [List.getElem?_take_of_lt (by omega)] at h2
  exact ⟨x, h2, h3⟩
 obtain ⟨hb1, hb2, hb3⟩ := hbig
 have hll : l.length = b.length - a.toNat := by rw [← hl, List.length_drop]
 obtain ⟨c, hc⟩ := Xx (l := l) (k := Yx l) (by omega)
 have hc128 := hb2 c hc
 have hcan : ∀ (k : Nat) (q : List UInt8) (c : UInt8), big q k → q[k]? = some c → c.toNat < 128 → (0 < k → c ≠ 0) → VV (q.take (k + 1)) := by
  intro k
  induction k with
  | zero =>
   intro q c _ hq hc _
   cases q with
   | nil => simp at hq
   | cons x q => simp at hq; subst hq; simpa [VV] using hc
  | succ k ih =>
   intro q c hb hq hc h0
   cases q with
   | nil => simp at hq
   | cons x q =>
    obtain ⟨y, hy, hy2⟩ := hb 0 (by omega)
    simp at hy; subst hy
    have h1 := ih q c (fun j hj => by simpa using hb (j + 1) (by omega)) (by simpa using hq) hc (fun _ => h0 (by omega))
    rw [List.take_succ_cons]
    cases q with
    | nil => simp at hq
    | cons z q =>
     refine ⟨hy2, h1, fun e => ?_⟩
     have e1 : z = 0 := by simpa using (List.cons.inj e).1
     have e2 : (q.take k) = [] := (List.cons.inj e).2
     cases k with
     | zero =>
      simp at hq; subst hq
      exact h0 (by omega) e1
     | succ k =>
      have hlt := (List.getElem?_eq_some_iff.1 hq).1
      have := congrArg List.length e2
      rw [List.length_take, List.length_nil] at this
      simp only [List.length_cons] at hlt
      omega
 have hpad : 0 < Yx l → c ≠ 0 := by
  intro h0 e
  unfold V4 at hp
  simp only [hl, hc, Option.getD_some] at hp
  simp [h0, e] at hp
 have hcn := hcan _ _ _ hb1 hc hc128 hpad
 have ha' : ¬(a < 0) ∧ ¬((b.length : Int) < a) := by simpa using ha
 refine ⟨by omega, by omega, by omega, ?_, ?_⟩
 ·rw [show (a + (Yx l : Int) + 1 - a).toNat = Yx l + 1 by omega, X8n hcn]
 ·have h1 := X4P l (Yx l)
  rw [X2t l _ c hc]
  by_cases hm9 : Yx l = 9
  ·have : c.toNat ≤ 1 := by
    have h2 := h9
    rw [hc] at h2
    simp only [hm9, true_and, Option.getD_some] at h2; omega
   rw [hm9] at h1 ⊢
   have e9 : (2 : Nat) ^ (7 * 9) = 9223372036854775808 := rfl
   rw [e9] at h1 ⊢
   omega
  ·have h2 : (2 : Nat) ^ (7 * Yx l) ≤ 2 ^ 56 := Nat.pow_le_pow_right (by omega) (by omega)
   have e56 : (2 : Nat) ^ 56 = 72057594037927936 := rfl
   rw [e56] at h2
   have h3 := Nat.mod_lt c.toNat (show 0 < 128 by omega)
   have h4 : 2 ^ (7 * Yx l) * (c.toNat % 128) ≤ 72057594037927936 * 127 := Nat.mul_le_mul h2 (by omega)
   omega
theorem XdM {c : Nat} (h : c < 4294967296) : VU c < 4294967296 := by
 unfold VU
 split
 ·exact Nat.xor_lt_two_pow (n := 32) (by omega) (by decide)
 ·omega
theorem X4K {c : Nat} (h : c < 4294967296) : ∀ k, X0w k c < 4294967296
 | 0 => h
 | k + 1 => XdM (X4K h k)
theorem X5V {c : Nat} (h : c < 4294967296) (x : UInt8) : c ^^^ x.toNat < 4294967296 :=
 Nat.xor_lt_two_pow (n := 32) h (by have := x.toNat_lt; omega)
theorem Xch {c : Nat} (h : c < 4294967296) (x : UInt8) : X3y c x < 4294967296 := X4K (X5V h x) 8
theorem XaE : ∀ (l : List UInt8) {c : Nat}, c < 4294967296 → l.foldl X3y c < 4294967296
 | [], c, h => h
 | x :: l, c, h => XaE l (Xch h x)
theorem X23 (l : List UInt8) : XZ l < 4294967296 := by unfold XZ; omega
theorem X06 (l : List UInt8) : (YS l).length = 4 := rfl
theorem Xao {p q : List UInt8} (l : List UInt8) : X0k (p ++ YS l ++ q) p.length = XZ l := by
 have hs := X23 l
 have g : ∀ i, i < 4 → (p ++ YS l ++ q)[p.length + i]? = (YS l)[i]? := fun i hi => by
  rw [List.append_assoc, List.getElem?_append_right (by omega), List.getElem?_append_left (by rw [X06]; omega)]
  congr 1; omega
 unfold X0k
 rw [show p.length = p.length + 0 from rfl, g 0 (by omega), show p.length + 0 + 1 = p.length + 1 from rfl, g 1 (by omega), show p.length + 0 + 2 = p.length + 2 from rfl, g 2 (by omega), show p.length + 0 + 3 = p.length + 3 from rfl, g 3 (by omega)]
 simp only [YS, List.getElem?_cons_zero, List.getElem?_cons_succ, Option.getD_some, UInt8.toNat_ofNat']
 omega
theorem Vl {n : Int} (h : 0 ≤ n) : Xh n = vS n.toNat := by unfold Xh; rw [if_neg (by omega)]
theorem X2C {n : Int} (h : 0 ≤ n ∧ n ≤ 9223372036854775807) (front back : List UInt8) :
  Xk (front ++ Xh n ++ back) front.length = (n, (front.length : Int) + (Xh n).length, 0) := by
 obtain ⟨h1, h2, _⟩ := X6u n.toNat
 rw [Vl h.1]
 obtain ⟨h3, h4⟩ := Xak (m := vS n.toNat) (back := back) h1 (by omega) front
 unfold Xk
 rw [h3, h4, h2]
 simp only [ne_eq, not_true_eq_false, if_false, Bool.false_eq_true]
 rw [if_neg (by omega)]
 refine Prod.ext ?_ rfl
 simp only; omega
theorem Xdc {n : Int} : zag (zig n) = n := by
 unfold zig zag
 split <;> split <;> omega
theorem XdR {u : Nat} : zig (zag u) = u := by
 unfold zig zag
 split <;> split <;> omega
theorem X8o {n : Int} (h : -9223372036854775808 ≤ n ∧ n ≤ 9223372036854775807) : zig n < 18446744073709551616 := by
 unfold zig; split <;> omega
theorem X4A {n : Int} (h : -9223372036854775808 ≤ n ∧ n ≤ 9223372036854775807) (front back : List UInt8) :
  XO (front ++ XS n ++ back) front.length = (n, (front.length : Int) + (XS n).length, 0) := by
 obtain ⟨h1, h2, _⟩ := X6u (zig n)
 obtain ⟨h3, h4⟩ := Xak (m := vS (zig n)) (back := back) h1 (by rw [h2]; exact X8o h) front
 unfold XO XS
 rw [h3, h4, h2]
 simp [Xdc]
theorem X7S {s : List UInt8} {most : Int} (hs : (s.length : Int) ≤ 9223372036854775807) (hm : (s.length : Int) ≤ most) (front back : List UInt8) :
  U8 (front ++ Xw s ++ back) front.length most = (s, (front.length : Int) + (Xw s).length, 0) := by
 have h1 := X2C (n := s.length) ⟨by omega, hs⟩ front (s ++ back)
 have e : front ++ Xw s ++ back = front ++ Xh s.length ++ (s ++ back) := by simp [Xw]
 unfold U8
 rw [e, h1]
 simp only [ne_eq, not_true_eq_false, if_false]
 rw [if_neg (by omega), if_neg (by simp only [List.length_append]; omega)]
 have e2 : ((front.length : Int) + ((Xh (s.length : Int)).length : Int)).toNat = (front ++ Xh s.length).length := by simp only [List.length_append]; omega
 refine Prod.ext ?_ (Prod.ext ?_ rfl)
 ·simp only [e2, List.drop_left, Int.toNat_natCast, List.take_left]
 ·simp only [Xw, List.length_append]; omega
theorem X3c {s : List UInt8} (hs : (s.length : Int) ≤ 9223372036854775807) (front back : List UInt8) :
  Uo (front ++ XD s ++ back) front.length = (s, (front.length : Int) + (XD s).length, 0) := by
 have h1 := X2C (n := s.length) ⟨by omega, hs⟩ front (s ++ YS s ++ back)
 have e : front ++ XD s ++ back = front ++ Xh s.length ++ (s ++ YS s ++ back) := by simp [XD]
 have h4 := X06 s
 unfold Uo
 rw [e, h1]
 simp only [ne_eq, not_true_eq_false, if_false]
 rw [if_neg (by simp only [List.length_append]; omega)]
 have e2 : ((front.length : Int) + ((Xh (s.length : Int)).length : Int)).toNat = (front ++ Xh s.length).length := by simp only [List.length_append]; omega
 have e3 : ((front.length : Int) + ((Xh (s.length : Int)).length : Int) + (s.length : Int)).toNat = (front ++ Xh s.length ++ s).length := by simp only [List.length_append]; omega
 have e4 : (List.drop (front ++ Xh (s.length : Int)).length (front ++ Xh (s.length : Int) ++ (s ++ YS s ++ back))).take s.length = s := by rw [List.drop_left, List.append_assoc, List.take_left]
 have e5 : X0k (front ++ Xh (s.length : Int) ++ (s ++ YS s ++ back)) (front ++ Xh s.length ++ s).length = XZ s := by
  have := Xao (p := front ++ Xh s.length ++ s) (q := back) s
  rwa [show front ++ Xh (s.length : Int) ++ s ++ YS s ++ back = front ++ Xh (s.length : Int) ++ (s ++ YS s ++ back) by simp] at this
 rw [e2, e3, Int.toNat_natCast, e4, e5]
 simp only [not_true_eq_false, if_false]
 refine Prod.ext rfl (Prod.ext ?_ rfl)
 simp only [XD, List.length_append, h4]; omega
def only (b : List UInt8) (a e : Int) (want : List UInt8) : Prop := 0 ≤ a ∧ a ≤ e ∧ e ≤ b.length ∧ (b.drop a.toNat).take (e - a).toNat = want
theorem X1C {b : List UInt8} {a n e : Int} (h : Xk b a = (n, e, 0)) : only b a e (Xh n) ∧ 0 ≤ n ∧ n ≤ 9223372036854775807 ∧ a < e := by
 unfold Xk at h
 simp only at h
 split at h
 ·rename_i h0; exact absurd (congrArg (fun r => r.2.2) h) h0
 rename_i h0
 split at h
 ·exact Qa
 rename_i h1
 split at h
 ·exact Qa
 rename_i h2
 have h0 : (Yr b a).2.2 = 0 := by simpa using h0
 simp only [Prod.mk.injEq] at h
 obtain ⟨rfl, rfl, _⟩ := h
 obtain ⟨k1, k2, k3, k4, k5⟩ := X6p (b := b) (a := a) (e := (Yr b a).2.1) (u := (Yr b a).1) (by rw [← h0]) (by simpa using h2)
 exact ⟨⟨k1, by omega, k3, by rw [Vl (by omega), Int.toNat_natCast]; exact k4⟩, by omega, by omega, k2⟩
theorem X4g {b : List UInt8} {a n e : Int} (h : XO b a = (n, e, 0)) : only b a e (XS n) ∧ a < e ∧ -9223372036854775808 ≤ n ∧ n ≤ 9223372036854775807 := by
 unfold XO at h
 simp only at h
 split at h
 ·rename_i h0; exact absurd (congrArg (fun r => r.2.2) h) h0
 rename_i h0
 split at h
 ·exact Qa
 rename_i h2
 have h0 : (Yr b a).2.2 = 0 := by simpa using h0
 simp only [Prod.mk.injEq] at h
 obtain ⟨rfl, rfl, _⟩ := h
 obtain ⟨k1, k2, k3, k4, k5⟩ := X6p (b := b) (a := a) (e := (Yr b a).2.1) (u := (Yr b a).1) (by rw [← h0]) (by simpa using h2)
 refine ⟨⟨k1, by omega, k3, by unfold XS; rw [XdR]; exact k4⟩, k2, ?_, ?_⟩ <;> unfold zag <;> split <;> omega
theorem X2n {b : List UInt8} {a e most : Int} {s : List UInt8} (h : U8 b a most = (s, e, 0)) : only b a e (Xw s) ∧ (s.length : Int) ≤ most ∧ a < e := by
 unfold U8 at h
 simp only at h
 split at h
 ·rename_i h0; exact absurd (congrArg (fun r => r.2.2) h) h0
 rename_i h0
 split at h
 ·exact Qa
 rename_i h1
 split at h
 ·exact Qa
 rename_i h2
 have h0 : (Xk b a).2.2 = 0 := by simpa using h0
 obtain ⟨⟨k1, k2, k3, k4⟩, k5, k6, k7⟩ := X1C (b := b) (a := a) (n := (Xk b a).1) (e := (Xk b a).2.1) (by rw [← h0])
 generalize (Xk b a).1 = n at *
 generalize (Xk b a).2.1 = f at *
 simp only [Prod.mk.injEq] at h
 obtain ⟨rfl, rfl, _⟩ := h
 have hl : ((b.drop f.toNat).take n.toNat).length = n.toNat := by simp; omega
 refine ⟨⟨k1, by omega, by omega, ?_⟩, by omega, by omega⟩
 rw [show (f + n - a).toNat = (f - a).toNat + n.toNat by omega, List.take_add, k4, List.drop_drop, show a.toNat + (f - a).toNat = f.toNat by omega]
 unfold Xw
 rw [hl, show ((n.toNat : Nat) : Int) = n by omega]
theorem X3F {n : Nat} (h : n < 128) : vS n = [UInt8.ofNat n] := by rw [vS, if_pos h]
theorem XbM {s : List UInt8} (h : s.length < 128) : XD s = UInt8.ofNat s.length :: (s ++ YS s) := by
 unfold XD
 rw [Vl (by omega), Int.toNat_natCast, X3F h]
 simp
abbrev zV : Val := .mk 0 0 0 [] []
def Y1 (g : Nat → Int → Val × Int × Int) (a : Int) : Nat → List Val × Int × Int
 | 0 => ([], a, 0)
 | k + 1 => let p := Y1 g a k
  if p.2.2 ≠ 0 then p else let r := g k p.2.1; (p.1 ++ [r.1], r.2.1, r.2.2)
def VM (k n : Int) : Bool := if k = 8 then decide (64 < n) else decide (25 < n) || decide (n % 2 = 0)
def YJ (gl gp : Nat → Int → Val × Int × Int) (b : List UInt8) (a k : Int) : Val × Int × Int :=
 if k = 1 ∨ k = 2 ∨ k = 5 ∨ k = 6 then let r := XO b a; (.mk k r.1 0 [] [], r.2.1, r.2.2)
 else if k = 3 then let r := XO b a
  if r.2.2 ≠ 0 then (.mk 3 0 0 [] [], r.2.1, r.2.2) else let q := XO b r.2.1; (.mk 3 r.1 q.1 [] [], q.2.1, q.2.2)
 else if k = 4 then let r := U8 b a 100; (.mk 4 0 0 r.1 [], r.2.1, r.2.2)
 else if k = 7 ∨ k = 8 then let c := Xk b a
  if c.2.2 ≠ 0 then (.mk k 0 0 [] [], c.2.1, c.2.2) else if VM k c.1 then (.mk k 0 0 [] [], c.2.1, 2) else
   let p := Y1 (if k = 8 then gl else gp) c.2.1 c.1.toNat; (.mk k 0 0 [] p.1, p.2.1, p.2.2)
 else (.mk k 0 0 [] [], a, 0)
def Uw (gl gp : Nat → Int → Val × Int × Int) (m : Nat) (b : List UInt8) (a want : Int) : Val × Int × Int :=
 if a = b.length then (zV, a, 3) else
  let k : Int := ((b[a.toNat]?).getD 0).toNat
  if 8 < k ∨ (k = 8 ∧ m = 0) ∨ (want ≠ 0 ∧ k ≠ want) then (zV, a, 2) else
   let c := YJ gl gp b (a + 1) k
   if c.2.2 = 0 ∧ X8 8 c.1 = false then (c.1, c.2.1, 2) else c
def noG (_ : Nat) (a : Int) : Val × Int × Int := (zV, a, 2)
def X2z (b : List UInt8) (a want : Int) : Val × Int × Int := Uw noG noG 0 b a want
def X0x (b : List UInt8) (i : Nat) (a : Int) : Val × Int × Int := X2z b a (5 + (i % 2 : Nat))
def X01 (b : List UInt8) : Nat → Int → Val × Int × Int
 | 0, a => Uw noG (X0x b) 0 b a 0
 | m + 1, a => Uw (fun _ e => X01 b m e) (X0x b) (m + 1) b a 0
def X3l (b : List UInt8) : Nat → Nat → Int → Val × Int × Int
 | 0 => noG
 | m + 1 => fun _ e => X01 b m e
theorem X2a (b : List UInt8) (m : Nat) (a : Int) : X01 b m a = Uw (X3l b m) (X0x b) m b a 0 := by
 cases m <;> rfl
def Uj (b : List UInt8) (a : Int) : Val × Int × Int :=
 if a < 0 ∨ (b.length : Int) < a then (zV, 0, 1) else let r := X01 b 8 a; if r.2.2 ≠ 0 then (zV, 0, r.2.2) else r
theorem X7c : ∀ (v : Val) (m m' : Nat), m ≤ m' → X8 m v = true → X8 m' v = true := by
 intro v
 induction v using Val.rec (motive_2 := fun l => ∀ (m m' : Nat), m ≤ m' → Un m l = true → Un m' l = true) with
 | mk k n d s l ih =>
  intro m m' hm h
  rw [X8] at h ⊢
  by_cases hk : k = 8
  ·subst hk
   simp at h ⊢
   refine ⟨h.1, ⟨h.2.1.1, h.2.1.2.1, by omega⟩, ih _ _ (by omega) h.2.2⟩
  ·simp only [hk, if_false] at h ⊢
   exact h
 | nil => rfl
 | cons v r ih1 ih2 =>
  rename_i hm h
  rw [Un] at h ⊢
  simp at h ⊢
  exact ⟨ih1 _ _ hm h.1, ih2 _ _ hm h.2⟩
open Go Go.Proofs
set_option maxRecDepth 100000
set_option linter.unusedSimpArgs false
abbrev X1b (n : Nat) : AVal := .d (.v (.int .u64 n))
abbrev n8 (n : Nat) : Value := .int .u8 n
abbrev n32 (n : Nat) : Value := .int .u32 n
abbrev n64 (n : Nat) : Value := .int .u64 n
abbrev ni (n : Nat) : Value := .int .i64 n
theorem Y6 {src dst : TypeId} {k : IntKind} {a : Nat} (hs : (Tryz.prog.underlying src).isSome = true) (hd : X1D Tryz.prog dst .u8 = true) (w : World) : (convert src dst (.int k (a : Int))).run Tryz.prog w = .ok (n8 (a % 256)) w :=
 Xdk hs hd rfl w
theorem Xia : ∀ m, m < 256 → m ||| 128 = m % 128 + 128 := by decide +kernel
theorem Vo {n : Nat} (h : n < 18446744073709551616) : (vS n).length ≤ 10 := by
 obtain ⟨h1, h2, _⟩ := X6u n
 exact X6F 10 h1 (by rw [h2]; exact Nat.lt_of_lt_of_le h (by decide)) (by omega)
theorem X9t {n : Nat} (h : 128 ≤ n) : vS n = UInt8.ofNat (n % 128 + 128) :: vS (n / 128) := by rw [vS, if_neg (by omega)]
theorem X6X (n : Nat) (hn : n < 18446744073709551616) : Con Tryz.prog 115 [] [ani, X1b n] [(130, .row 1 ((vS n).map X6))] (.own 130 (vS n).length) := by
 refine Xa (xs := [.own 130 (vS n).length]) Tryz.func115 rfl Tryz.ntmps115 rfl rfl rfl (fun E => ?_)
 refine Qd ?_; refine Qe ?_; refine Xi (UM 0 130 1 rfl rfl rfl) ?_
 refine Xu (ι := List UInt8 × Nat) (fun i => i.1 ++ vS i.2 = vS n ∧ i.2 ≤ n) (fun i => ⟨20, [(1, X1b i.2), (0, .own 130 i.1.length)], [(130, .row 1 (i.1.map X6))]⟩) (fun i => i.2) ([], n) ⟨rfl, Nat.le_refl _⟩
  (X9 rfl ⟨JL, JL, trivial⟩ ⟨rfl, trivial⟩) ?_
 rintro ⟨pre, m⟩ ⟨hpre, hm⟩
 simp only at hpre hm
 have hlen : pre.length ≤ 10 := by
  have h1 := congrArg List.length hpre
  have h2 := Vo hn
  simp only [List.length_append] at h1; omega
 by_cases h : 128 ≤ m
 ·have hv := X9t h
  have e1 : n8 (m % 256 ||| 128) = n8 (UInt8.ofNat (m % 128 + 128)).toNat := by rw [Xia _ (by omega), UZ (by omega)]; congr 2; omega
  have e2 : n64 (m / 2 ^ 7) = n64 (m / 128) := rfl
  refine Qg ?_; refine Z2 ?_; refine Qh ?_; refine X4 ?_; refine X5 ?_; refine Qi ?_; refine Z3 (u := n64 m) (r := n8 (m % 256)) ?_ (hr := by exact Y6 rfl rfl); refine Z4 (op := .or) (r' := _) (u := n8 (m % 256)) (v := n8 128) ?_ (hr' := by exact e1) (hr := by exact Vi (by rw [YK]; omega) (by rw [YK]; omega)); refine Qk ?_; refine Ql ?_; refine Z4 (op := .shr) (r' := _) (u := n64 m) (v := n64 7) ?_ (hr' := by exact e2) (hr := by exact X2E (by decide)); refine Qc ?_
  refine ⟨(pre ++ [UInt8.ofNat (m % 128 + 128)], m / 128), ⟨by simp only; rw [← hpre, hv]; simp, by simp only; omega⟩, by simp only; omega, X9 rfl ⟨JL, (by refine AVal.le_of_eq ?_; refine Eq.trans (b := AVal.own 130 (_ + _)) rfl ?_; simp), trivial⟩ ⟨?_, trivial⟩⟩
  refine Eq.trans (b := AObj.row 1 (_ ++ [[.v (n8 _)]])) rfl ?_
  simp
 ·have hv : vS m = [UInt8.ofNat m] := X3F (by omega)
  have e3 : n8 (m % 256) = n8 (UInt8.ofNat m).toNat := by rw [UZ (by omega)]; congr 2; omega
  refine Qg ?_; refine Z2 ?_; refine Qm ?_; refine Qi ?_; refine Z3 (u := n64 m) (r := n8 (UInt8.ofNat m).toNat) ?_ (hr := by exact by rw [← e3]; exact Y6 rfl rfl); refine Qk ?_
  refine X1 ⟨_, Xb 4 (y := .own 130 (vS n).length) (AVal.le_of_eq ?_), ⟨rfl, trivial⟩, Xj ⟨?_, trivial⟩⟩
  ·refine Qn ?_
   rw [← hpre, hv]; simp
  ·refine Eq.trans (b := AObj.row 1 (_ ++ [[.v (n8 _)]])) rfl ?_
   rw [← hpre, hv]; simp
theorem X8C (n : Int) (hn : n ≤ 9223372036854775807) : Con Tryz.prog 85 [] [ai n] [(130, .row 1 ((Xh n).map X6))] (.own 130 (Xh n).length) := by
 refine Xa (xs := [.own 130 (Xh n).length]) Tryz.func85 rfl Tryz.ntmps85 rfl rfl rfl (fun E => ?_)
 by_cases h : n < 0
 ·rw [show Xh n = [] by simp [Xh, h]]
  refine Qp ?_; refine Qq ?_; refine Xi (UM 2 130 1 rfl rfl rfl) ?_; exact Qr
 ·obtain ⟨m, rfl⟩ : ∃ m : Nat, n = m := ⟨n.toNat, by omega⟩
  rw [show Xh (m : Int) = vS m by unfold Xh; rw [if_neg h, Int.toNat_natCast]]
  refine Qt ?_; refine Z9 (hcon := X6X m (by omega)) ?_; exact Qu
theorem XfE (n : Int) (hn : -9223372036854775808 ≤ n ∧ n ≤ 9223372036854775807) : Con Tryz.prog 151 [] [ai n] [(130, .row 1 ((XS n).map X6))] (.own 130 (XS n).length) := by
 refine Xa (xs := [.own 130 (XS n).length]) Tryz.func151 rfl Tryz.ntmps151 rfl rfl rfl (fun E => ?_)
 by_cases h : n < 0
 ·obtain ⟨m, rfl⟩ : ∃ m : Nat, n = -(m : Int) - 1 := ⟨(-n - 1).toNat, by omega⟩
  have ez : zig (-(m : Int) - 1) = 2 * m + 1 := by unfold zig; rw [if_pos (by omega)]; omega
  unfold XS; rw [ez]
  have ew : IntKind.u64.wrap (-(m : Int) - 1) = ((18446744073709551615 - m : Nat) : Int) := by rw [IntKind.wrap_u64]; omega
  have es : (18446744073709551615 - m) * 2 ^ 1 % 2 ^ IntKind.u64.bits = 18446744073709551614 - 2 * m := by
   rw [show 2 ^ IntKind.u64.bits = 18446744073709551616 from rfl]; omega
  have ec : 2 ^ IntKind.u64.bits - 1 - (18446744073709551614 - 2 * m) = 2 * m + 1 := by
   rw [show 2 ^ IntKind.u64.bits = 18446744073709551616 from rfl]; omega
  have hcompl : ∀ w, (Op.unary .xor (n64 (18446744073709551614 - 2 * m))).run Tryz.prog w = .ok (n64 (2 * m + 1)) w := fun w => by
   have h := Xbq (P := Tryz.prog) (k := .u64) (a := 18446744073709551614 - 2 * m) rfl (by rw [show 2 ^ IntKind.u64.bits = 18446744073709551616 from rfl]; omega) w
   rwa [ec] at h
  refine Qv ?_; refine Z3 (u := .int .i64 (-(m : Int) - 1)) (r := n64 (18446744073709551615 - m)) ?_ (hr := by exact by intro w; show _ = Result.ok (Value.int .u64 ((18446744073709551615 - m : Nat) : Int)) w; rw [← ew]; exact X3o rfl rfl w); refine Z4 (op := .shl) (r' := n64 (18446744073709551614 - 2 * m)) (u := n64 (18446744073709551615 - m)) (v := n64 1) ?_ (hr' := by exact congrArg n64 es) (hr := by exact Vm rfl (by decide)); refine Qw ?_; refine Z8 ?_; refine Qh ?_; refine Ql ?_; refine Za (u := n64 (18446744073709551614 - 2 * m)) (r := n64 (2 * m + 1)) ?_ (hr := by exact hcompl); refine Qx ?_; refine Z9 (hcon := X6X (2 * m + 1) (by omega)) ?_; exact Qu
 ·obtain ⟨m, rfl⟩ : ∃ m : Nat, n = m := ⟨n.toNat, by omega⟩
  have ez : zig (m : Int) = 2 * m := by unfold zig; rw [if_neg (by omega)]; omega
  unfold XS; rw [ez]
  have es : m * 2 ^ 1 % 2 ^ IntKind.u64.bits = 2 * m := by
   rw [show 2 ^ IntKind.u64.bits = 18446744073709551616 from rfl]; omega
  refine Qv ?_; refine Z3 (u := ni m) (r := n64 m) ?_ (hr := by exact U2 rfl rfl (by rw [XY]; omega)); refine Z4 (op := .shl) (r' := n64 (2 * m)) (u := n64 m) (v := n64 1) ?_ (hr' := by exact congrArg n64 es) (hr := by exact Vm rfl (by decide)); refine Qw ?_; refine Z8 ?_; refine Qs ?_; refine Qf ?_; refine Z9 (hcon := X6X (2 * m) (by omega)) ?_; exact Qu
theorem X18 (n : Int) (hn : n ≤ 9223372036854775807) : Con Tryz.prog 85 [] [ai n] [] (.d (Xf (Xh n))) := (X8C n hn).data (by simp)
theorem X1L (n : Int) (hn : -9223372036854775808 ≤ n ∧ n ≤ 9223372036854775807) : Con Tryz.prog 151 [] [ai n] [] (.d (Xf (XS n))) := (XfE n hn).data (by simp)
abbrev Xc (l : List UInt8) : AVal := .d (.v (.string (X7 l)))
abbrev X4D (n : Nat) : AVal := .d (.v (n32 n))
def Ur (b : List UInt8) (i : Nat) : Nat := (b.take i).foldl X3y 4294967295
theorem Xb5 (b : List UInt8) (i : Nat) : Ur b i < 4294967296 := XaE _ (by decide)
theorem X7F {b : List UInt8} {i : Nat} {x : UInt8} (h : b[i]? = some x) : Ur b (i + 1) = X3y (Ur b i) x := by
 unfold Ur
 rw [List.take_add_one, h, Option.toList_some, List.foldl_append]; rfl
theorem X96 (b : List UInt8) : Ur b b.length = X0S b := by unfold Ur X0S; rw [List.take_length]
theorem Xgj (s : List UInt8) (hs : s.length ≤ 65536) : Con Tryz.prog 149 [] [Xc s] [(131, .row 1 ((Xw s).map X6))] (.own 131 (Xw s).length) := by
 refine Xa (xs := [.own 131 (Xw s).length]) Tryz.func149 rfl Tryz.ntmps149 rfl rfl rfl (fun E => ?_)
 have hl : (Xh (s.length : Int)).length ≤ 10 := by rw [Vl (by omega)]; exact Vo (by omega)
 have hsz : (X7 s).size = s.length := rfl
 have hlm : (List.map X6 (Xh (s.length : Int))).length = (Xh (s.length : Int)).length := by simp
 generalize hhd : Xh (s.length : Int) = hd at *
 have hput : Xw s = hd ++ s := by unfold Xw; rw [hhd]
 have hpc := X18 s.length (by omega)
 rw [hhd] at hpc
 have hm1 : hd.length = min (hd.map X6).length (List.replicate ((hd.map X6).length + (X7 s).size) (zD (Value.int IntKind.u8 0).cells.toList)).length := by simp
 have hk : hd.length ≤ ((hd.map X6).take hd.length ++ (List.replicate ((hd.map X6).length + (X7 s).size) (zD (Value.int IntKind.u8 0).cells.toList)).drop hd.length).length := by simp
 have hm2 : s.length = min (s.map X6).length (((hd.map X6).take hd.length ++ (List.replicate ((hd.map X6).length + (X7 s).size) (zD (Value.int IntKind.u8 0).cells.toList)).drop hd.length).length - hd.length) := by simp [hsz]
 refine Qv ?_; refine Zc ?_; refine Z9 (hcon := hpc) ?_; refine Qx ?_; refine Zd ?_; refine Z1 ?_; refine Zc ?_; refine Zb ?_; refine Ze (γ := 131) ?_; refine Qx ?_; refine Qy ?_; refine Zf (m := hd.length) ?_ (hm := by exact hm1); refine Zg (k := hd.length) ?_ (hk := by exact hk); refine Z1 ?_; refine Zh (m := s.length) ?_ (hk := by exact hk) (hm := by exact hm2); refine JD ?_; refine Qz ?_
 refine X1 ⟨_, Xb 2 (y := .own 131 (Xw s).length) (AVal.le_of_eq ?_), ⟨rfl, trivial⟩, Xj ⟨?_, trivial⟩⟩
 ·refine Eq.trans (b := AVal.own 131 (_ + _)) rfl ?_
  simp [hput, hsz]
 ·refine Eq.trans (b := AObj.row 1 (List.take _ _ ++ _ ++ List.drop _ _)) rfl ?_
  rw [hput]
  congr 1
  rw [List.take_of_length_le (l := hd.map X6) (by simp), List.take_left' (by simp), List.take_of_length_le (by simp), List.drop_of_length_le (by simp [hsz]), List.append_nil, List.map_append]
theorem X5O (b : List UInt8) : Con Tryz.prog 92 [] [.d (Xf b)] [] (ai (XZ b)) := by
 refine Xa (xs := [ai (XZ b)]) Tryz.func92 rfl Tryz.ntmps92 rfl rfl rfl (fun E => ?_)
 refine Qd ?_; refine Qo ?_; refine QA ?_
 refine Xu (fun i : Nat => i ≤ b.length) (fun i => ⟨31, [(3, X4D (Ur b i)), (6, .d (Xf b)), (7, ai b.length), (8, ai i)], []⟩) (fun i => b.length - i) 0 (by omega)
  (X9 rfl ⟨JL, JL, JL, JL, trivial⟩ trivial) ?_
 intro i hi
 refine XbI 6 (sz := 1) (xs := b.map X6) rfl fun hbl => ?_
 rw [List.length_map] at hbl
 have hc := Xb5 b i
 by_cases hlt : i < b.length
 ·obtain ⟨x, hx⟩ := Xx hlt
  have hx8 := x.toNat_lt
  refine QD ?_; refine QF ?_; refine Qi ?_; refine Z3 (u := n8 x.toNat) (r := n32 x.toNat) ?_ (hr := by exact U2 rfl rfl (by rw [V1]; omega)); refine Z7 (op := .xor) (r' := n32 (Ur b i ^^^ x.toNat)) (u := n32 (Ur b i)) (v := n32 x.toNat) ?_ (hr := by exact X3m (by rw [V1]; omega) (by rw [V1]; omega)); refine Qx ?_; refine QG ?_
  refine Xu (fun k : Nat => k ≤ 8) (fun k => ⟨31, [(6, .d (Xf b)), (7, ai b.length), (8, ai i), (3, X4D (X0w k (Ur b i ^^^ x.toNat))), (16, ai k)], []⟩) (fun k => 8 - k) 0 (by omega)
   (X9 rfl ⟨JL, JL, JL, JL, JL, trivial⟩ trivial) ?_
  intro k hk
  have hv := X4K (X5V hc x) k
  have hv1 : X0w (k + 1) (Ur b i ^^^ x.toNat) = VU (X0w k (Ur b i ^^^ x.toNat)) := rfl
  generalize hgv : X0w k (Ur b i ^^^ x.toNat) = v at *
  by_cases hk8 : k < 8
  ·by_cases hodd : v % 2 = 1
   ·have hb : VU v = (v / 2) ^^^ 3988292384 := by unfold VU; rw [if_pos hodd]
    refine QH ?_; refine QI ?_; refine Zl ?_; refine Qh ?_; refine Ql ?_; refine Z7 (op := .shr) (r' := n32 (v / 2)) (u := n32 v) (v := n64 1) ?_ (hr := by exact X2E (by decide)); refine QJ ?_; refine Qc ?_; refine QK ?_; exact QL
   ·have hb : VU v = v / 2 := by unfold VU; rw [if_neg hodd]
    refine QH ?_; refine QI ?_; refine Zl ?_; refine JD ?_; refine JF ?_; refine Ql ?_; refine Z7 (op := .shr) (r' := n32 (v / 2)) (u := n32 v) (v := n64 1) ?_ (hr := by exact X2E (by decide)); refine Qc ?_; refine QK ?_; exact QL
  obtain rfl : k = 8 := by omega
  have hstep : Ur b (i + 1) = v := by rw [X7F hx]; exact hgv
  refine QM ?_; refine QK ?_; exact ⟨i + 1, by omega, by omega, X9 rfl ⟨(by rw [hstep]; exact AVal.le_refl _), JL, JL, JL, trivial⟩ trivial⟩
 obtain rfl : i = b.length := by omega
 have hall := X96 b
 rw [hall] at hc
 rw [hall]
 have hcompl : ∀ w, (Op.unary .xor (n32 (X0S b))).run Tryz.prog w = .ok (n32 (XZ b)) w := fun w => Xbq (P := Tryz.prog) (k := .u32) (a := X0S b) rfl hc w
 refine QM ?_; refine Qf ?_; refine Za (u := n32 (X0S b)) (r := n32 (XZ b)) ?_ (hr := by exact hcompl); refine Z3 (u := n32 (XZ b)) (r := ni (XZ b)) ?_ (hr := by exact U2 rfl rfl (by rw [XM]; have := X23 b; omega)); exact QO
theorem X20 (s : List UInt8) (hs : s.length ≤ 65536) : Con Tryz.prog 149 [] [Xc s] [] (.d (Xf (Xw s))) := (Xgj s hs).data (by simp)
end Go.Fw

/- The codec in plain Lean: what the functions compute. -/
import Derived.Test.YtpfldfkhgplcgaaGreatDoorChecked
import Derived.Test.YtpfldfkhgplcgaaGreatDoorK10
set_option maxHeartbeats 8000000
namespace Go.Fw
open Go
set_option linter.unusedVariables false
inductive Val where
 | mk (kind n d : Int) (s : List UInt8) (l : List Val)
namespace Val
def kind : Val → Int | mk k _ _ _ _ => k
def n : Val → Int | mk _ n _ _ _ => n
def d : Val → Int | mk _ _ d _ _ => d
def s : Val → List UInt8 | mk _ _ _ s _ => s
def l : Val → List Val | mk _ _ _ _ l => l
end Val
abbrev X7 (b : UInt8) : List D := [.v (.int .u8 b.toNat)]
abbrev Xg (l : List UInt8) : D := .sl 1 (l.map X7)
mutual
def Vb : Val → List D
 | .mk k n d s l => [.v (.int .i64 k), .v (.int .i64 n), .v (.int .i64 d), .v (.string (X6 s)), .sl 5 (Xy l)]
def Xy : List Val → List (List D)
 | [] => []
 | v :: r => Vb v :: Xy r
end
theorem X1A : ∀ l : List Val, Xy l = l.map Vb
 | [] => by simp [Xy]
 | v :: r => by simp [Xy, X1A r]
theorem YF {α β : Type} {l : List α} {f : α → β} {k : Nat} {x : α} (h : l[k]? = some x) : (l.map f)[k]? = some (f x) := by simp [h]
theorem Xv {α : Type} {l : List α} {k : Nat} (h : k < l.length) : ∃ x, l[k]? = some x := ⟨_, List.getElem?_eq_getElem h⟩
def vS (n : Nat) : List UInt8 := if n < 128 then [UInt8.ofNat n] else UInt8.ofNat (n % 128 + 128) :: vS (n / 128)
termination_by n
decreasing_by omega
def Xo (n : Int) : List UInt8 := if n < 0 then [] else vS n.toNat
def zig (n : Int) : Nat := if n < 0 then 2 * (-(n + 1)).toNat + 1 else 2 * n.toNat
def zag (u : Nat) : Int := if u % 2 = 1 then -((u / 2 : Nat) : Int) - 1 else ((u / 2 : Nat) : Int)
def Yi (n : Int) : List UInt8 := vS (zig n)
def XM (s : List UInt8) : List UInt8 := Xo s.length ++ s
def XY (l : List UInt8) : Nat := ((l.take 10).takeWhile fun b => decide (128 ≤ b.toNat)).length
def Xw : List UInt8 → Nat
 | [] => 0
 | b :: r => b.toNat % 128 + 128 * Xw r
def Xz (b : List UInt8) (a : Int) : Nat × Int × Int :=
 if a < 0 ∨ (b.length : Int) < a then (0, 0, 1) else
  let l := b.drop a.toNat
  let n := XY l
  if n = 10 then (0, 0, 4) else if l.length ≤ n then (0, 0, 3) else
   if n = 9 ∧ 1 < ((l[n]?).getD 0).toNat then (0, 0, 4) else (Xw (l.take (n + 1)), a + n + 1, 0)
def U3 (b : List UInt8) (a : Int) : Bool := let l := b.drop a.toNat; decide (0 < XY l) && decide ((l[XY l]?).getD 0 = 0)
def Xf (b : List UInt8) (a : Int) : Int × Int × Int :=
 let r := Xz b a
 if r.2.2 ≠ 0 then (0, 0, r.2.2) else if 9223372036854775807 < r.1 then (0, 0, 4) else if U3 b a then (0, 0, 2) else ((r.1 : Int), r.2.1, 0)
def Xp (b : List UInt8) (a : Int) : Int × Int × Int :=
 let r := Xz b a
 if r.2.2 ≠ 0 then (0, 0, r.2.2) else if U3 b a then (0, 0, 2) else (zag r.1, r.2.1, 0)
def XR (b : List UInt8) (a : Int) : Nat × Int × Int :=
 let r := Xz b a
 if r.2.2 ≠ 0 then (0, 0, r.2.2) else if U3 b a then (r.1, 0, 2) else r
def Yk (b : List UInt8) (a : Int) (most : Int) : List UInt8 × Int × Int :=
 let r := Xf b a
 if r.2.2 ≠ 0 then ([], 0, r.2.2) else if most < r.1 then ([], 0, 4) else if (b.length : Int) - r.2.1 < r.1 then ([], 0, 3) else
  ((b.drop r.2.1.toNat).take r.1.toNat, r.2.1 + r.1, 0)
def VE (c : Nat) : Nat := if c % 2 = 1 then (c / 2) ^^^ 3988292384 else c / 2
def X0d : Nat → Nat → Nat
 | 0, c => c
 | k + 1, c => VE (X0d k c)
def X3j (c : Nat) (x : UInt8) : Nat := X0d 8 (c ^^^ x.toNat)
def X0Q (l : List UInt8) : Nat := l.foldl X3j 4294967295
def YQ (l : List UInt8) : Nat := 4294967295 - X0Q l
def U0 (l : List UInt8) : List UInt8 := let c := YQ l; [UInt8.ofNat (c % 256), UInt8.ofNat (c / 256 % 256), UInt8.ofNat (c / 65536 % 256), UInt8.ofNat (c / 16777216)]
def YT (b : List UInt8) : List UInt8 := Xo b.length ++ b ++ U0 b
def X0f (b : List UInt8) (k : Nat) : Nat := ((b[k]?).getD 0).toNat + 256 * ((b[k + 1]?).getD 0).toNat + 65536 * ((b[k + 2]?).getD 0).toNat + 16777216 * ((b[k + 3]?).getD 0).toNat
def Ue (b : List UInt8) (a : Int) : List UInt8 × Int × Int :=
 let r := Xf b a
 if r.2.2 ≠ 0 then ([], 0, r.2.2) else if (b.length : Int) - r.2.1 < 4 ∨ (b.length : Int) - r.2.1 - 4 < r.1 then ([], 0, 3) else
  let body := (b.drop r.2.1.toNat).take r.1.toNat
  if X0f b (r.2.1 + r.1).toNat ≠ YQ body then ([], 0, 21) else (body, r.2.1 + r.1 + 4, 0)
def Ve (n d : Int) : Bool := decide (1 ≤ d ∧ d ≤ 1000000000000000 ∧ -1000000000000000 ≤ n ∧ n ≤ 1000000000000000) && decide (Nat.gcd n.natAbs d.natAbs = 1)
def US (s : List UInt8) : Bool := s.all fun b => decide (32 ≤ b.toNat ∧ b.toNat ≤ 126)
mutual
def X8 : Nat → Val → Bool
 | m, .mk k n d s l =>
  (k == 3 || d == 0) && (k == 4 || decide (s.length = 0)) && (k == 7 || k == 8 || decide (l.length = 0)) &&
  (if k = 0 then decide (n = 0) else if k = 1 then decide (n = 0 ∨ n = 1) else if k = 2 then decide (-1000000000000000 ≤ n ∧ n ≤ 1000000000000000)
   else if k = 3 then decide (2 ≤ d) && Ve n d else if k = 4 then decide (n = 0 ∧ s.length ≤ 100) && US s
   else if k = 5 ∨ k = 6 then decide (1 ≤ n ∧ n ≤ 1000000) else if k = 7 then decide (n = 0 ∧ l.length % 2 = 1 ∧ l.length ≤ 25) && U7 0 l
   else if k = 8 then decide (n = 0 ∧ l.length ≤ 64 ∧ 1 ≤ m) && Uf (m - 1) l else false)
def Uf : Nat → List Val → Bool
 | m, [] => true
 | m, v :: r => X8 m v && Uf m r
def U7 : Nat → List Val → Bool
 | i, [] => true
 | i, v :: r => decide (v.kind = 5 + (i % 2 : Nat)) && X8 0 v && U7 (i + 1) r
end
mutual
def XP : Val → List UInt8
 | .mk k n d s l => UInt8.ofNat k.toNat :: (if k = 1 ∨ k = 2 ∨ k = 5 ∨ k = 6 then Yi n else if k = 3 then Yi n ++ Yi d else if k = 4 then XM s
   else if k = 7 ∨ k = 8 then Xo l.length ++ Ye l else [])
def Ye : List Val → List UInt8
 | [] => []
 | v :: r => XP v ++ Ye r
end
def YW (v : Val) : List UInt8 := if X8 8 v then XP v else []
structure Chg where
 op : Int
 id : Int
 src : Int
 dst : Int
 name : List UInt8
 v : Val
structure Rul where
 kind : Int
 n : Int
 name : List UInt8
 key : List UInt8
 src : List UInt8
 dst : List UInt8
structure Rcd where
 kind : Int
 ts : Int
 changes : List Chg
 rule : Rul
 off : Bool
def U2 (c : UInt8) : Bool := decide ((97 ≤ c.toNat ∧ c.toNat ≤ 122) ∨ (65 ≤ c.toNat ∧ c.toNat ≤ 90))
def XQ (c : UInt8) : Bool := U2 c || decide ((48 ≤ c.toNat ∧ c.toNat ≤ 57) ∨ c.toNat = 95)
def Y2 (s : List UInt8) : Bool := decide (1 ≤ s.length ∧ s.length ≤ 20) && U2 ((s[0]?).getD 0) && s.all XQ
def UQ (v : Val) : Bool := X8 8 v && decide (v.kind = 0)
def X4b (b : Bool) (k : Int) : Bool := decide (k = 1 ∨ k = 2 ∨ k = 4) && b
def VW (v : Val) : Bool := X4b (X8 8 v) v.kind
def idV (n : Int) : Bool := decide (1 ≤ n ∧ n ≤ 1000000)
def XX (op : Int) : Bool := decide (op = 3 ∨ op = 4 ∨ op = 5 ∨ op = 6 ∨ op = 8)
def XS (op : Int) : Bool := decide (op = 5 ∨ op = 8)
def Ug (c : Chg) : Int :=
 if decide (1 ≤ c.op ∧ c.op ≤ 8) = false ∨ idV c.id = false then 1
 else if (c.op = 6 ∧ (idV c.src = false ∨ idV c.dst = false)) ∨ (c.op ≠ 6 ∧ (c.src ≠ 0 ∨ c.dst ≠ 0)) then 1
 else if (XX c.op = false ∧ c.name ≠ []) ∨ (XS c.op = false ∧ UQ c.v = false) then 1
 else if XX c.op = true ∧ Y2 c.name = false then 6
 else if XS c.op = true ∧ UQ c.v = false ∧ VW c.v = false then 8 else 0
def Xev (r : Rul) : Bool := if r.kind = 3 ∨ r.kind = 5 then decide (r.n = 1 ∨ r.n = 2 ∨ r.n = 4) else if r.kind = 7 then decide (0 ≤ r.n ∧ r.n ≤ 4000) else decide (r.n = 0)
def UZ (k : Int) : Bool := decide (1 ≤ k ∧ k ≤ 5)
def VS (r : Rul) : Int :=
 if decide (1 ≤ r.kind ∧ r.kind ≤ 7) = false ∨ Xev r = false then 1
 else if (UZ r.kind = false ∧ r.key ≠ []) ∨ (r.kind ≠ 6 ∧ (r.src ≠ [] ∨ r.dst ≠ [])) then 1
 else if Y2 r.name = false ∨ (UZ r.kind = true ∧ Y2 r.key = false) ∨ (r.src ≠ [] ∧ Y2 r.src = false) ∨ (r.dst ≠ [] ∧ Y2 r.dst = false) then 6 else 0
def Yt (c : Chg) : List UInt8 :=
 UInt8.ofNat c.op.toNat :: (Xo c.id ++ (if c.op = 6 then Xo c.src ++ Xo c.dst else []) ++ (if XX c.op = true then XM c.name else []) ++ (if XS c.op = true then YW c.v else []))
def UD (r : Rul) : List UInt8 := UInt8.ofNat r.kind.toNat :: (XM r.name ++ XM r.key ++ XM r.src ++ XM r.dst ++ Yi r.n)
abbrev zR : Rul := ⟨0, 0, [], [], [], []⟩
def X0P (r : Rul) : Bool := decide (r.kind = 0 ∧ r.n = 0 ∧ r.name = [] ∧ r.key = [] ∧ r.src = [] ∧ r.dst = [])
def Vz : List Chg → Int
 | [] => 0
 | c :: r => if Ug c ≠ 0 then Ug c else Vz r
def YJ (r : Rcd) : Int :=
 if ¬ (1 ≤ r.kind ∧ r.kind ≤ 3 ∧ 0 ≤ r.ts ∧ r.ts ≤ 1000000000000000) then 1
 else if (r.kind ≠ 1 ∧ 0 < r.changes.length) ∨ (r.kind ≠ 2 ∧ (r.off = true ∨ X0P r.rule = false)) then 1
 else if r.kind = 2 then VS r.rule else if Vz r.changes ≠ 0 then Vz r.changes else if 1000 < r.changes.length then 4 else 0
def Uv (l : List Chg) : List UInt8 := (l.map Yt).flatten
def Vo (r : Rcd) : List UInt8 :=
 UInt8.ofNat r.kind.toNat :: (Xo r.ts ++ (if r.kind = 1 then Xo r.changes.length ++ Uv r.changes else if r.kind = 2 then UD r.rule ++ [if r.off then 1 else 0] else []))
def VD (r : Rcd) : List UInt8 := if YJ r = 0 then Vo r else []
theorem X4E {α : Type} {p : α → Bool} : ∀ (l : List α) (i : Nat), (∀ j, j < i → ∃ b, l[j]? = some b ∧ p b = true) → (∀ b, l[i]? = some b → p b = false) → (l.takeWhile p).length = i
 | [], 0, _, _ => rfl
 | [], i + 1, h, _ => by obtain ⟨b, hb, _⟩ := h 0 (by omega); simp at hb
 | x :: l, 0, _, h => by have := h x (by simp); simp [List.takeWhile, this]
 | x :: l, i + 1, h, k => by
  obtain ⟨b, hb, hp⟩ := h 0 (by omega)
  simp at hb; subst hb
  simp only [List.takeWhile, hp, List.length_cons]
  rw [X4E l i (fun j hj => by simpa using h (j + 1) (by omega)) (fun b hb => k b (by simpa using hb))]
def big (l : List UInt8) (i : Nat) : Prop := ∀ j, j < i → ∃ b, l[j]? = some b ∧ 128 ≤ b.toNat
theorem X3w {l : List UInt8} {i : Nat} {c : UInt8} (h : big l i) (hc : l[i]? = some c) (hlt : c.toNat < 128) (hi : i < 10) : XY l = i := by
 refine X4E _ _ (fun j hj => ?_) (fun b hb => ?_)
 ·obtain ⟨b, h1, h2⟩ := h j hj
  exact ⟨b, by rw [List.getElem?_take_of_lt (by omega)]; exact h1, by simpa using h2⟩
 ·rw [List.getElem?_take_of_lt hi, hc] at hb
  cases hb; simpa using hlt
theorem X4p {l : List UInt8} {i : Nat} (h : big l i) (hi : i = min 10 l.length) : XY l = i := by
 refine X4E _ _ (fun j hj => ?_) (fun b hb => ?_)
 ·obtain ⟨b, h1, h2⟩ := h j hj
  exact ⟨b, by rw [List.getElem?_take_of_lt (by omega)]; exact h1, by simpa using h2⟩
 ·exfalso
  have := (List.getElem?_eq_some_iff.1 hb).1
  simp at this; omega
theorem X6W {l : List UInt8} {i : Nat} {c : UInt8} (h : big l i) (hc : l[i]? = some c) (h128 : 128 ≤ c.toNat) : big l (i + 1) := fun j hj => by
 by_cases e : j = i
 ·subst e; exact ⟨c, hc, h128⟩
 ·exact h j (by omega)
theorem X1l : ∀ (l : List UInt8) (i : Nat) (c : UInt8), l[i]? = some c → Xw (l.take (i + 1)) = Xw (l.take i) + 2 ^ (7 * i) * (c.toNat % 128)
 | [], _, _, h => by simp at h
 | x :: l, 0, c, h => by simp at h; subst h; simp [Xw]
 | x :: l, i + 1, c, h => by
  have := X1l l i c (by simpa using h)
  simp only [List.take_succ_cons, Xw, this]
  rw [Nat.mul_add, ← Nat.mul_assoc, show 7 * (i + 1) = 7 + 7 * i by omega, Nat.pow_add, show (2 : Nat) ^ 7 = 128 from rfl]
  omega
theorem X8b : ∀ (l : List UInt8), Xw l < 2 ^ (7 * l.length)
 | [] => by simp [Xw]
 | x :: l => by
  have := X8b l
  have hx := Nat.mod_lt x.toNat (show 0 < 128 by omega)
  simp only [Xw, List.length_cons]
  rw [show 7 * (l.length + 1) = 7 + 7 * l.length by omega, Nat.pow_add]
  omega
theorem X3g (l : List UInt8) (i : Nat) : Xw (l.take i) < 2 ^ (7 * i) :=
 Nat.lt_of_lt_of_le (X8b _) (Nat.pow_le_pow_right (by omega) (by simp; omega))
def XU (l : List UInt8) : Nat → Nat
 | 0 => 0
 | i + 1 => XU l i ||| (((l[i]?).getD 0).toNat % 128) * 2 ^ (7 * i) % 18446744073709551616
theorem X2Q (l : List UInt8) : ∀ i, XU l i < 18446744073709551616
 | 0 => by simp [XU]
 | i + 1 => by
  have := X2Q l i
  exact Nat.or_lt_two_pow (n := 64) this (Nat.mod_lt _ (by omega))
theorem X54 {a b i : Nat} (h : a < 2 ^ i) : a ||| b * 2 ^ i = a + 2 ^ i * b := by
 rw [Nat.or_comm, Nat.mul_comm b, ← Nat.two_pow_add_eq_or_of_lt h, Nat.add_comm]
theorem X2R (l : List UInt8) : ∀ i, i ≤ 9 → i ≤ l.length → XU l i = Xw (l.take i)
 | 0, _, _ => by simp [XU, Xw]
 | i + 1, h, hl => by
  obtain ⟨c, hc⟩ := Xv (l := l) (k := i) (by omega)
  have h1 := X2R l i (by omega) (by omega)
  have h2 := X3g l i
  have h3 := Nat.mod_lt c.toNat (show 0 < 128 by omega)
  have h4 : c.toNat % 128 * 2 ^ (7 * i) < 2 ^ (7 + 7 * i) := by rw [Nat.pow_add]; exact Nat.mul_lt_mul_of_pos_right h3 (Nat.pow_pos (by omega))
  have h5 : 2 ^ (7 + 7 * i) ≤ 2 ^ 64 := Nat.pow_le_pow_right (by omega) (by omega)
  simp only [XU, hc, Option.getD_some]
  rw [Nat.mod_eq_of_lt (Nat.lt_of_lt_of_le h4 h5), h1, X54 h2, X1l l i c hc]
theorem XaN (l : List UInt8) {c : UInt8} (hc : l[9]? = some c) (h : c.toNat ≤ 1) : XU l 10 = Xw (l.take 10) := by
 have hl := (List.getElem?_eq_some_iff.1 hc).1
 have h1 := X2R l 9 (by omega) (by omega)
 have h2 := X3g l 9
 simp only [XU, hc, Option.getD_some] at h1 ⊢
 rw [X1l l 9 c hc, Nat.mod_eq_of_lt (a := c.toNat % 128 * 2 ^ (7 * 9)) (by
  have : c.toNat % 128 ≤ 1 := by omega
  have : c.toNat % 128 * 2 ^ (7 * 9) ≤ 1 * 2 ^ (7 * 9) := Nat.mul_le_mul_right _ this
  omega)]
 have := X2R l 9 (by omega) (by omega)
 simp only [XU] at this
 rw [this]
 exact X54 h2
def VL : List UInt8 → Prop
 | [] => False
 | [c] => c.toNat < 128
 | b :: c :: m => 128 ≤ b.toNat ∧ VL (c :: m) ∧ c :: m ≠ [0]
theorem X6R : ∀ {m : List UInt8}, VL m → m ≠ [0] → 0 < Xw m
 | [c], h, hn => by
  simp only [VL] at h
  have : c.toNat ≠ 0 := fun e => hn (by rw [show c = 0 from UInt8.toNat_inj.1 e])
  simp only [Xw]; omega
 | b :: c :: m, h, _ => by
  have := X6R h.2.1 h.2.2
  simp only [Xw] at this ⊢; omega
theorem X02 {n : Nat} (h : n < 256) : (UInt8.ofNat n).toNat = n := by simp; omega
theorem X6P (u : Nat) : VL (vS u) ∧ Xw (vS u) = u ∧ (vS u = [0] → u = 0) := by
 induction u using Nat.strongRecOn with
 | _ u ih =>
  rw [vS]
  by_cases h : u < 128
  ·rw [if_pos h]
   simp only [VL, Xw, X02 (show u < 256 by omega)]
   refine ⟨h, by omega, fun e => ?_⟩
   have := congrArg (fun l : List UInt8 => (l.headD 1).toNat) e
   simp only [List.headD_cons, X02 (show u < 256 by omega)] at this
   simpa using this
  ·rw [if_neg h]
   obtain ⟨h1, h2, h3⟩ := ih (u / 128) (by omega)
   cases hv : vS (u / 128) with
   | nil => rw [hv] at h1; exact h1.elim
   | cons c m =>
    rw [hv] at h1 h2 h3
    have hb : (UInt8.ofNat (u % 128 + 128)).toNat = u % 128 + 128 := X02 (by omega)
    refine ⟨⟨by rw [hb]; omega, h1, fun e => by have := h3 e; omega⟩, ?_, fun e => by simp at e⟩
    simp only [Xw] at h2 ⊢
    rw [hb]; omega
theorem X8c : ∀ {m : List UInt8}, VL m → vS (Xw m) = m
 | [c], h => by
  simp only [VL] at h
  have e : Xw [c] = c.toNat := by simp only [Xw]; omega
  rw [e, vS, if_pos h]; simp
 | b :: c :: m, h => by
  have h1 := X8c h.2.1
  have h2 := X6R h.2.1 h.2.2
  have hb := b.toNat_lt
  have e : Xw (b :: c :: m) = b.toNat % 128 + 128 * Xw (c :: m) := rfl
  rw [e, vS, if_neg (by omega), show (b.toNat % 128 + 128 * Xw (c :: m)) / 128 = Xw (c :: m) by omega, h1]
  rw [show (b.toNat % 128 + 128 * Xw (c :: m)) % 128 + 128 = b.toNat by have := h.1; omega]
  simp
theorem X53 : ∀ {m : List UInt8}, VL m → big m (m.length - 1) ∧ ∃ c, m[m.length - 1]? = some c ∧ c.toNat < 128 ∧ (1 < m.length → c ≠ 0)
 | [c], h => ⟨fun j hj => by simp at hj, c, rfl, h, fun h => by simp at h⟩
 | b :: c :: m, h => by
  obtain ⟨h1, x, h2, h3, h4⟩ := X53 h.2.1
  refine ⟨fun j hj => ?_, x, by simpa using h2, h3, fun _ e => ?_⟩
  ·cases j with
   | zero => exact ⟨b, rfl, h.1⟩
   | succ j => simpa using h1 j (by simp at hj ⊢; omega)
  ·by_cases hm : m = []
   ·subst hm; simp at h2; subst h2; subst e; exact h.2.2 rfl
   ·refine h4 (by cases m with | nil => exact absurd rfl hm | cons _ _ => simp) e
theorem X6z : ∀ {m : List UInt8} (k : Nat), VL m → Xw m < 2 ^ (7 * k) → 0 < k → m.length ≤ k
 | [c], k, _, _, hk => hk
 | b :: c :: m, k, h, hn, hk => by
  have h2 := X6R h.2.1 h.2.2
  cases k with
  | zero => omega
  | succ k =>
   by_cases hk0 : k = 0
   ·subst hk0
    have e : Xw (b :: c :: m) = b.toNat % 128 + 128 * Xw (c :: m) := rfl
    rw [e] at hn
    have : (2 : Nat) ^ (7 * (0 + 1)) = 128 := rfl
    omega
   ·have := X6z k h.2.1 (by
     have e : Xw (b :: c :: m) = b.toNat % 128 + 128 * Xw (c :: m) := rfl
     rw [e, show 7 * (k + 1) = 7 + 7 * k by omega, Nat.pow_add, show (2 : Nat) ^ 7 = 128 from rfl] at hn
     omega) (by omega)
    simp only [List.length_cons] at this ⊢; omega
theorem XeN {m : List UInt8} {c : UInt8} (h : VL m) (hl : m.length = 10) (hn : Xw m < 18446744073709551616) (hc : m[9]? = some c) : c.toNat ≤ 1 := by
 obtain ⟨_, x, hx, h128, _⟩ := X53 h
 rw [hl, hc] at hx; cases hx
 have := X1l m 9 c hc
 rw [List.take_of_length_le (by omega)] at this
 have h9 : (2 : Nat) ^ (7 * 9) = 9223372036854775808 := rfl
 rw [this, h9] at hn
 omega
theorem XaI {m back : List UInt8} (h : VL m) (hn : Xw m < 18446744073709551616) (front : List UInt8) :
  Xz (front ++ m ++ back) front.length = (Xw m, (front.length : Int) + m.length, 0) ∧ U3 (front ++ m ++ back) front.length = false := by
 obtain ⟨hb, c, hc, h128, h0⟩ := X53 h
 have hlen := X6z 10 h (Nat.lt_of_lt_of_le hn (by decide)) (by omega)
 have hpos : 0 < m.length := by cases m with | nil => exact h.elim | cons _ _ => simp
 have hd : (front ++ m ++ back).drop (front.length : Int).toNat = m ++ back := by rw [Int.toNat_natCast, List.append_assoc, List.drop_left]
 have hc' : (m ++ back)[m.length - 1]? = some c := by rw [List.getElem?_append_left (by omega)]; exact hc
 have hm : XY (m ++ back) = m.length - 1 := X3w (fun j hj => by
  obtain ⟨b, h1, h2⟩ := hb j hj
  exact ⟨b, by rw [List.getElem?_append_left (by omega)]; exact h1, h2⟩) hc' h128 (by omega)
 constructor
 ·unfold Xz
  rw [if_neg (by simp; omega)]
  simp only [hd, hm]
  rw [if_neg (by omega), if_neg (by simp; omega), if_neg (by
   rintro ⟨e, h1⟩
   rw [hc'] at h1
   have := XeN h (by omega) hn (c := c) (by rw [← e]; exact hc)
   simp at h1; omega)]
  rw [show m.length - 1 + 1 = m.length by omega, List.take_left]
  refine Prod.ext rfl (Prod.ext ?_ rfl)
  simp only; omega
 ·unfold U3
  simp only [hd, hm, hc', Option.getD_some]
  by_cases h1 : m.length = 1
  ·simp [h1]
  ·have := h0 (by omega)
   simp [this]
theorem X6r {b : List UInt8} {a e : Int} {u : Nat} (h : Xz b a = (u, e, 0)) (hp : U3 b a = false) :
  0 ≤ a ∧ a < e ∧ e ≤ b.length ∧ (b.drop a.toNat).take (e - a).toNat = vS u ∧ u < 18446744073709551616 := by
 unfold Xz at h
 split at h
 ·simp at h
 rename_i ha
 simp only at h
 split at h
 ·simp at h
 rename_i h10
 split at h
 ·simp at h
 rename_i hle
 split at h
 ·simp at h
 rename_i h9
 simp only [Prod.mk.injEq] at h
 obtain ⟨rfl, rfl, _⟩ := h
 generalize hl : b.drop a.toNat = l at *
 have hbig : big l (XY l) ∧ (∀ c, l[XY l]? = some c → c.toNat < 128) ∧ XY l < 10 := by
  have hw : ∀ (q : List UInt8), big q ((q.takeWhile fun b => decide (128 ≤ b.toNat)).length) ∧ ∀ c, q[(q.takeWhile fun b => decide (128 ≤ b.toNat)).length]? = some c → c.toNat < 128 := by
   intro q
   induction q with
   | nil => exact ⟨fun j hj => by simp at hj, fun c hc => by simp at hc⟩
   | cons x q ih =>
    by_cases hx : 128 ≤ x.toNat
    ·simp only [List.takeWhile, hx, decide_true, List.length_cons]
     refine ⟨fun j hj => ?_, fun c hc => ih.2 c (by simpa using hc)⟩
     cases j with
     | zero => exact ⟨x, rfl, hx⟩
     | succ j => simpa using ih.1 j (by omega)
    ·simp only [List.takeWhile, hx, decide_false, List.length_nil]
     exact ⟨fun j hj => by omega, fun c hc => by simp at hc; subst hc; omega⟩
  have h1 := hw (l.take 10)
  have hmore : XY l ≤ (l.take 10).length := by unfold XY; exact (List.takeWhile_sublist _).length_le
  have hlt : XY l < 10 := by simp at hmore; omega
  refine ⟨fun j hj => ?_, fun c hc => h1.2 c (by unfold XY at hc hlt; rw [List.getElem?_take_of_lt hlt]; exact hc), hlt⟩
  obtain ⟨x, h2, h3⟩ := h1.1 j hj
  rw [List.getElem?_take_of_lt (by omega)] at h2
  exact ⟨x, h2, h3⟩
 obtain ⟨hb1, hb2, hb3⟩ := hbig
 have hll : l.length = b.length - a.toNat := by rw [← hl, List.length_drop]
 obtain ⟨c, hc⟩ := Xv (l := l) (k := XY l) (by omega)
 have hc128 := hb2 c hc
 have hcan : ∀ (k : Nat) (q : List UInt8) (c : UInt8), big q k → q[k]? = some c → c.toNat < 128 → (0 < k → c ≠ 0) → VL (q.take (k + 1)) := by
  intro k
  induction k with
  | zero =>
   intro q c _ hq hc _
   cases q with
   | nil => simp at hq
   | cons x q => simp at hq; subst hq; simpa [VL] using hc
  | succ k ih =>
   intro q c hb hq hc h0
   cases q with
   | nil => simp at hq
   | cons x q =>
    obtain ⟨y, hy, hy2⟩ := hb 0 (by omega)
    simp at hy; subst hy
    have h1 := ih q c (fun j hj => by simpa using hb (j + 1) (by omega)) (by simpa using hq) hc (fun _ => h0 (by omega))
    rw [List.take_succ_cons]
    cases q with
    | nil => simp at hq
    | cons z q =>
     refine ⟨hy2, h1, fun e => ?_⟩
     have e1 : z = 0 := by simpa using (List.cons.inj e).1
     have e2 : (q.take k) = [] := (List.cons.inj e).2
     cases k with
     | zero =>
      simp at hq; subst hq
      exact h0 (by omega) e1
     | succ k =>
      have hlt := (List.getElem?_eq_some_iff.1 hq).1
      have := congrArg List.length e2
      rw [List.length_take, List.length_nil] at this
      simp only [List.length_cons] at hlt
      omega
 have hpad : 0 < XY l → c ≠ 0 := by
  intro h0 e
  unfold U3 at hp
  simp only [hl, hc, Option.getD_some] at hp
  simp [h0, e] at hp
 have hcn := hcan _ _ _ hb1 hc hc128 hpad
 have ha' : ¬(a < 0) ∧ ¬((b.length : Int) < a) := by simpa using ha
 refine ⟨by omega, by omega, by omega, ?_, ?_⟩
 ·rw [show (a + (XY l : Int) + 1 - a).toNat = XY l + 1 by omega, X8c hcn]
 ·have h1 := X3g l (XY l)
  rw [X1l l _ c hc]
  by_cases hm9 : XY l = 9
  ·have : c.toNat ≤ 1 := by
    have h2 := h9
    rw [hc] at h2
    simp only [hm9, true_and, Option.getD_some] at h2; omega
   rw [hm9] at h1 ⊢
   have e9 : (2 : Nat) ^ (7 * 9) = 9223372036854775808 := rfl
   rw [e9] at h1 ⊢
   omega
  ·have h2 : (2 : Nat) ^ (7 * XY l) ≤ 2 ^ 56 := Nat.pow_le_pow_right (by omega) (by omega)
   have e56 : (2 : Nat) ^ 56 = 72057594037927936 := rfl
   rw [e56] at h2
   have h3 := Nat.mod_lt c.toNat (show 0 < 128 by omega)
   have h4 : 2 ^ (7 * XY l) * (c.toNat % 128) ≤ 72057594037927936 * 127 := Nat.mul_le_mul h2 (by omega)
   omega
theorem Xh9 {c : Nat} (h : c < 4294967296) : VE c < 4294967296 := by
 unfold VE
 split
 ·exact Nat.xor_lt_two_pow (n := 32) (by omega) (by decide)
 ·omega
theorem X4y {c : Nat} (h : c < 4294967296) : ∀ k, X0d k c < 4294967296
 | 0 => h
 | k + 1 => Xh9 (X4y h k)
theorem X6C {c : Nat} (h : c < 4294967296) (x : UInt8) : c ^^^ x.toNat < 4294967296 :=
 Nat.xor_lt_two_pow (n := 32) h (by have := x.toNat_lt; omega)
theorem Xf5 {c : Nat} (h : c < 4294967296) (x : UInt8) : X3j c x < 4294967296 := X4y (X6C h x) 8
theorem XaR : ∀ (l : List UInt8) {c : Nat}, c < 4294967296 → l.foldl X3j c < 4294967296
 | [], c, h => h
 | x :: l, c, h => XaR l (Xf5 h x)
theorem X2L (l : List UInt8) : YQ l < 4294967296 := by unfold YQ; omega
theorem X0U (l : List UInt8) : (U0 l).length = 4 := rfl
theorem XdZ {p q : List UInt8} (l : List UInt8) : X0f (p ++ U0 l ++ q) p.length = YQ l := by
 have hs := X2L l
 have g : ∀ i, i < 4 → (p ++ U0 l ++ q)[p.length + i]? = (U0 l)[i]? := fun i hi => by
  rw [List.append_assoc, List.getElem?_append_right (by omega), List.getElem?_append_left (by rw [X0U]; omega)]
  congr 1; omega
 unfold X0f
 rw [show p.length = p.length + 0 from rfl, g 0 (by omega), show p.length + 0 + 1 = p.length + 1 from rfl, g 1 (by omega), show p.length + 0 + 2 = p.length + 2 from rfl, g 2 (by omega), show p.length + 0 + 3 = p.length + 3 from rfl, g 3 (by omega)]
 simp only [U0, List.getElem?_cons_zero, List.getElem?_cons_succ, Option.getD_some, UInt8.toNat_ofNat']
 omega
theorem X0e {n : Int} (h : 0 ≤ n) : Xo n = vS n.toNat := by unfold Xo; rw [if_neg (by omega)]
theorem X39 {n : Int} (h : 0 ≤ n ∧ n ≤ 9223372036854775807) (front back : List UInt8) :
  Xf (front ++ Xo n ++ back) front.length = (n, (front.length : Int) + (Xo n).length, 0) := by
 obtain ⟨h1, h2, _⟩ := X6P n.toNat
 rw [X0e h.1]
 obtain ⟨h3, h4⟩ := XaI (m := vS n.toNat) (back := back) h1 (by omega) front
 unfold Xf
 rw [h3, h4, h2]
 simp only [ne_eq, not_true_eq_false, if_false, Bool.false_eq_true]
 rw [if_neg (by omega)]
 refine Prod.ext ?_ rfl
 simp only; omega
theorem XcT {n : Int} : zag (zig n) = n := by
 unfold zig zag
 split <;> split <;> omega
theorem Xbj {u : Nat} : zig (zag u) = u := by
 unfold zig zag
 split <;> split <;> omega
theorem X9J {n : Int} (h : -9223372036854775808 ≤ n ∧ n ≤ 9223372036854775807) : zig n < 18446744073709551616 := by
 unfold zig; split <;> omega
theorem X3z {n : Int} (h : -9223372036854775808 ≤ n ∧ n ≤ 9223372036854775807) (front back : List UInt8) :
  Xp (front ++ Yi n ++ back) front.length = (n, (front.length : Int) + (Yi n).length, 0) := by
 obtain ⟨h1, h2, _⟩ := X6P (zig n)
 obtain ⟨h3, h4⟩ := XaI (m := vS (zig n)) (back := back) h1 (by rw [h2]; exact X9J h) front
 unfold Xp Yi
 rw [h3, h4, h2]
 simp [XcT]
theorem X9l {s : List UInt8} {most : Int} (hs : (s.length : Int) ≤ 9223372036854775807) (hm : (s.length : Int) ≤ most) (front back : List UInt8) :
  Yk (front ++ XM s ++ back) front.length most = (s, (front.length : Int) + (XM s).length, 0) := by
 have h1 := X39 (n := s.length) ⟨by omega, hs⟩ front (s ++ back)
 have e : front ++ XM s ++ back = front ++ Xo s.length ++ (s ++ back) := by simp [XM]
 unfold Yk
 rw [e, h1]
 simp only [ne_eq, not_true_eq_false, if_false]
 rw [if_neg (by omega), if_neg (by simp only [List.length_append]; omega)]
 have e2 : ((front.length : Int) + ((Xo (s.length : Int)).length : Int)).toNat = (front ++ Xo s.length).length := by simp only [List.length_append]; omega
 refine Prod.ext ?_ (Prod.ext ?_ rfl)
 ·simp only [e2, List.drop_left, Int.toNat_natCast, List.take_left]
 ·simp only [XM, List.length_append]; omega
theorem XcV {s : List UInt8} (hs : (s.length : Int) ≤ 9223372036854775807) (front back : List UInt8) :
  Ue (front ++ YT s ++ back) front.length = (s, (front.length : Int) + (YT s).length, 0) := by
 have h1 := X39 (n := s.length) ⟨by omega, hs⟩ front (s ++ U0 s ++ back)
 have e : front ++ YT s ++ back = front ++ Xo s.length ++ (s ++ U0 s ++ back) := by simp [YT]
 have h4 := X0U s
 unfold Ue
 rw [e, h1]
 simp only [ne_eq, not_true_eq_false, if_false]
 rw [if_neg (by simp only [List.length_append]; omega)]
 have e2 : ((front.length : Int) + ((Xo (s.length : Int)).length : Int)).toNat = (front ++ Xo s.length).length := by simp only [List.length_append]; omega
 have e3 : ((front.length : Int) + ((Xo (s.length : Int)).length : Int) + (s.length : Int)).toNat = (front ++ Xo s.length ++ s).length := by simp only [List.length_append]; omega
 have e4 : (List.drop (front ++ Xo (s.length : Int)).length (front ++ Xo (s.length : Int) ++ (s ++ U0 s ++ back))).take s.length = s := by rw [List.drop_left, List.append_assoc, List.take_left]
 have e5 : X0f (front ++ Xo (s.length : Int) ++ (s ++ U0 s ++ back)) (front ++ Xo s.length ++ s).length = YQ s := by
  have := XdZ (p := front ++ Xo s.length ++ s) (q := back) s
  rwa [show front ++ Xo (s.length : Int) ++ s ++ U0 s ++ back = front ++ Xo (s.length : Int) ++ (s ++ U0 s ++ back) by simp] at this
 rw [e2, e3, Int.toNat_natCast, e4, e5]
 simp only [not_true_eq_false, if_false]
 refine Prod.ext rfl (Prod.ext ?_ rfl)
 simp only [YT, List.length_append, h4]; omega
def only (b : List UInt8) (a e : Int) (want : List UInt8) : Prop := 0 ≤ a ∧ a ≤ e ∧ e ≤ b.length ∧ (b.drop a.toNat).take (e - a).toNat = want
theorem X1M {b : List UInt8} {a n e : Int} (h : Xf b a = (n, e, 0)) : only b a e (Xo n) ∧ 0 ≤ n ∧ n ≤ 9223372036854775807 ∧ a < e := by
 unfold Xf at h
 simp only at h
 split at h
 ·rename_i h0; exact absurd (congrArg (fun r => r.2.2) h) h0
 rename_i h0
 split at h
 ·exact Qa
 rename_i h1
 split at h
 ·exact Qa
 rename_i h2
 have h0 : (Xz b a).2.2 = 0 := by simpa using h0
 simp only [Prod.mk.injEq] at h
 obtain ⟨rfl, rfl, _⟩ := h
 obtain ⟨k1, k2, k3, k4, k5⟩ := X6r (b := b) (a := a) (e := (Xz b a).2.1) (u := (Xz b a).1) (by rw [← h0]) (by simpa using h2)
 exact ⟨⟨k1, by omega, k3, by rw [X0e (by omega), Int.toNat_natCast]; exact k4⟩, by omega, by omega, k2⟩
theorem X3J {b : List UInt8} {a n e : Int} (h : Xp b a = (n, e, 0)) : only b a e (Yi n) ∧ a < e ∧ -9223372036854775808 ≤ n ∧ n ≤ 9223372036854775807 := by
 unfold Xp at h
 simp only at h
 split at h
 ·rename_i h0; exact absurd (congrArg (fun r => r.2.2) h) h0
 rename_i h0
 split at h
 ·exact Qa
 rename_i h2
 have h0 : (Xz b a).2.2 = 0 := by simpa using h0
 simp only [Prod.mk.injEq] at h
 obtain ⟨rfl, rfl, _⟩ := h
 obtain ⟨k1, k2, k3, k4, k5⟩ := X6r (b := b) (a := a) (e := (Xz b a).2.1) (u := (Xz b a).1) (by rw [← h0]) (by simpa using h2)
 refine ⟨⟨k1, by omega, k3, by unfold Yi; rw [Xbj]; exact k4⟩, k2, ?_, ?_⟩ <;> unfold zag <;> split <;> omega
theorem X2E {b : List UInt8} {a e most : Int} {s : List UInt8} (h : Yk b a most = (s, e, 0)) : only b a e (XM s) ∧ (s.length : Int) ≤ most ∧ a < e := by
 unfold Yk at h
 simp only at h
 split at h
 ·rename_i h0; exact absurd (congrArg (fun r => r.2.2) h) h0
 rename_i h0
 split at h
 ·exact Qa
 rename_i h1
 split at h
 ·exact Qa
 rename_i h2
 have h0 : (Xf b a).2.2 = 0 := by simpa using h0
 obtain ⟨⟨k1, k2, k3, k4⟩, k5, k6, k7⟩ := X1M (b := b) (a := a) (n := (Xf b a).1) (e := (Xf b a).2.1) (by rw [← h0])
 generalize (Xf b a).1 = n at *
 generalize (Xf b a).2.1 = f at *
 simp only [Prod.mk.injEq] at h
 obtain ⟨rfl, rfl, _⟩ := h
 have hl : ((b.drop f.toNat).take n.toNat).length = n.toNat := by simp; omega
 refine ⟨⟨k1, by omega, by omega, ?_⟩, by omega, by omega⟩
 rw [show (f + n - a).toNat = (f - a).toNat + n.toNat by omega, List.take_add, k4, List.drop_drop, show a.toNat + (f - a).toNat = f.toNat by omega]
 unfold XM
 rw [hl, show ((n.toNat : Nat) : Int) = n by omega]
theorem X3Z {n : Nat} (h : n < 128) : vS n = [UInt8.ofNat n] := by rw [vS, if_pos h]
theorem Xdy {s : List UInt8} (h : s.length < 128) : YT s = UInt8.ofNat s.length :: (s ++ U0 s) := by
 unfold YT
 rw [X0e (by omega), Int.toNat_natCast, X3Z h]
 simp
abbrev zV : Val := .mk 0 0 0 [] []
def Xt (g : Nat → Int → Val × Int × Int) (a : Int) : Nat → List Val × Int × Int
 | 0 => ([], a, 0)
 | k + 1 => let p := Xt g a k
  if p.2.2 ≠ 0 then p else let r := g k p.2.1; (p.1 ++ [r.1], r.2.1, r.2.2)
def Uh (k n : Int) : Bool := if k = 8 then decide (64 < n) else decide (25 < n) || decide (n % 2 = 0)
def XV (gl gp : Nat → Int → Val × Int × Int) (b : List UInt8) (a k : Int) : Val × Int × Int :=
 if k = 1 ∨ k = 2 ∨ k = 5 ∨ k = 6 then let r := Xp b a; (.mk k r.1 0 [] [], r.2.1, r.2.2)
 else if k = 3 then let r := Xp b a
  if r.2.2 ≠ 0 then (.mk 3 0 0 [] [], r.2.1, r.2.2) else let q := Xp b r.2.1; (.mk 3 r.1 q.1 [] [], q.2.1, q.2.2)
 else if k = 4 then let r := Yk b a 100; (.mk 4 0 0 r.1 [], r.2.1, r.2.2)
 else if k = 7 ∨ k = 8 then let c := Xf b a
  if c.2.2 ≠ 0 then (.mk k 0 0 [] [], c.2.1, c.2.2) else if Uh k c.1 then (.mk k 0 0 [] [], c.2.1, 2) else
   let p := Xt (if k = 8 then gl else gp) c.2.1 c.1.toNat; (.mk k 0 0 [] p.1, p.2.1, p.2.2)
 else (.mk k 0 0 [] [], a, 0)
def U9 (gl gp : Nat → Int → Val × Int × Int) (m : Nat) (b : List UInt8) (a want : Int) : Val × Int × Int :=
 if a = b.length then (zV, a, 3) else
  let k : Int := ((b[a.toNat]?).getD 0).toNat
  if 8 < k ∨ (k = 8 ∧ m = 0) ∨ (want ≠ 0 ∧ k ≠ want) then (zV, a, 2) else
   let c := XV gl gp b (a + 1) k
   if c.2.2 = 0 ∧ X8 8 c.1 = false then (c.1, c.2.1, 2) else c
def noG (_ : Nat) (a : Int) : Val × Int × Int := (zV, a, 2)
def X2u (b : List UInt8) (a want : Int) : Val × Int × Int := U9 noG noG 0 b a want
def Uu (b : List UInt8) (i : Nat) (a : Int) : Val × Int × Int := X2u b a (5 + (i % 2 : Nat))
def UX (b : List UInt8) : Nat → Int → Val × Int × Int
 | 0, a => U9 noG (Uu b) 0 b a 0
 | m + 1, a => U9 (fun _ e => UX b m e) (Uu b) (m + 1) b a 0
def VM (b : List UInt8) : Nat → Nat → Int → Val × Int × Int
 | 0 => noG
 | m + 1 => fun _ e => UX b m e
theorem X0o (b : List UInt8) (m : Nat) (a : Int) : UX b m a = U9 (VM b m) (Uu b) m b a 0 := by
 cases m <;> rfl
def Yn (b : List UInt8) (a : Int) : Val × Int × Int :=
 if a < 0 ∨ (b.length : Int) < a then (zV, 0, 1) else let r := UX b 8 a; if r.2.2 ≠ 0 then (zV, 0, r.2.2) else r
theorem X6U : ∀ (v : Val) (m m' : Nat), m ≤ m' → X8 m v = true → X8 m' v = true := by
 intro v
 induction v using Val.rec (motive_2 := fun l => ∀ (m m' : Nat), m ≤ m' → Uf m l = true → Uf m' l = true) with
 | mk k n d s l ih =>
  intro m m' hm h
  rw [X8] at h ⊢
  by_cases hk : k = 8
  ·subst hk
   simp at h ⊢
   refine ⟨h.1, ⟨h.2.1.1, h.2.1.2.1, by omega⟩, ih _ _ (by omega) h.2.2⟩
  ·simp only [hk, if_false] at h ⊢
   exact h
 | nil => rfl
 | cons v r ih1 ih2 =>
  rename_i hm h
  rw [Uf] at h ⊢
  simp at h ⊢
  exact ⟨ih1 _ _ hm h.1, ih2 _ _ hm h.2⟩
open Go Go.Proofs
set_option maxRecDepth 100000
set_option linter.unusedSimpArgs false
abbrev X0r (n : Nat) : AVal := .d (.v (.int .u64 n))
abbrev n8 (n : Nat) : Value := .int .u8 n
abbrev n32 (n : Nat) : Value := .int .u32 n
abbrev n64 (n : Nat) : Value := .int .u64 n
abbrev ni (n : Nat) : Value := .int .i64 n
theorem U4 {src dst : TypeId} {k : IntKind} {a : Nat} (hs : (Tryz.prog.underlying src).isSome = true) (hd : X1T Tryz.prog dst .u8 = true) (w : World) : (convert src dst (.int k (a : Int))).run Tryz.prog w = .ok (n8 (a % 256)) w :=
 XeF hs hd rfl w
theorem Xhz : ∀ m, m < 256 → m ||| 128 = m % 128 + 128 := by decide +kernel
theorem X0q {n : Nat} (h : n < 18446744073709551616) : (vS n).length ≤ 10 := by
 obtain ⟨h1, h2, _⟩ := X6P n
 exact X6z 10 h1 (by rw [h2]; exact Nat.lt_of_lt_of_le h (by decide)) (by omega)
theorem Xea {n : Nat} (h : 128 ≤ n) : vS n = UInt8.ofNat (n % 128 + 128) :: vS (n / 128) := by rw [vS, if_neg (by omega)]
theorem X6y (n : Nat) (hn : n < 18446744073709551616) : Con Tryz.prog 115 [] [ani, X0r n] [(130, .row 1 ((vS n).map X7))] (.own 130 (vS n).length) := by
 refine Xb (xs := [.own 130 (vS n).length]) Tryz.func115 rfl Tryz.ntmps115 rfl rfl rfl (fun E => ?_)
 refine Qd ?_; refine Qe ?_; refine Xm (Vp 0 130 1 rfl rfl rfl) ?_
 refine Xu (ι := List UInt8 × Nat) (fun i => i.1 ++ vS i.2 = vS n ∧ i.2 ≤ n) (fun i => ⟨20, [(1, X0r i.2), (0, .own 130 i.1.length)], [(130, .row 1 (i.1.map X7))]⟩) (fun i => i.2) ([], n) ⟨rfl, Nat.le_refl _⟩
  (Xa rfl ⟨JL, JL, trivial⟩ ⟨rfl, trivial⟩) ?_
 rintro ⟨pre, m⟩ ⟨hpre, hm⟩
 simp only at hpre hm
 have hlen : pre.length ≤ 10 := by
  have h1 := congrArg List.length hpre
  have h2 := X0q hn
  simp only [List.length_append] at h1; omega
 by_cases h : 128 ≤ m
 ·have hv := Xea h
  have e1 : n8 (m % 256 ||| 128) = n8 (UInt8.ofNat (m % 128 + 128)).toNat := by rw [Xhz _ (by omega), X02 (by omega)]; congr 2; omega
  have e2 : n64 (m / 2 ^ 7) = n64 (m / 128) := rfl
  refine Qg ?_; refine Z2 ?_; refine Qh ?_; refine X4 ?_; refine X5 ?_; refine Qi ?_; refine Z3 (u := n64 m) (r := n8 (m % 256)) ?_ (hr := by exact U4 rfl rfl); refine Z4 (op := .or) (r' := _) (u := n8 (m % 256)) (v := n8 128) ?_ (hr' := by exact e1) (hr := by exact V7 (by rw [Yv]; omega) (by rw [Yv]; omega)); refine Qj ?_; refine Qk ?_; refine Z4 (op := .shr) (r' := _) (u := n64 m) (v := n64 7) ?_ (hr' := by exact e2) (hr := by exact X2p (by decide)); refine Qc ?_
  refine ⟨(pre ++ [UInt8.ofNat (m % 128 + 128)], m / 128), ⟨by simp only; rw [← hpre, hv]; simp, by simp only; omega⟩, by simp only; omega, Xa rfl ⟨JL, (by refine AVal.le_of_eq ?_; refine Eq.trans (b := AVal.own 130 (_ + _)) rfl ?_; simp), trivial⟩ ⟨?_, trivial⟩⟩
  refine Eq.trans (b := AObj.row 1 (_ ++ [[.v (n8 _)]])) rfl ?_
  simp
 ·have hv : vS m = [UInt8.ofNat m] := X3Z (by omega)
  have e3 : n8 (m % 256) = n8 (UInt8.ofNat m).toNat := by rw [X02 (by omega)]; congr 2; omega
  refine Qg ?_; refine Z2 ?_; refine Ql ?_; refine Qi ?_; refine Z3 (u := n64 m) (r := n8 (UInt8.ofNat m).toNat) ?_ (hr := by exact by rw [← e3]; exact U4 rfl rfl); refine Qj ?_
  refine X1 ⟨_, Xc 4 (y := .own 130 (vS n).length) (AVal.le_of_eq ?_), ⟨rfl, trivial⟩, Xh ⟨?_, trivial⟩⟩
  ·refine Qm ?_
   rw [← hpre, hv]; simp
  ·refine Eq.trans (b := AObj.row 1 (_ ++ [[.v (n8 _)]])) rfl ?_
   rw [← hpre, hv]; simp
theorem X9O (n : Int) (hn : n ≤ 9223372036854775807) : Con Tryz.prog 85 [] [ai n] [(130, .row 1 ((Xo n).map X7))] (.own 130 (Xo n).length) := by
 refine Xb (xs := [.own 130 (Xo n).length]) Tryz.func85 rfl Tryz.ntmps85 rfl rfl rfl (fun E => ?_)
 by_cases h : n < 0
 ·rw [show Xo n = [] by simp [Xo, h]]
  refine Qo ?_; refine Qp ?_; refine Xm (Vp 2 130 1 rfl rfl rfl) ?_; exact Qq
 ·obtain ⟨m, rfl⟩ : ∃ m : Nat, n = m := ⟨n.toNat, by omega⟩
  rw [show Xo (m : Int) = vS m by unfold Xo; rw [if_neg h, Int.toNat_natCast]]
  refine Qo ?_; refine Qs ?_; refine Z3 (u := ni m) (r := n64 m) ?_ (hr := by exact YM rfl rfl (by rw [XN]; omega)); refine Z9 (hcon := X6y m (by omega)) ?_; exact Qt
theorem Xcm (n : Int) (hn : -9223372036854775808 ≤ n ∧ n ≤ 9223372036854775807) : Con Tryz.prog 151 [] [ai n] [(130, .row 1 ((Yi n).map X7))] (.own 130 (Yi n).length) := by
 refine Xb (xs := [.own 130 (Yi n).length]) Tryz.func151 rfl Tryz.ntmps151 rfl rfl rfl (fun E => ?_)
 by_cases h : n < 0
 ·obtain ⟨m, rfl⟩ : ∃ m : Nat, n = -(m : Int) - 1 := ⟨(-n - 1).toNat, by omega⟩
  have ez : zig (-(m : Int) - 1) = 2 * m + 1 := by unfold zig; rw [if_pos (by omega)]; omega
  unfold Yi; rw [ez]
  have ew : IntKind.u64.wrap (-(m : Int) - 1) = ((18446744073709551615 - m : Nat) : Int) := by rw [IntKind.wrap_u64]; omega
  have es : (18446744073709551615 - m) * 2 ^ 1 % 2 ^ IntKind.u64.bits = 18446744073709551614 - 2 * m := by
   rw [show 2 ^ IntKind.u64.bits = 18446744073709551616 from rfl]; omega
  have ec : 2 ^ IntKind.u64.bits - 1 - (18446744073709551614 - 2 * m) = 2 * m + 1 := by
   rw [show 2 ^ IntKind.u64.bits = 18446744073709551616 from rfl]; omega
  have hcompl : ∀ w, (Op.unary .xor (n64 (18446744073709551614 - 2 * m))).run Tryz.prog w = .ok (n64 (2 * m + 1)) w := fun w => by
   have h := X8G (P := Tryz.prog) (k := .u64) (a := 18446744073709551614 - 2 * m) rfl (by rw [show 2 ^ IntKind.u64.bits = 18446744073709551616 from rfl]; omega) w
   rwa [ec] at h
  refine Qu ?_; refine Z3 (u := .int .i64 (-(m : Int) - 1)) (r := n64 (18446744073709551615 - m)) ?_ (hr := by exact by intro w; show _ = Result.ok (Value.int .u64 ((18446744073709551615 - m : Nat) : Int)) w; rw [← ew]; exact X30 rfl rfl w); refine Z4 (op := .shl) (r' := n64 (18446744073709551614 - 2 * m)) (u := n64 (18446744073709551615 - m)) (v := n64 1) ?_ (hr' := by exact congrArg n64 es) (hr := by exact Vc rfl (by decide)); refine Qc ?_; refine Qn ?_; refine Qh ?_; refine Qk ?_; refine Za (u := n64 (18446744073709551614 - 2 * m)) (r := n64 (2 * m + 1)) ?_ (hr := by exact hcompl); refine Qv ?_; refine Z9 (hcon := X6y (2 * m + 1) (by omega)) ?_; exact Qt
 ·obtain ⟨m, rfl⟩ : ∃ m : Nat, n = m := ⟨n.toNat, by omega⟩
  have ez : zig (m : Int) = 2 * m := by unfold zig; rw [if_neg (by omega)]; omega
  unfold Yi; rw [ez]
  have es : m * 2 ^ 1 % 2 ^ IntKind.u64.bits = 2 * m := by
   rw [show 2 ^ IntKind.u64.bits = 18446744073709551616 from rfl]; omega
  refine Qu ?_; refine Z3 (u := ni m) (r := n64 m) ?_ (hr := by exact YM rfl rfl (by rw [XN]; omega)); refine Z4 (op := .shl) (r' := n64 (2 * m)) (u := n64 m) (v := n64 1) ?_ (hr' := by exact congrArg n64 es) (hr := by exact Vc rfl (by decide)); refine Qc ?_; refine Qn ?_; refine Qs ?_; refine Z9 (hcon := X6y (2 * m) (by omega)) ?_; exact Qt
theorem X0S (n : Int) (hn : n ≤ 9223372036854775807) : Con Tryz.prog 85 [] [ai n] [] (.d (Xg (Xo n))) := (X9O n hn).data (by simp)
theorem X1R (n : Int) (hn : -9223372036854775808 ≤ n ∧ n ≤ 9223372036854775807) : Con Tryz.prog 151 [] [ai n] [] (.d (Xg (Yi n))) := (Xcm n hn).data (by simp)
abbrev X9 (l : List UInt8) : AVal := .d (.v (.string (X6 l)))
abbrev X3T (n : Nat) : AVal := .d (.v (n32 n))
def Uk (b : List UInt8) (i : Nat) : Nat := (b.take i).foldl X3j 4294967295
theorem Xah (b : List UInt8) (i : Nat) : Uk b i < 4294967296 := XaR _ (by decide)
theorem X82 {b : List UInt8} {i : Nat} {x : UInt8} (h : b[i]? = some x) : Uk b (i + 1) = X3j (Uk b i) x := by
 unfold Uk
 rw [List.take_add_one, h, Option.toList_some, List.foldl_append]; rfl
theorem X7g (b : List UInt8) : Uk b b.length = X0Q b := by unfold Uk X0Q; rw [List.take_length]
theorem XeJ (s : List UInt8) (hs : s.length ≤ 65536) : Con Tryz.prog 149 [] [X9 s] [(131, .row 1 ((XM s).map X7))] (.own 131 (XM s).length) := by
 refine Xb (xs := [.own 131 (XM s).length]) Tryz.func149 rfl Tryz.ntmps149 rfl rfl rfl (fun E => ?_)
 have hl : (Xo (s.length : Int)).length ≤ 10 := by rw [X0e (by omega)]; exact X0q (by omega)
 have hsz : (X6 s).size = s.length := rfl
 have hlm : (List.map X7 (Xo (s.length : Int))).length = (Xo (s.length : Int)).length := by simp
 generalize hhd : Xo (s.length : Int) = hd at *
 have hput : XM s = hd ++ s := by unfold XM; rw [hhd]
 have hpc := X0S s.length (by omega)
 rw [hhd] at hpc
 have hm1 : hd.length = min (hd.map X7).length (List.replicate ((hd.map X7).length + (X6 s).size) (zD (Value.int IntKind.u8 0).cells.toList)).length := by simp
 have hk : hd.length ≤ ((hd.map X7).take hd.length ++ (List.replicate ((hd.map X7).length + (X6 s).size) (zD (Value.int IntKind.u8 0).cells.toList)).drop hd.length).length := by simp
 have hm2 : s.length = min (s.map X7).length (((hd.map X7).take hd.length ++ (List.replicate ((hd.map X7).length + (X6 s).size) (zD (Value.int IntKind.u8 0).cells.toList)).drop hd.length).length - hd.length) := by simp [hsz]
 refine Qu ?_; refine Zc ?_; refine Z9 (hcon := hpc) ?_; refine Qv ?_; refine Zd ?_; refine Z1 ?_; refine Zc ?_; refine Zb ?_; refine Ze (γ := 131) ?_; refine Qv ?_; refine Qw ?_; refine Zf (m := hd.length) ?_ (hm := by exact hm1); refine Zg (k := hd.length) ?_ (hk := by exact hk); refine Z1 ?_; refine Zh (m := s.length) ?_ (hk := by exact hk) (hm := by exact hm2); refine JD ?_; refine Qx ?_
 refine X1 ⟨_, Xc 2 (y := .own 131 (XM s).length) (AVal.le_of_eq ?_), ⟨rfl, trivial⟩, Xh ⟨?_, trivial⟩⟩
 ·refine Eq.trans (b := AVal.own 131 (_ + _)) rfl ?_
  simp [hput, hsz]
 ·refine Eq.trans (b := AObj.row 1 (List.take _ _ ++ _ ++ List.drop _ _)) rfl ?_
  rw [hput]
  congr 1
  rw [List.take_of_length_le (l := hd.map X7) (by simp), List.take_left' (by simp), List.take_of_length_le (by simp), List.drop_of_length_le (by simp [hsz]), List.append_nil, List.map_append]
theorem X6S (b : List UInt8) : Con Tryz.prog 92 [] [.d (Xg b)] [] (ai (YQ b)) := by
 refine Xb (xs := [ai (YQ b)]) Tryz.func92 rfl Tryz.ntmps92 rfl rfl rfl (fun E => ?_)
 refine Qd ?_; refine Qy ?_; refine Qz ?_
 refine Xu (fun i : Nat => i ≤ b.length) (fun i => ⟨31, [(3, X3T (Uk b i)), (6, .d (Xg b)), (7, ai b.length), (8, ai i)], []⟩) (fun i => b.length - i) 0 (by omega)
  (Xa rfl ⟨JL, JL, JL, JL, trivial⟩ trivial) ?_
 intro i hi
 refine X83 6 (sz := 1) (xs := b.map X7) rfl fun hbl => ?_
 rw [List.length_map] at hbl
 have hc := Xah b i
 by_cases hlt : i < b.length
 ·obtain ⟨x, hx⟩ := Xv hlt
  have hx8 := x.toNat_lt
  refine QC ?_; refine QD ?_; refine Qc ?_; refine Qi ?_; refine Z3 (u := n8 x.toNat) (r := n32 x.toNat) ?_ (hr := by exact YM rfl rfl (by rw [UU]; omega)); refine Z7 (op := .xor) (r' := n32 (Uk b i ^^^ x.toNat)) (u := n32 (Uk b i)) (v := n32 x.toNat) ?_ (hr := by exact X3h (by rw [UU]; omega) (by rw [UU]; omega)); refine Qv ?_; refine QE ?_
  refine Xu (fun k : Nat => k ≤ 8) (fun k => ⟨31, [(6, .d (Xg b)), (7, ai b.length), (8, ai i), (3, X3T (X0d k (Uk b i ^^^ x.toNat))), (16, ai k)], []⟩) (fun k => 8 - k) 0 (by omega)
   (Xa rfl ⟨JL, JL, JL, JL, JL, trivial⟩ trivial) ?_
  intro k hk
  have hv := X4y (X6C hc x) k
  have hv1 : X0d (k + 1) (Uk b i ^^^ x.toNat) = VE (X0d k (Uk b i ^^^ x.toNat)) := rfl
  generalize hgv : X0d k (Uk b i ^^^ x.toNat) = v at *
  by_cases hk8 : k < 8
  ·by_cases hodd : v % 2 = 1
   ·have hb : VE v = (v / 2) ^^^ 3988292384 := by unfold VE; rw [if_pos hodd]
    refine QF ?_; refine QG ?_; refine Zl ?_; refine Qh ?_; refine Qk ?_; refine Z7 (op := .shr) (r' := n32 (v / 2)) (u := n32 v) (v := n64 1) ?_ (hr := by exact X2p (by decide)); refine QH ?_; refine Qc ?_; refine QI ?_; exact QJ
   ·have hb : VE v = v / 2 := by unfold VE; rw [if_neg hodd]
    refine QF ?_; refine QG ?_; refine Zl ?_; refine JD ?_; refine JF ?_; refine Qk ?_; refine Z7 (op := .shr) (r' := n32 (v / 2)) (u := n32 v) (v := n64 1) ?_ (hr := by exact X2p (by decide)); refine Qc ?_; refine QI ?_; exact QJ
  obtain rfl : k = 8 := by omega
  have hstep : Uk b (i + 1) = v := by rw [X82 hx]; exact hgv
  refine QK ?_; refine QI ?_; exact ⟨i + 1, by omega, by omega, Xa rfl ⟨(by rw [hstep]; exact AVal.le_refl _), JL, JL, JL, trivial⟩ trivial⟩
 obtain rfl : i = b.length := by omega
 have hall := X7g b
 rw [hall] at hc
 rw [hall]
 have hcompl : ∀ w, (Op.unary .xor (n32 (X0Q b))).run Tryz.prog w = .ok (n32 (YQ b)) w := fun w => X8G (P := Tryz.prog) (k := .u32) (a := X0Q b) rfl hc w
 refine QK ?_; refine Qf ?_; refine Za (u := n32 (X0Q b)) (r := n32 (YQ b)) ?_ (hr := by exact hcompl); refine Z3 (u := n32 (YQ b)) (r := ni (YQ b)) ?_ (hr := by exact YM rfl rfl (by rw [Xr]; have := X2L b; omega)); exact QM
theorem X1J (s : List UInt8) (hs : s.length ≤ 65536) : Con Tryz.prog 149 [] [X9 s] [] (.d (Xg (XM s))) := (XeJ s hs).data (by simp)
end Go.Fw

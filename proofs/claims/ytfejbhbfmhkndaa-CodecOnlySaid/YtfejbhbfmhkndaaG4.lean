/- The codec in plain Lean: what the functions compute. -/
import Derived.Test.YtfejbhbfmhkndaaG2
namespace Go.Fw
open Go
set_option linter.unusedVariables false

inductive Val where
  | mk (kind n d : Int) (s : List UInt8) (l : List Val)
namespace Val
def kind : Val → Int | mk k _ _ _ _ => k
def n : Val → Int | mk _ n _ _ _ => n
def d : Val → Int | mk _ _ d _ _ => d
def s : Val → List UInt8 | mk _ _ _ s _ => s
def l : Val → List Val | mk _ _ _ _ l => l
end Val
abbrev cByte (b : UInt8) : List D := [.v (.int .u8 b.toNat)]
abbrev dBytes (l : List UInt8) : D := .sl 1 (l.map cByte)
mutual
def cVal : Val → List D
  | .mk k n d s l => [.v (.int .i64 k), .v (.int .i64 n), .v (.int .i64 d), .v (.string (baOf s)), .sl 5 (cVals l)]
def cVals : List Val → List (List D)
  | [] => []
  | v :: r => cVal v :: cVals r
end
theorem cVals_map : ∀ l : List Val, cVals l = l.map cVal
  | [] => by simp [cVals]
  | v :: r => by simp [cVals, cVals_map r]
theorem map_get {α β : Type} {l : List α} {f : α → β} {k : Nat} {x : α} (h : l[k]? = some x) : (l.map f)[k]? = some (f x) := by simp [h]
theorem get_of_lt {α : Type} {l : List α} {k : Nat} (h : k < l.length) : ∃ x, l[k]? = some x := ⟨_, List.getElem?_eq_getElem h⟩

/-! Numbers. -/
def vS (n : Nat) : List UInt8 := if n < 128 then [UInt8.ofNat n] else UInt8.ofNat (n % 128 + 128) :: vS (n / 128)
termination_by n
decreasing_by omega
def putUintS (n : Int) : List UInt8 := if n < 0 then [] else vS n.toNat
def zig (n : Int) : Nat := if n < 0 then 2 * (-(n + 1)).toNat + 1 else 2 * n.toNat
def zag (u : Nat) : Int := if u % 2 = 1 then -((u / 2 : Nat) : Int) - 1 else ((u / 2 : Nat) : Int)
def putIntS (n : Int) : List UInt8 := vS (zig n)
def putStrS (s : List UInt8) : List UInt8 := putUintS s.length ++ s
/-- Leading bytes that say 'more', at most 10 of them. -/
def more (l : List UInt8) : Nat := ((l.take 10).takeWhile fun b => decide (128 ≤ b.toNat)).length
/-- The number of the first so many bytes. -/
def numL : List UInt8 → Nat
  | [] => 0
  | b :: r => b.toNat % 128 + 128 * numL r
/-- number, end, error: as the reference's number. -/
def numS (b : List UInt8) (a : Int) : Nat × Int × Int :=
  if a < 0 ∨ (b.length : Int) < a then (0, 0, 1) else
    let l := b.drop a.toNat
    let n := more l
    if n = 10 then (0, 0, 4) else if l.length ≤ n then (0, 0, 3) else
      if n = 9 ∧ 1 < ((l[n]?).getD 0).toNat then (0, 0, 4) else (numL (l.take (n + 1)), a + n + 1, 0)
/-- Whether the last of the number's bytes is a needless zero. -/
def padded (b : List UInt8) (a : Int) : Bool := let l := b.drop a.toNat; decide (0 < more l) && decide ((l[more l]?).getD 0 = 0)
def uintS (b : List UInt8) (a : Int) : Int × Int × Int :=
  let r := numS b a
  if r.2.2 ≠ 0 then (0, 0, r.2.2) else if 9223372036854775807 < r.1 then (0, 0, 4) else if padded b a then (0, 0, 2) else ((r.1 : Int), r.2.1, 0)
def intS (b : List UInt8) (a : Int) : Int × Int × Int :=
  let r := numS b a
  if r.2.2 ≠ 0 then (0, 0, r.2.2) else if padded b a then (0, 0, 2) else (zag r.1, r.2.1, 0)
/-- What the program's read returns. -/
def readS (b : List UInt8) (a : Int) : Nat × Int × Int :=
  let r := numS b a
  if r.2.2 ≠ 0 then (0, 0, r.2.2) else if padded b a then (r.1, 0, 2) else r
def strS (b : List UInt8) (a : Int) (most : Int) : List UInt8 × Int × Int :=
  let r := uintS b a
  if r.2.2 ≠ 0 then ([], 0, r.2.2) else if most < r.1 then ([], 0, 4) else if (b.length : Int) - r.2.1 < r.1 then ([], 0, 3) else
    ((b.drop r.2.1.toNat).take r.1.toNat, r.2.1 + r.1, 0)

/-! Checksums and frames. -/
def crcBit (c : Nat) : Nat := if c % 2 = 1 then (c / 2) ^^^ 3988292384 else c / 2
def crcBits : Nat → Nat → Nat
  | 0, c => c
  | k + 1, c => crcBit (crcBits k c)
def crcByte (c : Nat) (x : UInt8) : Nat := crcBits 8 (c ^^^ x.toNat)
def crcAll (l : List UInt8) : Nat := l.foldl crcByte 4294967295
def sumS (l : List UInt8) : Nat := 4294967295 - crcAll l
def sumB (l : List UInt8) : List UInt8 := let c := sumS l; [UInt8.ofNat (c % 256), UInt8.ofNat (c / 256 % 256), UInt8.ofNat (c / 65536 % 256), UInt8.ofNat (c / 16777216)]
def frameS (b : List UInt8) : List UInt8 := putUintS b.length ++ b ++ sumB b
def sumAt (b : List UInt8) (k : Nat) : Nat := ((b[k]?).getD 0).toNat + 256 * ((b[k + 1]?).getD 0).toNat + 65536 * ((b[k + 2]?).getD 0).toNat + 16777216 * ((b[k + 3]?).getD 0).toNat
def unframeS (b : List UInt8) (a : Int) : List UInt8 × Int × Int :=
  let r := uintS b a
  if r.2.2 ≠ 0 then ([], 0, r.2.2) else if (b.length : Int) - r.2.1 < 4 ∨ (b.length : Int) - r.2.1 - 4 < r.1 then ([], 0, 3) else
    let body := (b.drop r.2.1.toNat).take r.1.toNat
    if sumAt b (r.2.1 + r.1).toNat ≠ sumS body then ([], 0, 21) else (body, r.2.1 + r.1 + 4, 0)

/-! Values. -/
def fracV (n d : Int) : Bool := decide (1 ≤ d ∧ d ≤ 1000000000000000 ∧ -1000000000000000 ≤ n ∧ n ≤ 1000000000000000) && decide (Nat.gcd n.natAbs d.natAbs = 1)
def strV (s : List UInt8) : Bool := s.all fun b => decide (32 ≤ b.toNat ∧ b.toNat ≤ 126)
mutual
/-- Whether a value is valid where so many more lists may be nested. -/
def validV : Nat → Val → Bool
  | m, .mk k n d s l =>
    (k == 3 || d == 0) && (k == 4 || decide (s.length = 0)) && (k == 7 || k == 8 || decide (l.length = 0)) &&
    (if k = 0 then decide (n = 0) else if k = 1 then decide (n = 0 ∨ n = 1) else if k = 2 then decide (-1000000000000000 ≤ n ∧ n ≤ 1000000000000000)
      else if k = 3 then decide (2 ≤ d) && fracV n d else if k = 4 then decide (n = 0 ∧ s.length ≤ 100) && strV s
      else if k = 5 ∨ k = 6 then decide (1 ≤ n ∧ n ≤ 1000000) else if k = 7 then decide (n = 0 ∧ l.length % 2 = 1 ∧ l.length ≤ 25) && pathV 0 l
      else if k = 8 then decide (n = 0 ∧ l.length ≤ 64 ∧ 1 ≤ m) && listV (m - 1) l else false)
def listV : Nat → List Val → Bool
  | m, [] => true
  | m, v :: r => validV m v && listV m r
def pathV : Nat → List Val → Bool
  | i, [] => true
  | i, v :: r => decide (v.kind = 5 + (i % 2 : Nat)) && validV 0 v && pathV (i + 1) r
end
mutual
def putV : Val → List UInt8
  | .mk k n d s l => UInt8.ofNat k.toNat :: (if k = 1 ∨ k = 2 ∨ k = 5 ∨ k = 6 then putIntS n else if k = 3 then putIntS n ++ putIntS d else if k = 4 then putStrS s
      else if k = 7 ∨ k = 8 then putUintS l.length ++ putL l else [])
def putL : List Val → List UInt8
  | [] => []
  | v :: r => putV v ++ putL r
end
def putValueS (v : Val) : List UInt8 := if validV 8 v then putV v else []
end Go.Fw
namespace Go.Fw
open Go
set_option linter.unusedVariables false
theorem while_len {α : Type} {p : α → Bool} : ∀ (l : List α) (i : Nat), (∀ j, j < i → ∃ b, l[j]? = some b ∧ p b = true) → (∀ b, l[i]? = some b → p b = false) → (l.takeWhile p).length = i
  | [], 0, _, _ => rfl
  | [], i + 1, h, _ => by obtain ⟨b, hb, _⟩ := h 0 (by omega); simp at hb
  | x :: l, 0, _, h => by have := h x (by simp); simp [List.takeWhile, this]
  | x :: l, i + 1, h, k => by
    obtain ⟨b, hb, hp⟩ := h 0 (by omega)
    simp at hb; subst hb
    simp only [List.takeWhile, hp, List.length_cons]
    rw [while_len l i (fun j hj => by simpa using h (j + 1) (by omega)) (fun b hb => k b (by simpa using hb))]
def big (l : List UInt8) (i : Nat) : Prop := ∀ j, j < i → ∃ b, l[j]? = some b ∧ 128 ≤ b.toNat
theorem more_at {l : List UInt8} {i : Nat} {c : UInt8} (h : big l i) (hc : l[i]? = some c) (hlt : c.toNat < 128) (hi : i < 10) : more l = i := by
  refine while_len _ _ (fun j hj => ?_) (fun b hb => ?_)
  · obtain ⟨b, h1, h2⟩ := h j hj
    exact ⟨b, by rw [List.getElem?_take_of_lt (by omega)]; exact h1, by simpa using h2⟩
  · rw [List.getElem?_take_of_lt hi, hc] at hb
    cases hb; simpa using hlt
theorem more_end {l : List UInt8} {i : Nat} (h : big l i) (hi : i = min 10 l.length) : more l = i := by
  refine while_len _ _ (fun j hj => ?_) (fun b hb => ?_)
  · obtain ⟨b, h1, h2⟩ := h j hj
    exact ⟨b, by rw [List.getElem?_take_of_lt (by omega)]; exact h1, by simpa using h2⟩
  · exfalso
    have := (List.getElem?_eq_some_iff.1 hb).1
    simp at this; omega
theorem big_succ {l : List UInt8} {i : Nat} {c : UInt8} (h : big l i) (hc : l[i]? = some c) (h128 : 128 ≤ c.toNat) : big l (i + 1) := fun j hj => by
  by_cases e : j = i
  · subst e; exact ⟨c, hc, h128⟩
  · exact h j (by omega)
theorem numL_snoc : ∀ (l : List UInt8) (i : Nat) (c : UInt8), l[i]? = some c → numL (l.take (i + 1)) = numL (l.take i) + 2 ^ (7 * i) * (c.toNat % 128)
  | [], _, _, h => by simp at h
  | x :: l, 0, c, h => by simp at h; subst h; simp [numL]
  | x :: l, i + 1, c, h => by
    have := numL_snoc l i c (by simpa using h)
    simp only [List.take_succ_cons, numL, this]
    rw [Nat.mul_add, ← Nat.mul_assoc, show 7 * (i + 1) = 7 + 7 * i by omega, Nat.pow_add, show (2 : Nat) ^ 7 = 128 from rfl]
    omega
theorem numL_lt : ∀ (l : List UInt8), numL l < 2 ^ (7 * l.length)
  | [] => by simp [numL]
  | x :: l => by
    have := numL_lt l
    have hx := Nat.mod_lt x.toNat (show 0 < 128 by omega)
    simp only [numL, List.length_cons]
    rw [show 7 * (l.length + 1) = 7 + 7 * l.length by omega, Nat.pow_add]
    omega
theorem numL_take_lt (l : List UInt8) (i : Nat) : numL (l.take i) < 2 ^ (7 * i) :=
  Nat.lt_of_lt_of_le (numL_lt _) (Nat.pow_le_pow_right (by omega) (by simp; omega))
/-- What the program's loop holds. -/
def accS (l : List UInt8) : Nat → Nat
  | 0 => 0
  | i + 1 => accS l i ||| (((l[i]?).getD 0).toNat % 128) * 2 ^ (7 * i) % 18446744073709551616
theorem accS_lt (l : List UInt8) : ∀ i, accS l i < 18446744073709551616
  | 0 => by simp [accS]
  | i + 1 => by
    have := accS_lt l i
    exact Nat.or_lt_two_pow (n := 64) this (Nat.mod_lt _ (by omega))
theorem or_add {a b i : Nat} (h : a < 2 ^ i) : a ||| b * 2 ^ i = a + 2 ^ i * b := by
  rw [Nat.or_comm, Nat.mul_comm b, ← Nat.two_pow_add_eq_or_of_lt h, Nat.add_comm]
theorem acc_num (l : List UInt8) : ∀ i, i ≤ 9 → i ≤ l.length → accS l i = numL (l.take i)
  | 0, _, _ => by simp [accS, numL]
  | i + 1, h, hl => by
    obtain ⟨c, hc⟩ := get_of_lt (l := l) (k := i) (by omega)
    have h1 := acc_num l i (by omega) (by omega)
    have h2 := numL_take_lt l i
    have h3 := Nat.mod_lt c.toNat (show 0 < 128 by omega)
    have h4 : c.toNat % 128 * 2 ^ (7 * i) < 2 ^ (7 + 7 * i) := by rw [Nat.pow_add]; exact Nat.mul_lt_mul_of_pos_right h3 (Nat.pow_pos (by omega))
    have h5 : 2 ^ (7 + 7 * i) ≤ 2 ^ 64 := Nat.pow_le_pow_right (by omega) (by omega)
    simp only [accS, hc, Option.getD_some]
    rw [Nat.mod_eq_of_lt (Nat.lt_of_lt_of_le h4 h5), h1, or_add h2, numL_snoc l i c hc]
theorem acc_last (l : List UInt8) {c : UInt8} (hc : l[9]? = some c) (h : c.toNat ≤ 1) : accS l 10 = numL (l.take 10) := by
  have hl := (List.getElem?_eq_some_iff.1 hc).1
  have h1 := acc_num l 9 (by omega) (by omega)
  have h2 := numL_take_lt l 9
  simp only [accS, hc, Option.getD_some] at h1 ⊢
  rw [numL_snoc l 9 c hc, Nat.mod_eq_of_lt (a := c.toNat % 128 * 2 ^ (7 * 9)) (by
    have : c.toNat % 128 ≤ 1 := by omega
    have : c.toNat % 128 * 2 ^ (7 * 9) ≤ 1 * 2 ^ (7 * 9) := Nat.mul_le_mul_right _ this
    omega)]
  have := acc_num l 9 (by omega) (by omega)
  simp only [accS] at this
  rw [this]
  exact or_add h2
end Go.Fw
namespace Go.Fw
open Go
set_option linter.unusedVariables false
def canon : List UInt8 → Prop
  | [] => False
  | [c] => c.toNat < 128
  | b :: c :: m => 128 ≤ b.toNat ∧ canon (c :: m) ∧ c :: m ≠ [0]
theorem canon_pos : ∀ {m : List UInt8}, canon m → m ≠ [0] → 0 < numL m
  | [c], h, hn => by
    simp only [canon] at h
    have : c.toNat ≠ 0 := fun e => hn (by rw [show c = 0 from UInt8.toNat_inj.1 e])
    simp only [numL]; omega
  | b :: c :: m, h, _ => by
    have := canon_pos h.2.1 h.2.2
    simp only [numL] at this ⊢; omega
theorem toNat_ofNat8 {n : Nat} (h : n < 256) : (UInt8.ofNat n).toNat = n := by simp; omega
theorem vS_canon (u : Nat) : canon (vS u) ∧ numL (vS u) = u ∧ (vS u = [0] → u = 0) := by
  induction u using Nat.strongRecOn with
  | _ u ih =>
    rw [vS]
    by_cases h : u < 128
    · rw [if_pos h]
      simp only [canon, numL, toNat_ofNat8 (show u < 256 by omega)]
      refine ⟨h, by omega, fun e => ?_⟩
      have := congrArg (fun l : List UInt8 => (l.headD 1).toNat) e
      simp only [List.headD_cons, toNat_ofNat8 (show u < 256 by omega)] at this
      simpa using this
    · rw [if_neg h]
      obtain ⟨h1, h2, h3⟩ := ih (u / 128) (by omega)
      cases hv : vS (u / 128) with
      | nil => rw [hv] at h1; exact h1.elim
      | cons c m =>
        rw [hv] at h1 h2 h3
        have hb : (UInt8.ofNat (u % 128 + 128)).toNat = u % 128 + 128 := toNat_ofNat8 (by omega)
        refine ⟨⟨by rw [hb]; omega, h1, fun e => by have := h3 e; omega⟩, ?_, fun e => by simp at e⟩
        simp only [numL] at h2 ⊢
        rw [hb]; omega
theorem vS_num : ∀ {m : List UInt8}, canon m → vS (numL m) = m
  | [c], h => by
    simp only [canon] at h
    have e : numL [c] = c.toNat := by simp only [numL]; omega
    rw [e, vS, if_pos h]; simp
  | b :: c :: m, h => by
    have h1 := vS_num h.2.1
    have h2 := canon_pos h.2.1 h.2.2
    have hb := b.toNat_lt
    have e : numL (b :: c :: m) = b.toNat % 128 + 128 * numL (c :: m) := rfl
    rw [e, vS, if_neg (by omega), show (b.toNat % 128 + 128 * numL (c :: m)) / 128 = numL (c :: m) by omega, h1]
    rw [show (b.toNat % 128 + 128 * numL (c :: m)) % 128 + 128 = b.toNat by have := h.1; omega]
    simp
theorem canon_big : ∀ {m : List UInt8}, canon m → big m (m.length - 1) ∧ ∃ c, m[m.length - 1]? = some c ∧ c.toNat < 128 ∧ (1 < m.length → c ≠ 0)
  | [c], h => ⟨fun j hj => by simp at hj, c, rfl, h, fun h => by simp at h⟩
  | b :: c :: m, h => by
    obtain ⟨h1, x, h2, h3, h4⟩ := canon_big h.2.1
    refine ⟨fun j hj => ?_, x, by simpa using h2, h3, fun _ e => ?_⟩
    · cases j with
      | zero => exact ⟨b, rfl, h.1⟩
      | succ j => simpa using h1 j (by simp at hj ⊢; omega)
    · by_cases hm : m = []
      · subst hm; simp at h2; subst h2; subst e; exact h.2.2 rfl
      · refine h4 (by cases m with | nil => exact absurd rfl hm | cons _ _ => simp) e
theorem canon_len : ∀ {m : List UInt8} (k : Nat), canon m → numL m < 2 ^ (7 * k) → 0 < k → m.length ≤ k
  | [c], k, _, _, hk => hk
  | b :: c :: m, k, h, hn, hk => by
    have h2 := canon_pos h.2.1 h.2.2
    cases k with
    | zero => omega
    | succ k =>
      by_cases hk0 : k = 0
      · subst hk0
        have e : numL (b :: c :: m) = b.toNat % 128 + 128 * numL (c :: m) := rfl
        rw [e] at hn
        have : (2 : Nat) ^ (7 * (0 + 1)) = 128 := rfl
        omega
      · have := canon_len k h.2.1 (by
          have e : numL (b :: c :: m) = b.toNat % 128 + 128 * numL (c :: m) := rfl
          rw [e, show 7 * (k + 1) = 7 + 7 * k by omega, Nat.pow_add, show (2 : Nat) ^ 7 = 128 from rfl] at hn
          omega) (by omega)
        simp only [List.length_cons] at this ⊢; omega
theorem canon_top {m : List UInt8} {c : UInt8} (h : canon m) (hl : m.length = 10) (hn : numL m < 18446744073709551616) (hc : m[9]? = some c) : c.toNat ≤ 1 := by
  obtain ⟨_, x, hx, h128, _⟩ := canon_big h
  rw [hl, hc] at hx; cases hx
  have := numL_snoc m 9 c hc
  rw [List.take_of_length_le (by omega)] at this
  have h9 : (2 : Nat) ^ (7 * 9) = 9223372036854775808 := rfl
  rw [this, h9] at hn
  omega
/-- A number's bytes are read back, whatever follows. -/
theorem num_back {m back : List UInt8} (h : canon m) (hn : numL m < 18446744073709551616) (front : List UInt8) :
    numS (front ++ m ++ back) front.length = (numL m, (front.length : Int) + m.length, 0) ∧ padded (front ++ m ++ back) front.length = false := by
  obtain ⟨hb, c, hc, h128, h0⟩ := canon_big h
  have hlen := canon_len 10 h (Nat.lt_of_lt_of_le hn (by decide)) (by omega)
  have hpos : 0 < m.length := by cases m with | nil => exact h.elim | cons _ _ => simp
  have hd : (front ++ m ++ back).drop (front.length : Int).toNat = m ++ back := by rw [Int.toNat_natCast, List.append_assoc, List.drop_left]
  have hc' : (m ++ back)[m.length - 1]? = some c := by rw [List.getElem?_append_left (by omega)]; exact hc
  have hm : more (m ++ back) = m.length - 1 := more_at (fun j hj => by
    obtain ⟨b, h1, h2⟩ := hb j hj
    exact ⟨b, by rw [List.getElem?_append_left (by omega)]; exact h1, h2⟩) hc' h128 (by omega)
  constructor
  · unfold numS
    rw [if_neg (by simp; omega)]
    simp only [hd, hm]
    rw [if_neg (by omega), if_neg (by simp; omega), if_neg (by
      rintro ⟨e, h1⟩
      rw [hc'] at h1
      have := canon_top h (by omega) hn (c := c) (by rw [← e]; exact hc)
      simp at h1; omega)]
    rw [show m.length - 1 + 1 = m.length by omega, List.take_left]
    refine Prod.ext rfl (Prod.ext ?_ rfl)
    simp only; omega
  · unfold padded
    simp only [hd, hm, hc', Option.getD_some]
    by_cases h1 : m.length = 1
    · simp [h1]
    · have := h0 (by omega)
      simp [this]
/-- What is accepted as a number and is not padded is that number's bytes. -/
theorem num_only {b : List UInt8} {a e : Int} {u : Nat} (h : numS b a = (u, e, 0)) (hp : padded b a = false) :
    0 ≤ a ∧ a < e ∧ e ≤ b.length ∧ (b.drop a.toNat).take (e - a).toNat = vS u ∧ u < 18446744073709551616 := by
  unfold numS at h
  split at h
  · simp at h
  rename_i ha
  simp only at h
  split at h
  · simp at h
  rename_i h10
  split at h
  · simp at h
  rename_i hle
  split at h
  · simp at h
  rename_i h9
  simp only [Prod.mk.injEq] at h
  obtain ⟨rfl, rfl, _⟩ := h
  generalize hl : b.drop a.toNat = l at *
  have hbig : big l (more l) ∧ (∀ c, l[more l]? = some c → c.toNat < 128) ∧ more l < 10 := by
    have hw : ∀ (q : List UInt8), big q ((q.takeWhile fun b => decide (128 ≤ b.toNat)).length) ∧ ∀ c, q[(q.takeWhile fun b => decide (128 ≤ b.toNat)).length]? = some c → c.toNat < 128 := by
      intro q
      induction q with
      | nil => exact ⟨fun j hj => by simp at hj, fun c hc => by simp at hc⟩
      | cons x q ih =>
        by_cases hx : 128 ≤ x.toNat
        · simp only [List.takeWhile, hx, decide_true, List.length_cons]
          refine ⟨fun j hj => ?_, fun c hc => ih.2 c (by simpa using hc)⟩
          cases j with
          | zero => exact ⟨x, rfl, hx⟩
          | succ j => simpa using ih.1 j (by omega)
        · simp only [List.takeWhile, hx, decide_false, List.length_nil]
          exact ⟨fun j hj => by omega, fun c hc => by simp at hc; subst hc; omega⟩
    have h1 := hw (l.take 10)
    have hmore : more l ≤ (l.take 10).length := by unfold more; exact (List.takeWhile_sublist _).length_le
    have hlt : more l < 10 := by simp at hmore; omega
    refine ⟨fun j hj => ?_, fun c hc => h1.2 c (by unfold more at hc hlt; rw [List.getElem?_take_of_lt hlt]; exact hc), hlt⟩
    obtain ⟨x, h2, h3⟩ := h1.1 j hj
    rw [List.getElem?_take_of_lt (by omega)] at h2
    exact ⟨x, h2, h3⟩
  obtain ⟨hb1, hb2, hb3⟩ := hbig
  have hll : l.length = b.length - a.toNat := by rw [← hl, List.length_drop]
  obtain ⟨c, hc⟩ := get_of_lt (l := l) (k := more l) (by omega)
  have hc128 := hb2 c hc
  have hcan : ∀ (k : Nat) (q : List UInt8) (c : UInt8), big q k → q[k]? = some c → c.toNat < 128 → (0 < k → c ≠ 0) → canon (q.take (k + 1)) := by
    intro k
    induction k with
    | zero =>
      intro q c _ hq hc _
      cases q with
      | nil => simp at hq
      | cons x q => simp at hq; subst hq; simpa [canon] using hc
    | succ k ih =>
      intro q c hb hq hc h0
      cases q with
      | nil => simp at hq
      | cons x q =>
        obtain ⟨y, hy, hy2⟩ := hb 0 (by omega)
        simp at hy; subst hy
        have h1 := ih q c (fun j hj => by simpa using hb (j + 1) (by omega)) (by simpa using hq) hc (fun _ => h0 (by omega))
        rw [List.take_succ_cons]
        cases q with
        | nil => simp at hq
        | cons z q =>
          refine ⟨hy2, h1, fun e => ?_⟩
          have e1 : z = 0 := by simpa using (List.cons.inj e).1
          have e2 : (q.take k) = [] := (List.cons.inj e).2
          cases k with
          | zero =>
            simp at hq; subst hq
            exact h0 (by omega) e1
          | succ k =>
            have hlt := (List.getElem?_eq_some_iff.1 hq).1
            have := congrArg List.length e2
            rw [List.length_take, List.length_nil] at this
            simp only [List.length_cons] at hlt
            omega
  have hpad : 0 < more l → c ≠ 0 := by
    intro h0 e
    unfold padded at hp
    simp only [hl, hc, Option.getD_some] at hp
    simp [h0, e] at hp
  have hcn := hcan _ _ _ hb1 hc hc128 hpad
  have ha' : ¬(a < 0) ∧ ¬((b.length : Int) < a) := by simpa using ha
  refine ⟨by omega, by omega, by omega, ?_, ?_⟩
  · rw [show (a + (more l : Int) + 1 - a).toNat = more l + 1 by omega, vS_num hcn]
  · have h1 := numL_take_lt l (more l)
    rw [numL_snoc l _ c hc]
    by_cases hm9 : more l = 9
    · have : c.toNat ≤ 1 := by
        have h2 := h9
        rw [hc] at h2
        simp only [hm9, true_and, Option.getD_some] at h2; omega
      rw [hm9] at h1 ⊢
      have e9 : (2 : Nat) ^ (7 * 9) = 9223372036854775808 := rfl
      rw [e9] at h1 ⊢
      omega
    · have h2 : (2 : Nat) ^ (7 * more l) ≤ 2 ^ 56 := Nat.pow_le_pow_right (by omega) (by omega)
      have e56 : (2 : Nat) ^ 56 = 72057594037927936 := rfl
      rw [e56] at h2
      have h3 := Nat.mod_lt c.toNat (show 0 < 128 by omega)
      have h4 : 2 ^ (7 * more l) * (c.toNat % 128) ≤ 72057594037927936 * 127 := Nat.mul_le_mul h2 (by omega)
      omega
end Go.Fw
namespace Go.Fw
open Go
set_option linter.unusedVariables false
theorem crcBit_lt {c : Nat} (h : c < 4294967296) : crcBit c < 4294967296 := by
  unfold crcBit
  split
  · exact Nat.xor_lt_two_pow (n := 32) (by omega) (by decide)
  · omega
theorem xor_eq {a b p : Nat} (h : a ^^^ p = b ^^^ p) : a = b := by
  have := congrArg (· ^^^ p) h
  simpa [Nat.xor_assoc] using this
theorem crcBit_inj {c d : Nat} (hc : c < 4294967296) (hd : d < 4294967296) (h : crcBit c = crcBit d) : c = d := by
  have key : ∀ a b : Nat, a < 2147483648 → b < 2147483648 → a ^^^ 3988292384 ≠ b := by
    intro a b ha hb e
    have h1 := congrArg (fun n => n.testBit 31) e
    simp only [Nat.testBit_xor, Nat.testBit_lt_two_pow (show a < 2 ^ 31 from ha), Nat.testBit_lt_two_pow (show b < 2 ^ 31 from hb)] at h1
    revert h1; decide
  unfold crcBit at h
  split at h <;> split at h
  · have := xor_eq h; omega
  · exact absurd h (key _ _ (by omega) (by omega))
  · exact absurd h.symm (key _ _ (by omega) (by omega))
  · omega
theorem crcBits_lt {c : Nat} (h : c < 4294967296) : ∀ k, crcBits k c < 4294967296
  | 0 => h
  | k + 1 => crcBit_lt (crcBits_lt h k)
theorem crcBits_inj {c d : Nat} (hc : c < 4294967296) (hd : d < 4294967296) : ∀ k, crcBits k c = crcBits k d → c = d
  | 0, h => h
  | k + 1, h => crcBits_inj hc hd k (crcBit_inj (crcBits_lt hc k) (crcBits_lt hd k) h)
theorem xor_byte_lt {c : Nat} (h : c < 4294967296) (x : UInt8) : c ^^^ x.toNat < 4294967296 :=
  Nat.xor_lt_two_pow (n := 32) h (by have := x.toNat_lt; omega)
theorem crcByte_lt {c : Nat} (h : c < 4294967296) (x : UInt8) : crcByte c x < 4294967296 := crcBits_lt (xor_byte_lt h x) 8
theorem crcFrom_lt : ∀ (l : List UInt8) {c : Nat}, c < 4294967296 → l.foldl crcByte c < 4294967296
  | [], c, h => h
  | x :: l, c, h => crcFrom_lt l (crcByte_lt h x)
theorem crcFrom_inj : ∀ (l : List UInt8) {c d : Nat}, c < 4294967296 → d < 4294967296 → l.foldl crcByte c = l.foldl crcByte d → c = d
  | [], c, d, _, _, h => h
  | x :: l, c, d, hc, hd, h => by
    have h1 := crcFrom_inj l (crcByte_lt hc x) (crcByte_lt hd x) h
    exact xor_eq (crcBits_inj (xor_byte_lt hc x) (xor_byte_lt hd x) 8 h1)
theorem crcAll_lt (l : List UInt8) : crcAll l < 4294967296 := crcFrom_lt l (by decide)
theorem sum_lt (l : List UInt8) : sumS l < 4294967296 := by unfold sumS; omega
theorem crc_set : ∀ (l : List UInt8) (i : Nat) (x y : UInt8) {c : Nat}, c < 4294967296 → l[i]? = some x → x ≠ y → l.foldl crcByte c ≠ (l.set i y).foldl crcByte c
  | [], _, _, _, _, _, h, _ => by simp at h
  | z :: l, 0, x, y, c, hc, h, hn => by
    simp at h; subst h
    intro e
    have h1 := crcFrom_inj l (crcByte_lt hc z) (crcByte_lt hc y) e
    have h2 := crcBits_inj (xor_byte_lt hc z) (xor_byte_lt hc y) 8 h1
    rw [Nat.xor_comm c, Nat.xor_comm c] at h2
    exact hn (UInt8.toNat_inj.1 (xor_eq h2))
  | z :: l, i + 1, x, y, c, hc, h, hn => crc_set l i x y (crcByte_lt hc z) (by simpa using h) hn
theorem sum_set {l : List UInt8} {i : Nat} {x y : UInt8} (h : l[i]? = some x) (hn : x ≠ y) : sumS l ≠ sumS (l.set i y) := by
  have h1 := crc_set l i x y (c := 4294967295) (by decide) h hn
  have h2 := crcAll_lt l
  have h3 := crcAll_lt (l.set i y)
  unfold sumS; unfold crcAll at *
  omega
theorem sumB_len (l : List UInt8) : (sumB l).length = 4 := rfl
/-- The stored checksum is read back. -/
theorem sumAt_back {p q : List UInt8} (l : List UInt8) : sumAt (p ++ sumB l ++ q) p.length = sumS l := by
  have hs := sum_lt l
  have g : ∀ i, i < 4 → (p ++ sumB l ++ q)[p.length + i]? = (sumB l)[i]? := fun i hi => by
    rw [List.append_assoc, List.getElem?_append_right (by omega), List.getElem?_append_left (by rw [sumB_len]; omega)]
    congr 1; omega
  unfold sumAt
  rw [show p.length = p.length + 0 from rfl, g 0 (by omega), show p.length + 0 + 1 = p.length + 1 from rfl, g 1 (by omega), show p.length + 0 + 2 = p.length + 2 from rfl, g 2 (by omega), show p.length + 0 + 3 = p.length + 3 from rfl, g 3 (by omega)]
  simp only [sumB, List.getElem?_cons_zero, List.getElem?_cons_succ, Option.getD_some, UInt8.toNat_ofNat']
  omega
theorem four_bytes {a b c d a' b' c' d' : UInt8} (h : a.toNat + 256 * b.toNat + 65536 * c.toNat + 16777216 * d.toNat = a'.toNat + 256 * b'.toNat + 65536 * c'.toNat + 16777216 * d'.toNat) : a = a' ∧ b = b' ∧ c = c' ∧ d = d' := by
  have h1 := a.toNat_lt; have h2 := b.toNat_lt; have h3 := c.toNat_lt; have h4 := d.toNat_lt
  have h5 := a'.toNat_lt; have h6 := b'.toNat_lt; have h7 := c'.toNat_lt; have h8 := d'.toNat_lt
  refine ⟨UInt8.toNat_inj.1 ?_, UInt8.toNat_inj.1 ?_, UInt8.toNat_inj.1 ?_, UInt8.toNat_inj.1 ?_⟩ <;> omega
end Go.Fw
namespace Go.Fw
open Go
set_option linter.unusedVariables false
theorem put_uint {n : Int} (h : 0 ≤ n) : putUintS n = vS n.toNat := by unfold putUintS; rw [if_neg (by omega)]
theorem uint_back {n : Int} (h : 0 ≤ n ∧ n ≤ 9223372036854775807) (front back : List UInt8) :
    uintS (front ++ putUintS n ++ back) front.length = (n, (front.length : Int) + (putUintS n).length, 0) := by
  obtain ⟨h1, h2, _⟩ := vS_canon n.toNat
  rw [put_uint h.1]
  obtain ⟨h3, h4⟩ := num_back (m := vS n.toNat) (back := back) h1 (by omega) front
  unfold uintS
  rw [h3, h4, h2]
  simp only [ne_eq, not_true_eq_false, if_false, Bool.false_eq_true]
  rw [if_neg (by omega)]
  refine Prod.ext ?_ rfl
  simp only; omega
theorem zag_zig {n : Int} : zag (zig n) = n := by
  unfold zig zag
  split <;> split <;> omega
theorem zig_zag {u : Nat} : zig (zag u) = u := by
  unfold zig zag
  split <;> split <;> omega
theorem zig_lt {n : Int} (h : -9223372036854775808 ≤ n ∧ n ≤ 9223372036854775807) : zig n < 18446744073709551616 := by
  unfold zig; split <;> omega
theorem int_back {n : Int} (h : -9223372036854775808 ≤ n ∧ n ≤ 9223372036854775807) (front back : List UInt8) :
    intS (front ++ putIntS n ++ back) front.length = (n, (front.length : Int) + (putIntS n).length, 0) := by
  obtain ⟨h1, h2, _⟩ := vS_canon (zig n)
  obtain ⟨h3, h4⟩ := num_back (m := vS (zig n)) (back := back) h1 (by rw [h2]; exact zig_lt h) front
  unfold intS putIntS
  rw [h3, h4, h2]
  simp [zag_zig]
theorem str_back {s : List UInt8} {most : Int} (hs : (s.length : Int) ≤ 9223372036854775807) (hm : (s.length : Int) ≤ most) (front back : List UInt8) :
    strS (front ++ putStrS s ++ back) front.length most = (s, (front.length : Int) + (putStrS s).length, 0) := by
  have h1 := uint_back (n := s.length) ⟨by omega, hs⟩ front (s ++ back)
  have e : front ++ putStrS s ++ back = front ++ putUintS s.length ++ (s ++ back) := by simp [putStrS]
  unfold strS
  rw [e, h1]
  simp only [ne_eq, not_true_eq_false, if_false]
  rw [if_neg (by omega), if_neg (by simp only [List.length_append]; omega)]
  have e2 : ((front.length : Int) + ((putUintS (s.length : Int)).length : Int)).toNat = (front ++ putUintS s.length).length := by simp only [List.length_append]; omega
  refine Prod.ext ?_ (Prod.ext ?_ rfl)
  · simp only [e2, List.drop_left, Int.toNat_natCast, List.take_left]
  · simp only [putStrS, List.length_append]; omega
theorem frame_back {s : List UInt8} (hs : (s.length : Int) ≤ 9223372036854775807) (front back : List UInt8) :
    unframeS (front ++ frameS s ++ back) front.length = (s, (front.length : Int) + (frameS s).length, 0) := by
  have h1 := uint_back (n := s.length) ⟨by omega, hs⟩ front (s ++ sumB s ++ back)
  have e : front ++ frameS s ++ back = front ++ putUintS s.length ++ (s ++ sumB s ++ back) := by simp [frameS]
  have h4 := sumB_len s
  unfold unframeS
  rw [e, h1]
  simp only [ne_eq, not_true_eq_false, if_false]
  rw [if_neg (by simp only [List.length_append]; omega)]
  have e2 : ((front.length : Int) + ((putUintS (s.length : Int)).length : Int)).toNat = (front ++ putUintS s.length).length := by simp only [List.length_append]; omega
  have e3 : ((front.length : Int) + ((putUintS (s.length : Int)).length : Int) + (s.length : Int)).toNat = (front ++ putUintS s.length ++ s).length := by simp only [List.length_append]; omega
  have e4 : (List.drop (front ++ putUintS (s.length : Int)).length (front ++ putUintS (s.length : Int) ++ (s ++ sumB s ++ back))).take s.length = s := by rw [List.drop_left, List.append_assoc, List.take_left]
  have e5 : sumAt (front ++ putUintS (s.length : Int) ++ (s ++ sumB s ++ back)) (front ++ putUintS s.length ++ s).length = sumS s := by
    have := sumAt_back (p := front ++ putUintS s.length ++ s) (q := back) s
    rwa [show front ++ putUintS (s.length : Int) ++ s ++ sumB s ++ back = front ++ putUintS (s.length : Int) ++ (s ++ sumB s ++ back) by simp] at this
  rw [e2, e3, Int.toNat_natCast, e4, e5]
  simp only [not_true_eq_false, if_false]
  refine Prod.ext rfl (Prod.ext ?_ rfl)
  simp only [frameS, List.length_append, h4]; omega
/-- What is accepted. -/
def only (b : List UInt8) (a e : Int) (want : List UInt8) : Prop := 0 ≤ a ∧ a ≤ e ∧ e ≤ b.length ∧ (b.drop a.toNat).take (e - a).toNat = want
theorem uint_only {b : List UInt8} {a n e : Int} (h : uintS b a = (n, e, 0)) : only b a e (putUintS n) ∧ 0 ≤ n ∧ n ≤ 9223372036854775807 ∧ a < e := by
  unfold uintS at h
  simp only at h
  split at h
  · rename_i h0; exact absurd (congrArg (fun r => r.2.2) h) h0
  rename_i h0
  split at h
  · exact absurd (congrArg (fun r => r.2.2) h) (by simp)
  rename_i h1
  split at h
  · exact absurd (congrArg (fun r => r.2.2) h) (by simp)
  rename_i h2
  have h0 : (numS b a).2.2 = 0 := by simpa using h0
  simp only [Prod.mk.injEq] at h
  obtain ⟨rfl, rfl, _⟩ := h
  obtain ⟨k1, k2, k3, k4, k5⟩ := num_only (b := b) (a := a) (e := (numS b a).2.1) (u := (numS b a).1) (by rw [← h0]) (by simpa using h2)
  exact ⟨⟨k1, by omega, k3, by rw [put_uint (by omega), Int.toNat_natCast]; exact k4⟩, by omega, by omega, k2⟩
theorem int_only {b : List UInt8} {a n e : Int} (h : intS b a = (n, e, 0)) : only b a e (putIntS n) ∧ a < e ∧ -9223372036854775808 ≤ n ∧ n ≤ 9223372036854775807 := by
  unfold intS at h
  simp only at h
  split at h
  · rename_i h0; exact absurd (congrArg (fun r => r.2.2) h) h0
  rename_i h0
  split at h
  · exact absurd (congrArg (fun r => r.2.2) h) (by simp)
  rename_i h2
  have h0 : (numS b a).2.2 = 0 := by simpa using h0
  simp only [Prod.mk.injEq] at h
  obtain ⟨rfl, rfl, _⟩ := h
  obtain ⟨k1, k2, k3, k4, k5⟩ := num_only (b := b) (a := a) (e := (numS b a).2.1) (u := (numS b a).1) (by rw [← h0]) (by simpa using h2)
  refine ⟨⟨k1, by omega, k3, by unfold putIntS; rw [zig_zag]; exact k4⟩, k2, ?_, ?_⟩ <;> unfold zag <;> split <;> omega
theorem take_add_drop {b : List UInt8} {x y : Nat} : b.take (x + y) = b.take x ++ (b.drop x).take y := List.take_add
theorem str_only {b : List UInt8} {a e most : Int} {s : List UInt8} (h : strS b a most = (s, e, 0)) : only b a e (putStrS s) ∧ (s.length : Int) ≤ most ∧ a < e := by
  unfold strS at h
  simp only at h
  split at h
  · rename_i h0; exact absurd (congrArg (fun r => r.2.2) h) h0
  rename_i h0
  split at h
  · exact absurd (congrArg (fun r => r.2.2) h) (by simp)
  rename_i h1
  split at h
  · exact absurd (congrArg (fun r => r.2.2) h) (by simp)
  rename_i h2
  have h0 : (uintS b a).2.2 = 0 := by simpa using h0
  obtain ⟨⟨k1, k2, k3, k4⟩, k5, k6, k7⟩ := uint_only (b := b) (a := a) (n := (uintS b a).1) (e := (uintS b a).2.1) (by rw [← h0])
  generalize (uintS b a).1 = n at *
  generalize (uintS b a).2.1 = f at *
  simp only [Prod.mk.injEq] at h
  obtain ⟨rfl, rfl, _⟩ := h
  have hl : ((b.drop f.toNat).take n.toNat).length = n.toNat := by simp; omega
  refine ⟨⟨k1, by omega, by omega, ?_⟩, by omega, by omega⟩
  rw [show (f + n - a).toNat = (f - a).toNat + n.toNat by omega, List.take_add, k4, List.drop_drop, show a.toNat + (f - a).toNat = f.toNat by omega]
  unfold putStrS
  rw [hl, show ((n.toNat : Nat) : Int) = n by omega]
theorem frame_only {b : List UInt8} {a e : Int} {x : List UInt8} (h : unframeS b a = (x, e, 0)) : only b a e (frameS x) := by
  unfold unframeS at h
  simp only at h
  split at h
  · rename_i h0; exact absurd (congrArg (fun r => r.2.2) h) h0
  rename_i h0
  split at h
  · exact absurd (congrArg (fun r => r.2.2) h) (by simp)
  rename_i h1
  split at h
  · exact absurd (congrArg (fun r => r.2.2) h) (by simp)
  rename_i h2
  have h0 : (uintS b a).2.2 = 0 := by simpa using h0
  obtain ⟨⟨k1, k2, k3, k4⟩, k5, k6, k7⟩ := uint_only (b := b) (a := a) (n := (uintS b a).1) (e := (uintS b a).2.1) (by rw [← h0])
  generalize (uintS b a).1 = n at *
  generalize (uintS b a).2.1 = f at *
  simp only [Prod.mk.injEq] at h
  obtain ⟨rfl, rfl, _⟩ := h
  have hl : ((b.drop f.toNat).take n.toNat).length = n.toNat := by simp; omega
  have h2 : sumAt b (f + n).toNat = sumS ((b.drop f.toNat).take n.toNat) := by simpa using h2
  have h4 : (b.drop (f + n).toNat).take 4 = sumB ((b.drop f.toNat).take n.toNat) := by
    generalize hx : (b.drop f.toNat).take n.toNat = x at *
    generalize hk : (f + n).toNat = k at *
    obtain ⟨q0, g0⟩ := get_of_lt (l := b) (k := k) (by omega)
    obtain ⟨q1, g1⟩ := get_of_lt (l := b) (k := k + 1) (by omega)
    obtain ⟨q2, g2⟩ := get_of_lt (l := b) (k := k + 2) (by omega)
    obtain ⟨q3, g3⟩ := get_of_lt (l := b) (k := k + 3) (by omega)
    have hs := sum_lt x
    have hb := sumAt_back (p := []) (q := []) x
    simp only [List.nil_append, List.append_nil, List.length_nil] at hb
    rw [← hb] at h2
    unfold sumAt at h2
    simp only [g0, g1, g2, g3, Option.getD_some, sumB, Nat.zero_add, List.getElem?_cons_zero, List.getElem?_cons_succ] at h2
    obtain ⟨e0, e1, e2, e3⟩ := four_bytes h2
    apply List.ext_getElem?
    intro i
    rw [List.getElem?_take]
    split
    · rename_i hi
      rw [List.getElem?_drop]
      rcases i with _ | _ | _ | _ | i
      · rw [Nat.add_zero, g0, e0]; rfl
      · rw [g1, e1]; rfl
      · rw [g2, e2]; rfl
      · rw [g3, e3]; rfl
      · omega
    · rename_i hi
      rw [List.getElem?_eq_none (by rw [sumB_len]; omega)]
  refine ⟨k1, by omega, by omega, ?_⟩
  rw [show (f + n + 4 - a).toNat = (f - a).toNat + (n.toNat + 4) by omega, List.take_add, k4, List.drop_drop, show a.toNat + (f - a).toNat = f.toNat by omega, List.take_add, List.drop_drop, show f.toNat + n.toNat = (f + n).toNat by omega, h4]
  unfold frameS
  rw [hl, show ((n.toNat : Nat) : Int) = n by omega, List.append_assoc]
end Go.Fw
namespace Go.Fw
open Go
set_option linter.unusedVariables false
theorem vS_small {n : Nat} (h : n < 128) : vS n = [UInt8.ofNat n] := by rw [vS, if_pos h]
theorem frame_small {s : List UInt8} (h : s.length < 128) : frameS s = UInt8.ofNat s.length :: (s ++ sumB s) := by
  unfold frameS
  rw [put_uint (by omega), Int.toNat_natCast, vS_small h]
  simp
theorem uint_small {s q : List UInt8} {m : Nat} (h : m < 128) : uintS (UInt8.ofNat m :: q) 0 = ((m : Int), 1, 0) := by
  have h1 := uint_back (n := m) ⟨by omega, by omega⟩ [] q
  rw [put_uint (by omega), Int.toNat_natCast, vS_small h] at h1
  simpa using h1
/-- The frame with its end missing. -/
theorem spoilt_short {s : List UInt8} {k : Nat} (h : s.length < 128) (h1 : 1 ≤ k) (hk : k < s.length + 5) : unframeS ((frameS s).take k) 0 = ([], 0, 3) := by
  have e : (frameS s).take k = UInt8.ofNat s.length :: ((s ++ sumB s).take (k - 1)) := by
    rw [frame_small h]
    cases k with
    | zero => omega
    | succ k => simp
  unfold unframeS
  rw [e, uint_small (s := s) h]
  simp only [ne_eq, not_true_eq_false, if_false]
  rw [if_pos]
  have := sumB_len s
  simp only [List.length_cons, List.length_take, List.length_append]; omega
/-- The frame with one byte changed. -/
theorem spoilt_sum {s : List UInt8} {k : Nat} {x y : UInt8} (h : s.length < 128) (h1 : 1 ≤ k) (hx : (frameS s)[k]? = some x) (hn : x ≠ y) : unframeS ((frameS s).set k y) 0 = ([], 0, 21) := by
  have hB := sumB_len s
  obtain ⟨k, rfl⟩ : ∃ j, k = j + 1 := ⟨k - 1, by omega⟩
  have e : (frameS s).set (k + 1) y = UInt8.ofNat s.length :: ((s ++ sumB s).set k y) := by
    rw [frame_small h, List.set_cons_succ]
  rw [frame_small h, List.getElem?_cons_succ] at hx
  have hk := (List.getElem?_eq_some_iff.1 hx).1
  simp only [List.length_append, hB] at hk
  unfold unframeS
  rw [e, uint_small (s := s) h]
  simp only [ne_eq, not_true_eq_false, if_false]
  rw [if_neg (by simp only [List.length_cons, List.length_set, List.length_append]; omega), if_pos]
  have e1 : (1 : Int).toNat = 1 := rfl
  have e2 : ((1 : Int) + (s.length : Int)).toNat = 1 + s.length := by omega
  rw [e1, e2, Int.toNat_natCast]
  have ed : List.drop 1 (UInt8.ofNat s.length :: ((s ++ sumB s).set k y)) = (s ++ sumB s).set k y := rfl
  rw [ed]
  by_cases hs : k < s.length
  · have e3 : (s ++ sumB s).set k y = s.set k y ++ sumB s := by rw [List.set_append_left _ _ hs]
    rw [List.getElem?_append_left hs] at hx
    rw [e3, List.take_left' (by simp)]
    have := sumAt_back (p := UInt8.ofNat s.length :: s.set k y) (q := []) s
    rw [List.append_nil] at this
    rw [show UInt8.ofNat s.length :: (s.set k y ++ sumB s) = UInt8.ofNat s.length :: s.set k y ++ sumB s from rfl, show 1 + s.length = (UInt8.ofNat s.length :: s.set k y).length by simp; omega, this]
    exact sum_set hx hn
  · have e3 : (s ++ sumB s).set k y = s ++ (sumB s).set (k - s.length) y := by rw [List.set_append_right _ _ (by omega)]
    rw [List.getElem?_append_right (by omega)] at hx
    rw [e3, List.take_left' rfl]
    have hb := sumAt_back (p := []) (q := []) s
    simp only [List.nil_append, List.append_nil, List.length_nil] at hb
    rw [← hb]
    generalize hj : k - s.length = j at *
    have hj4 : j < 4 := by omega
    intro he
    have g : ∀ i, (UInt8.ofNat s.length :: (s ++ (sumB s).set j y))[1 + s.length + i]? = ((sumB s).set j y)[i]? := fun i => by
      rw [show 1 + s.length + i = (s.length + i) + 1 by omega, List.getElem?_cons_succ, List.getElem?_append_right (by omega)]
      congr 1; omega
    unfold sumAt at he
    rw [show 1 + s.length = 1 + s.length + 0 from rfl, g 0, show 1 + s.length + 0 + 1 = 1 + s.length + 1 from rfl, g 1, show 1 + s.length + 0 + 2 = 1 + s.length + 2 from rfl, g 2, show 1 + s.length + 0 + 3 = 1 + s.length + 3 from rfl, g 3] at he
    generalize hq : sumB s = q at *
    match q, hB with
    | [q0, q1, q2, q3], _ =>
      rcases j with _ | _ | _ | _ | j
      all_goals first | omega | (simp at he hx; subst hx; exact hn (UInt8.toNat_inj.1 (by omega)))
end Go.Fw
namespace Go.Fw
open Go
set_option linter.unusedVariables false
abbrev zV : Val := .mk 0 0 0 [] []
/-- Read so many elements, up to the first error (whose element is kept). -/
def loopP (g : Nat → Int → Val × Int × Int) (a : Int) : Nat → List Val × Int × Int
  | 0 => ([], a, 0)
  | k + 1 => let p := loopP g a k
    if p.2.2 ≠ 0 then p else let r := g k p.2.1; (p.1 ++ [r.1], r.2.1, r.2.2)
def countBad (k n : Int) : Bool := if k = 8 then decide (64 < n) else decide (25 < n) || decide (n % 2 = 0)
def contentG (gl gp : Nat → Int → Val × Int × Int) (b : List UInt8) (a k : Int) : Val × Int × Int :=
  if k = 1 ∨ k = 2 ∨ k = 5 ∨ k = 6 then let r := intS b a; (.mk k r.1 0 [] [], r.2.1, r.2.2)
  else if k = 3 then let r := intS b a
    if r.2.2 ≠ 0 then (.mk 3 0 0 [] [], r.2.1, r.2.2) else let q := intS b r.2.1; (.mk 3 r.1 q.1 [] [], q.2.1, q.2.2)
  else if k = 4 then let r := strS b a 100; (.mk 4 0 0 r.1 [], r.2.1, r.2.2)
  else if k = 7 ∨ k = 8 then let c := uintS b a
    if c.2.2 ≠ 0 then (.mk k 0 0 [] [], c.2.1, c.2.2) else if countBad k c.1 then (.mk k 0 0 [] [], c.2.1, 2) else
      let p := loopP (if k = 8 then gl else gp) c.2.1 c.1.toNat; (.mk k 0 0 [] p.1, p.2.1, p.2.2)
  else (.mk k 0 0 [] [], a, 0)
def valG (gl gp : Nat → Int → Val × Int × Int) (m : Nat) (b : List UInt8) (a want : Int) : Val × Int × Int :=
  if a = b.length then (zV, a, 3) else
    let k : Int := ((b[a.toNat]?).getD 0).toNat
    if 8 < k ∨ (k = 8 ∧ m = 0) ∨ (want ≠ 0 ∧ k ≠ want) then (zV, a, 2) else
      let c := contentG gl gp b (a + 1) k
      if c.2.2 = 0 ∧ validV 8 c.1 = false then (c.1, c.2.1, 2) else c
def noG (_ : Nat) (a : Int) : Val × Int × Int := (zV, a, 2)
/-- An element of a path. -/
def leafP (b : List UInt8) (a want : Int) : Val × Int × Int := valG noG noG 0 b a want
def pathG (b : List UInt8) (i : Nat) (a : Int) : Val × Int × Int := leafP b a (5 + (i % 2 : Nat))
/-- A value where so many more lists may be nested. -/
def valP (b : List UInt8) : Nat → Int → Val × Int × Int
  | 0, a => valG noG (pathG b) 0 b a 0
  | m + 1, a => valG (fun _ e => valP b m e) (pathG b) (m + 1) b a 0
def listG (b : List UInt8) : Nat → Nat → Int → Val × Int × Int
  | 0 => noG
  | m + 1 => fun _ e => valP b m e
theorem valP_eq (b : List UInt8) (m : Nat) (a : Int) : valP b m a = valG (listG b m) (pathG b) m b a 0 := by
  cases m <;> rfl
def valueS (b : List UInt8) (a : Int) : Val × Int × Int :=
  if a < 0 ∨ (b.length : Int) < a then (zV, 0, 1) else let r := valP b 8 a; if r.2.2 ≠ 0 then (zV, 0, r.2.2) else r
theorem validV_mono : ∀ (v : Val) (m m' : Nat), m ≤ m' → validV m v = true → validV m' v = true := by
  intro v
  induction v using Val.rec (motive_2 := fun l => ∀ (m m' : Nat), m ≤ m' → listV m l = true → listV m' l = true) with
  | mk k n d s l ih =>
    intro m m' hm h
    rw [validV] at h ⊢
    by_cases hk : k = 8
    · subst hk
      simp at h ⊢
      refine ⟨h.1, ⟨h.2.1.1, h.2.1.2.1, by omega⟩, ih _ _ (by omega) h.2.2⟩
    · simp only [hk, if_false] at h ⊢
      exact h
  | nil => rfl
  | cons v r ih1 ih2 =>
    rename_i hm h
    rw [listV] at h ⊢
    simp at h ⊢
    exact ⟨ih1 _ _ hm h.1, ih2 _ _ hm h.2⟩
end Go.Fw
namespace Go.Fw
open Go
set_option linter.unusedVariables false
abbrev cInt (x : Nat) : List D := [.v (.int .i64 (x : Int))]
abbrev dWide (l : List Nat) : D := .sl 1 (l.map cInt)
def valN : List Nat → Nat
  | [] => 0
  | x :: r => x + 1000 * valN r
def digs : Nat → Nat → List Nat
  | 0, _ => []
  | n + 1, v => v % 1000 :: digs n (v / 1000)
def lowN (l : List Nat) : Prop := ∀ d ∈ l, d < 1000
theorem lowN_get {l : List Nat} (h : lowN l) {k x : Nat} (hx : l[k]? = some x) : x < 1000 := h x (List.mem_of_getElem? hx)
theorem digs_len : ∀ n v, (digs n v).length = n
  | 0, _ => rfl
  | n + 1, v => by rw [digs, List.length_cons, digs_len n]
theorem digs_low : ∀ n v, lowN (digs n v)
  | 0, _ => fun d h => by simp [digs] at h
  | n + 1, v => fun d h => by
    rw [digs] at h
    rcases List.mem_cons.1 h with rfl | h
    · exact Nat.mod_lt _ (by omega)
    · exact digs_low n _ d h
theorem digs_val : ∀ l : List Nat, lowN l → digs l.length (valN l) = l
  | [], _ => rfl
  | x :: r, h => by
    have hx := h x (by simp)
    rw [List.length_cons, digs, valN, show (x + 1000 * valN r) % 1000 = x by omega, show (x + 1000 * valN r) / 1000 = valN r by omega, digs_val r fun d hd => h d (by simp [hd])]
theorem valN_set : ∀ (l : List Nat) (k x y : Nat), l[k]? = some x → valN (l.set k y) + x * 1000 ^ k = valN l + y * 1000 ^ k
  | [], k, x, y, h => by simp at h
  | z :: r, 0, x, y, h => by
    simp at h
    subst h
    simp only [List.set_cons_zero, valN, Nat.pow_zero, Nat.mul_one]
    omega
  | z :: r, k + 1, x, y, h => by
    have ih := valN_set r k x y (by simpa using h)
    simp only [List.set_cons_succ, valN, Nat.pow_succ, ← Nat.mul_assoc]
    omega
theorem valN_zero : ∀ n, valN (List.replicate n 0) = 0
  | 0 => rfl
  | n + 1 => by rw [List.replicate_succ, valN, valN_zero n]
theorem low_zero (n : Nat) : lowN (List.replicate n 0) := fun d h => by
  have := (List.mem_replicate.1 h).2
  omega
theorem low_set {l : List Nat} (h : lowN l) (k : Nat) {y : Nat} (hy : y < 1000) : lowN (l.set k y) := fun d hd => by
  rcases List.mem_or_eq_of_mem_set hd with h1 | rfl
  · exact h d h1
  · exact hy
theorem times_step {l : List Nat} {k x V d c carry : Nat} (hV : valN l + (d * c + carry) * 1000 ^ k = V) (hx : l[k]? = some x) :
    valN (l.set k ((carry + x + d * (c % 1000)) % 1000)) + (d * (c / 1000) + (carry + x + d * (c % 1000)) / 1000) * 1000 ^ (k + 1) = V := by
  have h1 := valN_set l k x ((carry + x + d * (c % 1000)) % 1000) hx
  have ht := Nat.mod_add_div (carry + x + d * (c % 1000)) 1000
  have e1 : d * c = d * (c % 1000) + 1000 * (d * (c / 1000)) := by
    have hc := Nat.mod_add_div c 1000
    calc d * c = d * (c % 1000 + 1000 * (c / 1000)) := by rw [hc]
      _ = _ := by rw [Nat.mul_add, Nat.mul_left_comm]
  rw [e1] at hV
  rw [Nat.pow_succ]
  generalize valN (l.set k ((carry + x + d * (c % 1000)) % 1000)) = A at *
  generalize d * (c % 1000) = u at *
  generalize d * (c / 1000) = w at *
  generalize (carry + x + u) / 1000 = q at *
  generalize (carry + x + u) % 1000 = r at *
  generalize 1000 ^ k = p at *
  have e2 : (r + 1000 * q) * p = (carry + x + u) * p := by rw [ht]
  have e3 : (w + q) * (p * 1000) = 1000 * (w * p) + 1000 * (q * p) := by rw [← Nat.mul_assoc, Nat.mul_comm, Nat.add_mul, Nat.mul_add]
  rw [e3]
  simp only [Nat.add_mul, Nat.mul_assoc] at *
  omega
theorem outer_step {A A' a b i V : Nat} (hV : A + a * b * 1000 ^ i = V) (h : A' = A + a % 1000 * b * 1000 ^ i) : A' + a / 1000 * b * 1000 ^ (i + 1) = V := by
  have e1 : a * b = a % 1000 * b + 1000 * (a / 1000 * b) := by
    have hc := Nat.mod_add_div a 1000
    calc a * b = (a % 1000 + 1000 * (a / 1000)) * b := by rw [hc]
      _ = _ := by rw [Nat.add_mul, Nat.mul_assoc]
  rw [e1] at hV
  rw [Nat.pow_succ]
  generalize a % 1000 * b = u at *
  generalize a / 1000 * b = w at *
  generalize 1000 ^ i = p at *
  have e3 : w * (p * 1000) = 1000 * (w * p) := by rw [← Nat.mul_assoc, Nat.mul_comm]
  rw [e3]
  simp only [Nat.add_mul, Nat.mul_assoc] at *
  omega
theorem pow_le {k m : Nat} (h : 1000 ^ k ≤ 1000 ^ m) : k ≤ m := (Nat.pow_le_pow_iff_right (by decide)).1 h
theorem times_i {a i a0 : Nat} (h : a * 1000 ^ i ≤ a0) (ha : 0 < a) (h0 : a0 ≤ 1000000000000000) : i ≤ 5 := by
  refine pow_le (Nat.le_trans ?_ (Nat.le_trans h h0))
  exact Nat.le_mul_of_pos_left _ ha
theorem times_kc {c k b i : Nat} (h : c * 1000 ^ k ≤ b * 1000 ^ i) (hc : 0 < c) (hb : b ≤ 1000000000000000) (hi : i ≤ 5) : k ≤ 10 := by
  have h1 : 1000 ^ k ≤ c * 1000 ^ k := Nat.le_mul_of_pos_left _ hc
  have h2 : b * 1000 ^ i ≤ 1000 ^ 5 * 1000 ^ 5 := Nat.mul_le_mul hb (Nat.pow_le_pow_right (by decide) hi)
  exact pow_le (Nat.le_trans h1 (Nat.le_trans h h2))
theorem times_kd {A u carry k V W : Nat} (h : A + (u + carry) * 1000 ^ k = V) (hV : V ≤ W) (hW : W ≤ 1000 ^ 10) (hc : 0 < carry) : k ≤ 10 := by
  have h1 : 1000 ^ k ≤ (u + carry) * 1000 ^ k := Nat.le_mul_of_pos_left _ (by omega)
  exact pow_le (Nat.le_trans h1 (by omega))
theorem times_c {c k X : Nat} (h : c * 1000 ^ k ≤ X) : c / 1000 * 1000 ^ (k + 1) ≤ X := by
  refine Nat.le_trans ?_ h
  rw [Nat.pow_succ, Nat.mul_comm (1000 ^ k), ← Nat.mul_assoc]
  exact Nat.mul_le_mul_right _ (Nat.div_mul_le_self c 1000)
theorem times_top {a b a0 : Nat} (ha : a ≤ 1000000000000000) (hb : b ≤ 1000000000000000) : a * b ≤ 1000 ^ 10 := by
  have h : a * b ≤ 1000000000000000 * 1000000000000000 := Nat.mul_le_mul ha hb
  exact h
theorem times_V {A a b i V : Nat} (h : A + a * b * 1000 ^ i = V) : A + a % 1000 * b * 1000 ^ i ≤ V := by
  rw [← h]
  exact Nat.add_le_add_left (Nat.mul_le_mul_right _ (Nat.mul_le_mul_right _ (Nat.mod_le _ _))) _
/-- Adding, as the reference does it. -/
def plusK (x y : List Nat) : Nat → List Nat × Nat
  | 0 => (List.replicate x.length 0, 0)
  | k + 1 => let p := plusK x y k; let t := p.2 + (x[k]?).getD 0 + (y[k]?).getD 0; (p.1.set k (t % 1000), t / 1000)
theorem plusK_len (x y : List Nat) : ∀ k, (plusK x y k).1.length = x.length
  | 0 => by simp [plusK]
  | k + 1 => by simp only [plusK, List.length_set]; exact plusK_len x y k
theorem plusK_carry {x y : List Nat} (hx : lowN x) (hy : lowN y) : ∀ k, (plusK x y k).2 ≤ 1
  | 0 => by simp [plusK]
  | k + 1 => by
    have ih := plusK_carry hx hy k
    have h1 : (x[k]?).getD 0 < 1000 := by
      cases h : x[k]? with
      | none => simp
      | some a => exact lowN_get hx h
    have h2 : (y[k]?).getD 0 < 1000 := by
      cases h : y[k]? with
      | none => simp
      | some a => exact lowN_get hy h
    simp only [plusK]
    omega
def plusS (x y : List Nat) : List Nat := (plusK x y x.length).1
end Go.Fw

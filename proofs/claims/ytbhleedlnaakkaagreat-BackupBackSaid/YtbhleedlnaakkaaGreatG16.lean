/- The null value: the reference's test; plain values. -/
import Derived.Test.YtbhleedlnaakkaaGreatG15
set_option maxHeartbeats 32000000
namespace Go.Fw
open Go Go.Proofs
set_option maxRecDepth 100000
set_option linter.unusedVariables false
set_option linter.unusedSimpArgs false
theorem XeM (v : Val) : Con Tryz.prog 151 [] [Xv v] [] (ab (YN v)) := by
 refine X9 (xs := [ab (YN v)]) Tryz.func151 rfl Tryz.ntmps151 rfl rfl rfl (fun E => ?_)
 have hv := X0g v
 unfold YN
 generalize X7 8 v = b at *
 obtain ⟨k, n, d, s, l⟩ := v
 simp only [Xv, Val.kind] at hv ⊢
 unfold X4M
 by_cases h1 : k = 1
 ·rw [decide_eq_true (by omega), Bool.true_and]
  cases b with
  | true =>
   refine X0 ?_; refine JR ?_; refine ZA (γ := 100) ?_; refine Z0 ?_; refine JD ?_; refine X0 ?_; refine JR ?_; refine ZB ?_; refine ZC ?_; refine Zl ?_; refine Z1 ?_; refine Zo ?_; refine Zo ?_; refine Zo ?_
   refine Zn ?_; refine Z1 ?_; refine Zo ?_; refine Zo ?_; refine Zo ?_; refine Zn ?_; refine Z1 ?_; refine ZL ?_; refine Z9 (hcon := hv) ?_; refine Zn ?_; refine Z0 ?_; refine JD ?_
   first | exact X1 ⟨_, St.le_refl _, ⟨rfl, trivial⟩, X3 _⟩ | exact X1 ⟨_, Xh 2 (y := ab true) (AVal.le_of_eq (by refine Eq.trans (b := ab (decide _)) rfl ?_; exact congrArg ab (by simp; omega))), ⟨rfl, trivial⟩, X3 _⟩ | fail
  | false =>
   refine X0 ?_; refine JR ?_; refine ZA (γ := 100) ?_; refine Z0 ?_; refine JD ?_; refine X0 ?_; refine JR ?_; refine ZB ?_; refine ZC ?_; refine Zl ?_; refine Z1 ?_; refine Zo ?_; refine Zo ?_; refine Zo ?_
   refine Zn ?_; refine Z1 ?_; refine Zo ?_; refine Zo ?_; refine Zo ?_; refine Zn ?_; refine Z1 ?_; refine ZL ?_; refine Z9 (hcon := hv) ?_; refine Zn ?_; refine Z0 ?_; refine JD ?_
   first | exact X1 ⟨_, St.le_refl _, ⟨rfl, trivial⟩, X3 _⟩ | exact X1 ⟨_, Xh 2 (y := ab false) (AVal.le_of_eq (by refine Eq.trans (b := ab (decide _)) rfl ?_; exact congrArg ab (by simp; omega))), ⟨rfl, trivial⟩, X3 _⟩ | fail
 by_cases h2 : k = 2
 ·rw [decide_eq_true (by omega), Bool.true_and]
  cases b with
  | true =>
   refine X0 ?_; refine JR ?_; refine ZA (γ := 100) ?_; refine Z0 ?_; refine JD ?_; refine X0 ?_; refine JR ?_; refine ZB ?_; refine ZC ?_; refine Zl ?_; refine Z1 ?_; refine ZB ?_; refine ZC ?_; refine Zl ?_
   refine Zq ?_; refine Z1 ?_; refine Zo ?_; refine Zo ?_; refine Zo ?_; refine Zn ?_; refine Z1 ?_; refine ZL ?_; refine Z9 (hcon := hv) ?_; refine Zn ?_; refine Z0 ?_; refine JD ?_
   first | exact X1 ⟨_, St.le_refl _, ⟨rfl, trivial⟩, X3 _⟩ | exact X1 ⟨_, Xh 2 (y := ab true) (AVal.le_of_eq (by refine Eq.trans (b := ab (decide _)) rfl ?_; exact congrArg ab (by simp; omega))), ⟨rfl, trivial⟩, X3 _⟩ | fail
  | false =>
   refine X0 ?_; refine JR ?_; refine ZA (γ := 100) ?_; refine Z0 ?_; refine JD ?_; refine X0 ?_; refine JR ?_; refine ZB ?_; refine ZC ?_; refine Zl ?_; refine Z1 ?_; refine ZB ?_; refine ZC ?_; refine Zl ?_
   refine Zq ?_; refine Z1 ?_; refine Zo ?_; refine Zo ?_; refine Zo ?_; refine Zn ?_; refine Z1 ?_; refine ZL ?_; refine Z9 (hcon := hv) ?_; refine Zn ?_; refine Z0 ?_; refine JD ?_
   first | exact X1 ⟨_, St.le_refl _, ⟨rfl, trivial⟩, X3 _⟩ | exact X1 ⟨_, Xh 2 (y := ab false) (AVal.le_of_eq (by refine Eq.trans (b := ab (decide _)) rfl ?_; exact congrArg ab (by simp; omega))), ⟨rfl, trivial⟩, X3 _⟩ | fail
 by_cases h4 : k = 4
 ·rw [decide_eq_true (by omega), Bool.true_and]
  cases b with
  | true =>
   refine X0 ?_; refine JR ?_; refine ZA (γ := 100) ?_; refine Z0 ?_; refine JD ?_; refine X0 ?_; refine JR ?_; refine ZB ?_; refine ZC ?_; refine Zl ?_; refine Z1 ?_; refine ZB ?_; refine ZC ?_; refine Zl ?_
   refine Zq ?_; refine Z1 ?_; refine ZB ?_; refine ZC ?_; refine Zl ?_; refine Zq ?_; refine Z1 ?_; refine ZL ?_; refine Z9 (hcon := hv) ?_; refine Zn ?_; refine Z0 ?_; refine JD ?_
   first | exact X1 ⟨_, St.le_refl _, ⟨rfl, trivial⟩, X3 _⟩ | exact X1 ⟨_, Xh 2 (y := ab true) (AVal.le_of_eq (by refine Eq.trans (b := ab (decide _)) rfl ?_; exact congrArg ab (by simp; omega))), ⟨rfl, trivial⟩, X3 _⟩ | fail
  | false =>
   refine X0 ?_; refine JR ?_; refine ZA (γ := 100) ?_; refine Z0 ?_; refine JD ?_; refine X0 ?_; refine JR ?_; refine ZB ?_; refine ZC ?_; refine Zl ?_; refine Z1 ?_; refine ZB ?_; refine ZC ?_; refine Zl ?_
   refine Zq ?_; refine Z1 ?_; refine ZB ?_; refine ZC ?_; refine Zl ?_; refine Zq ?_; refine Z1 ?_; refine ZL ?_; refine Z9 (hcon := hv) ?_; refine Zn ?_; refine Z0 ?_; refine JD ?_
   first | exact X1 ⟨_, St.le_refl _, ⟨rfl, trivial⟩, X3 _⟩ | exact X1 ⟨_, Xh 2 (y := ab false) (AVal.le_of_eq (by refine Eq.trans (b := ab (decide _)) rfl ?_; exact congrArg ab (by simp; omega))), ⟨rfl, trivial⟩, X3 _⟩ | fail
 rw [decide_eq_false (by omega), Bool.false_and]
 refine X0 ?_; refine JR ?_; refine ZA (γ := 100) ?_; refine Z0 ?_; refine JD ?_; refine X0 ?_; refine JR ?_; refine ZB ?_; refine ZC ?_; refine Zl ?_; refine Z1 ?_; refine ZB ?_; refine ZC ?_; refine Zl ?_
 refine Zq ?_; refine Z1 ?_; refine ZB ?_; refine ZC ?_; refine Zl ?_; refine Zq ?_; refine Z1 ?_; refine Zo ?_; refine Zo ?_; refine Zq ?_; refine Z0 ?_; refine JD ?_
 first | exact X1 ⟨_, St.le_refl _, ⟨rfl, trivial⟩, X3 _⟩ | exact X1 ⟨_, Xh 2 (y := ab false) (AVal.le_of_eq (by refine Eq.trans (b := ab (decide _)) rfl ?_; exact congrArg ab (by simp; omega))), ⟨rfl, trivial⟩, X3 _⟩ | fail
end Go.Fw
namespace Go.Fw
open Go
set_option linter.unusedVariables false
set_option linter.unusedSimpArgs false
def Uz (b : List UInt8) (e : Int × Int) : Prop := e.2 = 0 → ∃ q : Nat, e.1 = (q : Int) ∧ q ≤ b.length
theorem X7t (b : List UInt8) (a : Int) : Uz b (XH b a).2 := by
 intro h
 obtain ⟨k, rfl, hk, h1, h2, he⟩ := X5u h
 refine ⟨_, he, ?_⟩
 simp only [List.length_drop] at h1
 omega
theorem X1A (b : List UInt8) (a : Int) : Uz b (Xe b a).2 := by
 intro h
 unfold Xe at h ⊢
 simp only at h ⊢
 split
 ·rename_i h1; rw [if_pos h1] at h; exact absurd h h1
 rename_i h1; rw [if_neg h1] at h
 split
 ·rename_i h2; rw [if_pos h2] at h; simp at h
 rename_i h2; rw [if_neg h2] at h
 split
 ·rename_i h3; rw [if_pos h3] at h; simp at h
 exact X7t b a (Classical.not_not.1 h1)
theorem X2z (b : List UInt8) (a : Int) : ∃ n : Nat, (Xe b a).1 = n := by
 unfold Xe
 simp only
 split
 ·exact ⟨0, rfl⟩
 split
 ·exact ⟨0, rfl⟩
 split
 ·exact ⟨0, rfl⟩
 exact ⟨_, rfl⟩
theorem XgQ {b : List UInt8} {a : Int} (h : (Xe b a).2.2 ≠ 0) : (Xe b a).1 = 0 := by
 unfold Xe at h ⊢
 simp only at h ⊢
 split
 ·rfl
 rename_i h1; rw [if_neg h1] at h
 split
 ·rfl
 rename_i h2; rw [if_neg h2] at h
 split
 ·rfl
 rename_i h3; rw [if_neg h3] at h
 simp at h
theorem X3C (b : List UInt8) (a : Int) : Uz b (Xq b a).2 := by
 intro h
 unfold Xq at h ⊢
 simp only at h ⊢
 split
 ·rename_i h1; rw [if_pos h1] at h; exact absurd h h1
 rename_i h1; rw [if_neg h1] at h
 split
 ·rename_i h3; rw [if_pos h3] at h; simp at h
 exact X7t b a (Classical.not_not.1 h1)
theorem XfC {b : List UInt8} {a : Int} (h : (Xq b a).2.2 ≠ 0) : (Xq b a).1 = 0 := by
 unfold Xq at h ⊢
 simp only at h ⊢
 split
 ·rfl
 rename_i h1; rw [if_neg h1] at h
 split
 ·rfl
 rename_i h3; rw [if_neg h3] at h
 simp at h
theorem XfU (b : List UInt8) (a most : Int) : Uz b (Y9 b a most).2 := by
 intro h
 have hu := X1A b a
 obtain ⟨n, hn⟩ := X2z b a
 unfold Y9 at h ⊢
 simp only at h ⊢
 split
 ·rename_i h1; rw [if_pos h1] at h; exact absurd h h1
 rename_i h1; rw [if_neg h1] at h
 split
 ·rename_i h2; rw [if_pos h2] at h; simp at h
 rename_i h2; rw [if_neg h2] at h
 split
 ·rename_i h3; rw [if_pos h3] at h; simp at h
 rename_i h3
 obtain ⟨q, hq, hql⟩ := hu (Classical.not_not.1 h1)
 rw [hn] at h3 ⊢
 rw [hq] at h3 ⊢
 exact ⟨q + n, by simp, by omega⟩
section
variable {g : Nat → Int → Val × Int × Int} {a : Int}
theorem X0x {k : Nat} (h : (XC g a k).2.2 = 0) : XC g a (k + 1) = ((XC g a k).1 ++ [(g k (XC g a k).2.1).1], (g k (XC g a k).2.1).2.1, (g k (XC g a k).2.1).2.2) := by
 rw [XC]; simp [h]
theorem X0D {k : Nat} (h : (XC g a k).2.2 ≠ 0) : ∀ j, k ≤ j → XC g a j = XC g a k
 | 0, hj => by obtain rfl : k = 0 := by omega
               rfl
 | j + 1, hj => by
  by_cases e : k = j + 1
  ·rw [e]
  ·have := X0D h j (by omega)
   rw [XC, this]; simp [h]
theorem X9f {k : Nat} (h : (XC g a k).2.2 = 0) : (XC g a k).1.length = k := by
 induction k with
 | zero => rfl
 | succ k ih =>
  by_cases e : (XC g a k).2.2 = 0
  ·rw [X0x e]; simp [ih e]
  ·rw [X0D e (k + 1) (by omega)] at h; exact absurd h e
theorem X1U {b : List UInt8} (hg : ∀ i q : Nat, q ≤ b.length → Uz b (g i q).2) (h0 : ∃ q : Nat, a = (q : Int) ∧ q ≤ b.length) : ∀ k, Uz b (XC g a k).2
 | 0 => fun _ => h0
 | k + 1 => by
  by_cases e : (XC g a k).2.2 = 0
  ·rw [X0x e]
   obtain ⟨q, h1, h2⟩ := X1U hg h0 k e
   intro h
   rw [h1] at h ⊢
   exact hg k q h2 h
  ·intro h; rw [X0D e (k + 1) (by omega)] at h; exact absurd h e
theorem X4H {k : Nat} (h : (XC g a k).2.2 = 0) : (XC g a (k + 1)).1.length = k + 1 := by
 rw [X0x h]; simp [X9f h]
end
theorem Xft {gl gp : Nat → Int → Val × Int × Int} {b : List UInt8} (hgl : ∀ i q : Nat, q ≤ b.length → Uz b (gl i q).2) (hgp : ∀ i q : Nat, q ≤ b.length → Uz b (gp i q).2) (a : Nat) (ha : a ≤ b.length) (k : Int) : Uz b (Y8 gl gp b a k).2 := by
 unfold Y8
 split
 ·exact X3C b a
 split
 ·simp only
  split
  ·exact X3C b a
  ·exact X3C b _
 split
 ·exact XfU b a 100
 split
 ·simp only
  split
  ·exact X1A b a
  rename_i h1
  split
  ·intro h; simp at h
  ·have h0 := X1A b a (Classical.not_not.1 h1)
   split
   ·exact X1U hgl h0 _
   ·exact X1U hgp h0 _
 ·exact fun _ => ⟨a, rfl, ha⟩
theorem X6z {gl gp : Nat → Int → Val × Int × Int} {b : List UInt8} (hgl : ∀ i q : Nat, q ≤ b.length → Uz b (gl i q).2) (hgp : ∀ i q : Nat, q ≤ b.length → Uz b (gp i q).2) (m a : Nat) (ha : a ≤ b.length) (want : Int) : Uz b (Ud gl gp m b a want).2 := by
 unfold Ud
 split
 ·intro h; simp at h
 simp only
 split
 ·intro h; simp at h
 ·rename_i h1 h2
  have := Xft hgl hgp (a + 1) (by omega) ((((b[(a : Int).toNat]?).getD 0).toNat : Nat) : Int)
  rw [Int.natCast_add] at this
  split
  ·intro h; simp at h
  ·exact this
theorem X2w {b : List UInt8} (i q : Nat) : Uz b (noG i q).2 := fun h => by simp [noG] at h
theorem X2B {b : List UInt8} (i q : Nat) (h : q ≤ b.length) : Uz b (Uu b i q).2 :=
 X6z (fun i q _ => X2w i q) (fun i q _ => X2w i q) 0 q h _
theorem X5l {b : List UInt8} : ∀ (m q : Nat), q ≤ b.length → Uz b (V5 b m q).2
 | 0, q, h => X6z (fun i q _ => X2w i q) (fun i q h => X2B i q h) 0 q h _
 | m + 1, q, h => X6z (fun i q h => X5l m q h) (fun i q h => X2B i q h) (m + 1) q h _
end Go.Fw
namespace Go.Fw
open Go
set_option linter.unusedVariables false
set_option linter.unusedSimpArgs false
theorem X43 : ∀ {l : List Val}, (∀ x ∈ l, XY x) → Vi l
 | [], _ => by rw [Vi]; trivial
 | v :: r, h => by
  rw [Vi]
  exact ⟨h v (List.mem_cons_self ..), X43 fun x hx => h x (List.mem_cons_of_mem _ hx)⟩
theorem XbU {m : Nat} {k n d : Int} {s : List UInt8} {l : List Val} (h : X7 m (.mk k n d s l) = true) : s.length ≤ 100 ∧ l.length ≤ 64 := by
 rw [X7] at h
 by_cases h4 : k = 4
 ·subst h4; simp at h; exact ⟨by omega, by rw [h.1.2]; simp⟩
 by_cases h7 : k = 7
 ·subst h7; simp at h; exact ⟨by rw [h.1.2]; simp, by omega⟩
 by_cases h8 : k = 8
 ·subst h8; simp at h; exact ⟨by rw [h.1.2]; simp, by omega⟩
 simp [h4, h7, h8] at h
 exact ⟨by rw [h.1.1.2]; simp, by rw [h.1.2]; simp⟩
theorem X5a : ∀ (v : Val) (m : Nat), X7 m v = true → XY v
 | .mk k n d s l, m, h => by
  have h1 := XbU h
  rw [XY]
  exact ⟨by omega, by omega, X43 fun x hx => X5a x m (X6J h x hx)⟩
termination_by v => SizeOf.sizeOf v
decreasing_by
 have h1 := List.sizeOf_lt_of_mem (show x ∈ l from hx)
 simp only [Val.mk.sizeOf_spec]
 omega
theorem X6S {gl gp : Nat → Int → Val × Int × Int} {m : Nat} {b : List UInt8} {a want : Int} (h : (Ud gl gp m b a want).2.2 = 0) : X7 8 (Ud gl gp m b a want).1 = true := by
 unfold Ud at h ⊢
 split
 ·rename_i h1; rw [if_pos h1] at h; simp at h
 rename_i h1
 rw [if_neg h1] at h
 simp only at h ⊢
 split
 ·rename_i h2; rw [if_pos h2] at h; simp at h
 rename_i h2
 rw [if_neg h2] at h
 split
 ·rename_i h3; rw [if_pos h3] at h; simp at h
 rename_i h3
 rw [if_neg h3] at h
 cases hv : X7 8 (Y8 gl gp b (a + 1) ((((b[a.toNat]?).getD 0).toNat : Nat) : Int)).1 with
 | true => rfl
 | false => exact absurd ⟨h, hv⟩ h3
theorem X7X (b : List UInt8) (a most : Int) (hm : 0 ≤ most) : ((Y9 b a most).1.length : Int) ≤ most := by
 obtain ⟨n, hn⟩ := X2z b a
 unfold Y9
 simp only
 split
 ·simpa using hm
 split
 ·simpa using hm
 split
 ·simpa using hm
 ·rename_i h1 h2 h3
  rw [hn] at h2 ⊢
  simp
  omega
end Go.Fw
namespace Go.Fw
open Go
set_option linter.unusedVariables false
theorem X8M {n : Nat} (h : n ≤ 300) : (Xc n).length ≤ 10 := by
 rw [X1o (by omega)]
 exact X0I (by omega)
theorem X21 {n : Int} (h : -9223372036854775808 ≤ n ∧ n ≤ 9223372036854775807) : (XP n).length ≤ 10 := X0I (Xab h)
theorem XeN {m : Nat} {k n d : Int} {s : List UInt8} {l : List Val} (h : X7 m (.mk k n d s l) = true) (h7 : k ≠ 7) (h8 : k ≠ 8) : (XA (.mk k n d s l)).length ≤ 111 := by
 rw [X7] at h
 rw [XA]
 simp only [List.length_cons]
 by_cases h1 : k = 1 ∨ k = 2 ∨ k = 5 ∨ k = 6
 ·rw [if_pos h1]
  have hn : -9223372036854775808 ≤ n ∧ n ≤ 9223372036854775807 := by
   rcases h1 with rfl | rfl | rfl | rfl <;> simp at h <;> omega
  have := X21 hn
  omega
 rw [if_neg h1]
 by_cases h3 : k = 3
 ·subst h3
  rw [if_pos rfl]
  have hnd : (-9223372036854775808 ≤ n ∧ n ≤ 9223372036854775807) ∧ -9223372036854775808 ≤ d ∧ d ≤ 9223372036854775807 := by simp [V6] at h; omega
  have h5 := X21 hnd.1
  have h6 := X21 hnd.2
  rw [List.length_append]
  omega
 rw [if_neg h3]
 by_cases h4 : k = 4
 ·subst h4
  rw [if_pos rfl]
  have hs : s.length ≤ 100 := by simp at h; omega
  have := X8M (n := s.length) (by omega)
  unfold Xz
  rw [List.length_append]
  omega
 rw [if_neg h4, if_neg (by omega)]
 simp
theorem X83 {m : Nat} {n d : Int} {s : List UInt8} {l : List Val} (h : X7 m (.mk 8 n d s l) = true) : l.length ≤ 64 ∧ 1 ≤ m ∧ Ui (m - 1) l = true := by
 rw [X7] at h
 simp at h
 exact ⟨h.2.1.2.1, by omega, h.2.2⟩
end Go.Fw
namespace Go.Fw
open Go Go.Proofs
set_option maxRecDepth 100000
set_option linter.unusedVariables false
set_option linter.unusedSimpArgs false
def Vf (k n : Int) : Bool := if k = 3 ∨ k = 5 then decide (n = 1 ∨ n = 2 ∨ n = 4) else if k = 7 then decide (0 ≤ n ∧ n ≤ 4000) else decide (n = 0)
def X17 (k : Int) (nb : Bool) (key src dst : List UInt8) (vn vk vs vd : Bool) : Int :=
 if decide (1 ≤ k ∧ k ≤ 7) = false ∨ nb = false then 1
 else if (V2 k = false ∧ key ≠ []) ∨ (k ≠ 6 ∧ (src ≠ [] ∨ dst ≠ [])) then 1
 else if vn = false ∨ (V2 k = true ∧ vk = false) ∨ (src ≠ [] ∧ vs = false) ∨ (dst ≠ [] ∧ vd = false) then 6 else 0
theorem X5G (r : Rul) : YW r = X17 r.kind (Vf r.kind r.n) r.key r.src r.dst (XG r.name) (XG r.key) (XG r.src) (XG r.dst) := rfl
abbrev X8Z (k n : Int) (name key src dst : List UInt8) : AVal := .agg [ai k, ai n, .d (.v (.string (X5 name))), .d (.v (.string (X5 key))), .d (.v (.string (X5 src))), .d (.v (.string (X5 dst)))]
def XW (r : Rul) : AVal := X8Z r.kind r.n r.name r.key r.src r.dst
def ktS (n : Int) : List UInt8 := if n = 1 then [98, 111, 111, 108] else if n = 2 then [105, 110, 116] else if n = 4 then [115, 116, 114] else []
theorem Xgn (n : Int) : Con Tryz.prog 124 [] [ai n] [] (.d (.v (.string (X5 (ktS n))))) := by
 refine X9 (xs := [.d (.v (.string (X5 (ktS n))))]) Tryz.func124 rfl Tryz.ntmps124 rfl rfl rfl (fun E => ?_)
 by_cases h1 : n = 1
 ·subst h1
  refine X0 ?_; refine JR ?_; refine Z0 ?_; refine JD ?_; refine X0 ?_; refine X0 ?_; refine JR ?_; refine Z1 ?_; refine JD ?_; refine X4 ?_; refine X0 ?_; refine JR ?_; refine Zl ?_
  refine Z0 ?_; refine JD ?_; refine JT ?_; refine X0 ?_; refine JR ?_; refine Z0 ?_; refine JD ?_
  exact X1 ⟨_, St.le_refl _, ⟨rfl, trivial⟩, X3 _⟩
 by_cases h2 : n = 2
 ·subst h2
  repeat first | refine X0 ?_ | (refine JR ?_; (repeat first | refine Z1 ?_ | refine Z0 ?_ | refine Zl ?_); refine JD ?_) | refine JT ?_ | refine JF ?_ | refine X4 ?_
  exact X1 ⟨_, St.le_refl _, ⟨rfl, trivial⟩, X3 _⟩
 by_cases h4 : n = 4
 ·subst h4
  repeat first | refine X0 ?_ | (refine JR ?_; (repeat first | refine Z1 ?_ | refine Z0 ?_ | refine Zl ?_); refine JD ?_) | refine JT ?_ | refine JF ?_ | refine X4 ?_
  exact X1 ⟨_, St.le_refl _, ⟨rfl, trivial⟩, X3 _⟩
 rw [show ktS n = [] by simp [ktS, h1, h2, h4]]
 repeat first | refine X0 ?_ | (refine JR ?_; (repeat first | refine Z1 ?_ | refine Z0 ?_ | refine Zl ?_); refine JD ?_) | refine JF ?_ | refine X4 ?_ | refine X2 ?_
 exact X1 ⟨_, St.le_refl _, ⟨rfl, trivial⟩, X3 _⟩
def Ut (ky nu en ok : Bool) (n : Int) (key src dst : List UInt8) : Bool := !ok || (!ky && decide (key ≠ [])) || (!nu && decide (n ≠ 0)) || (!en && (decide (src ≠ []) || decide (dst ≠ [])))
def XM (a ky nu : Bool) (k n : Int) (kt src dst : List UInt8) (vn vk vs vd : Bool) : Int :=
 if a = true then 1 else if k = 7 ∧ (n < 0 ∨ 4000 < n) then 1 else if ky = true ∧ nu = true ∧ kt = [] then 1
 else if vn = false ∨ (ky = true ∧ vk = false) then 6 else if (src ≠ [] ∧ vs = false) ∨ (dst ≠ [] ∧ vd = false) then 6 else 0
theorem XeI (k n : Int) (key src dst : List UInt8) (vn vk vs vd : Bool) : X17 k (Vf k n) key src dst vn vk vs vd =
  XM (Ut (UI k).1 (UI k).2.1 (UI k).2.2.1 (UI k).2.2.2 n key src dst) (UI k).1 (UI k).2.1 k n (ktS n) src dst vn vk vs vd := by
 by_cases hk : 1 ≤ k ∧ k ≤ 7
 ·have h7 : k = 1 ∨ k = 2 ∨ k = 3 ∨ k = 4 ∨ k = 5 ∨ k = 6 ∨ k = 7 := by omega
  have hn : n = 0 ∨ n = 1 ∨ n = 2 ∨ n = 4 ∨ (n ≠ 0 ∧ n ≠ 1 ∧ n ≠ 2 ∧ n ≠ 4) := by omega
  rcases h7 with rfl | rfl | rfl | rfl | rfl | rfl | rfl
  all_goals
   unfold X17 XM Ut UI Vf V2
   by_cases h1 : key = [] <;> by_cases h2 : src = [] <;> by_cases h3 : dst = []
   all_goals rcases hn with rfl | rfl | rfl | rfl | ⟨n0, n1, n2, n4⟩
   all_goals first
    | (simp [ktS, *]; done)
    | (by_cases m1 : n < 0 <;> by_cases m2 : 4000 < n <;> simp [ktS, *] <;> omega)
    | (cases vn <;> cases vk <;> cases vs <;> cases vd <;> simp [ktS, *])
 ·unfold X17 XM Ut UI
  simp [hk]
theorem X5n (r : Rul) : Con Tryz.prog 74 [] [XW r] [] (ai (YW r)) := by
 rw [X5G, XeI]
 obtain ⟨k, n, name, key, src, dst⟩ := r
 simp only [XW]
 have hn := X2E name
 have hk := X2E key
 have hs := X2E src
 have hd := X2E dst
 have ht := Xgn n
 have hf := Xcs k
 generalize XG name = vn at *
 generalize XG key = vk at *
 generalize XG src = vs at *
 generalize XG dst = vd at *
 generalize ktS n = kt at *
 generalize UI k = u at *
 obtain ⟨ky, nu, en, ok⟩ := u
 simp only at hf
 show Con _ _ _ _ _ (ai (XM (Ut ky nu en ok n key src dst) ky nu k n kt src dst vn vk vs vd))
 generalize ha : Ut ky nu en ok n key src dst = a
 refine X9 (xs := [ai (XM a ky nu k n kt src dst vn vk vs vd)]) Tryz.func74 rfl Tryz.ntmps74 rfl rfl rfl (fun E => ?_)
 refine X0 ?_; refine JR ?_; refine ZA (γ := 100) ?_; refine Z0 ?_; refine JD ?_; refine X0 ?_; refine JR ?_; refine ZB ?_; refine ZC ?_; refine Z9 (hcon := hf) ?_; refine Z1 ?_; refine ZF ?_; refine ZF ?_
 refine Zw (γ := 101) ?_; refine Zy ?_; refine Z0 ?_; refine JD ?_; refine X0 ?_
 refine X4 ?_
 refine X0 ?_
 refine X15 ⟨102, [(1, .ptr 100 0), (3, .ptr 101 0), (11, ab a)], [(100, .box [ai k, ai n, .d (.v (.string (X5 name))), .d (.v (.string (X5 key))), .d (.v (.string (X5 src))), .d (.v (.string (X5 dst)))]), (101, .box [ab ky, ab nu, ab en])]⟩ ?_ ?_
 ·refine X0 ?_; refine JR ?_; refine Z1 ?_; refine Zu ?_; refine Z0 ?_; refine JD ?_; refine Yw rfl (fun hq => ?_) (fun hq => ?_); refine X2 ?_
  ((clear hf ht hn hk hs hd; refine X8 rfl ⟨AVal.le_refl _, AVal.le_refl _, AVal.le_of_eq (congrArg ab (by subst ha; simp [Ut, *])), trivial⟩ ⟨rfl, rfl, trivial⟩)); refine X0 ?_; refine JR ?_; refine ZB ?_
  refine ZC ?_; refine Zu ?_; refine Z1 ?_; refine Va rfl rfl (fun hq => ?_) (fun hq => ?_); refine Zo ?_; refine Zo ?_; refine Zo ?_; refine Zq ?_; refine Z0 ?_; refine JD ?_; refine JF ?_; refine X0 ?_
  refine JR ?_; refine ZB ?_; refine ZC ?_; refine Zu ?_; refine Z1 ?_; refine Va rfl rfl (fun hq => ?_) (fun hq => ?_); refine Zo ?_; refine Zo ?_; refine Zo ?_; refine Zq ?_; refine Z0 ?_; refine JD ?_
  refine JF ?_; refine JR ?_; refine ZB ?_; refine ZC ?_; refine Zu ?_; refine Z1 ?_; refine Va rfl rfl (fun hq => ?_) (fun hq => ?_); refine Zo ?_; refine Zo ?_; refine Zo ?_; refine Zo ?_; refine Zp ?_
  refine Zp ?_; refine Zp ?_; refine Zo ?_; refine Zq ?_; refine Z0 ?_; refine JD ?_
  ((clear hf ht hn hk hs hd; refine X8 rfl ⟨AVal.le_refl _, AVal.le_refl _, AVal.le_of_eq (congrArg ab (by subst ha; simp [Ut, *])), trivial⟩ ⟨rfl, rfl, trivial⟩)); refine ZB ?_; refine ZC ?_; refine ZM ?_
  refine Z1 ?_; refine Yq rfl rfl (fun hq => ?_) (fun hq => ?_); refine Zo ?_; refine Zo ?_; refine Zo ?_; refine Zn ?_; refine Zn ?_; refine Z0 ?_; refine JD ?_
  ((clear hf ht hn hk hs hd; refine X8 rfl ⟨AVal.le_refl _, AVal.le_refl _, AVal.le_of_eq (congrArg ab (by subst ha; simp [Ut, *])), trivial⟩ ⟨rfl, rfl, trivial⟩)); refine ZB ?_; refine ZC ?_; refine ZM ?_
  refine Zq ?_; refine Zn ?_; refine Z0 ?_; refine JD ?_
  ((clear hf ht hn hk hs hd; refine X8 rfl ⟨AVal.le_refl _, AVal.le_refl _, AVal.le_of_eq (congrArg ab (by subst ha; simp [Ut, *])), trivial⟩ ⟨rfl, rfl, trivial⟩)); refine ZB ?_; refine ZC ?_; refine Zv ?_
  refine Zn ?_; refine Z0 ?_; refine JD ?_; refine X0L rfl (fun hq => ?_) (fun hq => ?_); refine X2 ?_
  ((clear hf ht hn hk hs hd; refine X8 rfl ⟨AVal.le_refl _, AVal.le_refl _, AVal.le_of_eq (congrArg ab (by subst ha; simp [Ut, *])), trivial⟩ ⟨rfl, rfl, trivial⟩)); refine JR ?_; refine ZB ?_; refine ZC ?_
  refine Zu ?_; refine Z1 ?_; refine Va rfl rfl (fun hq => ?_) (fun hq => ?_); refine Zo ?_; refine Zo ?_; refine Zo ?_; refine Zo ?_; refine Zp ?_; refine Zp ?_; refine Zp ?_; refine Zo ?_; refine Zq ?_
  refine Z0 ?_; refine JD ?_; ((clear hf ht hn hk hs hd; refine X8 rfl ⟨AVal.le_refl _, AVal.le_refl _, AVal.le_of_eq (congrArg ab (by subst ha; simp [Ut, *])), trivial⟩ ⟨rfl, rfl, trivial⟩)); refine ZB ?_
  refine ZC ?_; refine ZM ?_; refine Z1 ?_; refine Yq rfl rfl (fun hq => ?_) (fun hq => ?_); refine Zo ?_; refine Zo ?_; refine Zo ?_; refine Zn ?_; refine Zn ?_; refine Z0 ?_; refine JD ?_
  ((clear hf ht hn hk hs hd; refine X8 rfl ⟨AVal.le_refl _, AVal.le_refl _, AVal.le_of_eq (congrArg ab (by subst ha; simp [Ut, *])), trivial⟩ ⟨rfl, rfl, trivial⟩)); refine ZB ?_; refine ZC ?_; refine ZM ?_
  refine Zq ?_; refine Zn ?_; refine Z0 ?_; refine JD ?_
  ((clear hf ht hn hk hs hd; refine X8 rfl ⟨AVal.le_refl _, AVal.le_refl _, AVal.le_of_eq (congrArg ab (by subst ha; simp [Ut, *])), trivial⟩ ⟨rfl, rfl, trivial⟩)); refine ZB ?_; refine ZC ?_; refine ZM ?_
  refine Zn ?_; refine Z0 ?_; refine JD ?_; refine X0L rfl (fun hq => ?_) (fun hq => ?_); refine X2 ?_
  ((clear hf ht hn hk hs hd; refine X8 rfl ⟨AVal.le_refl _, AVal.le_refl _, AVal.le_of_eq (congrArg ab (by subst ha; simp [Ut, *])), trivial⟩ ⟨rfl, rfl, trivial⟩)); refine X0 ?_; refine JR ?_; refine ZB ?_
  refine ZC ?_; refine Zu ?_; refine Z1 ?_; refine Va rfl rfl (fun hq => ?_) (fun hq => ?_); refine Zo ?_; refine Zo ?_; refine Zo ?_; refine Zq ?_; refine Z0 ?_; refine JD ?_; refine JF ?_; refine JR ?_
  refine ZB ?_; refine ZC ?_; refine Zu ?_; refine Z1 ?_; refine Va rfl rfl (fun hq => ?_) (fun hq => ?_); refine Zo ?_; refine Zo ?_; refine Zo ?_; refine Zo ?_; refine Zp ?_; refine Zp ?_; refine Zp ?_
  refine Zo ?_; refine Zq ?_; refine Z0 ?_; refine JD ?_
  ((clear hf ht hn hk hs hd; refine X8 rfl ⟨AVal.le_refl _, AVal.le_refl _, AVal.le_of_eq (congrArg ab (by subst ha; simp [Ut, *])), trivial⟩ ⟨rfl, rfl, trivial⟩)); refine ZB ?_; refine ZC ?_; refine ZM ?_
  refine Z1 ?_; refine Yq rfl rfl (fun hq => ?_) (fun hq => ?_); refine Zo ?_; refine Zo ?_; refine Zo ?_; refine Zn ?_; refine Zn ?_; refine Z0 ?_; refine JD ?_
  ((clear hf ht hn hk hs hd; refine X8 rfl ⟨AVal.le_refl _, AVal.le_refl _, AVal.le_of_eq (congrArg ab (by subst ha; simp [Ut, *])), trivial⟩ ⟨rfl, rfl, trivial⟩)); refine ZB ?_; refine ZC ?_; refine ZM ?_
  refine Zq ?_; refine Zn ?_; refine Z0 ?_; refine JD ?_
  ((clear hf ht hn hk hs hd; refine X8 rfl ⟨AVal.le_refl _, AVal.le_refl _, AVal.le_of_eq (congrArg ab (by subst ha; simp [Ut, *])), trivial⟩ ⟨rfl, rfl, trivial⟩)); refine ZB ?_; refine ZC ?_; refine Zv ?_
  refine Zn ?_; refine Z0 ?_; refine JD ?_; refine X0L rfl (fun hq => ?_) (fun hq => ?_); refine X2 ?_
  ((clear hf ht hn hk hs hd; refine X8 rfl ⟨AVal.le_refl _, AVal.le_refl _, AVal.le_of_eq (congrArg ab (by subst ha; simp [Ut, *])), trivial⟩ ⟨rfl, rfl, trivial⟩)); refine JR ?_; refine ZB ?_; refine ZC ?_
  refine Zu ?_; refine Z1 ?_; refine Va rfl rfl (fun hq => ?_) (fun hq => ?_); refine Zo ?_; refine Zo ?_; refine Zo ?_; refine Zo ?_; refine Zp ?_; refine Zp ?_; refine Zp ?_; refine Zo ?_; refine Zq ?_
  refine Z0 ?_; refine JD ?_; ((clear hf ht hn hk hs hd; refine X8 rfl ⟨AVal.le_refl _, AVal.le_refl _, AVal.le_of_eq (congrArg ab (by subst ha; simp [Ut, *])), trivial⟩ ⟨rfl, rfl, trivial⟩)); refine ZB ?_
  refine ZC ?_; refine ZM ?_; refine Z1 ?_; refine Yq rfl rfl (fun hq => ?_) (fun hq => ?_); refine Zo ?_; refine Zo ?_; refine Zo ?_; refine Zn ?_; refine Zn ?_; refine Z0 ?_; refine JD ?_
  ((clear hf ht hn hk hs hd; refine X8 rfl ⟨AVal.le_refl _, AVal.le_refl _, AVal.le_of_eq (congrArg ab (by subst ha; simp [Ut, *])), trivial⟩ ⟨rfl, rfl, trivial⟩)); refine ZB ?_; refine ZC ?_; refine ZM ?_
  refine Zq ?_; refine Zn ?_; refine Z0 ?_; refine JD ?_
  ((clear hf ht hn hk hs hd; refine X8 rfl ⟨AVal.le_refl _, AVal.le_refl _, AVal.le_of_eq (congrArg ab (by subst ha; simp [Ut, *])), trivial⟩ ⟨rfl, rfl, trivial⟩))
 clear ha hf
 obtain ⟨r, hr⟩ : ∃ r, r = XM a ky nu k n kt src dst vn vk vs vd := ⟨_, rfl⟩
 rw [← hr]
 refine X2R rfl (fun hq => ?_) (fun hq => ?_); refine X0 ?_; refine JR ?_; refine Z0 ?_; refine JD ?_
 (clear ht hn hk hs hd; simp [XM, *] at hr; subst hr; exact X1 ⟨_, St.le_refl _, ⟨rfl, trivial⟩, X3 _⟩); refine X0 ?_; refine JR ?_; refine ZB ?_; refine ZC ?_; refine Zl ?_; refine Z1 ?_
 refine Yq rfl rfl (fun hq => ?_) (fun hq => ?_); refine ZB ?_; refine ZC ?_; refine Z8 ?_; refine Z1 ?_; refine Yq rfl rfl (fun hq => ?_) (fun hq => ?_); refine Zo ?_; refine Zo ?_; refine Zo ?_; refine Zn ?_
 refine Zn ?_; refine Z0 ?_; refine JD ?_; refine JT ?_; refine X0 ?_; refine JR ?_; refine Z0 ?_; refine JD ?_
 (clear ht hn hk hs hd; simp [XM, *] at hr; subst hr; exact X1 ⟨_, St.le_refl _, ⟨rfl, trivial⟩, X3 _⟩); refine ZB ?_; refine ZC ?_; refine Zs ?_; refine Zq ?_; refine Zn ?_; refine Z0 ?_; refine JD ?_
 refine X0L rfl (fun hq => ?_) (fun hq => ?_); refine X0 ?_; refine JR ?_; refine Z0 ?_; refine JD ?_
 (clear ht hn hk hs hd; simp [XM, *] at hr; subst hr; exact X1 ⟨_, St.le_refl _, ⟨rfl, trivial⟩, X3 _⟩); refine X0 ?_; refine JR ?_; refine ZB ?_; refine ZC ?_; refine Z1 ?_
 refine X4I rfl rfl (fun hq => ?_) (fun hq => ?_); refine ZB ?_; refine ZC ?_; refine Zn ?_; refine Z1 ?_; refine X4I rfl rfl (fun hq => ?_) (fun hq => ?_); refine ZB ?_; refine ZC ?_
 refine Z9 (hcon := ht) ?_; refine Zr ?_; refine Zn ?_; refine Z0 ?_; refine JD ?_; refine X0L rfl (fun hq => ?_) (fun hq => ?_); refine X0 ?_; refine JR ?_; refine Z0 ?_; refine JD ?_
 (clear ht hn hk hs hd; simp [XM, *] at hr; subst hr; exact X1 ⟨_, St.le_refl _, ⟨rfl, trivial⟩, X3 _⟩); refine X0 ?_; refine X0 ?_; refine JR ?_; refine ZB ?_; refine ZC ?_
 refine Z9 (hcon := hn) ?_; refine Zu ?_; refine Z0 ?_; refine JD ?_; refine Yw rfl (fun hq => ?_) (fun hq => ?_); refine X2 ?_; refine JT ?_; refine X0 ?_; refine JR ?_; refine Z0 ?_; refine JD ?_
 (clear ht hn hk hs hd; simp [XM, *] at hr; subst hr; exact X1 ⟨_, St.le_refl _, ⟨rfl, trivial⟩, X3 _⟩); refine JR ?_; refine ZB ?_; refine ZC ?_; refine Z1 ?_; refine ZB ?_; refine ZC ?_
 refine Z9 (hcon := hk) ?_; refine Zu ?_; refine Zn ?_; refine Z0 ?_; refine JD ?_; refine Yw rfl (fun hq => ?_) (fun hq => ?_); refine X0 ?_; refine JR ?_; refine Z0 ?_; refine JD ?_
 (clear ht hn hk hs hd; simp [XM, *] at hr; subst hr; exact X1 ⟨_, St.le_refl _, ⟨rfl, trivial⟩, X3 _⟩); refine X0 ?_; refine X0 ?_; refine JR ?_; refine ZB ?_; refine ZC ?_; refine ZM ?_
 refine Z1 ?_; refine Yq rfl rfl (fun hq => ?_) (fun hq => ?_); refine ZB ?_; refine ZC ?_; refine Z9 (hcon := hs) ?_; refine Zu ?_; refine Zn ?_; refine Z0 ?_; refine JD ?_
 refine Yw rfl (fun hq => ?_) (fun hq => ?_); refine X2 ?_; refine JT ?_; refine X0 ?_; refine JR ?_; refine Z0 ?_; refine JD ?_
 (clear ht hn hk hs hd; simp [XM, *] at hr; subst hr; exact X1 ⟨_, St.le_refl _, ⟨rfl, trivial⟩, X3 _⟩); refine JR ?_; refine ZB ?_; refine ZC ?_; refine ZM ?_; refine Z1 ?_
 refine Yq rfl rfl (fun hq => ?_) (fun hq => ?_); refine ZB ?_; refine ZC ?_; refine Z9 (hcon := hd) ?_; refine Zu ?_; refine Zn ?_; refine Z0 ?_; refine JD ?_; refine Yw rfl (fun hq => ?_) (fun hq => ?_)
 refine X0 ?_; refine JR ?_; refine Z0 ?_; refine JD ?_; (clear ht hn hk hs hd; simp [XM, *] at hr; subst hr; exact X1 ⟨_, St.le_refl _, ⟨rfl, trivial⟩, X3 _⟩); refine X2 ?_; refine X0 ?_
 refine JR ?_; refine Z0 ?_; refine JD ?_; (clear ht hn hk hs hd; simp [XM, *] at hr; subst hr; exact X1 ⟨_, St.le_refl _, ⟨rfl, trivial⟩, X3 _⟩); refine Zo ?_; refine Zo ?_; refine Zo ?_; refine Zo ?_
 refine Zq ?_; refine Z0 ?_; refine JD ?_; refine JF ?_; refine X2 ?_; refine X0 ?_; refine JR ?_; refine Z0 ?_; refine JD ?_
 (clear ht hn hk hs hd; simp [XM, *] at hr; subst hr; exact X1 ⟨_, St.le_refl _, ⟨rfl, trivial⟩, X3 _⟩); refine Zo ?_; refine Zo ?_; refine Zo ?_; refine Zo ?_; refine Zq ?_; refine Z0 ?_; refine JD ?_
 refine JF ?_; refine JR ?_; refine ZB ?_; refine ZC ?_; refine ZM ?_; refine Z1 ?_; refine Yq rfl rfl (fun hq => ?_) (fun hq => ?_); refine ZB ?_; refine ZC ?_; refine Z9 (hcon := hd) ?_; refine Zu ?_; refine Zn ?_
 refine Z0 ?_; refine JD ?_; refine Yw rfl (fun hq => ?_) (fun hq => ?_); refine X0 ?_; refine JR ?_; refine Z0 ?_; refine JD ?_
 (clear ht hn hk hs hd; simp [XM, *] at hr; subst hr; exact X1 ⟨_, St.le_refl _, ⟨rfl, trivial⟩, X3 _⟩); refine X2 ?_; refine X0 ?_; refine JR ?_; refine Z0 ?_; refine JD ?_
 (clear ht hn hk hs hd; simp [XM, *] at hr; subst hr; exact X1 ⟨_, St.le_refl _, ⟨rfl, trivial⟩, X3 _⟩); refine Zo ?_; refine Zo ?_; refine Zo ?_; refine Zo ?_; refine Zq ?_; refine Z0 ?_; refine JD ?_
 refine JF ?_; refine X2 ?_; refine X0 ?_; refine JR ?_; refine Z0 ?_; refine JD ?_; (clear ht hn hk hs hd; simp [XM, *] at hr; subst hr; exact X1 ⟨_, St.le_refl _, ⟨rfl, trivial⟩, X3 _⟩)
 refine Zo ?_; refine Zo ?_; refine Zo ?_; refine Zo ?_; refine Zq ?_; refine Z0 ?_; refine JD ?_; refine JF ?_; refine X0 ?_; refine X0 ?_; refine JR ?_; refine ZB ?_; refine ZC ?_; refine Z9 (hcon := hn) ?_
 refine Zu ?_; refine Z0 ?_; refine JD ?_; refine Yw rfl (fun hq => ?_) (fun hq => ?_); refine X2 ?_; refine JT ?_; refine X0 ?_; refine JR ?_; refine Z0 ?_; refine JD ?_
 (clear ht hn hk hs hd; simp [XM, *] at hr; subst hr; exact X1 ⟨_, St.le_refl _, ⟨rfl, trivial⟩, X3 _⟩); refine JR ?_; refine ZB ?_; refine ZC ?_; refine Z1 ?_; refine ZB ?_; refine ZC ?_
 refine Z9 (hcon := hk) ?_; refine Zu ?_; refine Zn ?_; refine Z0 ?_; refine JD ?_; refine Yw rfl (fun hq => ?_) (fun hq => ?_); refine X0 ?_; refine JR ?_; refine Z0 ?_; refine JD ?_
 (clear ht hn hk hs hd; simp [XM, *] at hr; subst hr; exact X1 ⟨_, St.le_refl _, ⟨rfl, trivial⟩, X3 _⟩); refine X0 ?_; refine X0 ?_; refine JR ?_; refine ZB ?_; refine ZC ?_; refine ZM ?_
 refine Z1 ?_; refine Yq rfl rfl (fun hq => ?_) (fun hq => ?_); refine ZB ?_; refine ZC ?_; refine Z9 (hcon := hs) ?_; refine Zu ?_; refine Zn ?_; refine Z0 ?_; refine JD ?_
 refine Yw rfl (fun hq => ?_) (fun hq => ?_); refine X2 ?_; refine JT ?_; refine X0 ?_; refine JR ?_; refine Z0 ?_; refine JD ?_
 (clear ht hn hk hs hd; simp [XM, *] at hr; subst hr; exact X1 ⟨_, St.le_refl _, ⟨rfl, trivial⟩, X3 _⟩); refine JR ?_; refine ZB ?_; refine ZC ?_; refine ZM ?_; refine Z1 ?_
 refine Yq rfl rfl (fun hq => ?_) (fun hq => ?_); refine ZB ?_; refine ZC ?_; refine Z9 (hcon := hd) ?_; refine Zu ?_; refine Zn ?_; refine Z0 ?_; refine JD ?_; refine Yw rfl (fun hq => ?_) (fun hq => ?_)
 refine X0 ?_; refine JR ?_; refine Z0 ?_; refine JD ?_; (clear ht hn hk hs hd; simp [XM, *] at hr; subst hr; exact X1 ⟨_, St.le_refl _, ⟨rfl, trivial⟩, X3 _⟩); refine X2 ?_; refine X0 ?_
 refine JR ?_; refine Z0 ?_; refine JD ?_; (clear ht hn hk hs hd; simp [XM, *] at hr; subst hr; exact X1 ⟨_, St.le_refl _, ⟨rfl, trivial⟩, X3 _⟩); refine Zo ?_; refine Zo ?_; refine Zo ?_; refine Zo ?_
 refine Zq ?_; refine Z0 ?_; refine JD ?_; refine JF ?_; refine X2 ?_; refine X0 ?_; refine JR ?_; refine Z0 ?_; refine JD ?_
 (clear ht hn hk hs hd; simp [XM, *] at hr; subst hr; exact X1 ⟨_, St.le_refl _, ⟨rfl, trivial⟩, X3 _⟩); refine Zo ?_; refine Zo ?_; refine Zo ?_; refine Zo ?_; refine Zq ?_; refine Z0 ?_; refine JD ?_
 refine JF ?_; refine JR ?_; refine ZB ?_; refine ZC ?_; refine ZM ?_; refine Z1 ?_; refine Yq rfl rfl (fun hq => ?_) (fun hq => ?_); refine ZB ?_; refine ZC ?_; refine Z9 (hcon := hd) ?_; refine Zu ?_; refine Zn ?_
 refine Z0 ?_; refine JD ?_; refine Yw rfl (fun hq => ?_) (fun hq => ?_); refine X0 ?_; refine JR ?_; refine Z0 ?_; refine JD ?_
 (clear ht hn hk hs hd; simp [XM, *] at hr; subst hr; exact X1 ⟨_, St.le_refl _, ⟨rfl, trivial⟩, X3 _⟩); refine X2 ?_; refine X0 ?_; refine JR ?_; refine Z0 ?_; refine JD ?_
 (clear ht hn hk hs hd; simp [XM, *] at hr; subst hr; exact X1 ⟨_, St.le_refl _, ⟨rfl, trivial⟩, X3 _⟩); refine Zo ?_; refine Zo ?_; refine Zo ?_; refine Zo ?_; refine Zq ?_; refine Z0 ?_; refine JD ?_
 refine JF ?_; refine X2 ?_; refine X0 ?_; refine JR ?_; refine Z0 ?_; refine JD ?_; (clear ht hn hk hs hd; simp [XM, *] at hr; subst hr; exact X1 ⟨_, St.le_refl _, ⟨rfl, trivial⟩, X3 _⟩)
 refine Zo ?_; refine Zo ?_; refine Zq ?_; refine Z1 ?_; refine Zo ?_; refine Zo ?_; refine Zo ?_; refine Zo ?_; refine Zq ?_; refine Z0 ?_; refine JD ?_; refine JF ?_; refine X0 ?_; refine X0 ?_; refine JR ?_
 refine ZB ?_; refine ZC ?_; refine Z9 (hcon := hn) ?_; refine Zu ?_; refine Z0 ?_; refine JD ?_; refine Yw rfl (fun hq => ?_) (fun hq => ?_); refine X2 ?_; refine JT ?_; refine X0 ?_; refine JR ?_
 refine Z0 ?_; refine JD ?_; (clear ht hn hk hs hd; simp [XM, *] at hr; subst hr; exact X1 ⟨_, St.le_refl _, ⟨rfl, trivial⟩, X3 _⟩); refine JR ?_; refine ZB ?_; refine ZC ?_; refine Z1 ?_; refine Zo ?_
 refine Zo ?_; refine Zo ?_; refine Zo ?_; refine Zq ?_; refine Z0 ?_; refine JD ?_; refine JF ?_; refine X0 ?_; refine X0 ?_; refine JR ?_; refine ZB ?_; refine ZC ?_; refine ZM ?_; refine Z1 ?_
 refine Yq rfl rfl (fun hq => ?_) (fun hq => ?_); refine ZB ?_; refine ZC ?_; refine Z9 (hcon := hs) ?_; refine Zu ?_; refine Zn ?_; refine Z0 ?_; refine JD ?_; refine Yw rfl (fun hq => ?_) (fun hq => ?_)
 refine X2 ?_; refine JT ?_; refine X0 ?_; refine JR ?_; refine Z0 ?_; refine JD ?_; (clear ht hn hk hs hd; simp [XM, *] at hr; subst hr; exact X1 ⟨_, St.le_refl _, ⟨rfl, trivial⟩, X3 _⟩)
 refine JR ?_; refine ZB ?_; refine ZC ?_; refine ZM ?_; refine Z1 ?_; refine Yq rfl rfl (fun hq => ?_) (fun hq => ?_); refine ZB ?_; refine ZC ?_; refine Z9 (hcon := hd) ?_; refine Zu ?_; refine Zn ?_; refine Z0 ?_
 refine JD ?_; refine Yw rfl (fun hq => ?_) (fun hq => ?_); refine X0 ?_; refine JR ?_; refine Z0 ?_; refine JD ?_
 (clear ht hn hk hs hd; simp [XM, *] at hr; subst hr; exact X1 ⟨_, St.le_refl _, ⟨rfl, trivial⟩, X3 _⟩); refine X2 ?_; refine X0 ?_; refine JR ?_; refine Z0 ?_; refine JD ?_
 (clear ht hn hk hs hd; simp [XM, *] at hr; subst hr; exact X1 ⟨_, St.le_refl _, ⟨rfl, trivial⟩, X3 _⟩); refine Zo ?_; refine Zo ?_; refine Zo ?_; refine Zo ?_; refine Zq ?_; refine Z0 ?_; refine JD ?_
 refine JF ?_; refine X2 ?_; refine X0 ?_; refine JR ?_; refine Z0 ?_; refine JD ?_; (clear ht hn hk hs hd; simp [XM, *] at hr; subst hr; exact X1 ⟨_, St.le_refl _, ⟨rfl, trivial⟩, X3 _⟩)
 refine Zo ?_; refine Zo ?_; refine Zo ?_; refine Zo ?_; refine Zq ?_; refine Z0 ?_; refine JD ?_; refine JF ?_; refine JR ?_; refine ZB ?_; refine ZC ?_; refine ZM ?_; refine Z1 ?_
 refine Yq rfl rfl (fun hq => ?_) (fun hq => ?_); refine ZB ?_; refine ZC ?_; refine Z9 (hcon := hd) ?_; refine Zu ?_; refine Zn ?_; refine Z0 ?_; refine JD ?_; refine Yw rfl (fun hq => ?_) (fun hq => ?_)
 refine X0 ?_; refine JR ?_; refine Z0 ?_; refine JD ?_; (clear ht hn hk hs hd; simp [XM, *] at hr; subst hr; exact X1 ⟨_, St.le_refl _, ⟨rfl, trivial⟩, X3 _⟩); refine X2 ?_; refine X0 ?_
 refine JR ?_; refine Z0 ?_; refine JD ?_; (clear ht hn hk hs hd; simp [XM, *] at hr; subst hr; exact X1 ⟨_, St.le_refl _, ⟨rfl, trivial⟩, X3 _⟩); refine Zo ?_; refine Zo ?_; refine Zo ?_; refine Zo ?_
 refine Zq ?_; refine Z0 ?_; refine JD ?_; refine JF ?_; refine X2 ?_; refine X0 ?_; refine JR ?_; refine Z0 ?_; refine JD ?_
 (clear ht hn hk hs hd; simp [XM, *] at hr; subst hr; exact X1 ⟨_, St.le_refl _, ⟨rfl, trivial⟩, X3 _⟩); refine Zo ?_; refine Zo ?_; refine Zo ?_; refine Zo ?_; refine Zp ?_; refine Zp ?_; refine Zp ?_
 refine Zo ?_; refine Zq ?_; refine Z0 ?_; refine JD ?_; refine JF ?_; refine X0 ?_; refine JR ?_; refine ZB ?_; refine ZC ?_; refine Z1 ?_; refine X4I rfl rfl (fun hq => ?_) (fun hq => ?_); refine ZB ?_
 refine ZC ?_; refine Zn ?_; refine Z1 ?_; refine X4I rfl rfl (fun hq => ?_) (fun hq => ?_); refine ZB ?_; refine ZC ?_; refine Z9 (hcon := ht) ?_; refine Zr ?_; refine Zn ?_; refine Z0 ?_; refine JD ?_
 refine X0L rfl (fun hq => ?_) (fun hq => ?_); refine X0 ?_; refine JR ?_; refine Z0 ?_; refine JD ?_
 (clear ht hn hk hs hd; simp [XM, *] at hr; subst hr; exact X1 ⟨_, St.le_refl _, ⟨rfl, trivial⟩, X3 _⟩); refine X0 ?_; refine X0 ?_; refine JR ?_; refine ZB ?_; refine ZC ?_
 refine Z9 (hcon := hn) ?_; refine Zu ?_; refine Z0 ?_; refine JD ?_; refine Yw rfl (fun hq => ?_) (fun hq => ?_); refine X2 ?_; refine JT ?_; refine X0 ?_; refine JR ?_; refine Z0 ?_; refine JD ?_
 (clear ht hn hk hs hd; simp [XM, *] at hr; subst hr; exact X1 ⟨_, St.le_refl _, ⟨rfl, trivial⟩, X3 _⟩); refine JR ?_; refine ZB ?_; refine ZC ?_; refine Z1 ?_; refine ZB ?_; refine ZC ?_
 refine Z9 (hcon := hk) ?_; refine Zu ?_; refine Zn ?_; refine Z0 ?_; refine JD ?_; refine Yw rfl (fun hq => ?_) (fun hq => ?_); refine X0 ?_; refine JR ?_; refine Z0 ?_; refine JD ?_
 (clear ht hn hk hs hd; simp [XM, *] at hr; subst hr; exact X1 ⟨_, St.le_refl _, ⟨rfl, trivial⟩, X3 _⟩); refine X0 ?_; refine X0 ?_; refine JR ?_; refine ZB ?_; refine ZC ?_; refine ZM ?_
 refine Z1 ?_; refine Yq rfl rfl (fun hq => ?_) (fun hq => ?_); refine ZB ?_; refine ZC ?_; refine Z9 (hcon := hs) ?_; refine Zu ?_; refine Zn ?_; refine Z0 ?_; refine JD ?_
 refine Yw rfl (fun hq => ?_) (fun hq => ?_); refine X2 ?_; refine JT ?_; refine X0 ?_; refine JR ?_; refine Z0 ?_; refine JD ?_
 (clear ht hn hk hs hd; simp [XM, *] at hr; subst hr; exact X1 ⟨_, St.le_refl _, ⟨rfl, trivial⟩, X3 _⟩); refine JR ?_; refine ZB ?_; refine ZC ?_; refine ZM ?_; refine Z1 ?_
 refine Yq rfl rfl (fun hq => ?_) (fun hq => ?_); refine ZB ?_; refine ZC ?_; refine Z9 (hcon := hd) ?_; refine Zu ?_; refine Zn ?_; refine Z0 ?_; refine JD ?_; refine Yw rfl (fun hq => ?_) (fun hq => ?_)
 refine X0 ?_; refine JR ?_; refine Z0 ?_; refine JD ?_; (clear ht hn hk hs hd; simp [XM, *] at hr; subst hr; exact X1 ⟨_, St.le_refl _, ⟨rfl, trivial⟩, X3 _⟩); refine X2 ?_; refine X0 ?_
 refine JR ?_; refine Z0 ?_; refine JD ?_; (clear ht hn hk hs hd; simp [XM, *] at hr; subst hr; exact X1 ⟨_, St.le_refl _, ⟨rfl, trivial⟩, X3 _⟩); refine Zo ?_; refine Zo ?_; refine Zo ?_; refine Zo ?_
 refine Zq ?_; refine Z0 ?_; refine JD ?_; refine JF ?_; refine X2 ?_; refine X0 ?_; refine JR ?_; refine Z0 ?_; refine JD ?_
 (clear ht hn hk hs hd; simp [XM, *] at hr; subst hr; exact X1 ⟨_, St.le_refl _, ⟨rfl, trivial⟩, X3 _⟩); refine Zo ?_; refine Zo ?_; refine Zo ?_; refine Zo ?_; refine Zq ?_; refine Z0 ?_; refine JD ?_
 refine JF ?_; refine JR ?_; refine ZB ?_; refine ZC ?_; refine ZM ?_; refine Z1 ?_; refine Yq rfl rfl (fun hq => ?_) (fun hq => ?_); refine ZB ?_; refine ZC ?_; refine Z9 (hcon := hd) ?_; refine Zu ?_; refine Zn ?_
 refine Z0 ?_; refine JD ?_; refine Yw rfl (fun hq => ?_) (fun hq => ?_); refine X0 ?_; refine JR ?_; refine Z0 ?_; refine JD ?_
 (clear ht hn hk hs hd; simp [XM, *] at hr; subst hr; exact X1 ⟨_, St.le_refl _, ⟨rfl, trivial⟩, X3 _⟩); refine X2 ?_; refine X0 ?_; refine JR ?_; refine Z0 ?_; refine JD ?_
 (clear ht hn hk hs hd; simp [XM, *] at hr; subst hr; exact X1 ⟨_, St.le_refl _, ⟨rfl, trivial⟩, X3 _⟩); refine Zo ?_; refine Zo ?_; refine Zo ?_; refine Zo ?_; refine Zq ?_; refine Z0 ?_; refine JD ?_
 refine JF ?_; refine X2 ?_; refine X0 ?_; refine JR ?_; refine Z0 ?_; refine JD ?_; (clear ht hn hk hs hd; simp [XM, *] at hr; subst hr; exact X1 ⟨_, St.le_refl _, ⟨rfl, trivial⟩, X3 _⟩)
 refine Zo ?_; refine Zo ?_; refine Zo ?_; refine Zo ?_; refine Zq ?_; refine Z0 ?_; refine JD ?_; refine JF ?_; refine X0 ?_; refine X0 ?_; refine JR ?_; refine ZB ?_; refine ZC ?_; refine Z9 (hcon := hn) ?_
 refine Zu ?_; refine Z0 ?_; refine JD ?_; refine Yw rfl (fun hq => ?_) (fun hq => ?_); refine X2 ?_; refine JT ?_; refine X0 ?_; refine JR ?_; refine Z0 ?_; refine JD ?_
 (clear ht hn hk hs hd; simp [XM, *] at hr; subst hr; exact X1 ⟨_, St.le_refl _, ⟨rfl, trivial⟩, X3 _⟩); refine JR ?_; refine ZB ?_; refine ZC ?_; refine Z1 ?_; refine ZB ?_; refine ZC ?_
 refine Z9 (hcon := hk) ?_; refine Zu ?_; refine Zn ?_; refine Z0 ?_; refine JD ?_; refine Yw rfl (fun hq => ?_) (fun hq => ?_); refine X0 ?_; refine JR ?_; refine Z0 ?_; refine JD ?_
 (clear ht hn hk hs hd; simp [XM, *] at hr; subst hr; exact X1 ⟨_, St.le_refl _, ⟨rfl, trivial⟩, X3 _⟩); refine X0 ?_; refine X0 ?_; refine JR ?_; refine ZB ?_; refine ZC ?_; refine ZM ?_
 refine Z1 ?_; refine Yq rfl rfl (fun hq => ?_) (fun hq => ?_); refine ZB ?_; refine ZC ?_; refine Z9 (hcon := hs) ?_; refine Zu ?_; refine Zn ?_; refine Z0 ?_; refine JD ?_
 refine Yw rfl (fun hq => ?_) (fun hq => ?_); refine X2 ?_; refine JT ?_; refine X0 ?_; refine JR ?_; refine Z0 ?_; refine JD ?_
 (clear ht hn hk hs hd; simp [XM, *] at hr; subst hr; exact X1 ⟨_, St.le_refl _, ⟨rfl, trivial⟩, X3 _⟩); refine JR ?_; refine ZB ?_; refine ZC ?_; refine ZM ?_; refine Z1 ?_
 refine Yq rfl rfl (fun hq => ?_) (fun hq => ?_); refine ZB ?_; refine ZC ?_; refine Z9 (hcon := hd) ?_; refine Zu ?_; refine Zn ?_; refine Z0 ?_; refine JD ?_; refine Yw rfl (fun hq => ?_) (fun hq => ?_)
 refine X0 ?_; refine JR ?_; refine Z0 ?_; refine JD ?_; (clear ht hn hk hs hd; simp [XM, *] at hr; subst hr; exact X1 ⟨_, St.le_refl _, ⟨rfl, trivial⟩, X3 _⟩); refine X2 ?_; refine X0 ?_
 refine JR ?_; refine Z0 ?_; refine JD ?_; (clear ht hn hk hs hd; simp [XM, *] at hr; subst hr; exact X1 ⟨_, St.le_refl _, ⟨rfl, trivial⟩, X3 _⟩); refine Zo ?_; refine Zo ?_; refine Zo ?_; refine Zo ?_
 refine Zq ?_; refine Z0 ?_; refine JD ?_; refine JF ?_; refine X2 ?_; refine X0 ?_; refine JR ?_; refine Z0 ?_; refine JD ?_
 (clear ht hn hk hs hd; simp [XM, *] at hr; subst hr; exact X1 ⟨_, St.le_refl _, ⟨rfl, trivial⟩, X3 _⟩); refine Zo ?_; refine Zo ?_; refine Zo ?_; refine Zo ?_; refine Zq ?_; refine Z0 ?_; refine JD ?_
 refine JF ?_; refine JR ?_; refine ZB ?_; refine ZC ?_; refine ZM ?_; refine Z1 ?_; refine Yq rfl rfl (fun hq => ?_) (fun hq => ?_); refine ZB ?_; refine ZC ?_; refine Z9 (hcon := hd) ?_; refine Zu ?_; refine Zn ?_
 refine Z0 ?_; refine JD ?_; refine Yw rfl (fun hq => ?_) (fun hq => ?_); refine X0 ?_; refine JR ?_; refine Z0 ?_; refine JD ?_
 (clear ht hn hk hs hd; simp [XM, *] at hr; subst hr; exact X1 ⟨_, St.le_refl _, ⟨rfl, trivial⟩, X3 _⟩); refine X2 ?_; refine X0 ?_; refine JR ?_; refine Z0 ?_; refine JD ?_
 (clear ht hn hk hs hd; simp [XM, *] at hr; subst hr; exact X1 ⟨_, St.le_refl _, ⟨rfl, trivial⟩, X3 _⟩); refine Zo ?_; refine Zo ?_; refine Zo ?_; refine Zo ?_; refine Zq ?_; refine Z0 ?_; refine JD ?_
 refine JF ?_; refine X2 ?_; refine X0 ?_; refine JR ?_; refine Z0 ?_; refine JD ?_; (clear ht hn hk hs hd; simp [XM, *] at hr; subst hr; exact X1 ⟨_, St.le_refl _, ⟨rfl, trivial⟩, X3 _⟩)
 refine Zo ?_; refine Zo ?_; refine Zq ?_; refine Z1 ?_; refine Zo ?_; refine Zo ?_; refine Zo ?_; refine Zo ?_; refine Zq ?_; refine Z0 ?_; refine JD ?_; refine JF ?_; refine X0 ?_; refine X0 ?_; refine JR ?_
 refine ZB ?_; refine ZC ?_; refine Z9 (hcon := hn) ?_; refine Zu ?_; refine Z0 ?_; refine JD ?_; refine Yw rfl (fun hq => ?_) (fun hq => ?_); refine X2 ?_; refine JT ?_; refine X0 ?_; refine JR ?_
 refine Z0 ?_; refine JD ?_; (clear ht hn hk hs hd; simp [XM, *] at hr; subst hr; exact X1 ⟨_, St.le_refl _, ⟨rfl, trivial⟩, X3 _⟩); refine JR ?_; refine ZB ?_; refine ZC ?_; refine Z1 ?_; refine Zo ?_
 refine Zo ?_; refine Zo ?_; refine Zo ?_; refine Zq ?_; refine Z0 ?_; refine JD ?_; refine JF ?_; refine X0 ?_; refine X0 ?_; refine JR ?_; refine ZB ?_; refine ZC ?_; refine ZM ?_; refine Z1 ?_
 refine Yq rfl rfl (fun hq => ?_) (fun hq => ?_); refine ZB ?_; refine ZC ?_; refine Z9 (hcon := hs) ?_; refine Zu ?_; refine Zn ?_; refine Z0 ?_; refine JD ?_; refine Yw rfl (fun hq => ?_) (fun hq => ?_)
 refine X2 ?_; refine JT ?_; refine X0 ?_; refine JR ?_; refine Z0 ?_; refine JD ?_; (clear ht hn hk hs hd; simp [XM, *] at hr; subst hr; exact X1 ⟨_, St.le_refl _, ⟨rfl, trivial⟩, X3 _⟩)
 refine JR ?_; refine ZB ?_; refine ZC ?_; refine ZM ?_; refine Z1 ?_; refine Yq rfl rfl (fun hq => ?_) (fun hq => ?_); refine ZB ?_; refine ZC ?_; refine Z9 (hcon := hd) ?_; refine Zu ?_; refine Zn ?_; refine Z0 ?_
 refine JD ?_; refine Yw rfl (fun hq => ?_) (fun hq => ?_); refine X0 ?_; refine JR ?_; refine Z0 ?_; refine JD ?_
 (clear ht hn hk hs hd; simp [XM, *] at hr; subst hr; exact X1 ⟨_, St.le_refl _, ⟨rfl, trivial⟩, X3 _⟩); refine X2 ?_; refine X0 ?_; refine JR ?_; refine Z0 ?_; refine JD ?_
 (clear ht hn hk hs hd; simp [XM, *] at hr; subst hr; exact X1 ⟨_, St.le_refl _, ⟨rfl, trivial⟩, X3 _⟩); refine Zo ?_; refine Zo ?_; refine Zo ?_; refine Zo ?_; refine Zq ?_; refine Z0 ?_; refine JD ?_
 refine JF ?_; refine X2 ?_; refine X0 ?_; refine JR ?_; refine Z0 ?_; refine JD ?_; (clear ht hn hk hs hd; simp [XM, *] at hr; subst hr; exact X1 ⟨_, St.le_refl _, ⟨rfl, trivial⟩, X3 _⟩)
 refine Zo ?_; refine Zo ?_; refine Zo ?_; refine Zo ?_; refine Zq ?_; refine Z0 ?_; refine JD ?_; refine JF ?_; refine JR ?_; refine ZB ?_; refine ZC ?_; refine ZM ?_; refine Z1 ?_
 refine Yq rfl rfl (fun hq => ?_) (fun hq => ?_); refine ZB ?_; refine ZC ?_; refine Z9 (hcon := hd) ?_; refine Zu ?_; refine Zn ?_; refine Z0 ?_; refine JD ?_; refine Yw rfl (fun hq => ?_) (fun hq => ?_)
 refine X0 ?_; refine JR ?_; refine Z0 ?_; refine JD ?_; (clear ht hn hk hs hd; simp [XM, *] at hr; subst hr; exact X1 ⟨_, St.le_refl _, ⟨rfl, trivial⟩, X3 _⟩); refine X2 ?_; refine X0 ?_
 refine JR ?_; refine Z0 ?_; refine JD ?_; (clear ht hn hk hs hd; simp [XM, *] at hr; subst hr; exact X1 ⟨_, St.le_refl _, ⟨rfl, trivial⟩, X3 _⟩); refine Zo ?_; refine Zo ?_; refine Zo ?_; refine Zo ?_
 refine Zq ?_; refine Z0 ?_; refine JD ?_; refine JF ?_; refine X2 ?_; refine X0 ?_; refine JR ?_; refine Z0 ?_; refine JD ?_
 (clear ht hn hk hs hd; simp [XM, *] at hr; subst hr; exact X1 ⟨_, St.le_refl _, ⟨rfl, trivial⟩, X3 _⟩)
end Go.Fw

/- Where reading ends, in plain Lean. -/
import Derived.Test.YtfejbhbfmhkndaaG4
import Derived.Test.YtfejbhbfmhkndaaK05f
import Derived.Test.YtfejbhbfmhkndaaK05q
import Derived.Test.YtfejbhbfmhkndaaK05t
namespace Go.Fw
open Go
set_option linter.unusedVariables false
set_option linter.unusedSimpArgs false
def endOk (b : List UInt8) (e : Int × Int) : Prop := e.2 = 0 → ∃ q : Nat, e.1 = (q : Int) ∧ q ≤ b.length
theorem num_end (b : List UInt8) (a : Int) : endOk b (numS b a).2 := by
  intro h
  obtain ⟨k, rfl, hk, h1, h2, he⟩ := num_shape h
  refine ⟨_, he, ?_⟩
  simp only [List.length_drop] at h1
  omega
theorem uint_end (b : List UInt8) (a : Int) : endOk b (uintS b a).2 := by
  intro h
  unfold uintS at h ⊢
  simp only at h ⊢
  split
  · rename_i h1; rw [if_pos h1] at h; exact absurd h h1
  rename_i h1; rw [if_neg h1] at h
  split
  · rename_i h2; rw [if_pos h2] at h; simp at h
  rename_i h2; rw [if_neg h2] at h
  split
  · rename_i h3; rw [if_pos h3] at h; simp at h
  exact num_end b a (Classical.not_not.1 h1)
theorem uint_nat (b : List UInt8) (a : Int) : ∃ n : Nat, (uintS b a).1 = n := by
  unfold uintS
  simp only
  split
  · exact ⟨0, rfl⟩
  split
  · exact ⟨0, rfl⟩
  split
  · exact ⟨0, rfl⟩
  exact ⟨_, rfl⟩
theorem uint_zero {b : List UInt8} {a : Int} (h : (uintS b a).2.2 ≠ 0) : (uintS b a).1 = 0 := by
  unfold uintS at h ⊢
  simp only at h ⊢
  split
  · rfl
  rename_i h1; rw [if_neg h1] at h
  split
  · rfl
  rename_i h2; rw [if_neg h2] at h
  split
  · rfl
  rename_i h3; rw [if_neg h3] at h
  simp at h
theorem int_end (b : List UInt8) (a : Int) : endOk b (intS b a).2 := by
  intro h
  unfold intS at h ⊢
  simp only at h ⊢
  split
  · rename_i h1; rw [if_pos h1] at h; exact absurd h h1
  rename_i h1; rw [if_neg h1] at h
  split
  · rename_i h3; rw [if_pos h3] at h; simp at h
  exact num_end b a (Classical.not_not.1 h1)
theorem int_zero {b : List UInt8} {a : Int} (h : (intS b a).2.2 ≠ 0) : (intS b a).1 = 0 := by
  unfold intS at h ⊢
  simp only at h ⊢
  split
  · rfl
  rename_i h1; rw [if_neg h1] at h
  split
  · rfl
  rename_i h3; rw [if_neg h3] at h
  simp at h
theorem str_end (b : List UInt8) (a most : Int) : endOk b (strS b a most).2 := by
  intro h
  have hu := uint_end b a
  obtain ⟨n, hn⟩ := uint_nat b a
  unfold strS at h ⊢
  simp only at h ⊢
  split
  · rename_i h1; rw [if_pos h1] at h; exact absurd h h1
  rename_i h1; rw [if_neg h1] at h
  split
  · rename_i h2; rw [if_pos h2] at h; simp at h
  rename_i h2; rw [if_neg h2] at h
  split
  · rename_i h3; rw [if_pos h3] at h; simp at h
  rename_i h3
  obtain ⟨q, hq, hql⟩ := hu (Classical.not_not.1 h1)
  rw [hn] at h3 ⊢
  rw [hq] at h3 ⊢
  exact ⟨q + n, by simp, by omega⟩
section
variable {g : Nat → Int → Val × Int × Int} {a : Int}
theorem loopP_succ {k : Nat} (h : (loopP g a k).2.2 = 0) : loopP g a (k + 1) = ((loopP g a k).1 ++ [(g k (loopP g a k).2.1).1], (g k (loopP g a k).2.1).2.1, (g k (loopP g a k).2.1).2.2) := by
  rw [loopP]; simp [h]
theorem loopP_stick {k : Nat} (h : (loopP g a k).2.2 ≠ 0) : ∀ j, k ≤ j → loopP g a j = loopP g a k
  | 0, hj => by obtain rfl : k = 0 := by omega
                rfl
  | j + 1, hj => by
    by_cases e : k = j + 1
    · rw [e]
    · have := loopP_stick h j (by omega)
      rw [loopP, this]; simp [h]
theorem loopP_len {k : Nat} (h : (loopP g a k).2.2 = 0) : (loopP g a k).1.length = k := by
  induction k with
  | zero => rfl
  | succ k ih =>
    by_cases e : (loopP g a k).2.2 = 0
    · rw [loopP_succ e]; simp [ih e]
    · rw [loopP_stick e (k + 1) (by omega)] at h; exact absurd h e
theorem loopP_end {b : List UInt8} (hg : ∀ i q : Nat, q ≤ b.length → endOk b (g i q).2) (h0 : ∃ q : Nat, a = (q : Int) ∧ q ≤ b.length) : ∀ k, endOk b (loopP g a k).2
  | 0 => fun _ => h0
  | k + 1 => by
    by_cases e : (loopP g a k).2.2 = 0
    · rw [loopP_succ e]
      obtain ⟨q, h1, h2⟩ := loopP_end hg h0 k e
      intro h
      rw [h1] at h ⊢
      exact hg k q h2 h
    · intro h; rw [loopP_stick e (k + 1) (by omega)] at h; exact absurd h e
theorem loopP_succ_len {k : Nat} (h : (loopP g a k).2.2 = 0) : (loopP g a (k + 1)).1.length = k + 1 := by
  rw [loopP_succ h]; simp [loopP_len h]
end
theorem content_end {gl gp : Nat → Int → Val × Int × Int} {b : List UInt8} (hgl : ∀ i q : Nat, q ≤ b.length → endOk b (gl i q).2) (hgp : ∀ i q : Nat, q ≤ b.length → endOk b (gp i q).2) (a : Nat) (ha : a ≤ b.length) (k : Int) : endOk b (contentG gl gp b a k).2 := by
  unfold contentG
  split
  · exact int_end b a
  split
  · simp only
    split
    · exact int_end b a
    · exact int_end b _
  split
  · exact str_end b a 100
  split
  · simp only
    split
    · exact uint_end b a
    rename_i h1
    split
    · intro h; simp at h
    · have h0 := uint_end b a (Classical.not_not.1 h1)
      split
      · exact loopP_end hgl h0 _
      · exact loopP_end hgp h0 _
  · exact fun _ => ⟨a, rfl, ha⟩
theorem valG_end {gl gp : Nat → Int → Val × Int × Int} {b : List UInt8} (hgl : ∀ i q : Nat, q ≤ b.length → endOk b (gl i q).2) (hgp : ∀ i q : Nat, q ≤ b.length → endOk b (gp i q).2) (m a : Nat) (ha : a ≤ b.length) (want : Int) : endOk b (valG gl gp m b a want).2 := by
  unfold valG
  split
  · intro h; simp at h
  simp only
  split
  · intro h; simp at h
  · rename_i h1 h2
    have := content_end hgl hgp (a + 1) (by omega) ((((b[(a : Int).toNat]?).getD 0).toNat : Nat) : Int)
    rw [Int.natCast_add] at this
    split
    · intro h; simp at h
    · exact this
theorem noG_end {b : List UInt8} (i q : Nat) : endOk b (noG i q).2 := fun h => by simp [noG] at h
theorem pathG_end {b : List UInt8} (i q : Nat) (h : q ≤ b.length) : endOk b (pathG b i q).2 :=
  valG_end (fun i q _ => noG_end i q) (fun i q _ => noG_end i q) 0 q h _
theorem valP_end {b : List UInt8} : ∀ (m q : Nat), q ≤ b.length → endOk b (valP b m q).2
  | 0, q, h => valG_end (fun i q _ => noG_end i q) (fun i q h => pathG_end i q h) 0 q h _
  | m + 1, q, h => valG_end (fun i q h => valP_end m q h) (fun i q h => pathG_end i q h) (m + 1) q h _
end Go.Fw
namespace Go.Fw
open Go
set_option linter.unusedVariables false
set_option linter.unusedSimpArgs false
theorem strOkL_of : ∀ {l : List Val}, (∀ x ∈ l, strOk x) → strOkL l
  | [], _ => by rw [strOkL]; trivial
  | v :: r, h => by
    rw [strOkL]
    exact ⟨h v (List.mem_cons_self ..), strOkL_of fun x hx => h x (List.mem_cons_of_mem _ hx)⟩
theorem valid_lens {m : Nat} {k n d : Int} {s : List UInt8} {l : List Val} (h : validV m (.mk k n d s l) = true) : s.length ≤ 100 ∧ l.length ≤ 64 := by
  rw [validV] at h
  by_cases h4 : k = 4
  · subst h4; simp at h; exact ⟨by omega, by rw [h.1.2]; simp⟩
  by_cases h7 : k = 7
  · subst h7; simp at h; exact ⟨by rw [h.1.2]; simp, by omega⟩
  by_cases h8 : k = 8
  · subst h8; simp at h; exact ⟨by rw [h.1.2]; simp, by omega⟩
  simp [h4, h7, h8] at h
  exact ⟨by rw [h.1.1.2]; simp, by rw [h.1.2]; simp⟩
theorem valid_strOk : ∀ (v : Val) (m : Nat), validV m v = true → strOk v
  | .mk k n d s l, m, h => by
    have h1 := valid_lens h
    rw [strOk]
    exact ⟨by omega, by omega, strOkL_of fun x hx => valid_strOk x m (valid_elems h x hx)⟩
termination_by v => SizeOf.sizeOf v
decreasing_by
  have h1 := List.sizeOf_lt_of_mem (show x ∈ l from hx)
  simp only [Val.mk.sizeOf_spec]
  omega
theorem valG_valid {gl gp : Nat → Int → Val × Int × Int} {m : Nat} {b : List UInt8} {a want : Int} (h : (valG gl gp m b a want).2.2 = 0) : validV 8 (valG gl gp m b a want).1 = true := by
  unfold valG at h ⊢
  split
  · rename_i h1; rw [if_pos h1] at h; simp at h
  rename_i h1
  rw [if_neg h1] at h
  simp only at h ⊢
  split
  · rename_i h2; rw [if_pos h2] at h; simp at h
  rename_i h2
  rw [if_neg h2] at h
  split
  · rename_i h3; rw [if_pos h3] at h; simp at h
  rename_i h3
  rw [if_neg h3] at h
  cases hv : validV 8 (contentG gl gp b (a + 1) ((((b[a.toNat]?).getD 0).toNat : Nat) : Int)).1 with
  | true => rfl
  | false => exact absurd ⟨h, hv⟩ h3
theorem strS_len (b : List UInt8) (a most : Int) (hm : 0 ≤ most) : ((strS b a most).1.length : Int) ≤ most := by
  obtain ⟨n, hn⟩ := uint_nat b a
  unfold strS
  simp only
  split
  · simpa using hm
  split
  · simpa using hm
  split
  · simpa using hm
  · rename_i h1 h2 h3
    rw [hn] at h2 ⊢
    simp
    omega
theorem loopP_valid {g : Nat → Int → Val × Int × Int} {a : Int} (hg : ∀ i q, (g i q).2.2 = 0 → validV 8 (g i q).1 = true) : ∀ k, (loopP g a k).2.2 = 0 → ∀ x ∈ (loopP g a k).1, validV 8 x = true
  | 0, _, x, hx => by simp [loopP] at hx
  | k + 1, h, x, hx => by
    by_cases e : (loopP g a k).2.2 = 0
    · rw [loopP_succ e] at h hx
      rcases List.mem_append.1 hx with hx | hx
      · exact loopP_valid hg k e x hx
      · obtain rfl := List.mem_singleton.1 hx
        exact hg _ _ h
    · rw [loopP_stick e (k + 1) (by omega)] at h; exact absurd h e
theorem countBad_le {k n : Int} (h : countBad k n = false) : n ≤ 64 := by
  unfold countBad at h
  split at h <;> simp at h <;> omega
theorem content_ok {gl gp : Nat → Int → Val × Int × Int} {b : List UInt8} {a k : Int} (hgl : ∀ i q, (gl i q).2.2 = 0 → validV 8 (gl i q).1 = true) (hgp : ∀ i q, (gp i q).2.2 = 0 → validV 8 (gp i q).1 = true)
    (h : (contentG gl gp b a k).2.2 = 0) : strOk (contentG gl gp b a k).1 := by
  unfold contentG at h ⊢
  split
  · simp [strOk, strOkL]
  rename_i h1; rw [if_neg h1] at h
  split
  · simp only; split <;> simp [strOk, strOkL]
  rename_i h2; rw [if_neg h2] at h
  split
  · have := strS_len b a 100 (by omega)
    simp only [strOk, strOkL]
    exact ⟨by omega, by simp, trivial⟩
  rename_i h3; rw [if_neg h3] at h
  split
  · rename_i h4; rw [if_pos h4] at h
    simp only at h ⊢
    split
    · simp [strOk, strOkL]
    rename_i h5; rw [if_neg h5] at h
    split
    · simp [strOk, strOkL]
    rename_i h6; rw [if_neg h6] at h
    have h6 := countBad_le (by simpa using h6)
    have hall : ∀ g, (g = gl ∨ g = gp) → (loopP g (uintS b a).2.1 (uintS b a).1.toNat).2.2 = 0 → strOk (.mk k 0 0 [] (loopP g (uintS b a).2.1 (uintS b a).1.toNat).1) := by
      intro g hg he
      have hl := loopP_len he
      simp only [strOk]
      refine ⟨by simp, by rw [hl]; omega, strOkL_of fun x hx => valid_strOk x 8 (loopP_valid (fun i q hh => ?_) _ he x hx)⟩
      rcases hg with rfl | rfl
      · exact hgl i q hh
      · exact hgp i q hh
    simp only at h
    split
    · rename_i h7; rw [if_pos h7] at h; exact hall gl (.inl rfl) h
    · rename_i h7; rw [if_neg h7] at h; exact hall gp (.inr rfl) h
  · simp [strOk, strOkL]
end Go.Fw

/- Values with few elements, in plain Lean: their encodings are not long. -/
import Derived.Test.YtfejbhbfmhkndaaG5
import Derived.Test.YtfejbhbfmhkndaaK05t
namespace Go.Fw
open Go
set_option linter.unusedVariables false
mutual
def smallV : Nat → Val → Bool
  | dp, .mk k n d s l => decide (s.length ≤ 300) && decide (l.length ≤ 100) && decide (dp ≤ 20) && smallL dp 0 l
def smallL : Nat → Nat → List Val → Bool
  | _, _, [] => true
  | dp, c, v :: r => decide (c + v.l.length ≤ 300) && smallV (dp + 1) v && smallL dp (c + v.l.length) r
end
theorem smallL_mem {dp : Nat} : ∀ {l : List Val} {c : Nat} {x : Val}, smallL dp c l = true → x ∈ l → smallV (dp + 1) x = true
  | [], c, x, _, h => by simp at h
  | v :: r, c, x, h, hx => by
    rw [smallL, Bool.and_eq_true, Bool.and_eq_true] at h
    rcases List.mem_cons.1 hx with rfl | hx
    · exact h.1.2
    · exact smallL_mem h.2 hx
theorem smallL_sum {dp : Nat} : ∀ {l : List Val} {c : Nat}, c ≤ 300 → smallL dp c l = true → c + (l.map fun x => x.l.length).sum ≤ 300
  | [], c, hc, _ => by simpa using hc
  | v :: r, c, hc, h => by
    rw [smallL, Bool.and_eq_true, Bool.and_eq_true] at h
    have h1 := of_decide_eq_true h.1.1
    have := smallL_sum h1 h.2
    simp only [List.map_cons, List.sum_cons]
    omega
theorem small_parts {dp : Nat} {k n d : Int} {s : List UInt8} {l : List Val} (h : smallV dp (.mk k n d s l) = true) : s.length ≤ 300 ∧ l.length ≤ 100 ∧ dp ≤ 20 ∧ smallL dp 0 l = true := by
  rw [smallV] at h
  simp at h
  exact ⟨h.1.1.1, h.1.1.2, h.1.2, h.2⟩
theorem small_strOk : ∀ (v : Val) (dp : Nat), smallV dp v = true → strOk v
  | .mk k n d s l, dp, h => by
    obtain ⟨h1, h2, h3, h4⟩ := small_parts h
    rw [strOk]
    exact ⟨by omega, by omega, strOkL_of fun x hx => small_strOk x (dp + 1) (smallL_mem h4 hx)⟩
termination_by v => SizeOf.sizeOf v
decreasing_by
  have h1 := List.sizeOf_lt_of_mem (show x ∈ l from hx)
  simp only [Val.mk.sizeOf_spec]
  omega
theorem putL_sum (f : Val → Nat) : ∀ {l : List Val}, (∀ x ∈ l, (putV x).length ≤ f x) → (putL l).length ≤ (l.map f).sum
  | [], _ => by simp [putL]
  | v :: r, h => by
    have h1 := h v (by simp)
    have h2 := putL_sum f (l := r) fun x hx => h x (by simp [hx])
    simp only [putL, List.length_append, List.map_cons, List.sum_cons]
    omega
theorem sum_lin (a u : Nat) : ∀ l : List Val, (l.map fun x => a + x.l.length * u).sum = a * l.length + (l.map fun x => x.l.length).sum * u
  | [] => by simp
  | v :: r => by
    simp only [List.map_cons, List.sum_cons, List.length_cons, sum_lin a u r, Nat.mul_succ, Nat.add_mul]
    omega
theorem sum_const (a : Nat) : ∀ l : List Val, (l.map fun _ => a).sum = a * l.length
  | [] => by simp
  | v :: r => by simp only [List.map_cons, List.sum_cons, List.length_cons, sum_const a r, Nat.mul_succ]; omega
theorem putUint_len {n : Nat} (h : n ≤ 300) : (putUintS n).length ≤ 10 := by
  rw [put_uint (by omega)]
  exact vS_len (by omega)
theorem putInt_len {n : Int} (h : -9223372036854775808 ≤ n ∧ n ≤ 9223372036854775807) : (putIntS n).length ≤ 10 := vS_len (zig_lt h)
theorem put_leaf {m : Nat} {k n d : Int} {s : List UInt8} {l : List Val} (h : validV m (.mk k n d s l) = true) (h7 : k ≠ 7) (h8 : k ≠ 8) : (putV (.mk k n d s l)).length ≤ 111 := by
  rw [validV] at h
  rw [putV]
  simp only [List.length_cons]
  by_cases h1 : k = 1 ∨ k = 2 ∨ k = 5 ∨ k = 6
  · rw [if_pos h1]
    have hn : -9223372036854775808 ≤ n ∧ n ≤ 9223372036854775807 := by
      rcases h1 with rfl | rfl | rfl | rfl <;> simp at h <;> omega
    have := putInt_len hn
    omega
  rw [if_neg h1]
  by_cases h3 : k = 3
  · subst h3
    rw [if_pos rfl]
    have hnd : (-9223372036854775808 ≤ n ∧ n ≤ 9223372036854775807) ∧ -9223372036854775808 ≤ d ∧ d ≤ 9223372036854775807 := by simp [fracV] at h; omega
    have h5 := putInt_len hnd.1
    have h6 := putInt_len hnd.2
    rw [List.length_append]
    omega
  rw [if_neg h3]
  by_cases h4 : k = 4
  · subst h4
    rw [if_pos rfl]
    have hs : s.length ≤ 100 := by simp at h; omega
    have := putUint_len (n := s.length) (by omega)
    unfold putStrS
    rw [List.length_append]
    omega
  rw [if_neg h4, if_neg (by omega)]
  simp
theorem put_path {m : Nat} {n d : Int} {s : List UInt8} {l : List Val} (h : validV m (.mk 7 n d s l) = true) : (putV (.mk 7 n d s l)).length ≤ 2786 := by
  rw [validV] at h
  simp at h
  have hl : l.length ≤ 25 := by omega
  have hp : pathV 0 l = true := h.2.2
  have hk : ∀ {l : List Val} {i : Nat} {x : Val}, pathV i l = true → x ∈ l → x.kind = 5 ∨ x.kind = 6 := by
    intro l
    induction l with
    | nil => intro i x _ h; simp at h
    | cons v r ih =>
      intro i x h hx
      rw [pathV, Bool.and_eq_true, Bool.and_eq_true] at h
      rcases List.mem_cons.1 hx with rfl | hx
      · have := of_decide_eq_true h.1.1; omega
      · exact ih h.2 hx
  have h2 : (putL l).length ≤ (l.map fun _ => 111).sum := putL_sum (fun _ => 111) fun x hx => by
    have h3 := hk hp hx
    have h4 := pathV_mem hp hx
    obtain ⟨k', n', d', s', l'⟩ := x
    simp only [Val.kind] at h3
    exact put_leaf h4 (by omega) (by omega)
  rw [sum_const] at h2
  have := putUint_len (n := l.length) (by omega)
  rw [putV]
  simp
  omega
def topB : Nat → Nat
  | 0 => 2786
  | j + 1 => 178315 + 300 * topB j
theorem topB_low : ∀ j, 2786 ≤ topB j
  | 0 => Nat.le_refl _
  | j + 1 => by have := topB_low j; rw [topB]; omega
theorem valid_list {m : Nat} {n d : Int} {s : List UInt8} {l : List Val} (h : validV m (.mk 8 n d s l) = true) : l.length ≤ 64 ∧ 1 ≤ m ∧ listV (m - 1) l = true := by
  rw [validV] at h
  simp at h
  exact ⟨h.2.1.2.1, by omega, h.2.2⟩
theorem put_list {n d : Int} {s : List UInt8} {l : List Val} (hl : l.length ≤ 300) : (putV (.mk 8 n d s l)).length ≤ 11 + (putL l).length := by
  have := putUint_len (n := l.length) hl
  rw [putV]
  simp
  omega
theorem put_bound : ∀ (j m : Nat) (v : Val) (dp : Nat), m ≤ 2 * j → validV m v = true → smallV dp v = true → (putV v).length ≤ topB j
  | j, m, .mk k n d s l, dp, hm, hv, hs => by
    have hlow := topB_low j
    by_cases h7 : k = 7
    · subst h7
      exact Nat.le_trans (put_path hv) hlow
    by_cases h8 : k = 8
    case neg => exact Nat.le_trans (put_leaf hv h7 h8) (by omega)
    subst h8
    obtain ⟨hl, hm1, hlv⟩ := valid_list hv
    obtain ⟨_, _, _, hsl⟩ := small_parts hs
    cases j with
    | zero => omega
    | succ j =>
      have h1 : (putL l).length ≤ (l.map fun x => 2786 + x.l.length * topB j).sum := putL_sum _ fun x hx => by
        have hxv := listV_mem hlv hx
        have hxs := smallL_mem hsl hx
        obtain ⟨k', n', d', s', l'⟩ := x
        simp only [Val.l]
        by_cases h7' : k' = 7
        · subst h7'
          have := put_path hxv
          omega
        by_cases h8' : k' = 8
        case neg =>
          have := put_leaf hxv h7' h8'
          omega
        subst h8'
        obtain ⟨hl', hm1', hlv'⟩ := valid_list hxv
        obtain ⟨_, _, _, hsl'⟩ := small_parts hxs
        have h2 : (putL l').length ≤ (l'.map fun _ => topB j).sum := putL_sum _ fun y hy => put_bound j (m - 1 - 1) y (dp + 1 + 1) (by omega) (listV_mem hlv' hy) (smallL_mem hsl' hy)
        rw [sum_const] at h2
        have h3 := put_list (n := n') (d := d') (s := s') (l := l') (by omega)
        rw [Nat.mul_comm] at h2
        omega
      rw [sum_lin] at h1
      have h4 := smallL_sum (by omega) hsl
      have h5 : (l.map fun x => x.l.length).sum * topB j ≤ 300 * topB j := Nat.mul_le_mul_right _ (by omega)
      have h6 := put_list (n := n) (d := d) (s := s) (l := l) (by omega)
      rw [topB]
      omega
termination_by j => j
theorem put_small {v : Val} {dp : Nat} (hv : validV 8 v = true) (hs : smallV dp v = true) : (putV v).length ≤ 140737488355328 :=
  Nat.le_trans (put_bound 4 8 v dp (by omega) hv hs) (by decide)
end Go.Fw
namespace Go.Fw
open Go
set_option linter.unusedVariables false
/-- What reads back a value that was put between other bytes. -/
def Back (b : List UInt8) (g : Int → Val × Int × Int) (x : Val) : Prop :=
  ∀ front back : List UInt8, front ++ putV x ++ back = b → g front.length = (x, (front.length : Int) + (putV x).length, 0)
theorem putL_append : ∀ (l r : List Val), putL (l ++ r) = putL l ++ putL r
  | [], r => rfl
  | v :: l, r => by simp only [List.cons_append, putL, putL_append l r, List.append_assoc]
theorem loop_back {g : Nat → Int → Val × Int × Int} {b front back : List UInt8} {l : List Val} (hb : front ++ putL l ++ back = b) (hg : ∀ (j : Nat) (x : Val), l[j]? = some x → Back b (g j) x) :
    ∀ j, j ≤ l.length → loopP g front.length j = (l.take j, (front.length : Int) + (putL (l.take j)).length, 0)
  | 0, _ => by simp [loopP, putL]
  | j + 1, hj => by
    have ih := loop_back hb hg j (by omega)
    obtain ⟨x, hx⟩ := get_of_lt (l := l) (k := j) (by omega)
    have hsp : l = l.take j ++ x :: l.drop (j + 1) := by
      rw [← (List.getElem?_eq_some_iff.1 hx).2, ← List.drop_eq_getElem_cons, List.take_append_drop]
    have hbk := hg j x hx (front ++ putL (l.take j)) (putL (l.drop (j + 1)) ++ back) (by
      rw [← hb]
      conv => rhs; rw [hsp, putL_append, putL]
      simp only [List.append_assoc])
    rw [loopP_succ (by rw [ih]), ih]
    simp only
    rw [List.length_append, Int.natCast_add] at hbk
    rw [hbk]
    have ht : l.take (j + 1) = l.take j ++ [x] := by rw [List.take_add_one, hx]; rfl
    rw [ht, putL_append]
    simp only [putL, List.append_nil, List.length_append, Int.natCast_add]
    rw [Int.add_assoc]
theorem byte_kind {k : Int} (h : 0 ≤ k ∧ k ≤ 8) : (((UInt8.ofNat k.toNat).toNat : Nat) : Int) = k := by
  rw [toNat_ofNat8 (by omega)]; omega
theorem valid_kind {m : Nat} {k n d : Int} {s : List UInt8} {l : List Val} (h : validV m (.mk k n d s l) = true) : 0 ≤ k ∧ k ≤ 8 := by
  rw [validV] at h
  by_cases h0 : k = 0
  · omega
  by_cases h1 : k = 1
  · omega
  by_cases h2 : k = 2
  · omega
  by_cases h3 : k = 3
  · omega
  by_cases h4 : k = 4
  · omega
  by_cases h5 : k = 5 ∨ k = 6
  · omega
  by_cases h7 : k = 7
  · omega
  by_cases h8 : k = 8
  · omega
  simp [h0, h1, h2, h3, h4, h5, h7, h8] at h
theorem content_back {m : Nat} {k n d : Int} {s : List UInt8} {l : List Val} (hv : validV m (.mk k n d s l) = true) {b front back : List UInt8} {gl gp : Nat → Int → Val × Int × Int}
    (hb : front ++ putV (.mk k n d s l) ++ back = b) (hgl : k = 8 → ∀ (j : Nat) (x : Val), l[j]? = some x → Back b (gl j) x) (hgp : k = 7 → ∀ (j : Nat) (x : Val), l[j]? = some x → Back b (gp j) x) :
    contentG gl gp b ((front.length : Int) + 1) k = (.mk k n d s l, (front.length : Int) + (putV (.mk k n d s l)).length, 0) := by
  have hk := valid_kind hv
  rw [putV] at hb ⊢
  have hfl : ((front.length : Int) + 1) = ((front ++ [UInt8.ofNat k.toNat]).length : Nat) := by simp
  rw [hfl]
  have hb' : ∀ w, front ++ UInt8.ofNat k.toNat :: w ++ back = (front ++ [UInt8.ofNat k.toNat]) ++ w ++ back := fun w => by simp
  rw [hb'] at hb
  have hlen : ∀ w : List UInt8, ((front.length : Int) + ((UInt8.ofNat k.toNat :: w).length : Nat)) = (((front ++ [UInt8.ofNat k.toNat]).length : Nat) : Int) + w.length := fun w => by simp; omega
  rw [hlen]
  generalize front ++ [UInt8.ofNat k.toNat] = F at *
  clear hfl hb' hlen
  rw [validV] at hv
  unfold contentG
  by_cases h1 : k = 1 ∨ k = 2 ∨ k = 5 ∨ k = 6
  · rw [if_pos h1] at hb ⊢
    have hz : d = 0 ∧ s = [] ∧ l = [] ∧ -9223372036854775808 ≤ n ∧ n ≤ 9223372036854775807 := by
      rcases h1 with rfl | rfl | rfl | rfl <;> simp at hv <;> refine ⟨hv.1.1.1, hv.1.1.2, hv.1.2, ?_⟩ <;> omega
    obtain ⟨rfl, rfl, rfl, hn⟩ := hz
    have := int_back hn F back
    rw [hb] at this
    rw [if_pos h1, this]
  rw [if_neg h1] at hb ⊢
  rw [if_neg h1]
  by_cases h3 : k = 3
  · subst h3
    rw [if_pos rfl] at hb ⊢
    rw [if_pos rfl]
    have hz : (s = [] ∧ l = []) ∧ (-9223372036854775808 ≤ n ∧ n ≤ 9223372036854775807) ∧ -9223372036854775808 ≤ d ∧ d ≤ 9223372036854775807 := by simp [fracV] at hv; exact ⟨⟨hv.1.1, hv.1.2⟩, by omega, by omega⟩
    obtain ⟨⟨rfl, rfl⟩, hn, hd⟩ := hz
    have e1 := int_back hn F (putIntS d ++ back)
    have e2 := int_back hd (F ++ putIntS n) back
    rw [show F ++ putIntS n ++ (putIntS d ++ back) = b by rw [← hb]; simp] at e1
    rw [show F ++ putIntS n ++ putIntS d ++ back = b by rw [← hb]; simp, List.length_append, Int.natCast_add] at e2
    rw [e1]
    simp only
    rw [if_neg (by simp), e2]
    simp only [List.length_append, Int.natCast_add, Int.add_assoc]
  rw [if_neg h3] at hb ⊢
  rw [if_neg h3]
  by_cases h4 : k = 4
  · subst h4
    rw [if_pos rfl] at hb ⊢
    rw [if_pos rfl]
    have hz : n = 0 ∧ d = 0 ∧ l = [] ∧ s.length ≤ 100 := by simp at hv; exact ⟨hv.2.1.1, hv.1.1, hv.1.2, hv.2.1.2⟩
    obtain ⟨rfl, rfl, rfl, hs⟩ := hz
    have := str_back (s := s) (most := 100) (by omega) (by omega) F back
    rw [hb] at this
    rw [this]
  rw [if_neg h4] at hb ⊢
  rw [if_neg h4]
  by_cases h7 : k = 7 ∨ k = 8
  · rw [if_pos h7] at hb ⊢
    rw [if_pos h7]
    have hz : n = 0 ∧ d = 0 ∧ s = [] ∧ countBad k l.length = false ∧ l.length ≤ 64 := by
      rcases h7 with rfl | rfl
      · simp at hv
        exact ⟨hv.2.1.1, hv.1.1, hv.1.2, by simp [countBad]; omega, by omega⟩
      · simp at hv
        exact ⟨hv.2.1.1, hv.1.1, hv.1.2, by simp [countBad]; omega, by omega⟩
    obtain ⟨rfl, rfl, rfl, hcb, hl⟩ := hz
    have e1 := uint_back (n := l.length) ⟨by omega, by omega⟩ F (putL l ++ back)
    rw [show F ++ putUintS l.length ++ (putL l ++ back) = b by rw [← hb]; simp] at e1
    rw [e1]
    simp only
    rw [if_neg (by simp), hcb, if_neg (by simp), Int.toNat_natCast]
    have hall : ∀ (j : Nat) (x : Val), l[j]? = some x → Back b ((if k = 8 then gl else gp) j) x := by
      intro j x hx
      by_cases h8 : k = 8
      · rw [if_pos h8]; exact hgl h8 j x hx
      · rw [if_neg h8]; exact hgp (by omega) j x hx
    have e2 := loop_back (g := if k = 8 then gl else gp) (b := b) (front := F ++ putUintS l.length) (back := back) (l := l) (by rw [← hb]; simp) hall l.length (Nat.le_refl _)
    rw [List.take_length, List.length_append, Int.natCast_add] at e2
    rw [e2]
    simp only [List.length_append, Int.natCast_add, Int.add_assoc]
  rw [if_neg h7] at hb ⊢
  rw [if_neg h7]
  have h0 : k = 0 := by omega
  subst h0
  simp at hv
  obtain ⟨⟨⟨rfl, rfl⟩, rfl⟩, rfl⟩ := hv
  simp
theorem valG_back {m : Nat} {k n d : Int} {s : List UInt8} {l : List Val} (hv : validV m (.mk k n d s l) = true) (hm : m ≤ 8) {want : Int} (hw : want = 0 ∨ want = k) {b front back : List UInt8} {gl gp : Nat → Int → Val × Int × Int}
    (hb : front ++ putV (.mk k n d s l) ++ back = b) (hgl : k = 8 → ∀ (j : Nat) (x : Val), l[j]? = some x → Back b (gl j) x) (hgp : k = 7 → ∀ (j : Nat) (x : Val), l[j]? = some x → Back b (gp j) x) :
    valG gl gp m b front.length want = (.mk k n d s l, (front.length : Int) + (putV (.mk k n d s l)).length, 0) := by
  have hk := valid_kind hv
  have hc := content_back hv hb hgl hgp
  have hv8 := validV_mono _ m 8 hm hv
  have hget : b[front.length]? = some (UInt8.ofNat k.toNat) := by rw [← hb, putV]; simp
  have hlt : front.length < b.length := (List.getElem?_eq_some_iff.1 hget).1
  have hm8 : k = 8 → m ≠ 0 := by
    rintro rfl rfl
    have := (valid_list hv).2.1
    omega
  unfold valG
  rw [if_neg (by omega), Int.toNat_natCast, hget, Option.getD_some]
  simp only
  rw [byte_kind hk, if_neg (by omega), hc]
  simp only
  rw [if_neg (fun h => by rw [hv8] at h; exact absurd h.2 (by decide))]
theorem leaf_back {b : List UInt8} {i : Nat} {x : Val} (hv : validV 0 x = true) (hk : x.kind = 5 + (i % 2 : Nat)) : Back b (pathG b i) x := by
  obtain ⟨k, n, d, s, l⟩ := x
  simp only [Val.kind] at hk
  intro front back hb
  unfold pathG leafP
  exact valG_back hv (by omega) (.inr hk.symm) hb (fun h => by omega) (fun h => by omega)
theorem path_kinds : ∀ {l : List Val} {i j : Nat} {x : Val}, pathV i l = true → l[j]? = some x → x.kind = 5 + ((i + j) % 2 : Nat) ∧ validV 0 x = true
  | [], _, _, _, _, h => by simp at h
  | v :: r, i, 0, x, hp, h => by
    rw [pathV, Bool.and_eq_true, Bool.and_eq_true] at hp
    simp at h
    subst h
    exact ⟨of_decide_eq_true hp.1.1, hp.1.2⟩
  | v :: r, i, j + 1, x, hp, h => by
    rw [pathV, Bool.and_eq_true, Bool.and_eq_true] at hp
    have := path_kinds hp.2 (j := j) (x := x) (by simpa using h)
    rwa [show i + 1 + j = i + (j + 1) by omega] at this
theorem valid_path {m : Nat} {n d : Int} {s : List UInt8} {l : List Val} (h : validV m (.mk 7 n d s l) = true) : pathV 0 l = true := by
  rw [validV] at h
  simp at h
  exact h.2.2
theorem val_back {b : List UInt8} : ∀ (v : Val) (m : Nat), validV m v = true → m ≤ 8 → Back b (valP b m) v
  | .mk k n d s l, m, hv, hm => by
    intro front back hb
    rw [valP_eq]
    refine valG_back hv hm (.inl rfl) hb (fun h8 j x hx => ?_) (fun h7 j x hx => ?_)
    · subst h8
      obtain ⟨_, hm1, hl⟩ := valid_list hv
      cases m with
      | zero => omega
      | succ m' => exact val_back x m' (listV_mem hl (List.mem_of_getElem? hx)) (by omega)
    · subst h7
      have hp := path_kinds (valid_path hv) hx
      rw [Nat.zero_add] at hp
      exact leaf_back hp.2 hp.1
termination_by v => SizeOf.sizeOf v
decreasing_by
  have h1 := List.sizeOf_lt_of_mem (List.mem_of_getElem? hx)
  simp only [Val.mk.sizeOf_spec]
  omega
theorem value_back {v : Val} (hv : validV 8 v = true) (front back : List UInt8) : valueS (front ++ putValueS v ++ back) front.length = (v, (front.length : Int) + (putValueS v).length, 0) := by
  rw [show putValueS v = putV v by unfold putValueS; rw [hv]; rfl]
  have h := val_back (b := front ++ putV v ++ back) v 8 hv (by omega) front back rfl
  unfold valueS
  rw [if_neg (by simp; omega), h]
  rfl
end Go.Fw
namespace Go.Fw
open Go
set_option linter.unusedVariables false
theorem only_nil {b : List UInt8} {a : Int} (h : 0 ≤ a) (h2 : a ≤ b.length) : only b a a [] := ⟨h, by omega, h2, by simp⟩
theorem only_append {b : List UInt8} {a m e : Int} {w1 w2 : List UInt8} (h1 : only b a m w1) (h2 : only b m e w2) : only b a e (w1 ++ w2) := by
  obtain ⟨k1, k2, k3, k4⟩ := h1
  obtain ⟨j1, j2, j3, j4⟩ := h2
  refine ⟨k1, by omega, j3, ?_⟩
  rw [show (e - a).toNat = (m - a).toNat + (e - m).toNat by omega, List.take_add, k4, List.drop_drop, show a.toNat + (m - a).toNat = m.toNat by omega, j4]
theorem only_byte {b : List UInt8} {a : Int} {c : UInt8} (h0 : 0 ≤ a) (h : b[a.toNat]? = some c) : only b a (a + 1) [c] := by
  obtain ⟨hl, he⟩ := List.getElem?_eq_some_iff.1 h
  refine ⟨h0, by omega, by omega, ?_⟩
  rw [show (a + 1 - a).toNat = 1 by omega, List.drop_eq_getElem_cons hl, he]
  rfl
def OnlyG (b : List UInt8) (g : Nat → Int → Val × Int × Int) : Prop := ∀ (i : Nat) (q : Int) (x : Val) (e : Int), 0 ≤ q → q ≤ b.length → g i q = (x, e, 0) → only b q e (putV x)
theorem loop_only {g : Nat → Int → Val × Int × Int} {b : List UInt8} {a : Int} (hg : OnlyG b g) (h0 : 0 ≤ a) (h1 : a ≤ b.length) : ∀ (j : Nat) (l : List Val) (e : Int), loopP g a j = (l, e, 0) → only b a e (putL l) ∧ l.length = j
  | 0, l, e, h => by
    simp only [loopP, Prod.mk.injEq] at h
    obtain ⟨rfl, rfl, _⟩ := h
    exact ⟨only_nil h0 h1, rfl⟩
  | j + 1, l, e, h => by
    by_cases hz : (loopP g a j).2.2 = 0
    · rw [loopP_succ hz] at h
      have ih := loop_only hg h0 h1 j (loopP g a j).1 (loopP g a j).2.1 (by rw [← hz])
      generalize (loopP g a j).1 = l0 at *
      generalize (loopP g a j).2.1 = q at *
      obtain ⟨⟨i1, i2⟩, i3⟩ := ih
      simp only [Prod.mk.injEq] at h
      obtain ⟨rfl, rfl, h3⟩ := h
      have hx := hg j q (g j q).1 (g j q).2.1 (by omega) (by omega) (by rw [← h3])
      refine ⟨?_, by simp [i3]⟩
      rw [putL_append]
      have := only_append ⟨i1, i2⟩ hx
      simpa [putL] using this
    · rw [loopP_stick hz (j + 1) (by omega)] at h
      exact absurd (congrArg (fun r => r.2.2) h) hz
theorem ofNat_int (c : UInt8) : UInt8.ofNat (((c.toNat : Nat) : Int)).toNat = c := by simp
theorem content_only {gl gp : Nat → Int → Val × Int × Int} {b : List UInt8} {a k : Int} {v : Val} {e : Int} (hgl : OnlyG b gl) (hgp : OnlyG b gp) (h0 : 0 ≤ a) (h1 : a ≤ b.length) (h : contentG gl gp b a k = (v, e, 0)) :
    ∃ w, only b a e w ∧ putV v = UInt8.ofNat k.toNat :: w := by
  unfold contentG at h
  split at h
  · rename_i hk
    simp only [Prod.mk.injEq] at h
    obtain ⟨rfl, rfl, h3⟩ := h
    have := int_only (b := b) (a := a) (n := (intS b a).1) (e := (intS b a).2.1) (by rw [← h3])
    exact ⟨_, this.1, by rw [putV, if_pos hk]⟩
  rename_i hk1
  split at h
  · rename_i hk
    subst hk
    simp only at h
    split at h
    · rename_i h3
      simp only [Prod.mk.injEq] at h
      exact absurd h.2.2 h3
    rename_i h3
    have h3 : (intS b a).2.2 = 0 := by simpa using h3
    simp only [Prod.mk.injEq] at h
    obtain ⟨rfl, rfl, h4⟩ := h
    have e1 := int_only (b := b) (a := a) (n := (intS b a).1) (e := (intS b a).2.1) (by rw [← h3])
    have e2 := int_only (b := b) (a := (intS b a).2.1) (n := (intS b (intS b a).2.1).1) (e := (intS b (intS b a).2.1).2.1) (by rw [← h4])
    exact ⟨_, only_append e1.1 e2.1, by rw [putV]; simp⟩
  rename_i hk3
  split at h
  · rename_i hk
    subst hk
    simp only [Prod.mk.injEq] at h
    obtain ⟨rfl, rfl, h3⟩ := h
    have := str_only (b := b) (a := a) (s := (strS b a 100).1) (e := (strS b a 100).2.1) (most := 100) (by rw [← h3])
    exact ⟨_, this.1, by rw [putV]; simp⟩
  rename_i hk4
  split at h
  · rename_i hk
    simp only at h
    split at h
    · rename_i h3
      simp only [Prod.mk.injEq] at h
      exact absurd h.2.2 h3
    rename_i h3
    split at h
    · simp at h
    have h3 : (uintS b a).2.2 = 0 := by simpa using h3
    have e1 := uint_only (b := b) (a := a) (n := (uintS b a).1) (e := (uintS b a).2.1) (by rw [← h3])
    simp only [Prod.mk.injEq] at h
    obtain ⟨rfl, rfl, h4⟩ := h
    have hall : OnlyG b (if k = 8 then gl else gp) := by
      split
      · exact hgl
      · exact hgp
    obtain ⟨⟨k1, k2, k3, k4⟩, k5, k6, k7⟩ := e1
    have e2 := loop_only (g := if k = 8 then gl else gp) (b := b) (a := (uintS b a).2.1) hall (by omega) (by omega) (uintS b a).1.toNat _ _ (by rw [← h4])
    refine ⟨_, only_append ⟨k1, k2, k3, k4⟩ e2.1, ?_⟩
    rw [putV, if_neg hk1, if_neg hk3, if_neg hk4, if_pos hk, e2.2]
    rw [show (((uintS b a).1.toNat : Nat) : Int) = (uintS b a).1 by omega]
  rename_i hk7
  simp only [Prod.mk.injEq] at h
  obtain ⟨rfl, rfl, _⟩ := h
  exact ⟨[], only_nil h0 h1, by rw [putV, if_neg hk1, if_neg hk3, if_neg hk4, if_neg hk7]⟩
theorem valG_only {gl gp : Nat → Int → Val × Int × Int} {m : Nat} {b : List UInt8} {a want : Int} {v : Val} {e : Int} (hgl : OnlyG b gl) (hgp : OnlyG b gp) (h0 : 0 ≤ a) (h1 : a ≤ b.length) (h : valG gl gp m b a want = (v, e, 0)) : only b a e (putV v) := by
  unfold valG at h
  split at h
  · simp at h
  rename_i h2
  obtain ⟨c, hc⟩ := get_of_lt (l := b) (k := a.toNat) (by omega)
  rw [hc, Option.getD_some] at h
  simp only at h
  split at h
  · simp at h
  split at h
  · simp at h
  obtain ⟨w, hw, hp⟩ := content_only hgl hgp (by omega) (by omega) h
  rw [hp, ofNat_int]
  exact only_append (only_byte h0 hc) hw
theorem noG_only {b : List UInt8} : OnlyG b noG := fun i q x e _ _ h => by simp [noG] at h
theorem pathG_only {b : List UInt8} : OnlyG b (pathG b) := fun i q x e h0 h1 h => by
  unfold pathG leafP at h
  exact valG_only noG_only noG_only h0 h1 h
theorem val_only {b : List UInt8} : ∀ (m : Nat) (a : Int) (v : Val) (e : Int), 0 ≤ a → a ≤ b.length → valP b m a = (v, e, 0) → only b a e (putV v)
  | 0, a, v, e, h0, h1, h => by
    rw [valP_eq] at h
    exact valG_only noG_only pathG_only h0 h1 h
  | m + 1, a, v, e, h0, h1, h => by
    rw [valP_eq] at h
    exact valG_only (gl := listG b (m + 1)) (fun i q x e h0 h1 h => val_only m q x e h0 h1 h) pathG_only h0 h1 h
theorem value_only {b : List UInt8} {a e : Int} {v : Val} (h : valueS b a = (v, e, 0)) : only b a e (putValueS v) ∧ validV 8 v = true ∧ (putV v).length ≤ b.length := by
  unfold valueS at h
  split at h
  · simp at h
  simp only at h
  split at h
  · rename_i h2
    simp only [Prod.mk.injEq] at h
    exact absurd h.2.2 h2
  rename_i h1 h2
  have ho := val_only 8 a v e (by omega) (by omega) h
  have hv : validV 8 v = true := by
    have := valG_valid (gl := listG b 8) (gp := pathG b) (m := 8) (b := b) (a := a) (want := 0) (by rw [← valP_eq, h])
    rw [← valP_eq, h] at this
    exact this
  have hl : (putV v).length ≤ b.length := by
    rw [← ho.2.2.2]
    simp
    omega
  refine ⟨?_, hv, hl⟩
  unfold putValueS
  rw [if_pos hv]
  exact ho
end Go.Fw

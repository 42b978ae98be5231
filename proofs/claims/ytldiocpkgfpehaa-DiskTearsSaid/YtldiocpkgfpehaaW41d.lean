/- The law about torn writes. -/
import Derived.Test.YtldiocpkgfpehaaW41a
namespace Go.Fw
open Go Go.Proofs
set_option linter.unusedVariables false
set_option linter.unusedSimpArgs false
theorem perform_byte {rows : List (List UInt8)} {pend : List Wr} {kv : Nat → Int} (hok : ∀ w ∈ pend, 0 ≤ w.at_ ∧ w.b.length = 64) : ∀ (n k p : Nat) (r : List UInt8) (X : UInt8), (performK rows pend kv n)[k]? = some r → r[p]? = some X →
    (∃ s, rows[k]? = some s ∧ s[p]? = some X) ∨ ∃ i w, i < n ∧ pend[i]? = some w ∧ w.at_ = k ∧ w.b[p]? = some X
  | 0, k, p, r, X, h, hp => .inl ⟨r, h, hp⟩
  | n + 1, k, p, r, X, h, hp => by
    have up : ∀ r', (performK rows pend kv n)[k]? = some r' → r'[p]? = some X → (∃ s, rows[k]? = some s ∧ s[p]? = some X) ∨ ∃ i w, i < n + 1 ∧ pend[i]? = some w ∧ w.at_ = k ∧ w.b[p]? = some X := fun r' h1 h2 => by
      rcases perform_byte hok n k p r' X h1 h2 with h3 | ⟨i, w, h3, h4⟩
      · exact .inl h3
      · exact .inr ⟨i, w, by omega, h4⟩
    simp only [performK] at h
    split at h
    · rename_i w hw
      have h0 := hok w (List.mem_of_getElem? hw)
      simp only [putS] at h
      by_cases hk : w.at_.toNat = k
      · rw [hk, List.getElem?_set_self'] at h
        cases ho : (performK rows pend kv n)[k]? with
        | none => rw [ho] at h; simp at h
        | some o =>
          rw [ho] at h
          simp at h
          subst h
          rw [List.getElem?_append] at hp
          split at hp
          · rename_i hlt
            rw [List.getElem?_take] at hp
            split at hp
            · exact .inr ⟨n, w, by omega, hw, by omega, hp⟩
            · simp at hp
          · rename_i hge
            rw [List.getElem?_drop] at hp
            simp only [List.length_take] at hp hge
            have hb := clampS_le (kv n)
            refine up o ho ?_
            rw [← hp]; congr 1; omega
      · rw [List.getElem?_set_ne hk] at h
        exact up r h hp
    · exact up r h hp
theorem u8_eq (x y : UInt8) : ((x.toNat : Int) = (y.toNat : Int)) = (x = y) := by rw [Int.natCast_inj, UInt8.toNat_inj]
abbrev ai' (n : Nat) : Value := .int .i64 n
def tearS (pend : List Wr) (X : UInt8) (k p : Nat) (b0 : Bool) : Nat → Bool
  | 0 => b0
  | j + 1 => tearS pend X k p b0 j || match pend[j]? with | some w => decide (w.at_ = k) && decide (w.b[p]? = some X) | none => false
theorem tearS_mono {pend : List Wr} {X : UInt8} {k p : Nat} {b0 : Bool} {i : Nat} (h : tearS pend X k p b0 i = true) : ∀ n, i ≤ n → tearS pend X k p b0 n = true
  | 0, hn => by obtain rfl : i = 0 := by omega
                exact h
  | n + 1, hn => by
    by_cases e : i = n + 1
    · exact e ▸ h
    · simp [tearS, tearS_mono h n (by omega)]
theorem tear_true {d : Disk} {keep : List Int} {k p : Nat} {c s : List UInt8} {X S : UInt8} (hok : okW d.sectors d.pending) (hc : (settleS d (keepS keep))[k]? = some c) (hX : c[p]? = some X) (hs : d.sectors[k]? = some s) (hS : s[p]? = some S) :
    tearS d.pending X k p (decide (X = S)) d.pending.length = true := by
  rcases perform_byte (fun w hw => ⟨(hok.2 w hw).1, (hok.2 w hw).2.2⟩) _ _ _ _ _ hc hX with ⟨s', h1, h2⟩ | ⟨i, w, h1, h2, h3, h4⟩
  · rw [hs] at h1; cases h1
    rw [hS] at h2; cases h2
    exact tearS_mono (i := 0) (by simp [tearS]) _ (Nat.zero_le _)
  · exact tearS_mono (i := i + 1) (by simp [tearS, h2, h3, h4]) _ h1
set_option maxHeartbeats 8000000 in
theorem diskTears_con (d : Disk) (keep : List Int) (a i : UInt8) : Con Try.prog 5 [] [aDisk d, .d (dInts keep), au8 a.toNat, au8 i.toNat] [] (ab true) := by
  refine con_of (xs := [ab true]) Try.func5 rfl Try.ntmps5 rfl rfl rfl (fun E => ?_)
  cases hf : fewS d with
  | false =>
    refine awp_seq ?_
    refine awp_region (by kernel_rfl) ?_
    apply w_box (γ := 100)
    case hg => exact (by exact True.intro)
    case hx => conv => lhs; whnf
    case hc => exact rfl
    case hdead => exact rfl
    case hf => exact rfl
    case hm => exact rfl
    case hd => exact rfl
    apply w_assign
    case hg => exact (by exact True.intro)
    case hx => conv => lhs; whnf
    case hd => exact rfl
    refine .done (by exact fun h => Bool.noConfusion h) ?_
    refine awp_seq ?_
    refine awp_seq ?_
    refine awp_region (by kernel_rfl) ?_
    apply w_load_boxagg
    case hg => exact (by exact True.intro)
    case hx => exact rfl
    case hL => exact rfl
    case hsz => conv => lhs; whnf
    case ht => exact rfl
    case hy => conv => lhs; whnf
    case hlen => exact rfl
    case hd => exact rfl
    apply w_call (hcon := few_con d)
    case hxs => exact rfl
    case hys => conv => lhs; whnf
    case hle => (refine ⟨(by exact AVal.le_refl _), ?_⟩; exact trivial)
    case hf => exact rfl
    case hLi => (repeat (first | exact trivial | refine ⟨rfl, ?_⟩ | fail)) <;> fail
    case hin => exact rfl
    case hbox => exact rfl
    case hres => exact rfl
    case hnew => (repeat (first | exact trivial | refine ⟨rfl, ?_⟩ | fail)) <;> fail
    case hdead => (repeat (first | exact trivial | refine ⟨rfl, ?_⟩ | fail)) <;> fail
    case hd => exact rfl
    case hg => exact (by exact True.intro)
    apply w_un
    case hg => exact (by exact True.intro)
    case hx => exact rfl
    case hr => exact ru_not
    case h1 => exact rfl
    case hd => exact rfl
    apply w_move
    case hg => exact (by exact True.intro)
    case hx => conv => lhs; whnf
    case hd => exact rfl
    apply w_skip
    case hg => (exact ⟨rfl, congrArg ab (by (simp [*] <;> fail))⟩)
    case hd => exact rfl
    apply w_skip
    case hg => (exact ⟨rfl, congrArg ab (by (simp [*] <;> fail))⟩)
    case hd => exact rfl
    apply w_skip
    case hg => (exact ⟨rfl, congrArg ab (by (simp [*] <;> fail))⟩)
    case hd => exact rfl
    apply w_pick_t
    case hg => exact (by exact True.intro)
    case hc => exact rfl
    case hb => exact (by (simp [*] <;> fail))
    case hx => conv => lhs; whnf
    case hd => exact rfl
    apply w_move
    case hg => exact (by exact True.intro)
    case hx => conv => lhs; whnf
    case hd => exact rfl
    apply w_skip
    case hg => exact ⟨rfl, rfl⟩
    case hd => exact rfl
    apply w_skip
    case hg => exact ⟨rfl, rfl⟩
    case hd => exact rfl
    apply w_skip
    case hg => exact ⟨rfl, rfl⟩
    case hd => exact rfl
    apply w_pick_t
    case hg => exact (by exact True.intro)
    case hc => exact rfl
    case hb => exact (by rfl)
    case hx => conv => lhs; whnf
    case hd => exact rfl
    apply w_move
    case hg => exact (by exact True.intro)
    case hx => conv => lhs; whnf
    case hd => exact rfl
    apply w_skip
    case hg => exact ⟨rfl, rfl⟩
    case hd => exact rfl
    apply w_skip
    case hg => exact ⟨rfl, rfl⟩
    case hd => exact rfl
    apply w_skip
    case hg => exact ⟨rfl, rfl⟩
    case hd => exact rfl
    apply w_skip
    case hg => exact ⟨rfl, rfl⟩
    case hd => exact rfl
    apply w_pick_t
    case hg => exact (by exact True.intro)
    case hc => exact rfl
    case hb => exact (by rfl)
    case hx => conv => lhs; whnf
    case hd => exact rfl
    refine .done (by exact fun h => Bool.noConfusion h) ?_
    refine awp_cond_t rfl (by rfl) ?_
    refine awp_seq ?_
    refine awp_region (by kernel_rfl) ?_
    apply w_call (hcon := alive_con)
    case hxs => exact rfl
    case hys => conv => lhs; whnf
    case hle => (exact trivial)
    case hf => exact rfl
    case hLi => (repeat (first | exact trivial | refine ⟨rfl, ?_⟩ | fail)) <;> fail
    case hin => exact rfl
    case hbox => exact rfl
    case hres => exact rfl
    case hnew => (repeat (first | exact trivial | refine ⟨rfl, ?_⟩ | fail)) <;> fail
    case hdead => (repeat (first | exact trivial | refine ⟨rfl, ?_⟩ | fail)) <;> fail
    case hd => exact rfl
    case hg => exact (by exact True.intro)
    apply w_assign
    case hg => exact (by exact True.intro)
    case hx => conv => lhs; whnf
    case hd => exact rfl
    refine .done (by exact fun h => Bool.noConfusion h) ?_
    exact awp_ret ⟨_, St.le_refl _, ⟨rfl, trivial⟩, subL_nil _⟩
  | true =>
    have hl := fewL_of hf
    by_cases h1 : 60 < keep.length
    · refine awp_seq ?_
      refine awp_region (by kernel_rfl) ?_
      apply w_box (γ := 100)
      case hg => exact (by exact True.intro)
      case hx => conv => lhs; whnf
      case hc => exact rfl
      case hdead => exact rfl
      case hf => exact rfl
      case hm => exact rfl
      case hd => exact rfl
      apply w_assign
      case hg => exact (by exact True.intro)
      case hx => conv => lhs; whnf
      case hd => exact rfl
      refine .done (by exact fun h => Bool.noConfusion h) ?_
      refine awp_seq ?_
      refine awp_seq ?_
      refine awp_region (by kernel_rfl) ?_
      apply w_load_boxagg
      case hg => exact (by exact True.intro)
      case hx => exact rfl
      case hL => exact rfl
      case hsz => conv => lhs; whnf
      case ht => exact rfl
      case hy => conv => lhs; whnf
      case hlen => exact rfl
      case hd => exact rfl
      apply w_call (hcon := few_con d)
      case hxs => exact rfl
      case hys => conv => lhs; whnf
      case hle => (refine ⟨(by exact AVal.le_refl _), ?_⟩; exact trivial)
      case hf => exact rfl
      case hLi => (repeat (first | exact trivial | refine ⟨rfl, ?_⟩ | fail)) <;> fail
      case hin => exact rfl
      case hbox => exact rfl
      case hres => exact rfl
      case hnew => (repeat (first | exact trivial | refine ⟨rfl, ?_⟩ | fail)) <;> fail
      case hdead => (repeat (first | exact trivial | refine ⟨rfl, ?_⟩ | fail)) <;> fail
      case hd => exact rfl
      case hg => exact (by exact True.intro)
      apply w_un
      case hg => exact (by exact True.intro)
      case hx => exact rfl
      case hr => exact ru_not
      case h1 => exact rfl
      case hd => exact rfl
      apply w_move
      case hg => exact (by exact True.intro)
      case hx => conv => lhs; whnf
      case hd => exact rfl
      apply w_move
      case hg => exact (by (exact ⟨rfl, congrArg ab (by (simp [*] <;> fail))⟩))
      case hx => conv => lhs; whnf
      case hd => exact rfl
      apply w_len_data
      case hg => exact (by (exact ⟨rfl, congrArg ab (by (simp [*] <;> fail))⟩))
      case hx => exact rfl
      case hT => exact rfl
      case hd => exact rfl
      apply w_bin
      case hg => exact (by (exact ⟨rfl, congrArg ab (by (simp [*] <;> fail))⟩))
      case hx => exact rfl
      case hy => exact rfl
      case hr => exact rb_gtr
      case h1 => exact rfl
      case hd => exact rfl
      apply w_pick_f
      case hg => exact (by exact True.intro)
      case hc => exact rfl
      case hb => exact (by (simp [*] <;> fail))
      case hx => conv => lhs; whnf
      case hd => exact rfl
      apply w_move
      case hg => exact (by exact True.intro)
      case hx => conv => lhs; whnf
      case hd => exact rfl
      apply w_skip
      case hg => (exact ⟨rfl, congrArg ab (by (simp only [List.length_map, List.length_take, List.length_append, decide_eq_true_eq, decide_eq_false_iff_not, ne_eq, Classical.not_not]; omega))⟩)
      case hd => exact rfl
      apply w_skip
      case hg => (exact ⟨rfl, congrArg ab (by (simp only [List.length_map, List.length_take, List.length_append, decide_eq_true_eq, decide_eq_false_iff_not, ne_eq, Classical.not_not]; omega))⟩)
      case hd => exact rfl
      apply w_skip
      case hg => (exact ⟨rfl, congrArg ab (by (simp only [List.length_map, List.length_take, List.length_append, decide_eq_true_eq, decide_eq_false_iff_not, ne_eq, Classical.not_not]; omega))⟩)
      case hd => exact rfl
      apply w_pick_t
      case hg => exact (by exact True.intro)
      case hc => exact rfl
      case hb => exact (by (simp only [List.length_map, List.length_take, List.length_append, decide_eq_true_eq, decide_eq_false_iff_not, ne_eq, Classical.not_not]; omega))
      case hx => conv => lhs; whnf
      case hd => exact rfl
      apply w_move
      case hg => exact (by exact True.intro)
      case hx => conv => lhs; whnf
      case hd => exact rfl
      apply w_skip
      case hg => exact ⟨rfl, rfl⟩
      case hd => exact rfl
      apply w_skip
      case hg => exact ⟨rfl, rfl⟩
      case hd => exact rfl
      apply w_skip
      case hg => exact ⟨rfl, rfl⟩
      case hd => exact rfl
      apply w_skip
      case hg => exact ⟨rfl, rfl⟩
      case hd => exact rfl
      apply w_pick_t
      case hg => exact (by exact True.intro)
      case hc => exact rfl
      case hb => exact (by rfl)
      case hx => conv => lhs; whnf
      case hd => exact rfl
      refine .done (by exact fun h => Bool.noConfusion h) ?_
      refine awp_cond_t rfl (by rfl) ?_
      refine awp_seq ?_
      refine awp_region (by kernel_rfl) ?_
      apply w_call (hcon := alive_con)
      case hxs => exact rfl
      case hys => conv => lhs; whnf
      case hle => (exact trivial)
      case hf => exact rfl
      case hLi => (repeat (first | exact trivial | refine ⟨rfl, ?_⟩ | fail)) <;> fail
      case hin => exact rfl
      case hbox => exact rfl
      case hres => exact rfl
      case hnew => (repeat (first | exact trivial | refine ⟨rfl, ?_⟩ | fail)) <;> fail
      case hdead => (repeat (first | exact trivial | refine ⟨rfl, ?_⟩ | fail)) <;> fail
      case hd => exact rfl
      case hg => exact (by exact True.intro)
      apply w_assign
      case hg => exact (by exact True.intro)
      case hx => conv => lhs; whnf
      case hd => exact rfl
      refine .done (by exact fun h => Bool.noConfusion h) ?_
      exact awp_ret ⟨_, St.le_refl _, ⟨rfl, trivial⟩, subL_nil _⟩
    cases hv : validS d with
    | false =>
      refine awp_seq ?_
      refine awp_region (by kernel_rfl) ?_
      apply w_box (γ := 100)
      case hg => exact (by exact True.intro)
      case hx => conv => lhs; whnf
      case hc => exact rfl
      case hdead => exact rfl
      case hf => exact rfl
      case hm => exact rfl
      case hd => exact rfl
      apply w_assign
      case hg => exact (by exact True.intro)
      case hx => conv => lhs; whnf
      case hd => exact rfl
      refine .done (by exact fun h => Bool.noConfusion h) ?_
      refine awp_seq ?_
      refine awp_seq ?_
      refine awp_region (by kernel_rfl) ?_
      apply w_load_boxagg
      case hg => exact (by exact True.intro)
      case hx => exact rfl
      case hL => exact rfl
      case hsz => conv => lhs; whnf
      case ht => exact rfl
      case hy => conv => lhs; whnf
      case hlen => exact rfl
      case hd => exact rfl
      apply w_call (hcon := few_con d)
      case hxs => exact rfl
      case hys => conv => lhs; whnf
      case hle => (refine ⟨(by exact AVal.le_refl _), ?_⟩; exact trivial)
      case hf => exact rfl
      case hLi => (repeat (first | exact trivial | refine ⟨rfl, ?_⟩ | fail)) <;> fail
      case hin => exact rfl
      case hbox => exact rfl
      case hres => exact rfl
      case hnew => (repeat (first | exact trivial | refine ⟨rfl, ?_⟩ | fail)) <;> fail
      case hdead => (repeat (first | exact trivial | refine ⟨rfl, ?_⟩ | fail)) <;> fail
      case hd => exact rfl
      case hg => exact (by exact True.intro)
      apply w_un
      case hg => exact (by exact True.intro)
      case hx => exact rfl
      case hr => exact ru_not
      case h1 => exact rfl
      case hd => exact rfl
      apply w_move
      case hg => exact (by exact True.intro)
      case hx => conv => lhs; whnf
      case hd => exact rfl
      apply w_move
      case hg => exact (by (exact ⟨rfl, congrArg ab (by (simp [*] <;> fail))⟩))
      case hx => conv => lhs; whnf
      case hd => exact rfl
      apply w_len_data
      case hg => exact (by (exact ⟨rfl, congrArg ab (by (simp [*] <;> fail))⟩))
      case hx => exact rfl
      case hT => exact rfl
      case hd => exact rfl
      apply w_bin
      case hg => exact (by (exact ⟨rfl, congrArg ab (by (simp [*] <;> fail))⟩))
      case hx => exact rfl
      case hy => exact rfl
      case hr => exact rb_gtr
      case h1 => exact rfl
      case hd => exact rfl
      apply w_pick_f
      case hg => exact (by exact True.intro)
      case hc => exact rfl
      case hb => exact (by (simp [*] <;> fail))
      case hx => conv => lhs; whnf
      case hd => exact rfl
      apply w_move
      case hg => exact (by exact True.intro)
      case hx => conv => lhs; whnf
      case hd => exact rfl
      apply w_load_boxagg
      case hg => exact (by (exact ⟨rfl, congrArg ab (by (simp only [List.length_map, List.length_take, List.length_append, decide_eq_true_eq, decide_eq_false_iff_not, ne_eq, Classical.not_not]; omega))⟩))
      case hx => exact rfl
      case hL => exact rfl
      case hsz => conv => lhs; whnf
      case ht => exact rfl
      case hy => conv => lhs; whnf
      case hlen => exact rfl
      case hd => exact rfl
      apply w_call (hcon := valid_con d)
      case hxs => exact rfl
      case hys => conv => lhs; whnf
      case hle => (refine ⟨(by exact AVal.le_refl _), ?_⟩; exact trivial)
      case hf => exact rfl
      case hLi => (repeat (first | exact trivial | refine ⟨rfl, ?_⟩ | fail)) <;> fail
      case hin => exact rfl
      case hbox => exact rfl
      case hres => exact rfl
      case hnew => (repeat (first | exact trivial | refine ⟨rfl, ?_⟩ | fail)) <;> fail
      case hdead => (repeat (first | exact trivial | refine ⟨rfl, ?_⟩ | fail)) <;> fail
      case hd => exact rfl
      case hg => exact (by (exact ⟨rfl, congrArg ab (by (simp only [List.length_map, List.length_take, List.length_append, decide_eq_true_eq, decide_eq_false_iff_not, ne_eq, Classical.not_not]; omega))⟩))
      apply w_un
      case hg => exact (by (exact ⟨rfl, congrArg ab (by (simp only [List.length_map, List.length_take, List.length_append, decide_eq_true_eq, decide_eq_false_iff_not, ne_eq, Classical.not_not]; omega))⟩))
      case hx => exact rfl
      case hr => exact ru_not
      case h1 => exact rfl
      case hd => exact rfl
      apply w_pick_f
      case hg => exact (by exact True.intro)
      case hc => exact rfl
      case hb => exact (by (simp only [List.length_map, List.length_take, List.length_append, decide_eq_true_eq, decide_eq_false_iff_not, ne_eq, Classical.not_not]; omega))
      case hx => conv => lhs; whnf
      case hd => exact rfl
      apply w_move
      case hg => exact (by exact True.intro)
      case hx => conv => lhs; whnf
      case hd => exact rfl
      apply w_skip
      case hg => (exact ⟨rfl, congrArg ab (by (simp [*] <;> fail))⟩)
      case hd => exact rfl
      apply w_skip
      case hg => (exact ⟨rfl, congrArg ab (by (simp [*] <;> fail))⟩)
      case hd => exact rfl
      apply w_skip
      case hg => (exact ⟨rfl, congrArg ab (by (simp [*] <;> fail))⟩)
      case hd => exact rfl
      apply w_skip
      case hg => (exact ⟨rfl, congrArg ab (by (simp [*] <;> fail))⟩)
      case hd => exact rfl
      apply w_pick_t
      case hg => exact (by exact True.intro)
      case hc => exact rfl
      case hb => exact (by (simp [*] <;> fail))
      case hx => conv => lhs; whnf
      case hd => exact rfl
      refine .done (by exact fun h => Bool.noConfusion h) ?_
      refine awp_cond_t rfl (by rfl) ?_
      refine awp_seq ?_
      refine awp_region (by kernel_rfl) ?_
      apply w_call (hcon := alive_con)
      case hxs => exact rfl
      case hys => conv => lhs; whnf
      case hle => (exact trivial)
      case hf => exact rfl
      case hLi => (repeat (first | exact trivial | refine ⟨rfl, ?_⟩ | fail)) <;> fail
      case hin => exact rfl
      case hbox => exact rfl
      case hres => exact rfl
      case hnew => (repeat (first | exact trivial | refine ⟨rfl, ?_⟩ | fail)) <;> fail
      case hdead => (repeat (first | exact trivial | refine ⟨rfl, ?_⟩ | fail)) <;> fail
      case hd => exact rfl
      case hg => exact (by exact True.intro)
      apply w_assign
      case hg => exact (by exact True.intro)
      case hx => conv => lhs; whnf
      case hd => exact rfl
      refine .done (by exact fun h => Bool.noConfusion h) ?_
      exact awp_ret ⟨_, St.le_refl _, ⟨rfl, trivial⟩, subL_nil _⟩
    | true =>
      have hok := okW_of hv
      have hlen : 1 ≤ d.sectors.length := by simp only [validS, decide_eq_true_eq] at hv; exact hv.1
      obtain ⟨k, hk⟩ : ∃ k : Nat, (k : Int) = (a.toNat : Int) % (d.sectors.length : Int) := ⟨a.toNat % d.sectors.length, by simp⟩
      obtain ⟨p, hp⟩ : ∃ p : Nat, (p : Int) = (i.toNat : Int) % 64 := ⟨i.toNat % 64, by simp⟩
      have hkl : k < d.sectors.length := by
        have := Int.emod_lt_of_pos (a.toNat : Int) (show (0 : Int) < d.sectors.length by omega)
        omega
      have hpl : p < 64 := by omega
      obtain ⟨s, hs⟩ := get_of_lt (l := d.sectors) hkl
      have hs64 := hok.1 s (List.mem_of_getElem? hs)
      have hcl : (settleS d (keepS keep)).length = d.sectors.length := performK_length _ _ _ _
      obtain ⟨c, hc⟩ := get_of_lt (l := settleS d (keepS keep)) (k := k) (by omega)
      have hc64 := performK_ok (keepS keep) hok d.pending.length c (List.mem_of_getElem? hc)
      obtain ⟨X, hX⟩ := get_of_lt (l := c) (k := p) (by omega)
      obtain ⟨S, hS⟩ := get_of_lt (l := s) (k := p) (by omega)
      have htrue := tear_true (keep := keep) hok hc hX hs hS
      have hcr : Con Try.prog 14 [] [aDisk d, .d (dInts keep)] [] (aDisk ⟨settleS d (keepS keep), [], false⟩) := by
        have h := crash_con d keep hl
        rwa [show crashS d keep = ⟨settleS d (keepS keep), [], false⟩ by simp [crashS, hv]] at h
      have ek : Value.int .i64 ((a.toNat : Int) % ((d.sectors.map cBytes).length : Int)) = ai' k := by rw [List.length_map, ← hk]
      have ep : Value.int .i64 ((i.toNat : Int) % 64) = ai' p := by rw [← hp]
      have e0 : ((d.sectors.map cBytes).length : Int) ≠ 0 := by rw [List.length_map]; omega
      have a0 : (0 : Int) ≤ (a.toNat : Int) := by omega
      have i0 : (0 : Int) ≤ (i.toNat : Int) := by omega
      refine awp_seq ?_
      refine awp_region (by kernel_rfl) ?_
      apply w_box (γ := 100)
      case hg => exact (by exact True.intro)
      case hx => conv => lhs; whnf
      case hc => exact rfl
      case hdead => exact rfl
      case hf => exact rfl
      case hm => exact rfl
      case hd => exact rfl
      apply w_assign
      case hg => exact (by exact True.intro)
      case hx => conv => lhs; whnf
      case hd => exact rfl
      refine .done (by exact fun h => Bool.noConfusion h) ?_
      refine awp_seq ?_
      refine awp_seq ?_
      refine awp_region (by kernel_rfl) ?_
      apply w_load_boxagg
      case hg => exact (by exact True.intro)
      case hx => exact rfl
      case hL => exact rfl
      case hsz => conv => lhs; whnf
      case ht => exact rfl
      case hy => conv => lhs; whnf
      case hlen => exact rfl
      case hd => exact rfl
      apply w_call (hcon := few_con d)
      case hxs => exact rfl
      case hys => conv => lhs; whnf
      case hle => (refine ⟨(by exact AVal.le_refl _), ?_⟩; exact trivial)
      case hf => exact rfl
      case hLi => (repeat (first | exact trivial | refine ⟨rfl, ?_⟩ | fail)) <;> fail
      case hin => exact rfl
      case hbox => exact rfl
      case hres => exact rfl
      case hnew => (repeat (first | exact trivial | refine ⟨rfl, ?_⟩ | fail)) <;> fail
      case hdead => (repeat (first | exact trivial | refine ⟨rfl, ?_⟩ | fail)) <;> fail
      case hd => exact rfl
      case hg => exact (by exact True.intro)
      apply w_un
      case hg => exact (by exact True.intro)
      case hx => exact rfl
      case hr => exact ru_not
      case h1 => exact rfl
      case hd => exact rfl
      apply w_move
      case hg => exact (by exact True.intro)
      case hx => conv => lhs; whnf
      case hd => exact rfl
      apply w_move
      case hg => exact (by (exact ⟨rfl, congrArg ab (by (simp [*] <;> fail))⟩))
      case hx => conv => lhs; whnf
      case hd => exact rfl
      apply w_len_data
      case hg => exact (by (exact ⟨rfl, congrArg ab (by (simp [*] <;> fail))⟩))
      case hx => exact rfl
      case hT => exact rfl
      case hd => exact rfl
      apply w_bin
      case hg => exact (by (exact ⟨rfl, congrArg ab (by (simp [*] <;> fail))⟩))
      case hx => exact rfl
      case hy => exact rfl
      case hr => exact rb_gtr
      case h1 => exact rfl
      case hd => exact rfl
      apply w_pick_f
      case hg => exact (by exact True.intro)
      case hc => exact rfl
      case hb => exact (by (simp [*] <;> fail))
      case hx => conv => lhs; whnf
      case hd => exact rfl
      apply w_move
      case hg => exact (by exact True.intro)
      case hx => conv => lhs; whnf
      case hd => exact rfl
      apply w_load_boxagg
      case hg => exact (by (exact ⟨rfl, congrArg ab (by (simp only [List.length_map, List.length_take, List.length_append, decide_eq_true_eq, decide_eq_false_iff_not, ne_eq, Classical.not_not]; omega))⟩))
      case hx => exact rfl
      case hL => exact rfl
      case hsz => conv => lhs; whnf
      case ht => exact rfl
      case hy => conv => lhs; whnf
      case hlen => exact rfl
      case hd => exact rfl
      apply w_call (hcon := valid_con d)
      case hxs => exact rfl
      case hys => conv => lhs; whnf
      case hle => (refine ⟨(by exact AVal.le_refl _), ?_⟩; exact trivial)
      case hf => exact rfl
      case hLi => (repeat (first | exact trivial | refine ⟨rfl, ?_⟩ | fail)) <;> fail
      case hin => exact rfl
      case hbox => exact rfl
      case hres => exact rfl
      case hnew => (repeat (first | exact trivial | refine ⟨rfl, ?_⟩ | fail)) <;> fail
      case hdead => (repeat (first | exact trivial | refine ⟨rfl, ?_⟩ | fail)) <;> fail
      case hd => exact rfl
      case hg => exact (by (exact ⟨rfl, congrArg ab (by (simp only [List.length_map, List.length_take, List.length_append, decide_eq_true_eq, decide_eq_false_iff_not, ne_eq, Classical.not_not]; omega))⟩))
      apply w_un
      case hg => exact (by (exact ⟨rfl, congrArg ab (by (simp only [List.length_map, List.length_take, List.length_append, decide_eq_true_eq, decide_eq_false_iff_not, ne_eq, Classical.not_not]; omega))⟩))
      case hx => exact rfl
      case hr => exact ru_not
      case h1 => exact rfl
      case hd => exact rfl
      apply w_pick_f
      case hg => exact (by exact True.intro)
      case hc => exact rfl
      case hb => exact (by (simp only [List.length_map, List.length_take, List.length_append, decide_eq_true_eq, decide_eq_false_iff_not, ne_eq, Classical.not_not]; omega))
      case hx => conv => lhs; whnf
      case hd => exact rfl
      apply w_move
      case hg => exact (by exact True.intro)
      case hx => conv => lhs; whnf
      case hd => exact rfl
      apply w_field_box
      case hg => exact (by (exact ⟨rfl, congrArg ab (by (simp [*] <;> fail))⟩))
      case hx => exact rfl
      case hoff => conv => lhs; whnf
      case hf => exact rfl
      case hd => exact rfl
      apply w_load_box
      case hg => exact (by (exact ⟨rfl, congrArg ab (by (simp [*] <;> fail))⟩))
      case hx => exact rfl
      case hL => exact rfl
      case hy => conv => lhs; whnf
      case ht => exact rfl
      case hd => exact rfl
      apply w_len_data
      case hg => exact (by (exact ⟨rfl, congrArg ab (by (simp [*] <;> fail))⟩))
      case hx => exact rfl
      case hT => exact rfl
      case hd => exact rfl
      apply w_bin
      case hg => exact (by (exact ⟨rfl, congrArg ab (by (simp [*] <;> fail))⟩))
      case hx => exact rfl
      case hy => exact rfl
      case hr => exact rb_eql
      case h1 => exact rfl
      case hd => exact rfl
      apply w_pick_f
      case hg => exact (by exact True.intro)
      case hc => exact rfl
      case hb => exact (by (simp [*] <;> fail))
      case hx => conv => lhs; whnf
      case hd => exact rfl
      refine .done (by exact fun h => Bool.noConfusion h) ?_
      refine awp_cond_f rfl (by (simp only [List.length_map, List.length_take, List.length_append, decide_eq_true_eq, decide_eq_false_iff_not, ne_eq, Classical.not_not]; omega)) ?_
      refine awp_skip ?_
      refine awp_seq ?_
      refine awp_region (by kernel_rfl) ?_
      apply w_move
      case hg => exact (by exact True.intro)
      case hx => conv => lhs; whnf
      case hd => exact rfl
      apply w_conv
      case hg => exact (by exact True.intro)
      case hx => exact rfl
      case hr => exact rc_b64 rfl rfl
      case h1 => exact rfl
      case hd => exact rfl
      apply w_field_box
      case hg => exact (by exact True.intro)
      case hx => exact rfl
      case hoff => conv => lhs; whnf
      case hf => exact rfl
      case hd => exact rfl
      apply w_load_box
      case hg => exact (by exact True.intro)
      case hx => exact rfl
      case hL => exact rfl
      case hy => conv => lhs; whnf
      case ht => exact rfl
      case hd => exact rfl
      apply w_len_data
      case hg => exact (by exact True.intro)
      case hx => exact rfl
      case hT => exact rfl
      case hd => exact rfl
      refine w_bin_to (ai' k) ek rfl rfl (rb_rem a0 e0) rfl rfl (by exact True.intro) ?_
      apply w_assign
      case hg => exact (by exact True.intro)
      case hx => conv => lhs; whnf
      case hd => exact rfl
      refine .done (by exact fun h => Bool.noConfusion h) ?_
      refine awp_seq ?_
      refine awp_region (by kernel_rfl) ?_
      apply w_move
      case hg => exact (by exact True.intro)
      case hx => conv => lhs; whnf
      case hd => exact rfl
      apply w_conv
      case hg => exact (by exact True.intro)
      case hx => exact rfl
      case hr => exact rc_b64 rfl rfl
      case h1 => exact rfl
      case hd => exact rfl
      refine w_bin_to (ai' p) ep rfl rfl (rb_rem i0 (by omega)) rfl rfl (by exact True.intro) ?_
      apply w_assign
      case hg => exact (by exact True.intro)
      case hx => conv => lhs; whnf
      case hd => exact rfl
      refine .done (by exact fun h => Bool.noConfusion h) ?_
      refine awp_seq ?_
      refine awp_region (by kernel_rfl) ?_
      apply w_load_boxagg
      case hg => exact (by exact True.intro)
      case hx => exact rfl
      case hL => exact rfl
      case hsz => conv => lhs; whnf
      case ht => exact rfl
      case hy => conv => lhs; whnf
      case hlen => exact rfl
      case hd => exact rfl
      apply w_move
      case hg => exact (by exact True.intro)
      case hx => conv => lhs; whnf
      case hd => exact rfl
      apply w_call (hcon := hcr)
      case hxs => exact rfl
      case hys => conv => lhs; whnf
      case hle => (refine ⟨(by exact AVal.le_refl _), ?_⟩; refine ⟨(by exact AVal.le_refl _), ?_⟩; exact trivial)
      case hf => exact rfl
      case hLi => (repeat (first | exact trivial | refine ⟨rfl, ?_⟩ | fail)) <;> fail
      case hin => exact rfl
      case hbox => exact rfl
      case hres => exact rfl
      case hnew => (repeat (first | exact trivial | refine ⟨rfl, ?_⟩ | fail)) <;> fail
      case hdead => (repeat (first | exact trivial | refine ⟨rfl, ?_⟩ | fail)) <;> fail
      case hd => exact rfl
      case hg => exact (by exact True.intro)
      apply w_alloc (γ := 101)
      case hg => exact (by exact True.intro)
      case hz => exact rfl
      case h1 => exact rfl
      case hdead => exact rfl
      case hf => exact rfl
      case hd => exact rfl
      apply w_store
      case hg => exact (by exact True.intro)
      case hx => exact rfl
      case hL => exact rfl
      case hv => conv => lhs; whnf
      case hc => exact rfl
      case ht => exact rfl
      case hb => exact rfl
      refine .done (by exact fun h => Bool.noConfusion h) ?_
      refine awp_seq ?_
      refine awp_seq ?_
      refine awp_region (by kernel_rfl) ?_
      apply w_field_box
      case hg => exact (by exact True.intro)
      case hx => exact rfl
      case hoff => conv => lhs; whnf
      case hf => exact rfl
      case hd => exact rfl
      apply w_load_box
      case hg => exact (by exact True.intro)
      case hx => exact rfl
      case hL => exact rfl
      case hy => conv => lhs; whnf
      case ht => exact rfl
      case hd => exact rfl
      apply w_len_data
      case hg => exact (by exact True.intro)
      case hx => exact rfl
      case hT => exact rfl
      case hd => exact rfl
      apply w_field_box
      case hg => exact (by exact True.intro)
      case hx => exact rfl
      case hoff => conv => lhs; whnf
      case hf => exact rfl
      case hd => exact rfl
      apply w_load_box
      case hg => exact (by exact True.intro)
      case hx => exact rfl
      case hL => exact rfl
      case hy => conv => lhs; whnf
      case ht => exact rfl
      case hd => exact rfl
      apply w_len_data
      case hg => exact (by exact True.intro)
      case hx => exact rfl
      case hT => exact rfl
      case hd => exact rfl
      apply w_bin
      case hg => exact (by exact True.intro)
      case hx => exact rfl
      case hy => exact rfl
      case hr => exact rb_neq
      case h1 => exact rfl
      case hd => exact rfl
      apply w_move
      case hg => exact (by exact True.intro)
      case hx => conv => lhs; whnf
      case hd => exact rfl
      apply w_field_box
      case hg => exact (by (exact ⟨rfl, congrArg ab (by (simp only [List.length_map, List.length_take, List.length_append, decide_eq_true_eq, decide_eq_false_iff_not, ne_eq, Classical.not_not]; omega))⟩))
      case hx => exact rfl
      case hoff => conv => lhs; whnf
      case hf => exact rfl
      case hd => exact rfl
      apply w_load_box
      case hg => exact (by (exact ⟨rfl, congrArg ab (by (simp only [List.length_map, List.length_take, List.length_append, decide_eq_true_eq, decide_eq_false_iff_not, ne_eq, Classical.not_not]; omega))⟩))
      case hx => exact rfl
      case hL => exact rfl
      case hy => conv => lhs; whnf
      case ht => exact rfl
      case hd => exact rfl
      apply w_move
      case hg => exact (by (exact ⟨rfl, congrArg ab (by (simp only [List.length_map, List.length_take, List.length_append, decide_eq_true_eq, decide_eq_false_iff_not, ne_eq, Classical.not_not]; omega))⟩))
      case hx => conv => lhs; whnf
      case hd => exact rfl
      apply w_index_data
      case hg => exact (by (exact ⟨rfl, congrArg ab (by (simp only [List.length_map, List.length_take, List.length_append, decide_eq_true_eq, decide_eq_false_iff_not, ne_eq, Classical.not_not]; omega))⟩))
      case hx => exact rfl
      case hi => exact rfl
      case hk => exact rfl
      case hr => exact map_get (by assumption)
      case hT => exact rfl
      case hd => exact rfl
      apply w_load_d
      case hg => exact (by (exact ⟨rfl, congrArg ab (by (simp only [List.length_map, List.length_take, List.length_append, decide_eq_true_eq, decide_eq_false_iff_not, ne_eq, Classical.not_not]; omega))⟩))
      case hx => exact rfl
      case ht => exact rfl
      case hd => exact rfl
      apply w_len_data
      case hg => exact (by (exact ⟨rfl, congrArg ab (by (simp only [List.length_map, List.length_take, List.length_append, decide_eq_true_eq, decide_eq_false_iff_not, ne_eq, Classical.not_not]; omega))⟩))
      case hx => exact rfl
      case hT => exact rfl
      case hd => exact rfl
      apply w_bin
      case hg => exact (by (exact ⟨rfl, congrArg ab (by (simp only [List.length_map, List.length_take, List.length_append, decide_eq_true_eq, decide_eq_false_iff_not, ne_eq, Classical.not_not]; omega))⟩))
      case hx => exact rfl
      case hy => exact rfl
      case hr => exact rb_neq
      case h1 => exact rfl
      case hd => exact rfl
      apply w_pick_f
      case hg => exact (by exact True.intro)
      case hc => exact rfl
      case hb => exact (by (simp only [List.length_map, List.length_take, List.length_append, decide_eq_true_eq, decide_eq_false_iff_not, ne_eq, Classical.not_not]; omega))
      case hx => conv => lhs; whnf
      case hd => exact rfl
      apply w_move
      case hg => exact (by exact True.intro)
      case hx => conv => lhs; whnf
      case hd => exact rfl
      apply w_field_box
      case hg => exact (by (exact ⟨rfl, congrArg ab (by (simp only [List.length_map, List.length_take, List.length_append, decide_eq_true_eq, decide_eq_false_iff_not, ne_eq, Classical.not_not]; omega))⟩))
      case hx => exact rfl
      case hoff => conv => lhs; whnf
      case hf => exact rfl
      case hd => exact rfl
      apply w_load_box
      case hg => exact (by (exact ⟨rfl, congrArg ab (by (simp only [List.length_map, List.length_take, List.length_append, decide_eq_true_eq, decide_eq_false_iff_not, ne_eq, Classical.not_not]; omega))⟩))
      case hx => exact rfl
      case hL => exact rfl
      case hy => conv => lhs; whnf
      case ht => exact rfl
      case hd => exact rfl
      apply w_move
      case hg => exact (by (exact ⟨rfl, congrArg ab (by (simp only [List.length_map, List.length_take, List.length_append, decide_eq_true_eq, decide_eq_false_iff_not, ne_eq, Classical.not_not]; omega))⟩))
      case hx => conv => lhs; whnf
      case hd => exact rfl
      apply w_index_data
      case hg => exact (by (exact ⟨rfl, congrArg ab (by (simp only [List.length_map, List.length_take, List.length_append, decide_eq_true_eq, decide_eq_false_iff_not, ne_eq, Classical.not_not]; omega))⟩))
      case hx => exact rfl
      case hi => exact rfl
      case hk => exact rfl
      case hr => exact map_get (by assumption)
      case hT => exact rfl
      case hd => exact rfl
      apply w_load_d
      case hg => exact (by (exact ⟨rfl, congrArg ab (by (simp only [List.length_map, List.length_take, List.length_append, decide_eq_true_eq, decide_eq_false_iff_not, ne_eq, Classical.not_not]; omega))⟩))
      case hx => exact rfl
      case ht => exact rfl
      case hd => exact rfl
      apply w_len_data
      case hg => exact (by (exact ⟨rfl, congrArg ab (by (simp only [List.length_map, List.length_take, List.length_append, decide_eq_true_eq, decide_eq_false_iff_not, ne_eq, Classical.not_not]; omega))⟩))
      case hx => exact rfl
      case hT => exact rfl
      case hd => exact rfl
      apply w_bin
      case hg => exact (by (exact ⟨rfl, congrArg ab (by (simp only [List.length_map, List.length_take, List.length_append, decide_eq_true_eq, decide_eq_false_iff_not, ne_eq, Classical.not_not]; omega))⟩))
      case hx => exact rfl
      case hy => exact rfl
      case hr => exact rb_neq
      case h1 => exact rfl
      case hd => exact rfl
      apply w_pick_f
      case hg => exact (by exact True.intro)
      case hc => exact rfl
      case hb => exact (by (simp only [List.length_map, List.length_take, List.length_append, decide_eq_true_eq, decide_eq_false_iff_not, ne_eq, Classical.not_not]; omega))
      case hx => conv => lhs; whnf
      case hd => exact rfl
      apply w_move
      case hg => exact (by exact True.intro)
      case hx => conv => lhs; whnf
      case hd => exact rfl
      apply w_field_box
      case hg => exact (by (exact ⟨rfl, congrArg ab (by (simp only [List.length_map, List.length_take, List.length_append, decide_eq_true_eq, decide_eq_false_iff_not, ne_eq, Classical.not_not]; omega))⟩))
      case hx => exact rfl
      case hoff => conv => lhs; whnf
      case hf => exact rfl
      case hd => exact rfl
      apply w_load_box
      case hg => exact (by (exact ⟨rfl, congrArg ab (by (simp only [List.length_map, List.length_take, List.length_append, decide_eq_true_eq, decide_eq_false_iff_not, ne_eq, Classical.not_not]; omega))⟩))
      case hx => exact rfl
      case hL => exact rfl
      case hy => conv => lhs; whnf
      case ht => exact rfl
      case hd => exact rfl
      apply w_pick_f
      case hg => exact (by exact True.intro)
      case hc => exact rfl
      case hb => exact (by (simp only [List.length_map, List.length_take, List.length_append, decide_eq_true_eq, decide_eq_false_iff_not, ne_eq, Classical.not_not]; omega))
      case hx => conv => lhs; whnf
      case hd => exact rfl
      refine .done (by exact fun h => Bool.noConfusion h) ?_
      refine awp_cond_f rfl (by rfl) ?_
      refine awp_skip ?_
      refine awp_seq ?_
      refine awp_region (by kernel_rfl) ?_
      apply w_field_box
      case hg => exact (by exact True.intro)
      case hx => exact rfl
      case hoff => conv => lhs; whnf
      case hf => exact rfl
      case hd => exact rfl
      apply w_load_box
      case hg => exact (by exact True.intro)
      case hx => exact rfl
      case hL => exact rfl
      case hy => conv => lhs; whnf
      case ht => exact rfl
      case hd => exact rfl
      apply w_move
      case hg => exact (by exact True.intro)
      case hx => conv => lhs; whnf
      case hd => exact rfl
      apply w_index_data
      case hg => exact (by exact True.intro)
      case hx => exact rfl
      case hi => exact rfl
      case hk => exact rfl
      case hr => exact map_get (by assumption)
      case hT => exact rfl
      case hd => exact rfl
      apply w_load_d
      case hg => exact (by exact True.intro)
      case hx => exact rfl
      case ht => exact rfl
      case hd => exact rfl
      apply w_move
      case hg => exact (by exact True.intro)
      case hx => conv => lhs; whnf
      case hd => exact rfl
      apply w_index_data
      case hg => exact (by exact True.intro)
      case hx => exact rfl
      case hi => exact rfl
      case hk => exact rfl
      case hr => exact map_get (by assumption)
      case hT => exact rfl
      case hd => exact rfl
      apply w_load_d
      case hg => exact (by exact True.intro)
      case hx => exact rfl
      case ht => exact rfl
      case hd => exact rfl
      apply w_field_box
      case hg => exact (by exact True.intro)
      case hx => exact rfl
      case hoff => conv => lhs; whnf
      case hf => exact rfl
      case hd => exact rfl
      apply w_load_box
      case hg => exact (by exact True.intro)
      case hx => exact rfl
      case hL => exact rfl
      case hy => conv => lhs; whnf
      case ht => exact rfl
      case hd => exact rfl
      apply w_move
      case hg => exact (by exact True.intro)
      case hx => conv => lhs; whnf
      case hd => exact rfl
      apply w_index_data
      case hg => exact (by exact True.intro)
      case hx => exact rfl
      case hi => exact rfl
      case hk => exact rfl
      case hr => exact map_get (by assumption)
      case hT => exact rfl
      case hd => exact rfl
      apply w_load_d
      case hg => exact (by exact True.intro)
      case hx => exact rfl
      case ht => exact rfl
      case hd => exact rfl
      apply w_move
      case hg => exact (by exact True.intro)
      case hx => conv => lhs; whnf
      case hd => exact rfl
      apply w_index_data
      case hg => exact (by exact True.intro)
      case hx => exact rfl
      case hi => exact rfl
      case hk => exact rfl
      case hr => exact map_get (by assumption)
      case hT => exact rfl
      case hd => exact rfl
      apply w_load_d
      case hg => exact (by exact True.intro)
      case hx => exact rfl
      case ht => exact rfl
      case hd => exact rfl
      apply w_bin
      case hg => exact (by exact True.intro)
      case hx => exact rfl
      case hy => exact rfl
      case hr => exact rb_eql
      case h1 => exact rfl
      case hd => exact rfl
      apply w_assign
      case hg => exact (by exact True.intro)
      case hx => conv => lhs; whnf
      case hd => exact rfl
      refine .done (by exact fun _ => rfl) ?_
      refine awp_seq ?_
      refine awp_seq ?_
      refine awp_region (by kernel_rfl) ?_
      apply w_assign
      case hg => exact (by exact True.intro)
      case hx => conv => lhs; whnf
      case hd => exact rfl
      refine .done (by exact fun h => Bool.noConfusion h) ?_
      refine awp_block ?_
      refine awp_loopI (fun j : Nat => j ≤ d.pending.length) (fun j => ⟨145, [(4, .ptr 100 0), (9, .d (.v (ai' k))), (10, .d (.v (ai' p))), (11, .ptr 101 0), (12, ab (tearS d.pending X k p (decide (X = S)) j)), (13, ai j)], [(100, .box [.d (dSecs d.sectors), .d (dPend d.pending), ab d.on]), (101, .box [.d (dSecs (settleS d (keepS keep))), .d (dPend []), ab false])]⟩) (fun j => d.pending.length - j) 0 (by omega)
        (le_mk rfl ⟨(by (first | ((exact AVal.le_refl _)) | ((exact AVal.le_nil _)) | ((refine AVal.le_agg ?_; ((repeat (first | exact trivial | refine ⟨(by (first | ((exact AVal.le_refl _)) | ((exact AVal.le_nil _)) | ((refine AVal.le_of_eq ?_; (conv => lhs; whnf); (first | ((rfl)) | ((simp <;> fail)) | fail))) | fail)), ?_⟩ | fail)) <;> fail))) | ((refine AVal.le_of_eq ?_; (conv => lhs; whnf); (first | ((rfl)) | ((simp <;> fail)) | fail))) | fail)), (by (first | ((exact AVal.le_refl _)) | ((exact AVal.le_nil _)) | ((refine AVal.le_agg ?_; ((repeat (first | exact trivial | refine ⟨(by (first | ((exact AVal.le_refl _)) | ((exact AVal.le_nil _)) | ((refine AVal.le_of_eq ?_; (conv => lhs; whnf); (first | ((rfl)) | ((simp <;> fail)) | fail))) | fail)), ?_⟩ | fail)) <;> fail))) | ((refine AVal.le_of_eq ?_; (conv => lhs; whnf); (first | ((rfl)) | ((simp <;> fail)) | fail))) | fail)), (by (first | ((exact AVal.le_refl _)) | ((exact AVal.le_nil _)) | ((refine AVal.le_agg ?_; ((repeat (first | exact trivial | refine ⟨(by (first | ((exact AVal.le_refl _)) | ((exact AVal.le_nil _)) | ((refine AVal.le_of_eq ?_; (conv => lhs; whnf); (first | ((rfl)) | ((simp <;> fail)) | fail))) | fail)), ?_⟩ | fail)) <;> fail))) | ((refine AVal.le_of_eq ?_; (conv => lhs; whnf); (first | ((rfl)) | ((simp <;> fail)) | fail))) | fail)), (by (first | ((exact AVal.le_refl _)) | ((exact AVal.le_nil _)) | ((refine AVal.le_agg ?_; ((repeat (first | exact trivial | refine ⟨(by (first | ((exact AVal.le_refl _)) | ((exact AVal.le_nil _)) | ((refine AVal.le_of_eq ?_; (conv => lhs; whnf); (first | ((rfl)) | ((simp <;> fail)) | fail))) | fail)), ?_⟩ | fail)) <;> fail))) | ((refine AVal.le_of_eq ?_; (conv => lhs; whnf); (first | ((rfl)) | ((simp <;> fail)) | fail))) | fail)), (by refine AVal.le_of_eq ?_; refine Eq.trans (b := ab (decide ((X.toNat : Int) = S.toNat))) rfl ?_; simp [tearS, u8_eq]), (by (first | ((exact AVal.le_refl _)) | ((exact AVal.le_nil _)) | ((refine AVal.le_agg ?_; ((repeat (first | exact trivial | refine ⟨(by (first | ((exact AVal.le_refl _)) | ((exact AVal.le_nil _)) | ((refine AVal.le_of_eq ?_; (conv => lhs; whnf); (first | ((rfl)) | ((simp <;> fail)) | fail))) | fail)), ?_⟩ | fail)) <;> fail))) | ((refine AVal.le_of_eq ?_; (conv => lhs; whnf); (first | ((rfl)) | ((simp <;> fail)) | fail))) | fail)), trivial⟩ ⟨rfl, rfl, trivial⟩) ?_
      intro j hj
      by_cases hlt : j < d.pending.length
      · obtain ⟨⟨at_, b⟩, hw⟩ := get_of_lt (l := d.pending) (k := j) hlt
        obtain ⟨b1, b2, b3⟩ := hok.2 _ (List.mem_of_getElem? hw)
        simp only at b1 b2 b3
        obtain ⟨y, hy⟩ := get_of_lt (l := b) (k := p) (by omega)
        cases ht : tearS d.pending X k p (decide (X = S)) j with
        | true =>
          refine awp_seq ?_
          refine awp_seq ?_
          refine awp_region (by kernel_rfl) ?_
          apply w_move
          case hg => exact (by exact True.intro)
          case hx => conv => lhs; whnf
          case hd => exact rfl
          apply w_field_box
          case hg => exact (by exact True.intro)
          case hx => exact rfl
          case hoff => conv => lhs; whnf
          case hf => exact rfl
          case hd => exact rfl
          apply w_load_box
          case hg => exact (by exact True.intro)
          case hx => exact rfl
          case hL => exact rfl
          case hy => conv => lhs; whnf
          case ht => exact rfl
          case hd => exact rfl
          apply w_len_data
          case hg => exact (by exact True.intro)
          case hx => exact rfl
          case hT => exact rfl
          case hd => exact rfl
          apply w_bin
          case hg => exact (by exact True.intro)
          case hx => exact rfl
          case hy => exact rfl
          case hr => exact rb_lss
          case h1 => exact rfl
          case hd => exact rfl
          refine .done (by exact fun h => Bool.noConfusion h) ?_
          refine awp_cond_t rfl (by (simp only [List.length_map, List.length_take, List.length_append, decide_eq_true_eq, decide_eq_false_iff_not, ne_eq, Classical.not_not]; omega)) ?_
          refine awp_skip ?_
          refine awp_seq ?_
          refine awp_block ?_
          refine awp_region (by kernel_rfl) ?_
          apply w_move
          case hg => exact (by exact True.intro)
          case hx => conv => lhs; whnf
          case hd => exact rfl
          apply w_move
          case hg => exact (by exact True.intro)
          case hx => conv => lhs; whnf
          case hd => exact rfl
          apply w_skip
          case hg => exact ⟨rfl, rfl⟩
          case hd => exact rfl
          apply w_skip
          case hg => exact ⟨rfl, rfl⟩
          case hd => exact rfl
          apply w_skip
          case hg => exact ⟨rfl, rfl⟩
          case hd => exact rfl
          apply w_skip
          case hg => exact ⟨rfl, rfl⟩
          case hd => exact rfl
          apply w_skip
          case hg => exact ⟨rfl, rfl⟩
          case hd => exact rfl
          apply w_skip
          case hg => exact ⟨rfl, rfl⟩
          case hd => exact rfl
          apply w_skip
          case hg => exact ⟨rfl, rfl⟩
          case hd => exact rfl
          apply w_skip
          case hg => exact ⟨rfl, rfl⟩
          case hd => exact rfl
          apply w_skip
          case hg => exact ⟨rfl, rfl⟩
          case hd => exact rfl
          apply w_skip_u
          case hgd => exact rfl
          case hj => exact rfl
          case ht => exact rfl
          case hd => exact rfl
          apply w_skip_u
          case hgd => exact rfl
          case hj => exact rfl
          case ht => exact rfl
          case hd => exact rfl
          apply w_skip_u
          case hgd => exact rfl
          case hj => exact rfl
          case ht => exact rfl
          case hd => exact rfl
          apply w_skip_u
          case hgd => exact rfl
          case hj => exact rfl
          case ht => exact rfl
          case hd => exact rfl
          apply w_skip_u
          case hgd => exact rfl
          case hj => exact rfl
          case ht => exact rfl
          case hd => exact rfl
          apply w_skip_u
          case hgd => exact rfl
          case hj => exact rfl
          case ht => exact rfl
          case hd => exact rfl
          apply w_skip_u
          case hgd => exact rfl
          case hj => exact rfl
          case ht => exact rfl
          case hd => exact rfl
          apply w_skip_u
          case hgd => exact rfl
          case hj => exact rfl
          case ht => exact rfl
          case hd => exact rfl
          apply w_skip_u
          case hgd => exact rfl
          case hj => exact rfl
          case ht => exact rfl
          case hd => exact rfl
          apply w_skip
          case hg => exact ⟨rfl, rfl⟩
          case hd => exact rfl
          apply w_skip
          case hg => exact ⟨rfl, rfl⟩
          case hd => exact rfl
          apply w_skip_u
          case hgd => exact rfl
          case hj => exact rfl
          case ht => exact rfl
          case hd => exact rfl
          apply w_skip_u
          case hgd => exact rfl
          case hj => exact rfl
          case ht => exact rfl
          case hd => exact rfl
          apply w_skip_u
          case hgd => exact rfl
          case hj => exact rfl
          case ht => exact rfl
          case hd => exact rfl
          apply w_skip_u
          case hgd => exact rfl
          case hj => exact rfl
          case ht => exact rfl
          case hd => exact rfl
          apply w_skip_u
          case hgd => exact rfl
          case hj => exact rfl
          case ht => exact rfl
          case hd => exact rfl
          apply w_skip_u
          case hgd => exact rfl
          case hj => exact rfl
          case ht => exact rfl
          case hd => exact rfl
          apply w_skip_u
          case hgd => exact rfl
          case hj => exact rfl
          case ht => exact rfl
          case hd => exact rfl
          apply w_skip_u
          case hgd => exact rfl
          case hj => exact rfl
          case ht => exact rfl
          case hd => exact rfl
          apply w_skip_u
          case hgd => exact rfl
          case hj => exact rfl
          case ht => exact rfl
          case hd => exact rfl
          apply w_skip_u
          case hgd => exact rfl
          case hj => exact rfl
          case ht => exact rfl
          case hd => exact rfl
          apply w_skip_u
          case hgd => exact rfl
          case hj => exact rfl
          case ht => exact rfl
          case hd => exact rfl
          apply w_skip_u
          case hgd => exact rfl
          case hj => exact rfl
          case ht => exact rfl
          case hd => exact rfl
          apply w_skip_u
          case hgd => exact rfl
          case hj => exact rfl
          case ht => exact rfl
          case hd => exact rfl
          apply w_skip_u
          case hgd => exact rfl
          case hj => exact rfl
          case ht => exact rfl
          case hd => exact rfl
          apply w_skip_u
          case hgd => exact rfl
          case hj => exact rfl
          case ht => exact rfl
          case hd => exact rfl
          apply w_skip_u
          case hgd => exact rfl
          case hj => exact rfl
          case ht => exact rfl
          case hd => exact rfl
          apply w_skip_u
          case hgd => exact rfl
          case hj => exact rfl
          case ht => exact rfl
          case hd => exact rfl
          apply w_skip_u
          case hgd => exact rfl
          case hj => exact rfl
          case ht => exact rfl
          case hd => exact rfl
          apply w_skip
          case hg => exact ⟨rfl, rfl⟩
          case hd => exact rfl
          apply w_pick_t
          case hg => exact (by exact True.intro)
          case hc => exact rfl
          case hb => exact (by rfl)
          case hx => conv => lhs; whnf
          case hd => exact rfl
          apply w_assign
          case hg => exact (by exact True.intro)
          case hx => conv => lhs; whnf
          case hd => exact rfl
          refine .done (by exact fun _ => rfl) ?_
          refine awp_region (by kernel_rfl) ?_
          apply w_move
          case hg => exact (by exact True.intro)
          case hx => conv => lhs; whnf
          case hd => exact rfl
          apply w_bin
          case hg => exact (by exact True.intro)
          case hx => exact rfl
          case hy => exact rfl
          case hr => (exact rb_add64 (by unfold in64; omega))
          case h1 => exact rfl
          case hd => exact rfl
          apply w_assign
          case hg => exact (by exact True.intro)
          case hx => conv => lhs; whnf
          case hd => exact rfl
          refine .done (by exact fun h => Bool.noConfusion h) ?_
          refine ⟨j + 1, by omega, by omega, le_mk rfl ⟨(by (first | ((exact AVal.le_refl _)) | ((exact AVal.le_nil _)) | ((refine AVal.le_agg ?_; ((repeat (first | exact trivial | refine ⟨(by (first | ((exact AVal.le_refl _)) | ((exact AVal.le_nil _)) | ((refine AVal.le_of_eq ?_; (conv => lhs; whnf); (first | ((rfl)) | ((simp <;> fail)) | fail))) | fail)), ?_⟩ | fail)) <;> fail))) | ((refine AVal.le_of_eq ?_; (conv => lhs; whnf); (first | ((rfl)) | ((simp <;> fail)) | fail))) | fail)), (by (first | ((exact AVal.le_refl _)) | ((exact AVal.le_nil _)) | ((refine AVal.le_agg ?_; ((repeat (first | exact trivial | refine ⟨(by (first | ((exact AVal.le_refl _)) | ((exact AVal.le_nil _)) | ((refine AVal.le_of_eq ?_; (conv => lhs; whnf); (first | ((rfl)) | ((simp <;> fail)) | fail))) | fail)), ?_⟩ | fail)) <;> fail))) | ((refine AVal.le_of_eq ?_; (conv => lhs; whnf); (first | ((rfl)) | ((simp <;> fail)) | fail))) | fail)), (by (first | ((exact AVal.le_refl _)) | ((exact AVal.le_nil _)) | ((refine AVal.le_agg ?_; ((repeat (first | exact trivial | refine ⟨(by (first | ((exact AVal.le_refl _)) | ((exact AVal.le_nil _)) | ((refine AVal.le_of_eq ?_; (conv => lhs; whnf); (first | ((rfl)) | ((simp <;> fail)) | fail))) | fail)), ?_⟩ | fail)) <;> fail))) | ((refine AVal.le_of_eq ?_; (conv => lhs; whnf); (first | ((rfl)) | ((simp <;> fail)) | fail))) | fail)), (by (first | ((exact AVal.le_refl _)) | ((exact AVal.le_nil _)) | ((refine AVal.le_agg ?_; ((repeat (first | exact trivial | refine ⟨(by (first | ((exact AVal.le_refl _)) | ((exact AVal.le_nil _)) | ((refine AVal.le_of_eq ?_; (conv => lhs; whnf); (first | ((rfl)) | ((simp <;> fail)) | fail))) | fail)), ?_⟩ | fail)) <;> fail))) | ((refine AVal.le_of_eq ?_; (conv => lhs; whnf); (first | ((rfl)) | ((simp <;> fail)) | fail))) | fail)), (by refine AVal.le_of_eq ?_; refine Eq.trans (b := ab true) rfl ?_; simp [tearS, ht]), (by (first | ((exact AVal.le_refl _)) | ((exact AVal.le_nil _)) | ((refine AVal.le_agg ?_; ((repeat (first | exact trivial | refine ⟨(by (first | ((exact AVal.le_refl _)) | ((exact AVal.le_nil _)) | ((refine AVal.le_of_eq ?_; (conv => lhs; whnf); (first | ((rfl)) | ((simp <;> fail)) | fail))) | fail)), ?_⟩ | fail)) <;> fail))) | ((refine AVal.le_of_eq ?_; (conv => lhs; whnf); (first | ((rfl)) | ((simp <;> fail)) | fail))) | fail)), trivial⟩ ⟨rfl, rfl, trivial⟩⟩
        | false =>
          by_cases hat : at_ = (k : Int)
          · subst hat
            refine awp_seq ?_
            refine awp_seq ?_
            refine awp_region (by kernel_rfl) ?_
            apply w_move
            case hg => exact (by exact True.intro)
            case hx => conv => lhs; whnf
            case hd => exact rfl
            apply w_field_box
            case hg => exact (by exact True.intro)
            case hx => exact rfl
            case hoff => conv => lhs; whnf
            case hf => exact rfl
            case hd => exact rfl
            apply w_load_box
            case hg => exact (by exact True.intro)
            case hx => exact rfl
            case hL => exact rfl
            case hy => conv => lhs; whnf
            case ht => exact rfl
            case hd => exact rfl
            apply w_len_data
            case hg => exact (by exact True.intro)
            case hx => exact rfl
            case hT => exact rfl
            case hd => exact rfl
            apply w_bin
            case hg => exact (by exact True.intro)
            case hx => exact rfl
            case hy => exact rfl
            case hr => exact rb_lss
            case h1 => exact rfl
            case hd => exact rfl
            refine .done (by exact fun h => Bool.noConfusion h) ?_
            refine awp_cond_t rfl (by (simp only [List.length_map, List.length_take, List.length_append, decide_eq_true_eq, decide_eq_false_iff_not, ne_eq, Classical.not_not]; omega)) ?_
            refine awp_skip ?_
            refine awp_seq ?_
            refine awp_block ?_
            refine awp_region (by kernel_rfl) ?_
            apply w_move
            case hg => exact (by exact True.intro)
            case hx => conv => lhs; whnf
            case hd => exact rfl
            apply w_move
            case hg => exact (by exact True.intro)
            case hx => conv => lhs; whnf
            case hd => exact rfl
            apply w_field_box
            case hg => exact (by exact ⟨rfl, rfl⟩)
            case hx => exact rfl
            case hoff => conv => lhs; whnf
            case hf => exact rfl
            case hd => exact rfl
            apply w_load_box
            case hg => exact (by exact ⟨rfl, rfl⟩)
            case hx => exact rfl
            case hL => exact rfl
            case hy => conv => lhs; whnf
            case ht => exact rfl
            case hd => exact rfl
            apply w_move
            case hg => exact (by exact ⟨rfl, rfl⟩)
            case hx => conv => lhs; whnf
            case hd => exact rfl
            apply w_index_data
            case hg => exact (by exact ⟨rfl, rfl⟩)
            case hx => exact rfl
            case hi => exact rfl
            case hk => exact rfl
            case hr => exact map_get (by assumption)
            case hT => exact rfl
            case hd => exact rfl
            apply w_field_d
            case hg => exact (by exact ⟨rfl, rfl⟩)
            case hx => exact rfl
            case hoff => conv => lhs; whnf
            case hf => exact rfl
            case hd => exact rfl
            apply w_load_d
            case hg => exact (by exact ⟨rfl, rfl⟩)
            case hx => exact rfl
            case ht => exact rfl
            case hd => exact rfl
            apply w_move
            case hg => exact (by exact ⟨rfl, rfl⟩)
            case hx => conv => lhs; whnf
            case hd => exact rfl
            apply w_bin
            case hg => exact (by exact ⟨rfl, rfl⟩)
            case hx => exact rfl
            case hy => exact rfl
            case hr => exact rb_eql
            case h1 => exact rfl
            case hd => exact rfl
            apply w_move
            case hg => exact (by exact ⟨rfl, rfl⟩)
            case hx => conv => lhs; whnf
            case hd => exact rfl
            apply w_move
            case hg => exact (by (exact ⟨rfl, congrArg ab (by (simp <;> fail))⟩))
            case hx => conv => lhs; whnf
            case hd => exact rfl
            apply w_field_box
            case hg => exact (by (exact ⟨rfl, congrArg ab (by (simp <;> fail))⟩))
            case hx => exact rfl
            case hoff => conv => lhs; whnf
            case hf => exact rfl
            case hd => exact rfl
            apply w_load_box
            case hg => exact (by (exact ⟨rfl, congrArg ab (by (simp <;> fail))⟩))
            case hx => exact rfl
            case hL => exact rfl
            case hy => conv => lhs; whnf
            case ht => exact rfl
            case hd => exact rfl
            apply w_move
            case hg => exact (by (exact ⟨rfl, congrArg ab (by (simp <;> fail))⟩))
            case hx => conv => lhs; whnf
            case hd => exact rfl
            apply w_index_data
            case hg => exact (by (exact ⟨rfl, congrArg ab (by (simp <;> fail))⟩))
            case hx => exact rfl
            case hi => exact rfl
            case hk => exact rfl
            case hr => exact map_get (by assumption)
            case hT => exact rfl
            case hd => exact rfl
            apply w_field_d
            case hg => exact (by (exact ⟨rfl, congrArg ab (by (simp <;> fail))⟩))
            case hx => exact rfl
            case hoff => conv => lhs; whnf
            case hf => exact rfl
            case hd => exact rfl
            apply w_load_d
            case hg => exact (by (exact ⟨rfl, congrArg ab (by (simp <;> fail))⟩))
            case hx => exact rfl
            case ht => exact rfl
            case hd => exact rfl
            apply w_len_data
            case hg => exact (by (exact ⟨rfl, congrArg ab (by (simp <;> fail))⟩))
            case hx => exact rfl
            case hT => exact rfl
            case hd => exact rfl
            apply w_bin
            case hg => exact (by (exact ⟨rfl, congrArg ab (by (simp <;> fail))⟩))
            case hx => exact rfl
            case hy => exact rfl
            case hr => exact rb_lss
            case h1 => exact rfl
            case hd => exact rfl
            apply w_pick_t
            case hg => exact (by exact ⟨rfl, rfl⟩)
            case hc => exact rfl
            case hb => exact (by (simp <;> fail))
            case hx => conv => lhs; whnf
            case hd => exact rfl
            apply w_move
            case hg => exact (by exact ⟨rfl, rfl⟩)
            case hx => conv => lhs; whnf
            case hd => exact rfl
            apply w_field_box
            case hg => exact (by (exact ⟨rfl, congrArg ab (by (simp only [List.length_map, List.length_take, List.length_append, decide_eq_true_eq, decide_eq_false_iff_not, ne_eq, Classical.not_not]; omega))⟩))
            case hx => exact rfl
            case hoff => conv => lhs; whnf
            case hf => exact rfl
            case hd => exact rfl
            apply w_load_box
            case hg => exact (by (exact ⟨rfl, congrArg ab (by (simp only [List.length_map, List.length_take, List.length_append, decide_eq_true_eq, decide_eq_false_iff_not, ne_eq, Classical.not_not]; omega))⟩))
            case hx => exact rfl
            case hL => exact rfl
            case hy => conv => lhs; whnf
            case ht => exact rfl
            case hd => exact rfl
            apply w_move
            case hg => exact (by (exact ⟨rfl, congrArg ab (by (simp only [List.length_map, List.length_take, List.length_append, decide_eq_true_eq, decide_eq_false_iff_not, ne_eq, Classical.not_not]; omega))⟩))
            case hx => conv => lhs; whnf
            case hd => exact rfl
            apply w_index_data
            case hg => exact (by (exact ⟨rfl, congrArg ab (by (simp only [List.length_map, List.length_take, List.length_append, decide_eq_true_eq, decide_eq_false_iff_not, ne_eq, Classical.not_not]; omega))⟩))
            case hx => exact rfl
            case hi => exact rfl
            case hk => exact rfl
            case hr => exact map_get (by assumption)
            case hT => exact rfl
            case hd => exact rfl
            apply w_load_d
            case hg => exact (by (exact ⟨rfl, congrArg ab (by (simp only [List.length_map, List.length_take, List.length_append, decide_eq_true_eq, decide_eq_false_iff_not, ne_eq, Classical.not_not]; omega))⟩))
            case hx => exact rfl
            case ht => exact rfl
            case hd => exact rfl
            apply w_move
            case hg => exact (by (exact ⟨rfl, congrArg ab (by (simp only [List.length_map, List.length_take, List.length_append, decide_eq_true_eq, decide_eq_false_iff_not, ne_eq, Classical.not_not]; omega))⟩))
            case hx => conv => lhs; whnf
            case hd => exact rfl
            apply w_index_data
            case hg => exact (by (exact ⟨rfl, congrArg ab (by (simp only [List.length_map, List.length_take, List.length_append, decide_eq_true_eq, decide_eq_false_iff_not, ne_eq, Classical.not_not]; omega))⟩))
            case hx => exact rfl
            case hi => exact rfl
            case hk => exact rfl
            case hr => exact map_get (by assumption)
            case hT => exact rfl
            case hd => exact rfl
            apply w_load_d
            case hg => exact (by (exact ⟨rfl, congrArg ab (by (simp only [List.length_map, List.length_take, List.length_append, decide_eq_true_eq, decide_eq_false_iff_not, ne_eq, Classical.not_not]; omega))⟩))
            case hx => exact rfl
            case ht => exact rfl
            case hd => exact rfl
            apply w_field_box
            case hg => exact (by (exact ⟨rfl, congrArg ab (by (simp only [List.length_map, List.length_take, List.length_append, decide_eq_true_eq, decide_eq_false_iff_not, ne_eq, Classical.not_not]; omega))⟩))
            case hx => exact rfl
            case hoff => conv => lhs; whnf
            case hf => exact rfl
            case hd => exact rfl
            apply w_load_box
            case hg => exact (by (exact ⟨rfl, congrArg ab (by (simp only [List.length_map, List.length_take, List.length_append, decide_eq_true_eq, decide_eq_false_iff_not, ne_eq, Classical.not_not]; omega))⟩))
            case hx => exact rfl
            case hL => exact rfl
            case hy => conv => lhs; whnf
            case ht => exact rfl
            case hd => exact rfl
            apply w_move
            case hg => exact (by (exact ⟨rfl, congrArg ab (by (simp only [List.length_map, List.length_take, List.length_append, decide_eq_true_eq, decide_eq_false_iff_not, ne_eq, Classical.not_not]; omega))⟩))
            case hx => conv => lhs; whnf
            case hd => exact rfl
            apply w_index_data
            case hg => exact (by (exact ⟨rfl, congrArg ab (by (simp only [List.length_map, List.length_take, List.length_append, decide_eq_true_eq, decide_eq_false_iff_not, ne_eq, Classical.not_not]; omega))⟩))
            case hx => exact rfl
            case hi => exact rfl
            case hk => exact rfl
            case hr => exact map_get (by assumption)
            case hT => exact rfl
            case hd => exact rfl
            apply w_field_d
            case hg => exact (by (exact ⟨rfl, congrArg ab (by (simp only [List.length_map, List.length_take, List.length_append, decide_eq_true_eq, decide_eq_false_iff_not, ne_eq, Classical.not_not]; omega))⟩))
            case hx => exact rfl
            case hoff => conv => lhs; whnf
            case hf => exact rfl
            case hd => exact rfl
            apply w_load_d
            case hg => exact (by (exact ⟨rfl, congrArg ab (by (simp only [List.length_map, List.length_take, List.length_append, decide_eq_true_eq, decide_eq_false_iff_not, ne_eq, Classical.not_not]; omega))⟩))
            case hx => exact rfl
            case ht => exact rfl
            case hd => exact rfl
            apply w_move
            case hg => exact (by (exact ⟨rfl, congrArg ab (by (simp only [List.length_map, List.length_take, List.length_append, decide_eq_true_eq, decide_eq_false_iff_not, ne_eq, Classical.not_not]; omega))⟩))
            case hx => conv => lhs; whnf
            case hd => exact rfl
            apply w_index_data
            case hg => exact (by (exact ⟨rfl, congrArg ab (by (simp only [List.length_map, List.length_take, List.length_append, decide_eq_true_eq, decide_eq_false_iff_not, ne_eq, Classical.not_not]; omega))⟩))
            case hx => exact rfl
            case hi => exact rfl
            case hk => exact rfl
            case hr => exact map_get (by assumption)
            case hT => exact rfl
            case hd => exact rfl
            apply w_load_d
            case hg => exact (by (exact ⟨rfl, congrArg ab (by (simp only [List.length_map, List.length_take, List.length_append, decide_eq_true_eq, decide_eq_false_iff_not, ne_eq, Classical.not_not]; omega))⟩))
            case hx => exact rfl
            case ht => exact rfl
            case hd => exact rfl
            apply w_bin
            case hg => exact (by (exact ⟨rfl, congrArg ab (by (simp only [List.length_map, List.length_take, List.length_append, decide_eq_true_eq, decide_eq_false_iff_not, ne_eq, Classical.not_not]; omega))⟩))
            case hx => exact rfl
            case hy => exact rfl
            case hr => exact rb_eql
            case h1 => exact rfl
            case hd => exact rfl
            apply w_pick_t
            case hg => exact (by exact ⟨rfl, rfl⟩)
            case hc => exact rfl
            case hb => exact (by (simp only [List.length_map, List.length_take, List.length_append, decide_eq_true_eq, decide_eq_false_iff_not, ne_eq, Classical.not_not]; omega))
            case hx => conv => lhs; whnf
            case hd => exact rfl
            apply w_pick_f
            case hg => exact (by exact True.intro)
            case hc => exact rfl
            case hb => exact (by rfl)
            case hx => conv => lhs; whnf
            case hd => exact rfl
            apply w_assign
            case hg => exact (by exact True.intro)
            case hx => conv => lhs; whnf
            case hd => exact rfl
            refine .done (by exact fun _ => rfl) ?_
            refine awp_region (by kernel_rfl) ?_
            apply w_move
            case hg => exact (by exact True.intro)
            case hx => conv => lhs; whnf
            case hd => exact rfl
            apply w_bin
            case hg => exact (by exact True.intro)
            case hx => exact rfl
            case hy => exact rfl
            case hr => (exact rb_add64 (by unfold in64; omega))
            case h1 => exact rfl
            case hd => exact rfl
            apply w_assign
            case hg => exact (by exact True.intro)
            case hx => conv => lhs; whnf
            case hd => exact rfl
            refine .done (by exact fun h => Bool.noConfusion h) ?_
            refine ⟨j + 1, by omega, by omega, le_mk rfl ⟨(by (first | ((exact AVal.le_refl _)) | ((exact AVal.le_nil _)) | ((refine AVal.le_agg ?_; ((repeat (first | exact trivial | refine ⟨(by (first | ((exact AVal.le_refl _)) | ((exact AVal.le_nil _)) | ((refine AVal.le_of_eq ?_; (conv => lhs; whnf); (first | ((rfl)) | ((simp <;> fail)) | fail))) | fail)), ?_⟩ | fail)) <;> fail))) | ((refine AVal.le_of_eq ?_; (conv => lhs; whnf); (first | ((rfl)) | ((simp <;> fail)) | fail))) | fail)), (by (first | ((exact AVal.le_refl _)) | ((exact AVal.le_nil _)) | ((refine AVal.le_agg ?_; ((repeat (first | exact trivial | refine ⟨(by (first | ((exact AVal.le_refl _)) | ((exact AVal.le_nil _)) | ((refine AVal.le_of_eq ?_; (conv => lhs; whnf); (first | ((rfl)) | ((simp <;> fail)) | fail))) | fail)), ?_⟩ | fail)) <;> fail))) | ((refine AVal.le_of_eq ?_; (conv => lhs; whnf); (first | ((rfl)) | ((simp <;> fail)) | fail))) | fail)), (by (first | ((exact AVal.le_refl _)) | ((exact AVal.le_nil _)) | ((refine AVal.le_agg ?_; ((repeat (first | exact trivial | refine ⟨(by (first | ((exact AVal.le_refl _)) | ((exact AVal.le_nil _)) | ((refine AVal.le_of_eq ?_; (conv => lhs; whnf); (first | ((rfl)) | ((simp <;> fail)) | fail))) | fail)), ?_⟩ | fail)) <;> fail))) | ((refine AVal.le_of_eq ?_; (conv => lhs; whnf); (first | ((rfl)) | ((simp <;> fail)) | fail))) | fail)), (by (first | ((exact AVal.le_refl _)) | ((exact AVal.le_nil _)) | ((refine AVal.le_agg ?_; ((repeat (first | exact trivial | refine ⟨(by (first | ((exact AVal.le_refl _)) | ((exact AVal.le_nil _)) | ((refine AVal.le_of_eq ?_; (conv => lhs; whnf); (first | ((rfl)) | ((simp <;> fail)) | fail))) | fail)), ?_⟩ | fail)) <;> fail))) | ((refine AVal.le_of_eq ?_; (conv => lhs; whnf); (first | ((rfl)) | ((simp <;> fail)) | fail))) | fail)), (by refine AVal.le_of_eq ?_; refine Eq.trans (b := ab (decide ((X.toNat : Int) = y.toNat))) rfl ?_; simp [tearS, ht, hw, hy, u8_eq]; exact eq_comm), (by (first | ((exact AVal.le_refl _)) | ((exact AVal.le_nil _)) | ((refine AVal.le_agg ?_; ((repeat (first | exact trivial | refine ⟨(by (first | ((exact AVal.le_refl _)) | ((exact AVal.le_nil _)) | ((refine AVal.le_of_eq ?_; (conv => lhs; whnf); (first | ((rfl)) | ((simp <;> fail)) | fail))) | fail)), ?_⟩ | fail)) <;> fail))) | ((refine AVal.le_of_eq ?_; (conv => lhs; whnf); (first | ((rfl)) | ((simp <;> fail)) | fail))) | fail)), trivial⟩ ⟨rfl, rfl, trivial⟩⟩
          · refine awp_seq ?_
            refine awp_seq ?_
            refine awp_region (by kernel_rfl) ?_
            apply w_move
            case hg => exact (by exact True.intro)
            case hx => conv => lhs; whnf
            case hd => exact rfl
            apply w_field_box
            case hg => exact (by exact True.intro)
            case hx => exact rfl
            case hoff => conv => lhs; whnf
            case hf => exact rfl
            case hd => exact rfl
            apply w_load_box
            case hg => exact (by exact True.intro)
            case hx => exact rfl
            case hL => exact rfl
            case hy => conv => lhs; whnf
            case ht => exact rfl
            case hd => exact rfl
            apply w_len_data
            case hg => exact (by exact True.intro)
            case hx => exact rfl
            case hT => exact rfl
            case hd => exact rfl
            apply w_bin
            case hg => exact (by exact True.intro)
            case hx => exact rfl
            case hy => exact rfl
            case hr => exact rb_lss
            case h1 => exact rfl
            case hd => exact rfl
            refine .done (by exact fun h => Bool.noConfusion h) ?_
            refine awp_cond_t rfl (by (simp only [List.length_map, List.length_take, List.length_append, decide_eq_true_eq, decide_eq_false_iff_not, ne_eq, Classical.not_not]; omega)) ?_
            refine awp_skip ?_
            refine awp_seq ?_
            refine awp_block ?_
            refine awp_region (by kernel_rfl) ?_
            apply w_move
            case hg => exact (by exact True.intro)
            case hx => conv => lhs; whnf
            case hd => exact rfl
            apply w_move
            case hg => exact (by exact True.intro)
            case hx => conv => lhs; whnf
            case hd => exact rfl
            apply w_field_box
            case hg => exact (by exact ⟨rfl, rfl⟩)
            case hx => exact rfl
            case hoff => conv => lhs; whnf
            case hf => exact rfl
            case hd => exact rfl
            apply w_load_box
            case hg => exact (by exact ⟨rfl, rfl⟩)
            case hx => exact rfl
            case hL => exact rfl
            case hy => conv => lhs; whnf
            case ht => exact rfl
            case hd => exact rfl
            apply w_move
            case hg => exact (by exact ⟨rfl, rfl⟩)
            case hx => conv => lhs; whnf
            case hd => exact rfl
            apply w_index_data
            case hg => exact (by exact ⟨rfl, rfl⟩)
            case hx => exact rfl
            case hi => exact rfl
            case hk => exact rfl
            case hr => exact map_get (by assumption)
            case hT => exact rfl
            case hd => exact rfl
            apply w_field_d
            case hg => exact (by exact ⟨rfl, rfl⟩)
            case hx => exact rfl
            case hoff => conv => lhs; whnf
            case hf => exact rfl
            case hd => exact rfl
            apply w_load_d
            case hg => exact (by exact ⟨rfl, rfl⟩)
            case hx => exact rfl
            case ht => exact rfl
            case hd => exact rfl
            apply w_move
            case hg => exact (by exact ⟨rfl, rfl⟩)
            case hx => conv => lhs; whnf
            case hd => exact rfl
            apply w_bin
            case hg => exact (by exact ⟨rfl, rfl⟩)
            case hx => exact rfl
            case hy => exact rfl
            case hr => exact rb_eql
            case h1 => exact rfl
            case hd => exact rfl
            apply w_move
            case hg => exact (by exact ⟨rfl, rfl⟩)
            case hx => conv => lhs; whnf
            case hd => exact rfl
            apply w_skip
            case hg => (exact ⟨rfl, congrArg ab (by (simp only [List.length_map, List.length_take, List.length_append, decide_eq_true_eq, decide_eq_false_iff_not, ne_eq, Classical.not_not]; omega))⟩)
            case hd => exact rfl
            apply w_skip
            case hg => (exact ⟨rfl, congrArg ab (by (simp only [List.length_map, List.length_take, List.length_append, decide_eq_true_eq, decide_eq_false_iff_not, ne_eq, Classical.not_not]; omega))⟩)
            case hd => exact rfl
            apply w_skip
            case hg => (exact ⟨rfl, congrArg ab (by (simp only [List.length_map, List.length_take, List.length_append, decide_eq_true_eq, decide_eq_false_iff_not, ne_eq, Classical.not_not]; omega))⟩)
            case hd => exact rfl
            apply w_skip
            case hg => (exact ⟨rfl, congrArg ab (by (simp only [List.length_map, List.length_take, List.length_append, decide_eq_true_eq, decide_eq_false_iff_not, ne_eq, Classical.not_not]; omega))⟩)
            case hd => exact rfl
            apply w_skip
            case hg => (exact ⟨rfl, congrArg ab (by (simp only [List.length_map, List.length_take, List.length_append, decide_eq_true_eq, decide_eq_false_iff_not, ne_eq, Classical.not_not]; omega))⟩)
            case hd => exact rfl
            apply w_skip
            case hg => (exact ⟨rfl, congrArg ab (by (simp only [List.length_map, List.length_take, List.length_append, decide_eq_true_eq, decide_eq_false_iff_not, ne_eq, Classical.not_not]; omega))⟩)
            case hd => exact rfl
            apply w_skip
            case hg => (exact ⟨rfl, congrArg ab (by (simp only [List.length_map, List.length_take, List.length_append, decide_eq_true_eq, decide_eq_false_iff_not, ne_eq, Classical.not_not]; omega))⟩)
            case hd => exact rfl
            apply w_skip
            case hg => (exact ⟨rfl, congrArg ab (by (simp only [List.length_map, List.length_take, List.length_append, decide_eq_true_eq, decide_eq_false_iff_not, ne_eq, Classical.not_not]; omega))⟩)
            case hd => exact rfl
            apply w_skip
            case hg => (exact ⟨rfl, congrArg ab (by (simp only [List.length_map, List.length_take, List.length_append, decide_eq_true_eq, decide_eq_false_iff_not, ne_eq, Classical.not_not]; omega))⟩)
            case hd => exact rfl
            apply w_pick_f
            case hg => exact (by exact ⟨rfl, rfl⟩)
            case hc => exact rfl
            case hb => exact (by (simp only [List.length_map, List.length_take, List.length_append, decide_eq_true_eq, decide_eq_false_iff_not, ne_eq, Classical.not_not]; omega))
            case hx => conv => lhs; whnf
            case hd => exact rfl
            apply w_move
            case hg => exact (by exact ⟨rfl, rfl⟩)
            case hx => conv => lhs; whnf
            case hd => exact rfl
            apply w_skip
            case hg => exact ⟨rfl, rfl⟩
            case hd => exact rfl
            apply w_skip
            case hg => exact ⟨rfl, rfl⟩
            case hd => exact rfl
            apply w_skip
            case hg => exact ⟨rfl, rfl⟩
            case hd => exact rfl
            apply w_skip
            case hg => exact ⟨rfl, rfl⟩
            case hd => exact rfl
            apply w_skip
            case hg => exact ⟨rfl, rfl⟩
            case hd => exact rfl
            apply w_skip
            case hg => exact ⟨rfl, rfl⟩
            case hd => exact rfl
            apply w_skip
            case hg => exact ⟨rfl, rfl⟩
            case hd => exact rfl
            apply w_skip
            case hg => exact ⟨rfl, rfl⟩
            case hd => exact rfl
            apply w_skip
            case hg => exact ⟨rfl, rfl⟩
            case hd => exact rfl
            apply w_skip
            case hg => exact ⟨rfl, rfl⟩
            case hd => exact rfl
            apply w_skip
            case hg => exact ⟨rfl, rfl⟩
            case hd => exact rfl
            apply w_skip
            case hg => exact ⟨rfl, rfl⟩
            case hd => exact rfl
            apply w_skip
            case hg => exact ⟨rfl, rfl⟩
            case hd => exact rfl
            apply w_skip
            case hg => exact ⟨rfl, rfl⟩
            case hd => exact rfl
            apply w_skip
            case hg => exact ⟨rfl, rfl⟩
            case hd => exact rfl
            apply w_skip
            case hg => exact ⟨rfl, rfl⟩
            case hd => exact rfl
            apply w_skip
            case hg => exact ⟨rfl, rfl⟩
            case hd => exact rfl
            apply w_skip
            case hg => exact ⟨rfl, rfl⟩
            case hd => exact rfl
            apply w_pick_f
            case hg => exact (by exact ⟨rfl, rfl⟩)
            case hc => exact rfl
            case hb => exact (by rfl)
            case hx => conv => lhs; whnf
            case hd => exact rfl
            apply w_pick_f
            case hg => exact (by exact True.intro)
            case hc => exact rfl
            case hb => exact (by rfl)
            case hx => conv => lhs; whnf
            case hd => exact rfl
            apply w_assign
            case hg => exact (by exact True.intro)
            case hx => conv => lhs; whnf
            case hd => exact rfl
            refine .done (by exact fun _ => rfl) ?_
            refine awp_region (by kernel_rfl) ?_
            apply w_move
            case hg => exact (by exact True.intro)
            case hx => conv => lhs; whnf
            case hd => exact rfl
            apply w_bin
            case hg => exact (by exact True.intro)
            case hx => exact rfl
            case hy => exact rfl
            case hr => (exact rb_add64 (by unfold in64; omega))
            case h1 => exact rfl
            case hd => exact rfl
            apply w_assign
            case hg => exact (by exact True.intro)
            case hx => conv => lhs; whnf
            case hd => exact rfl
            refine .done (by exact fun h => Bool.noConfusion h) ?_
            refine ⟨j + 1, by omega, by omega, le_mk rfl ⟨(by (first | ((exact AVal.le_refl _)) | ((exact AVal.le_nil _)) | ((refine AVal.le_agg ?_; ((repeat (first | exact trivial | refine ⟨(by (first | ((exact AVal.le_refl _)) | ((exact AVal.le_nil _)) | ((refine AVal.le_of_eq ?_; (conv => lhs; whnf); (first | ((rfl)) | ((simp <;> fail)) | fail))) | fail)), ?_⟩ | fail)) <;> fail))) | ((refine AVal.le_of_eq ?_; (conv => lhs; whnf); (first | ((rfl)) | ((simp <;> fail)) | fail))) | fail)), (by (first | ((exact AVal.le_refl _)) | ((exact AVal.le_nil _)) | ((refine AVal.le_agg ?_; ((repeat (first | exact trivial | refine ⟨(by (first | ((exact AVal.le_refl _)) | ((exact AVal.le_nil _)) | ((refine AVal.le_of_eq ?_; (conv => lhs; whnf); (first | ((rfl)) | ((simp <;> fail)) | fail))) | fail)), ?_⟩ | fail)) <;> fail))) | ((refine AVal.le_of_eq ?_; (conv => lhs; whnf); (first | ((rfl)) | ((simp <;> fail)) | fail))) | fail)), (by (first | ((exact AVal.le_refl _)) | ((exact AVal.le_nil _)) | ((refine AVal.le_agg ?_; ((repeat (first | exact trivial | refine ⟨(by (first | ((exact AVal.le_refl _)) | ((exact AVal.le_nil _)) | ((refine AVal.le_of_eq ?_; (conv => lhs; whnf); (first | ((rfl)) | ((simp <;> fail)) | fail))) | fail)), ?_⟩ | fail)) <;> fail))) | ((refine AVal.le_of_eq ?_; (conv => lhs; whnf); (first | ((rfl)) | ((simp <;> fail)) | fail))) | fail)), (by (first | ((exact AVal.le_refl _)) | ((exact AVal.le_nil _)) | ((refine AVal.le_agg ?_; ((repeat (first | exact trivial | refine ⟨(by (first | ((exact AVal.le_refl _)) | ((exact AVal.le_nil _)) | ((refine AVal.le_of_eq ?_; (conv => lhs; whnf); (first | ((rfl)) | ((simp <;> fail)) | fail))) | fail)), ?_⟩ | fail)) <;> fail))) | ((refine AVal.le_of_eq ?_; (conv => lhs; whnf); (first | ((rfl)) | ((simp <;> fail)) | fail))) | fail)), (by refine AVal.le_of_eq ?_; refine Eq.trans (b := ab false) rfl ?_; simp [tearS, ht, hw, hat]), (by (first | ((exact AVal.le_refl _)) | ((exact AVal.le_nil _)) | ((refine AVal.le_agg ?_; ((repeat (first | exact trivial | refine ⟨(by (first | ((exact AVal.le_refl _)) | ((exact AVal.le_nil _)) | ((refine AVal.le_of_eq ?_; (conv => lhs; whnf); (first | ((rfl)) | ((simp <;> fail)) | fail))) | fail)), ?_⟩ | fail)) <;> fail))) | ((refine AVal.le_of_eq ?_; (conv => lhs; whnf); (first | ((rfl)) | ((simp <;> fail)) | fail))) | fail)), trivial⟩ ⟨rfl, rfl, trivial⟩⟩
      obtain rfl : j = d.pending.length := by omega
      refine awp_seq ?_
      refine awp_seq ?_
      refine awp_region (by kernel_rfl) ?_
      apply w_move
      case hg => exact (by exact True.intro)
      case hx => conv => lhs; whnf
      case hd => exact rfl
      apply w_field_box
      case hg => exact (by exact True.intro)
      case hx => exact rfl
      case hoff => conv => lhs; whnf
      case hf => exact rfl
      case hd => exact rfl
      apply w_load_box
      case hg => exact (by exact True.intro)
      case hx => exact rfl
      case hL => exact rfl
      case hy => conv => lhs; whnf
      case ht => exact rfl
      case hd => exact rfl
      apply w_len_data
      case hg => exact (by exact True.intro)
      case hx => exact rfl
      case hT => exact rfl
      case hd => exact rfl
      apply w_bin
      case hg => exact (by exact True.intro)
      case hx => exact rfl
      case hy => exact rfl
      case hr => exact rb_lss
      case h1 => exact rfl
      case hd => exact rfl
      refine .done (by exact fun h => Bool.noConfusion h) ?_
      refine awp_cond_f rfl (by (simp only [List.length_map, List.length_take, List.length_append, decide_eq_true_eq, decide_eq_false_iff_not, ne_eq, Classical.not_not]; omega)) ?_
      refine awp_exit ?_
      refine awp_seq ?_
      refine awp_region (by kernel_rfl) ?_
      apply w_move
      case hg => exact (by exact True.intro)
      case hx => conv => lhs; whnf
      case hd => exact rfl
      apply w_move
      case hg => exact (by exact True.intro)
      case hx => conv => lhs; whnf
      case hd => exact rfl
      apply w_call (hcon := alive_con)
      case hxs => exact rfl
      case hys => conv => lhs; whnf
      case hle => (exact trivial)
      case hf => exact rfl
      case hLi => (repeat (first | exact trivial | refine ⟨rfl, ?_⟩ | fail)) <;> fail
      case hin => exact rfl
      case hbox => exact rfl
      case hres => exact rfl
      case hnew => (repeat (first | exact trivial | refine ⟨rfl, ?_⟩ | fail)) <;> fail
      case hdead => (repeat (first | exact trivial | refine ⟨rfl, ?_⟩ | fail)) <;> fail
      case hd => exact rfl
      case hg => exact (by exact ⟨rfl, congrArg ab (by assumption)⟩)
      apply w_pick_t
      case hg => exact (by exact True.intro)
      case hc => exact rfl
      case hb => exact (by assumption)
      case hx => conv => lhs; whnf
      case hd => exact rfl
      apply w_assign
      case hg => exact (by exact True.intro)
      case hx => conv => lhs; whnf
      case hd => exact rfl
      refine .done (by exact fun h => Bool.noConfusion h) ?_
      exact awp_ret ⟨_, St.le_refl _, ⟨rfl, trivial⟩, subL_nil _⟩
end Go.Fw

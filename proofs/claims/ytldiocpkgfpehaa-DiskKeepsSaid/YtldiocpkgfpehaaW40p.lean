/- The reference's Valid and usable. -/
import Derived.Test.YtldiocpkgfpehaaW40i
namespace Go.Fw
open Go Go.Proofs
set_option linter.unusedVariables false
set_option linter.unusedSimpArgs false
set_option maxHeartbeats 8000000 in
theorem rvalid_con (d : Disk) : Con Try.prog 25 [] [aDisk d] [] (ab (validS d)) := by
  obtain ⟨secs, pend, on⟩ := d
  refine con_of (xs := [ab (validS ⟨secs, pend, on⟩)]) Try.func25 rfl Try.ntmps25 rfl rfl rfl (fun E => ?_)
  by_cases hok : 1 ≤ secs.length ∧ secs.length ≤ 4096 ∧ (on = true ∨ pend.length = 0)
  case neg =>
    have hv : validS ⟨secs, pend, on⟩ = false := by simp only [validS, decide_eq_false_iff_not]; exact fun h => hok ⟨h.1, h.2.1, h.2.2.1⟩
    rw [hv]
    by_cases h1 : secs.length < 1
    · refine awp_seq ?_
      refine awp_region (by kernel_rfl) ?_
      apply w_box (γ := 100)
      case hg => exact (by exact True.intro)
      case hx => conv => lhs; whnf
      case hc => exact rfl
      case hdead => exact rfl
      case hf => exact rfl
      case hm => exact rfl
      case hd => exact rfl
      apply w_assign
      case hg => exact (by exact True.intro)
      case hx => conv => lhs; whnf
      case hd => exact rfl
      refine .done (by exact fun h => Bool.noConfusion h) ?_
      refine awp_seq ?_
      refine awp_seq ?_
      refine awp_region (by kernel_rfl) ?_
      apply w_field_box
      case hg => exact (by exact True.intro)
      case hx => exact rfl
      case hoff => conv => lhs; whnf
      case hf => exact rfl
      case hd => exact rfl
      apply w_load_box
      case hg => exact (by exact True.intro)
      case hx => exact rfl
      case hL => exact rfl
      case hy => conv => lhs; whnf
      case ht => exact rfl
      case hd => exact rfl
      apply w_len_data
      case hg => exact (by exact True.intro)
      case hx => exact rfl
      case hT => exact rfl
      case hd => exact rfl
      apply w_bin
      case hg => exact (by exact True.intro)
      case hx => exact rfl
      case hy => exact rfl
      case hr => exact rb_lss
      case h1 => exact rfl
      case hd => exact rfl
      apply w_move
      case hg => exact (by exact True.intro)
      case hx => conv => lhs; whnf
      case hd => exact rfl
      apply w_skip
      case hg => (exact ⟨rfl, congrArg ab (by (simp only [List.length_map, List.length_take, List.length_append, decide_eq_true_eq, decide_eq_false_iff_not, ne_eq, Classical.not_not]; omega))⟩)
      case hd => exact rfl
      apply w_skip
      case hg => (exact ⟨rfl, congrArg ab (by (simp only [List.length_map, List.length_take, List.length_append, decide_eq_true_eq, decide_eq_false_iff_not, ne_eq, Classical.not_not]; omega))⟩)
      case hd => exact rfl
      apply w_skip
      case hg => (exact ⟨rfl, congrArg ab (by (simp only [List.length_map, List.length_take, List.length_append, decide_eq_true_eq, decide_eq_false_iff_not, ne_eq, Classical.not_not]; omega))⟩)
      case hd => exact rfl
      apply w_skip
      case hg => (exact ⟨rfl, congrArg ab (by (simp only [List.length_map, List.length_take, List.length_append, decide_eq_true_eq, decide_eq_false_iff_not, ne_eq, Classical.not_not]; omega))⟩)
      case hd => exact rfl
      apply w_pick_t
      case hg => exact (by exact True.intro)
      case hc => exact rfl
      case hb => exact (by (simp only [List.length_map, List.length_take, List.length_append, decide_eq_true_eq, decide_eq_false_iff_not, ne_eq, Classical.not_not]; omega))
      case hx => conv => lhs; whnf
      case hd => exact rfl
      apply w_move
      case hg => exact (by exact True.intro)
      case hx => conv => lhs; whnf
      case hd => exact rfl
      apply w_skip
      case hg => exact ⟨rfl, rfl⟩
      case hd => exact rfl
      apply w_skip
      case hg => exact ⟨rfl, rfl⟩
      case hd => exact rfl
      apply w_skip
      case hg => exact ⟨rfl, rfl⟩
      case hd => exact rfl
      apply w_skip
      case hg => exact ⟨rfl, rfl⟩
      case hd => exact rfl
      apply w_skip_u
      case hgd => exact rfl
      case hj => exact rfl
      case ht => exact rfl
      case hd => exact rfl
      apply w_skip_u
      case hgd => exact rfl
      case hj => exact rfl
      case ht => exact rfl
      case hd => exact rfl
      apply w_skip_u
      case hgd => exact rfl
      case hj => exact rfl
      case ht => exact rfl
      case hd => exact rfl
      apply w_skip_u
      case hgd => exact rfl
      case hj => exact rfl
      case ht => exact rfl
      case hd => exact rfl
      apply w_skip
      case hg => exact ⟨rfl, rfl⟩
      case hd => exact rfl
      apply w_pick_t
      case hg => exact (by exact True.intro)
      case hc => exact rfl
      case hb => exact (by rfl)
      case hx => conv => lhs; whnf
      case hd => exact rfl
      refine .done (by exact fun h => Bool.noConfusion h) ?_
      refine awp_cond_t rfl (by rfl) ?_
      refine awp_seq ?_
      refine awp_region (by kernel_rfl) ?_
      apply w_assign
      case hg => exact (by exact True.intro)
      case hx => conv => lhs; whnf
      case hd => exact rfl
      refine .done (by exact fun h => Bool.noConfusion h) ?_
      exact awp_ret ⟨_, St.le_refl _, ⟨rfl, trivial⟩, subL_nil _⟩
    by_cases h2 : 4096 < secs.length
    · refine awp_seq ?_
      refine awp_region (by kernel_rfl) ?_
      apply w_box (γ := 100)
      case hg => exact (by exact True.intro)
      case hx => conv => lhs; whnf
      case hc => exact rfl
      case hdead => exact rfl
      case hf => exact rfl
      case hm => exact rfl
      case hd => exact rfl
      apply w_assign
      case hg => exact (by exact True.intro)
      case hx => conv => lhs; whnf
      case hd => exact rfl
      refine .done (by exact fun h => Bool.noConfusion h) ?_
      refine awp_seq ?_
      refine awp_seq ?_
      refine awp_region (by kernel_rfl) ?_
      apply w_field_box
      case hg => exact (by exact True.intro)
      case hx => exact rfl
      case hoff => conv => lhs; whnf
      case hf => exact rfl
      case hd => exact rfl
      apply w_load_box
      case hg => exact (by exact True.intro)
      case hx => exact rfl
      case hL => exact rfl
      case hy => conv => lhs; whnf
      case ht => exact rfl
      case hd => exact rfl
      apply w_len_data
      case hg => exact (by exact True.intro)
      case hx => exact rfl
      case hT => exact rfl
      case hd => exact rfl
      apply w_bin
      case hg => exact (by exact True.intro)
      case hx => exact rfl
      case hy => exact rfl
      case hr => exact rb_lss
      case h1 => exact rfl
      case hd => exact rfl
      apply w_move
      case hg => exact (by exact True.intro)
      case hx => conv => lhs; whnf
      case hd => exact rfl
      apply w_field_box
      case hg => exact (by (exact ⟨rfl, congrArg ab (by (simp only [List.length_map, List.length_take, List.length_append, decide_eq_true_eq, decide_eq_false_iff_not, ne_eq, Classical.not_not]; omega))⟩))
      case hx => exact rfl
      case hoff => conv => lhs; whnf
      case hf => exact rfl
      case hd => exact rfl
      apply w_load_box
      case hg => exact (by (exact ⟨rfl, congrArg ab (by (simp only [List.length_map, List.length_take, List.length_append, decide_eq_true_eq, decide_eq_false_iff_not, ne_eq, Classical.not_not]; omega))⟩))
      case hx => exact rfl
      case hL => exact rfl
      case hy => conv => lhs; whnf
      case ht => exact rfl
      case hd => exact rfl
      apply w_len_data
      case hg => exact (by (exact ⟨rfl, congrArg ab (by (simp only [List.length_map, List.length_take, List.length_append, decide_eq_true_eq, decide_eq_false_iff_not, ne_eq, Classical.not_not]; omega))⟩))
      case hx => exact rfl
      case hT => exact rfl
      case hd => exact rfl
      apply w_bin
      case hg => exact (by (exact ⟨rfl, congrArg ab (by (simp only [List.length_map, List.length_take, List.length_append, decide_eq_true_eq, decide_eq_false_iff_not, ne_eq, Classical.not_not]; omega))⟩))
      case hx => exact rfl
      case hy => exact rfl
      case hr => exact rb_gtr
      case h1 => exact rfl
      case hd => exact rfl
      apply w_pick_f
      case hg => exact (by exact True.intro)
      case hc => exact rfl
      case hb => exact (by (simp only [List.length_map, List.length_take, List.length_append, decide_eq_true_eq, decide_eq_false_iff_not, ne_eq, Classical.not_not]; omega))
      case hx => conv => lhs; whnf
      case hd => exact rfl
      apply w_move
      case hg => exact (by exact True.intro)
      case hx => conv => lhs; whnf
      case hd => exact rfl
      apply w_skip
      case hg => (exact ⟨rfl, congrArg ab (by (simp only [List.length_map, List.length_take, List.length_append, decide_eq_true_eq, decide_eq_false_iff_not, ne_eq, Classical.not_not]; omega))⟩)
      case hd => exact rfl
      apply w_skip
      case hg => (exact ⟨rfl, congrArg ab (by (simp only [List.length_map, List.length_take, List.length_append, decide_eq_true_eq, decide_eq_false_iff_not, ne_eq, Classical.not_not]; omega))⟩)
      case hd => exact rfl
      apply w_skip
      case hg => (exact ⟨rfl, congrArg ab (by (simp only [List.length_map, List.length_take, List.length_append, decide_eq_true_eq, decide_eq_false_iff_not, ne_eq, Classical.not_not]; omega))⟩)
      case hd => exact rfl
      apply w_skip
      case hg => (exact ⟨rfl, congrArg ab (by (simp only [List.length_map, List.length_take, List.length_append, decide_eq_true_eq, decide_eq_false_iff_not, ne_eq, Classical.not_not]; omega))⟩)
      case hd => exact rfl
      apply w_skip_u
      case hgd => exact rfl
      case hj => exact rfl
      case ht => exact rfl
      case hd => exact rfl
      apply w_skip_u
      case hgd => exact rfl
      case hj => exact rfl
      case ht => exact rfl
      case hd => exact rfl
      apply w_skip_u
      case hgd => exact rfl
      case hj => exact rfl
      case ht => exact rfl
      case hd => exact rfl
      apply w_skip_u
      case hgd => exact rfl
      case hj => exact rfl
      case ht => exact rfl
      case hd => exact rfl
      apply w_skip
      case hg => (exact ⟨rfl, congrArg ab (by (simp only [List.length_map, List.length_take, List.length_append, decide_eq_true_eq, decide_eq_false_iff_not, ne_eq, Classical.not_not]; omega))⟩)
      case hd => exact rfl
      apply w_pick_t
      case hg => exact (by exact True.intro)
      case hc => exact rfl
      case hb => exact (by (simp only [List.length_map, List.length_take, List.length_append, decide_eq_true_eq, decide_eq_false_iff_not, ne_eq, Classical.not_not]; omega))
      case hx => conv => lhs; whnf
      case hd => exact rfl
      refine .done (by exact fun h => Bool.noConfusion h) ?_
      refine awp_cond_t rfl (by rfl) ?_
      refine awp_seq ?_
      refine awp_region (by kernel_rfl) ?_
      apply w_assign
      case hg => exact (by exact True.intro)
      case hx => conv => lhs; whnf
      case hd => exact rfl
      refine .done (by exact fun h => Bool.noConfusion h) ?_
      exact awp_ret ⟨_, St.le_refl _, ⟨rfl, trivial⟩, subL_nil _⟩
    have h3 : 0 < pend.length := by
      rcases Nat.eq_zero_or_pos pend.length with h | h
      · exact (hok ⟨by omega, by omega, .inr h⟩).elim
      · exact h
    cases on with
    | true => exact (hok ⟨by omega, by omega, .inl rfl⟩).elim
    | false =>
      refine awp_seq ?_
      refine awp_region (by kernel_rfl) ?_
      apply w_box (γ := 100)
      case hg => exact (by exact True.intro)
      case hx => conv => lhs; whnf
      case hc => exact rfl
      case hdead => exact rfl
      case hf => exact rfl
      case hm => exact rfl
      case hd => exact rfl
      apply w_assign
      case hg => exact (by exact True.intro)
      case hx => conv => lhs; whnf
      case hd => exact rfl
      refine .done (by exact fun h => Bool.noConfusion h) ?_
      refine awp_seq ?_
      refine awp_seq ?_
      refine awp_region (by kernel_rfl) ?_
      apply w_field_box
      case hg => exact (by exact True.intro)
      case hx => exact rfl
      case hoff => conv => lhs; whnf
      case hf => exact rfl
      case hd => exact rfl
      apply w_load_box
      case hg => exact (by exact True.intro)
      case hx => exact rfl
      case hL => exact rfl
      case hy => conv => lhs; whnf
      case ht => exact rfl
      case hd => exact rfl
      apply w_len_data
      case hg => exact (by exact True.intro)
      case hx => exact rfl
      case hT => exact rfl
      case hd => exact rfl
      apply w_bin
      case hg => exact (by exact True.intro)
      case hx => exact rfl
      case hy => exact rfl
      case hr => exact rb_lss
      case h1 => exact rfl
      case hd => exact rfl
      apply w_move
      case hg => exact (by exact True.intro)
      case hx => conv => lhs; whnf
      case hd => exact rfl
      apply w_field_box
      case hg => exact (by (exact ⟨rfl, congrArg ab (by (simp only [List.length_map, List.length_take, List.length_append, decide_eq_true_eq, decide_eq_false_iff_not, ne_eq, Classical.not_not]; omega))⟩))
      case hx => exact rfl
      case hoff => conv => lhs; whnf
      case hf => exact rfl
      case hd => exact rfl
      apply w_load_box
      case hg => exact (by (exact ⟨rfl, congrArg ab (by (simp only [List.length_map, List.length_take, List.length_append, decide_eq_true_eq, decide_eq_false_iff_not, ne_eq, Classical.not_not]; omega))⟩))
      case hx => exact rfl
      case hL => exact rfl
      case hy => conv => lhs; whnf
      case ht => exact rfl
      case hd => exact rfl
      apply w_len_data
      case hg => exact (by (exact ⟨rfl, congrArg ab (by (simp only [List.length_map, List.length_take, List.length_append, decide_eq_true_eq, decide_eq_false_iff_not, ne_eq, Classical.not_not]; omega))⟩))
      case hx => exact rfl
      case hT => exact rfl
      case hd => exact rfl
      apply w_bin
      case hg => exact (by (exact ⟨rfl, congrArg ab (by (simp only [List.length_map, List.length_take, List.length_append, decide_eq_true_eq, decide_eq_false_iff_not, ne_eq, Classical.not_not]; omega))⟩))
      case hx => exact rfl
      case hy => exact rfl
      case hr => exact rb_gtr
      case h1 => exact rfl
      case hd => exact rfl
      apply w_pick_f
      case hg => exact (by exact True.intro)
      case hc => exact rfl
      case hb => exact (by (simp only [List.length_map, List.length_take, List.length_append, decide_eq_true_eq, decide_eq_false_iff_not, ne_eq, Classical.not_not]; omega))
      case hx => conv => lhs; whnf
      case hd => exact rfl
      apply w_move
      case hg => exact (by exact True.intro)
      case hx => conv => lhs; whnf
      case hd => exact rfl
      apply w_field_box
      case hg => exact (by (exact ⟨rfl, congrArg ab (by (simp only [List.length_map, List.length_take, List.length_append, decide_eq_true_eq, decide_eq_false_iff_not, ne_eq, Classical.not_not]; omega))⟩))
      case hx => exact rfl
      case hoff => conv => lhs; whnf
      case hf => exact rfl
      case hd => exact rfl
      apply w_load_box
      case hg => exact (by (exact ⟨rfl, congrArg ab (by (simp only [List.length_map, List.length_take, List.length_append, decide_eq_true_eq, decide_eq_false_iff_not, ne_eq, Classical.not_not]; omega))⟩))
      case hx => exact rfl
      case hL => exact rfl
      case hy => conv => lhs; whnf
      case ht => exact rfl
      case hd => exact rfl
      apply w_un
      case hg => exact (by (exact ⟨rfl, congrArg ab (by (simp only [List.length_map, List.length_take, List.length_append, decide_eq_true_eq, decide_eq_false_iff_not, ne_eq, Classical.not_not]; omega))⟩))
      case hx => exact rfl
      case hr => exact ru_not
      case h1 => exact rfl
      case hd => exact rfl
      apply w_move
      case hg => exact (by (exact ⟨rfl, congrArg ab (by (simp only [List.length_map, List.length_take, List.length_append, decide_eq_true_eq, decide_eq_false_iff_not, ne_eq, Classical.not_not]; omega))⟩))
      case hx => conv => lhs; whnf
      case hd => exact rfl
      apply w_field_box
      case hg => exact (by exact ⟨rfl, rfl⟩)
      case hx => exact rfl
      case hoff => conv => lhs; whnf
      case hf => exact rfl
      case hd => exact rfl
      apply w_load_box
      case hg => exact (by exact ⟨rfl, rfl⟩)
      case hx => exact rfl
      case hL => exact rfl
      case hy => conv => lhs; whnf
      case ht => exact rfl
      case hd => exact rfl
      apply w_len_data
      case hg => exact (by exact ⟨rfl, rfl⟩)
      case hx => exact rfl
      case hT => exact rfl
      case hd => exact rfl
      apply w_bin
      case hg => exact (by exact ⟨rfl, rfl⟩)
      case hx => exact rfl
      case hy => exact rfl
      case hr => exact rb_gtr
      case h1 => exact rfl
      case hd => exact rfl
      apply w_pick_t
      case hg => exact (by (exact ⟨rfl, congrArg ab (by (simp only [List.length_map, List.length_take, List.length_append, decide_eq_true_eq, decide_eq_false_iff_not, ne_eq, Classical.not_not]; omega))⟩))
      case hc => exact rfl
      case hb => exact (by rfl)
      case hx => conv => lhs; whnf
      case hd => exact rfl
      apply w_pick_f
      case hg => exact (by exact True.intro)
      case hc => exact rfl
      case hb => exact (by (simp only [List.length_map, List.length_take, List.length_append, decide_eq_true_eq, decide_eq_false_iff_not, ne_eq, Classical.not_not]; omega))
      case hx => conv => lhs; whnf
      case hd => exact rfl
      refine .done (by exact fun h => Bool.noConfusion h) ?_
      refine awp_cond_t rfl (by (simp only [List.length_map, List.length_take, List.length_append, decide_eq_true_eq, decide_eq_false_iff_not, ne_eq, Classical.not_not]; omega)) ?_
      refine awp_seq ?_
      refine awp_region (by kernel_rfl) ?_
      apply w_assign
      case hg => exact (by exact True.intro)
      case hx => conv => lhs; whnf
      case hd => exact rfl
      refine .done (by exact fun h => Bool.noConfusion h) ?_
      exact awp_ret ⟨_, St.le_refl _, ⟨rfl, trivial⟩, subL_nil _⟩
  obtain ⟨k1, k2, k3⟩ := hok
  refine awp_bound_agg 0 1 rfl rfl (fun hmx => ?_)
  simp only [List.length_map] at hmx
  refine awp_seq ?_
  refine awp_region (by kernel_rfl) ?_
  apply w_box (γ := 100)
  case hg => exact (by exact True.intro)
  case hx => conv => lhs; whnf
  case hc => exact rfl
  case hdead => exact rfl
  case hf => exact rfl
  case hm => exact rfl
  case hd => exact rfl
  apply w_assign
  case hg => exact (by exact True.intro)
  case hx => conv => lhs; whnf
  case hd => exact rfl
  refine .done (by exact fun h => Bool.noConfusion h) ?_
  refine awp_cut ⟨70, [(1, .ptr 100 0)], [(100, .box [.d (dSecs secs), .d (dPend pend), ab on])]⟩ ?_ ?_
  · cases on with
    | true =>
      refine awp_seq ?_
      refine awp_region (by kernel_rfl) ?_
      apply w_field_box
      case hg => exact (by exact True.intro)
      case hx => exact rfl
      case hoff => conv => lhs; whnf
      case hf => exact rfl
      case hd => exact rfl
      apply w_load_box
      case hg => exact (by exact True.intro)
      case hx => exact rfl
      case hL => exact rfl
      case hy => conv => lhs; whnf
      case ht => exact rfl
      case hd => exact rfl
      apply w_len_data
      case hg => exact (by exact True.intro)
      case hx => exact rfl
      case hT => exact rfl
      case hd => exact rfl
      apply w_bin
      case hg => exact (by exact True.intro)
      case hx => exact rfl
      case hy => exact rfl
      case hr => exact rb_lss
      case h1 => exact rfl
      case hd => exact rfl
      apply w_move
      case hg => exact (by exact True.intro)
      case hx => conv => lhs; whnf
      case hd => exact rfl
      apply w_field_box
      case hg => exact (by (exact ⟨rfl, congrArg ab (by (simp only [List.length_map, List.length_take, List.length_append, decide_eq_true_eq, decide_eq_false_iff_not, ne_eq, Classical.not_not]; omega))⟩))
      case hx => exact rfl
      case hoff => conv => lhs; whnf
      case hf => exact rfl
      case hd => exact rfl
      apply w_load_box
      case hg => exact (by (exact ⟨rfl, congrArg ab (by (simp only [List.length_map, List.length_take, List.length_append, decide_eq_true_eq, decide_eq_false_iff_not, ne_eq, Classical.not_not]; omega))⟩))
      case hx => exact rfl
      case hL => exact rfl
      case hy => conv => lhs; whnf
      case ht => exact rfl
      case hd => exact rfl
      apply w_len_data
      case hg => exact (by (exact ⟨rfl, congrArg ab (by (simp only [List.length_map, List.length_take, List.length_append, decide_eq_true_eq, decide_eq_false_iff_not, ne_eq, Classical.not_not]; omega))⟩))
      case hx => exact rfl
      case hT => exact rfl
      case hd => exact rfl
      apply w_bin
      case hg => exact (by (exact ⟨rfl, congrArg ab (by (simp only [List.length_map, List.length_take, List.length_append, decide_eq_true_eq, decide_eq_false_iff_not, ne_eq, Classical.not_not]; omega))⟩))
      case hx => exact rfl
      case hy => exact rfl
      case hr => exact rb_gtr
      case h1 => exact rfl
      case hd => exact rfl
      apply w_pick_f
      case hg => exact (by exact True.intro)
      case hc => exact rfl
      case hb => exact (by (simp only [List.length_map, List.length_take, List.length_append, decide_eq_true_eq, decide_eq_false_iff_not, ne_eq, Classical.not_not]; omega))
      case hx => conv => lhs; whnf
      case hd => exact rfl
      apply w_move
      case hg => exact (by exact True.intro)
      case hx => conv => lhs; whnf
      case hd => exact rfl
      apply w_field_box
      case hg => exact (by (exact ⟨rfl, congrArg ab (by (simp only [List.length_map, List.length_take, List.length_append, decide_eq_true_eq, decide_eq_false_iff_not, ne_eq, Classical.not_not]; omega))⟩))
      case hx => exact rfl
      case hoff => conv => lhs; whnf
      case hf => exact rfl
      case hd => exact rfl
      apply w_load_box
      case hg => exact (by (exact ⟨rfl, congrArg ab (by (simp only [List.length_map, List.length_take, List.length_append, decide_eq_true_eq, decide_eq_false_iff_not, ne_eq, Classical.not_not]; omega))⟩))
      case hx => exact rfl
      case hL => exact rfl
      case hy => conv => lhs; whnf
      case ht => exact rfl
      case hd => exact rfl
      apply w_un
      case hg => exact (by (exact ⟨rfl, congrArg ab (by (simp only [List.length_map, List.length_take, List.length_append, decide_eq_true_eq, decide_eq_false_iff_not, ne_eq, Classical.not_not]; omega))⟩))
      case hx => exact rfl
      case hr => exact ru_not
      case h1 => exact rfl
      case hd => exact rfl
      apply w_move
      case hg => exact (by (exact ⟨rfl, congrArg ab (by (simp only [List.length_map, List.length_take, List.length_append, decide_eq_true_eq, decide_eq_false_iff_not, ne_eq, Classical.not_not]; omega))⟩))
      case hx => conv => lhs; whnf
      case hd => exact rfl
      apply w_skip
      case hg => exact ⟨rfl, rfl⟩
      case hd => exact rfl
      apply w_skip
      case hg => exact ⟨rfl, rfl⟩
      case hd => exact rfl
      apply w_skip
      case hg => exact ⟨rfl, rfl⟩
      case hd => exact rfl
      apply w_skip
      case hg => exact ⟨rfl, rfl⟩
      case hd => exact rfl
      apply w_pick_f
      case hg => exact (by (exact ⟨rfl, congrArg ab (by (simp only [List.length_map, List.length_take, List.length_append, decide_eq_true_eq, decide_eq_false_iff_not, ne_eq, Classical.not_not]; omega))⟩))
      case hc => exact rfl
      case hb => exact (by rfl)
      case hx => conv => lhs; whnf
      case hd => exact rfl
      apply w_pick_f
      case hg => exact (by exact True.intro)
      case hc => exact rfl
      case hb => exact (by (simp only [List.length_map, List.length_take, List.length_append, decide_eq_true_eq, decide_eq_false_iff_not, ne_eq, Classical.not_not]; omega))
      case hx => conv => lhs; whnf
      case hd => exact rfl
      refine .done (by exact fun h => Bool.noConfusion h) ?_
      refine awp_cond_f rfl (by rfl) ?_
      refine awp_skip ?_
      exact le_mk rfl ⟨(by (first | ((exact AVal.le_refl _)) | ((exact AVal.le_nil _)) | ((refine AVal.le_agg ?_; ((repeat (first | exact trivial | refine ⟨(by (first | ((exact AVal.le_refl _)) | ((exact AVal.le_nil _)) | ((refine AVal.le_of_eq ?_; (conv => lhs; whnf); (first | ((rfl)) | ((simp <;> fail)) | fail))) | fail)), ?_⟩ | fail)) <;> fail))) | ((refine AVal.le_of_eq ?_; (conv => lhs; whnf); (first | ((rfl)) | ((simp <;> fail)) | fail))) | fail)), trivial⟩ ⟨rfl, trivial⟩
    | false =>
      have k4 : pend.length = 0 := by simpa using k3
      refine awp_seq ?_
      refine awp_region (by kernel_rfl) ?_
      apply w_field_box
      case hg => exact (by exact True.intro)
      case hx => exact rfl
      case hoff => conv => lhs; whnf
      case hf => exact rfl
      case hd => exact rfl
      apply w_load_box
      case hg => exact (by exact True.intro)
      case hx => exact rfl
      case hL => exact rfl
      case hy => conv => lhs; whnf
      case ht => exact rfl
      case hd => exact rfl
      apply w_len_data
      case hg => exact (by exact True.intro)
      case hx => exact rfl
      case hT => exact rfl
      case hd => exact rfl
      apply w_bin
      case hg => exact (by exact True.intro)
      case hx => exact rfl
      case hy => exact rfl
      case hr => exact rb_lss
      case h1 => exact rfl
      case hd => exact rfl
      apply w_move
      case hg => exact (by exact True.intro)
      case hx => conv => lhs; whnf
      case hd => exact rfl
      apply w_field_box
      case hg => exact (by (exact ⟨rfl, congrArg ab (by (simp only [List.length_map, List.length_take, List.length_append, decide_eq_true_eq, decide_eq_false_iff_not, ne_eq, Classical.not_not]; omega))⟩))
      case hx => exact rfl
      case hoff => conv => lhs; whnf
      case hf => exact rfl
      case hd => exact rfl
      apply w_load_box
      case hg => exact (by (exact ⟨rfl, congrArg ab (by (simp only [List.length_map, List.length_take, List.length_append, decide_eq_true_eq, decide_eq_false_iff_not, ne_eq, Classical.not_not]; omega))⟩))
      case hx => exact rfl
      case hL => exact rfl
      case hy => conv => lhs; whnf
      case ht => exact rfl
      case hd => exact rfl
      apply w_len_data
      case hg => exact (by (exact ⟨rfl, congrArg ab (by (simp only [List.length_map, List.length_take, List.length_append, decide_eq_true_eq, decide_eq_false_iff_not, ne_eq, Classical.not_not]; omega))⟩))
      case hx => exact rfl
      case hT => exact rfl
      case hd => exact rfl
      apply w_bin
      case hg => exact (by (exact ⟨rfl, congrArg ab (by (simp only [List.length_map, List.length_take, List.length_append, decide_eq_true_eq, decide_eq_false_iff_not, ne_eq, Classical.not_not]; omega))⟩))
      case hx => exact rfl
      case hy => exact rfl
      case hr => exact rb_gtr
      case h1 => exact rfl
      case hd => exact rfl
      apply w_pick_f
      case hg => exact (by exact True.intro)
      case hc => exact rfl
      case hb => exact (by (simp only [List.length_map, List.length_take, List.length_append, decide_eq_true_eq, decide_eq_false_iff_not, ne_eq, Classical.not_not]; omega))
      case hx => conv => lhs; whnf
      case hd => exact rfl
      apply w_move
      case hg => exact (by exact True.intro)
      case hx => conv => lhs; whnf
      case hd => exact rfl
      apply w_field_box
      case hg => exact (by (exact ⟨rfl, congrArg ab (by (simp only [List.length_map, List.length_take, List.length_append, decide_eq_true_eq, decide_eq_false_iff_not, ne_eq, Classical.not_not]; omega))⟩))
      case hx => exact rfl
      case hoff => conv => lhs; whnf
      case hf => exact rfl
      case hd => exact rfl
      apply w_load_box
      case hg => exact (by (exact ⟨rfl, congrArg ab (by (simp only [List.length_map, List.length_take, List.length_append, decide_eq_true_eq, decide_eq_false_iff_not, ne_eq, Classical.not_not]; omega))⟩))
      case hx => exact rfl
      case hL => exact rfl
      case hy => conv => lhs; whnf
      case ht => exact rfl
      case hd => exact rfl
      apply w_un
      case hg => exact (by (exact ⟨rfl, congrArg ab (by (simp only [List.length_map, List.length_take, List.length_append, decide_eq_true_eq, decide_eq_false_iff_not, ne_eq, Classical.not_not]; omega))⟩))
      case hx => exact rfl
      case hr => exact ru_not
      case h1 => exact rfl
      case hd => exact rfl
      apply w_move
      case hg => exact (by (exact ⟨rfl, congrArg ab (by (simp only [List.length_map, List.length_take, List.length_append, decide_eq_true_eq, decide_eq_false_iff_not, ne_eq, Classical.not_not]; omega))⟩))
      case hx => conv => lhs; whnf
      case hd => exact rfl
      apply w_field_box
      case hg => exact (by exact ⟨rfl, rfl⟩)
      case hx => exact rfl
      case hoff => conv => lhs; whnf
      case hf => exact rfl
      case hd => exact rfl
      apply w_load_box
      case hg => exact (by exact ⟨rfl, rfl⟩)
      case hx => exact rfl
      case hL => exact rfl
      case hy => conv => lhs; whnf
      case ht => exact rfl
      case hd => exact rfl
      apply w_len_data
      case hg => exact (by exact ⟨rfl, rfl⟩)
      case hx => exact rfl
      case hT => exact rfl
      case hd => exact rfl
      apply w_bin
      case hg => exact (by exact ⟨rfl, rfl⟩)
      case hx => exact rfl
      case hy => exact rfl
      case hr => exact rb_gtr
      case h1 => exact rfl
      case hd => exact rfl
      apply w_pick_t
      case hg => exact (by (exact ⟨rfl, congrArg ab (by (simp only [List.length_map, List.length_take, List.length_append, decide_eq_true_eq, decide_eq_false_iff_not, ne_eq, Classical.not_not]; omega))⟩))
      case hc => exact rfl
      case hb => exact (by rfl)
      case hx => conv => lhs; whnf
      case hd => exact rfl
      apply w_pick_f
      case hg => exact (by exact True.intro)
      case hc => exact rfl
      case hb => exact (by (simp only [List.length_map, List.length_take, List.length_append, decide_eq_true_eq, decide_eq_false_iff_not, ne_eq, Classical.not_not]; omega))
      case hx => conv => lhs; whnf
      case hd => exact rfl
      refine .done (by exact fun h => Bool.noConfusion h) ?_
      refine awp_cond_f rfl (by (simp only [List.length_map, List.length_take, List.length_append, decide_eq_true_eq, decide_eq_false_iff_not, ne_eq, Classical.not_not]; omega)) ?_
      refine awp_skip ?_
      exact le_mk rfl ⟨(by (first | ((exact AVal.le_refl _)) | ((exact AVal.le_nil _)) | ((refine AVal.le_agg ?_; ((repeat (first | exact trivial | refine ⟨(by (first | ((exact AVal.le_refl _)) | ((exact AVal.le_nil _)) | ((refine AVal.le_of_eq ?_; (conv => lhs; whnf); (first | ((rfl)) | ((simp <;> fail)) | fail))) | fail)), ?_⟩ | fail)) <;> fail))) | ((refine AVal.le_of_eq ?_; (conv => lhs; whnf); (first | ((rfl)) | ((simp <;> fail)) | fail))) | fail)), trivial⟩ ⟨rfl, trivial⟩
  refine awp_seq ?_
  refine awp_seq ?_
  refine awp_region (by kernel_rfl) ?_
  apply w_assign
  case hg => exact (by exact True.intro)
  case hx => conv => lhs; whnf
  case hd => exact rfl
  refine .done (by exact fun h => Bool.noConfusion h) ?_
  refine awp_block ?_
  refine awp_loopI (fun k : Nat => k ≤ secs.length ∧ ∀ (i : Nat) s, i < k → secs[i]? = some s → s.length = 64) (fun k => ⟨70, [(1, .ptr 100 0), (3, ai k)], [(100, .box [.d (dSecs secs), .d (dPend pend), ab on])]⟩) (fun k => secs.length - k) 0 ⟨by omega, by omega⟩
    (le_mk rfl ⟨(by (first | ((exact AVal.le_refl _)) | ((exact AVal.le_nil _)) | ((refine AVal.le_agg ?_; ((repeat (first | exact trivial | refine ⟨(by (first | ((exact AVal.le_refl _)) | ((exact AVal.le_nil _)) | ((refine AVal.le_of_eq ?_; (conv => lhs; whnf); (first | ((rfl)) | ((simp <;> fail)) | fail))) | fail)), ?_⟩ | fail)) <;> fail))) | ((refine AVal.le_of_eq ?_; (conv => lhs; whnf); (first | ((rfl)) | ((simp <;> fail)) | fail))) | fail)), (by (first | ((exact AVal.le_refl _)) | ((exact AVal.le_nil _)) | ((refine AVal.le_agg ?_; ((repeat (first | exact trivial | refine ⟨(by (first | ((exact AVal.le_refl _)) | ((exact AVal.le_nil _)) | ((refine AVal.le_of_eq ?_; (conv => lhs; whnf); (first | ((rfl)) | ((simp <;> fail)) | fail))) | fail)), ?_⟩ | fail)) <;> fail))) | ((refine AVal.le_of_eq ?_; (conv => lhs; whnf); (first | ((rfl)) | ((simp <;> fail)) | fail))) | fail)), trivial⟩ ⟨rfl, trivial⟩) ?_
  rintro k ⟨hk, hp⟩
  by_cases hlt : k < secs.length
  · obtain ⟨s, hs⟩ := get_of_lt (l := secs) (k := k) (by omega)
    by_cases h3 : s.length ≠ 64
    · have hv := not_valid_s (pend := pend) (on := on) hs h3
      rw [hv]
      refine awp_seq ?_
      refine awp_seq ?_
      refine awp_region (by kernel_rfl) ?_
      apply w_move
      case hg => exact (by exact True.intro)
      case hx => conv => lhs; whnf
      case hd => exact rfl
      apply w_field_box
      case hg => exact (by exact True.intro)
      case hx => exact rfl
      case hoff => conv => lhs; whnf
      case hf => exact rfl
      case hd => exact rfl
      apply w_load_box
      case hg => exact (by exact True.intro)
      case hx => exact rfl
      case hL => exact rfl
      case hy => conv => lhs; whnf
      case ht => exact rfl
      case hd => exact rfl
      apply w_len_data
      case hg => exact (by exact True.intro)
      case hx => exact rfl
      case hT => exact rfl
      case hd => exact rfl
      apply w_bin
      case hg => exact (by exact True.intro)
      case hx => exact rfl
      case hy => exact rfl
      case hr => exact rb_lss
      case h1 => exact rfl
      case hd => exact rfl
      refine .done (by exact fun h => Bool.noConfusion h) ?_
      refine awp_cond_t rfl (by (simp only [List.length_map, List.length_take, List.length_append, decide_eq_true_eq, decide_eq_false_iff_not, ne_eq, Classical.not_not]; omega)) ?_
      refine awp_skip ?_
      refine awp_seq ?_
      refine awp_block ?_
      refine awp_seq ?_
      refine awp_region (by kernel_rfl) ?_
      apply w_field_box
      case hg => exact (by exact True.intro)
      case hx => exact rfl
      case hoff => conv => lhs; whnf
      case hf => exact rfl
      case hd => exact rfl
      apply w_load_box
      case hg => exact (by exact True.intro)
      case hx => exact rfl
      case hL => exact rfl
      case hy => conv => lhs; whnf
      case ht => exact rfl
      case hd => exact rfl
      apply w_move
      case hg => exact (by exact True.intro)
      case hx => conv => lhs; whnf
      case hd => exact rfl
      apply w_index_data
      case hg => exact (by exact True.intro)
      case hx => exact rfl
      case hi => exact rfl
      case hk => exact rfl
      case hr => exact map_get (by assumption)
      case hT => exact rfl
      case hd => exact rfl
      apply w_load_d
      case hg => exact (by exact True.intro)
      case hx => exact rfl
      case ht => exact rfl
      case hd => exact rfl
      apply w_len_data
      case hg => exact (by exact True.intro)
      case hx => exact rfl
      case hT => exact rfl
      case hd => exact rfl
      apply w_bin
      case hg => exact (by exact True.intro)
      case hx => exact rfl
      case hy => exact rfl
      case hr => exact rb_neq
      case h1 => exact rfl
      case hd => exact rfl
      refine .done (by exact fun h => Bool.noConfusion h) ?_
      refine awp_cond_t rfl (by (simp only [List.length_map, List.length_take, List.length_append, decide_eq_true_eq, decide_eq_false_iff_not, ne_eq, Classical.not_not]; omega)) ?_
      refine awp_seq ?_
      refine awp_region (by kernel_rfl) ?_
      apply w_assign
      case hg => exact (by exact True.intro)
      case hx => conv => lhs; whnf
      case hd => exact rfl
      refine .done (by exact fun h => Bool.noConfusion h) ?_
      exact awp_ret ⟨_, St.le_refl _, ⟨rfl, trivial⟩, subL_nil _⟩
    · have h3 : s.length = 64 := by simpa using h3
      refine awp_seq ?_
      refine awp_seq ?_
      refine awp_region (by kernel_rfl) ?_
      apply w_move
      case hg => exact (by exact True.intro)
      case hx => conv => lhs; whnf
      case hd => exact rfl
      apply w_field_box
      case hg => exact (by exact True.intro)
      case hx => exact rfl
      case hoff => conv => lhs; whnf
      case hf => exact rfl
      case hd => exact rfl
      apply w_load_box
      case hg => exact (by exact True.intro)
      case hx => exact rfl
      case hL => exact rfl
      case hy => conv => lhs; whnf
      case ht => exact rfl
      case hd => exact rfl
      apply w_len_data
      case hg => exact (by exact True.intro)
      case hx => exact rfl
      case hT => exact rfl
      case hd => exact rfl
      apply w_bin
      case hg => exact (by exact True.intro)
      case hx => exact rfl
      case hy => exact rfl
      case hr => exact rb_lss
      case h1 => exact rfl
      case hd => exact rfl
      refine .done (by exact fun h => Bool.noConfusion h) ?_
      refine awp_cond_t rfl (by (simp only [List.length_map, List.length_take, List.length_append, decide_eq_true_eq, decide_eq_false_iff_not, ne_eq, Classical.not_not]; omega)) ?_
      refine awp_skip ?_
      refine awp_seq ?_
      refine awp_block ?_
      refine awp_seq ?_
      refine awp_region (by kernel_rfl) ?_
      apply w_field_box
      case hg => exact (by exact True.intro)
      case hx => exact rfl
      case hoff => conv => lhs; whnf
      case hf => exact rfl
      case hd => exact rfl
      apply w_load_box
      case hg => exact (by exact True.intro)
      case hx => exact rfl
      case hL => exact rfl
      case hy => conv => lhs; whnf
      case ht => exact rfl
      case hd => exact rfl
      apply w_move
      case hg => exact (by exact True.intro)
      case hx => conv => lhs; whnf
      case hd => exact rfl
      apply w_index_data
      case hg => exact (by exact True.intro)
      case hx => exact rfl
      case hi => exact rfl
      case hk => exact rfl
      case hr => exact map_get (by assumption)
      case hT => exact rfl
      case hd => exact rfl
      apply w_load_d
      case hg => exact (by exact True.intro)
      case hx => exact rfl
      case ht => exact rfl
      case hd => exact rfl
      apply w_len_data
      case hg => exact (by exact True.intro)
      case hx => exact rfl
      case hT => exact rfl
      case hd => exact rfl
      apply w_bin
      case hg => exact (by exact True.intro)
      case hx => exact rfl
      case hy => exact rfl
      case hr => exact rb_neq
      case h1 => exact rfl
      case hd => exact rfl
      refine .done (by exact fun h => Bool.noConfusion h) ?_
      refine awp_cond_f rfl (by (simp only [List.length_map, List.length_take, List.length_append, decide_eq_true_eq, decide_eq_false_iff_not, ne_eq, Classical.not_not]; omega)) ?_
      refine awp_skip ?_
      refine awp_region (by kernel_rfl) ?_
      apply w_move
      case hg => exact (by exact True.intro)
      case hx => conv => lhs; whnf
      case hd => exact rfl
      apply w_bin
      case hg => exact (by exact True.intro)
      case hx => exact rfl
      case hy => exact rfl
      case hr => (exact rb_add64 (by unfold in64; omega))
      case h1 => exact rfl
      case hd => exact rfl
      apply w_assign
      case hg => exact (by exact True.intro)
      case hx => conv => lhs; whnf
      case hd => exact rfl
      refine .done (by exact fun h => Bool.noConfusion h) ?_
      refine ⟨k + 1, ⟨by omega, fun i t hi ht => ?_⟩, by omega, le_mk rfl ⟨(by (first | ((exact AVal.le_refl _)) | ((exact AVal.le_nil _)) | ((refine AVal.le_agg ?_; ((repeat (first | exact trivial | refine ⟨(by (first | ((exact AVal.le_refl _)) | ((exact AVal.le_nil _)) | ((refine AVal.le_of_eq ?_; (conv => lhs; whnf); (first | ((rfl)) | ((simp <;> fail)) | fail))) | fail)), ?_⟩ | fail)) <;> fail))) | ((refine AVal.le_of_eq ?_; (conv => lhs; whnf); (first | ((rfl)) | ((simp <;> fail)) | fail))) | fail)), (by (first | ((exact AVal.le_refl _)) | ((exact AVal.le_nil _)) | ((refine AVal.le_agg ?_; ((repeat (first | exact trivial | refine ⟨(by (first | ((exact AVal.le_refl _)) | ((exact AVal.le_nil _)) | ((refine AVal.le_of_eq ?_; (conv => lhs; whnf); (first | ((rfl)) | ((simp <;> fail)) | fail))) | fail)), ?_⟩ | fail)) <;> fail))) | ((refine AVal.le_of_eq ?_; (conv => lhs; whnf); (first | ((rfl)) | ((simp <;> fail)) | fail))) | fail)), trivial⟩ ⟨rfl, trivial⟩⟩
      by_cases hik : i = k
      · subst hik; rw [hs] at ht; cases ht; omega
      · exact hp i t (by omega) ht
  obtain rfl : k = secs.length := by omega
  have hp1 : ∀ s ∈ secs, s.length = 64 := all_of_get fun i x hx => hp i x (List.getElem?_eq_some_iff.1 hx).1 hx
  refine awp_seq ?_
  refine awp_seq ?_
  refine awp_region (by kernel_rfl) ?_
  apply w_move
  case hg => exact (by exact True.intro)
  case hx => conv => lhs; whnf
  case hd => exact rfl
  apply w_field_box
  case hg => exact (by exact True.intro)
  case hx => exact rfl
  case hoff => conv => lhs; whnf
  case hf => exact rfl
  case hd => exact rfl
  apply w_load_box
  case hg => exact (by exact True.intro)
  case hx => exact rfl
  case hL => exact rfl
  case hy => conv => lhs; whnf
  case ht => exact rfl
  case hd => exact rfl
  apply w_len_data
  case hg => exact (by exact True.intro)
  case hx => exact rfl
  case hT => exact rfl
  case hd => exact rfl
  apply w_bin
  case hg => exact (by exact True.intro)
  case hx => exact rfl
  case hy => exact rfl
  case hr => exact rb_lss
  case h1 => exact rfl
  case hd => exact rfl
  refine .done (by exact fun h => Bool.noConfusion h) ?_
  refine awp_cond_f rfl (by (simp only [List.length_map, List.length_take, List.length_append, decide_eq_true_eq, decide_eq_false_iff_not, ne_eq, Classical.not_not]; omega)) ?_
  refine awp_exit ?_
  refine awp_seq ?_
  refine awp_seq ?_
  refine awp_region (by kernel_rfl) ?_
  apply w_assign
  case hg => exact (by exact True.intro)
  case hx => conv => lhs; whnf
  case hd => exact rfl
  refine .done (by exact fun h => Bool.noConfusion h) ?_
  refine awp_block ?_
  refine awp_loopI (fun k : Nat => k ≤ pend.length ∧ ∀ (i : Nat) w, i < k → pend[i]? = some w → 0 ≤ w.at_ ∧ w.at_ < secs.length ∧ w.b.length = 64) (fun k => ⟨70, [(1, .ptr 100 0), (4, ai k)], [(100, .box [.d (dSecs secs), .d (dPend pend), ab on])]⟩) (fun k => pend.length - k) 0 ⟨by omega, by omega⟩
    (le_mk rfl ⟨(by (first | ((exact AVal.le_refl _)) | ((exact AVal.le_nil _)) | ((refine AVal.le_agg ?_; ((repeat (first | exact trivial | refine ⟨(by (first | ((exact AVal.le_refl _)) | ((exact AVal.le_nil _)) | ((refine AVal.le_of_eq ?_; (conv => lhs; whnf); (first | ((rfl)) | ((simp <;> fail)) | fail))) | fail)), ?_⟩ | fail)) <;> fail))) | ((refine AVal.le_of_eq ?_; (conv => lhs; whnf); (first | ((rfl)) | ((simp <;> fail)) | fail))) | fail)), (by (first | ((exact AVal.le_refl _)) | ((exact AVal.le_nil _)) | ((refine AVal.le_agg ?_; ((repeat (first | exact trivial | refine ⟨(by (first | ((exact AVal.le_refl _)) | ((exact AVal.le_nil _)) | ((refine AVal.le_of_eq ?_; (conv => lhs; whnf); (first | ((rfl)) | ((simp <;> fail)) | fail))) | fail)), ?_⟩ | fail)) <;> fail))) | ((refine AVal.le_of_eq ?_; (conv => lhs; whnf); (first | ((rfl)) | ((simp <;> fail)) | fail))) | fail)), trivial⟩ ⟨rfl, trivial⟩) ?_
  rintro k ⟨hk, hq⟩
  by_cases hlt : k < pend.length
  · obtain ⟨w, hw⟩ := get_of_lt (l := pend) (k := k) (by omega)
    by_cases hb : 0 ≤ w.at_ ∧ w.at_ < secs.length ∧ w.b.length = 64
    · obtain ⟨b1, b2, b3⟩ := hb
      refine awp_seq ?_
      refine awp_seq ?_
      refine awp_region (by kernel_rfl) ?_
      apply w_move
      case hg => exact (by exact True.intro)
      case hx => conv => lhs; whnf
      case hd => exact rfl
      apply w_field_box
      case hg => exact (by exact True.intro)
      case hx => exact rfl
      case hoff => conv => lhs; whnf
      case hf => exact rfl
      case hd => exact rfl
      apply w_load_box
      case hg => exact (by exact True.intro)
      case hx => exact rfl
      case hL => exact rfl
      case hy => conv => lhs; whnf
      case ht => exact rfl
      case hd => exact rfl
      apply w_len_data
      case hg => exact (by exact True.intro)
      case hx => exact rfl
      case hT => exact rfl
      case hd => exact rfl
      apply w_bin
      case hg => exact (by exact True.intro)
      case hx => exact rfl
      case hy => exact rfl
      case hr => exact rb_lss
      case h1 => exact rfl
      case hd => exact rfl
      refine .done (by exact fun h => Bool.noConfusion h) ?_
      refine awp_cond_t rfl (by (simp only [List.length_map, List.length_take, List.length_append, decide_eq_true_eq, decide_eq_false_iff_not, ne_eq, Classical.not_not]; omega)) ?_
      refine awp_skip ?_
      refine awp_seq ?_
      refine awp_block ?_
      refine awp_seq ?_
      refine awp_region (by kernel_rfl) ?_
      apply w_field_box
      case hg => exact (by exact True.intro)
      case hx => exact rfl
      case hoff => conv => lhs; whnf
      case hf => exact rfl
      case hd => exact rfl
      apply w_load_box
      case hg => exact (by exact True.intro)
      case hx => exact rfl
      case hL => exact rfl
      case hy => conv => lhs; whnf
      case ht => exact rfl
      case hd => exact rfl
      apply w_move
      case hg => exact (by exact True.intro)
      case hx => conv => lhs; whnf
      case hd => exact rfl
      apply w_index_data
      case hg => exact (by exact True.intro)
      case hx => exact rfl
      case hi => exact rfl
      case hk => exact rfl
      case hr => exact map_get (by assumption)
      case hT => exact rfl
      case hd => exact rfl
      apply w_load_dagg
      case hg => exact (by exact True.intro)
      case hx => exact rfl
      case hsz => conv => lhs; whnf
      case ht => exact rfl
      case hy => conv => lhs; whnf
      case hlen => exact rfl
      case hd => exact rfl
      apply w_alloc (γ := 101)
      case hg => exact (by exact True.intro)
      case hz => exact rfl
      case h1 => exact rfl
      case hdead => exact rfl
      case hf => exact rfl
      case hd => exact rfl
      apply w_store
      case hg => exact (by exact True.intro)
      case hx => exact rfl
      case hL => exact rfl
      case hv => conv => lhs; whnf
      case hc => exact rfl
      case ht => exact rfl
      case hb => exact rfl
      refine .done (by exact fun h => Bool.noConfusion h) ?_
      refine awp_seq ?_
      refine awp_region (by kernel_rfl) ?_
      apply w_field_box
      case hg => exact (by exact True.intro)
      case hx => exact rfl
      case hoff => conv => lhs; whnf
      case hf => exact rfl
      case hd => exact rfl
      apply w_load_box
      case hg => exact (by exact True.intro)
      case hx => exact rfl
      case hL => exact rfl
      case hy => conv => lhs; whnf
      case ht => exact rfl
      case hd => exact rfl
      apply w_len_data
      case hg => exact (by exact True.intro)
      case hx => exact rfl
      case hT => exact rfl
      case hd => exact rfl
      apply w_bin
      case hg => exact (by exact True.intro)
      case hx => exact rfl
      case hy => exact rfl
      case hr => exact rb_neq
      case h1 => exact rfl
      case hd => exact rfl
      apply w_move
      case hg => exact (by exact True.intro)
      case hx => conv => lhs; whnf
      case hd => exact rfl
      apply w_field_box
      case hg => exact (by (exact ⟨rfl, congrArg ab (by (simp only [List.length_map, List.length_take, List.length_append, decide_eq_true_eq, decide_eq_false_iff_not, ne_eq, Classical.not_not]; omega))⟩))
      case hx => exact rfl
      case hoff => conv => lhs; whnf
      case hf => exact rfl
      case hd => exact rfl
      apply w_load_box
      case hg => exact (by (exact ⟨rfl, congrArg ab (by (simp only [List.length_map, List.length_take, List.length_append, decide_eq_true_eq, decide_eq_false_iff_not, ne_eq, Classical.not_not]; omega))⟩))
      case hx => exact rfl
      case hL => exact rfl
      case hy => conv => lhs; whnf
      case ht => exact rfl
      case hd => exact rfl
      apply w_bin
      case hg => exact (by (exact ⟨rfl, congrArg ab (by (simp only [List.length_map, List.length_take, List.length_append, decide_eq_true_eq, decide_eq_false_iff_not, ne_eq, Classical.not_not]; omega))⟩))
      case hx => exact rfl
      case hy => exact rfl
      case hr => exact rb_lss
      case h1 => exact rfl
      case hd => exact rfl
      apply w_pick_f
      case hg => exact (by exact True.intro)
      case hc => exact rfl
      case hb => exact (by (simp only [List.length_map, List.length_take, List.length_append, decide_eq_true_eq, decide_eq_false_iff_not, ne_eq, Classical.not_not]; omega))
      case hx => conv => lhs; whnf
      case hd => exact rfl
      apply w_move
      case hg => exact (by exact True.intro)
      case hx => conv => lhs; whnf
      case hd => exact rfl
      apply w_field_box
      case hg => exact (by (exact ⟨rfl, congrArg ab (by (simp only [List.length_map, List.length_take, List.length_append, decide_eq_true_eq, decide_eq_false_iff_not, ne_eq, Classical.not_not]; omega))⟩))
      case hx => exact rfl
      case hoff => conv => lhs; whnf
      case hf => exact rfl
      case hd => exact rfl
      apply w_load_box
      case hg => exact (by (exact ⟨rfl, congrArg ab (by (simp only [List.length_map, List.length_take, List.length_append, decide_eq_true_eq, decide_eq_false_iff_not, ne_eq, Classical.not_not]; omega))⟩))
      case hx => exact rfl
      case hL => exact rfl
      case hy => conv => lhs; whnf
      case ht => exact rfl
      case hd => exact rfl
      apply w_field_box
      case hg => exact (by (exact ⟨rfl, congrArg ab (by (simp only [List.length_map, List.length_take, List.length_append, decide_eq_true_eq, decide_eq_false_iff_not, ne_eq, Classical.not_not]; omega))⟩))
      case hx => exact rfl
      case hoff => conv => lhs; whnf
      case hf => exact rfl
      case hd => exact rfl
      apply w_load_box
      case hg => exact (by (exact ⟨rfl, congrArg ab (by (simp only [List.length_map, List.length_take, List.length_append, decide_eq_true_eq, decide_eq_false_iff_not, ne_eq, Classical.not_not]; omega))⟩))
      case hx => exact rfl
      case hL => exact rfl
      case hy => conv => lhs; whnf
      case ht => exact rfl
      case hd => exact rfl
      apply w_len_data
      case hg => exact (by (exact ⟨rfl, congrArg ab (by (simp only [List.length_map, List.length_take, List.length_append, decide_eq_true_eq, decide_eq_false_iff_not, ne_eq, Classical.not_not]; omega))⟩))
      case hx => exact rfl
      case hT => exact rfl
      case hd => exact rfl
      apply w_bin
      case hg => exact (by (exact ⟨rfl, congrArg ab (by (simp only [List.length_map, List.length_take, List.length_append, decide_eq_true_eq, decide_eq_false_iff_not, ne_eq, Classical.not_not]; omega))⟩))
      case hx => exact rfl
      case hy => exact rfl
      case hr => exact rb_geq
      case h1 => exact rfl
      case hd => exact rfl
      apply w_pick_f
      case hg => exact (by exact True.intro)
      case hc => exact rfl
      case hb => exact (by (simp only [List.length_map, List.length_take, List.length_append, decide_eq_true_eq, decide_eq_false_iff_not, ne_eq, Classical.not_not]; omega))
      case hx => conv => lhs; whnf
      case hd => exact rfl
      refine .done (by exact fun h => Bool.noConfusion h) ?_
      refine awp_cond_f rfl (by (simp only [List.length_map, List.length_take, List.length_append, decide_eq_true_eq, decide_eq_false_iff_not, ne_eq, Classical.not_not]; omega)) ?_
      refine awp_skip ?_
      refine awp_region (by kernel_rfl) ?_
      apply w_move
      case hg => exact (by exact True.intro)
      case hx => conv => lhs; whnf
      case hd => exact rfl
      apply w_bin
      case hg => exact (by exact True.intro)
      case hx => exact rfl
      case hy => exact rfl
      case hr => (exact rb_add64 (by unfold in64; omega))
      case h1 => exact rfl
      case hd => exact rfl
      apply w_assign
      case hg => exact (by exact True.intro)
      case hx => conv => lhs; whnf
      case hd => exact rfl
      refine .done (by exact fun h => Bool.noConfusion h) ?_
      refine ⟨k + 1, ⟨by omega, fun i t hi ht => ?_⟩, by omega, le_mk rfl ⟨(by (first | ((exact AVal.le_refl _)) | ((exact AVal.le_nil _)) | ((refine AVal.le_agg ?_; ((repeat (first | exact trivial | refine ⟨(by (first | ((exact AVal.le_refl _)) | ((exact AVal.le_nil _)) | ((refine AVal.le_of_eq ?_; (conv => lhs; whnf); (first | ((rfl)) | ((simp <;> fail)) | fail))) | fail)), ?_⟩ | fail)) <;> fail))) | ((refine AVal.le_of_eq ?_; (conv => lhs; whnf); (first | ((rfl)) | ((simp <;> fail)) | fail))) | fail)), (by (first | ((exact AVal.le_refl _)) | ((exact AVal.le_nil _)) | ((refine AVal.le_agg ?_; ((repeat (first | exact trivial | refine ⟨(by (first | ((exact AVal.le_refl _)) | ((exact AVal.le_nil _)) | ((refine AVal.le_of_eq ?_; (conv => lhs; whnf); (first | ((rfl)) | ((simp <;> fail)) | fail))) | fail)), ?_⟩ | fail)) <;> fail))) | ((refine AVal.le_of_eq ?_; (conv => lhs; whnf); (first | ((rfl)) | ((simp <;> fail)) | fail))) | fail)), trivial⟩ ⟨rfl, trivial⟩⟩
      by_cases hik : i = k
      · subst hik; rw [hw] at ht; cases ht; exact ⟨b1, b2, b3⟩
      · exact hq i t (by omega) ht
    · have hv := not_valid_w (secs := secs) (on := on) hw hb
      rw [hv]
      by_cases c3 : w.b.length ≠ 64
      · refine awp_seq ?_
        refine awp_seq ?_
        refine awp_region (by kernel_rfl) ?_
        apply w_move
        case hg => exact (by exact True.intro)
        case hx => conv => lhs; whnf
        case hd => exact rfl
        apply w_field_box
        case hg => exact (by exact True.intro)
        case hx => exact rfl
        case hoff => conv => lhs; whnf
        case hf => exact rfl
        case hd => exact rfl
        apply w_load_box
        case hg => exact (by exact True.intro)
        case hx => exact rfl
        case hL => exact rfl
        case hy => conv => lhs; whnf
        case ht => exact rfl
        case hd => exact rfl
        apply w_len_data
        case hg => exact (by exact True.intro)
        case hx => exact rfl
        case hT => exact rfl
        case hd => exact rfl
        apply w_bin
        case hg => exact (by exact True.intro)
        case hx => exact rfl
        case hy => exact rfl
        case hr => exact rb_lss
        case h1 => exact rfl
        case hd => exact rfl
        refine .done (by exact fun h => Bool.noConfusion h) ?_
        refine awp_cond_t rfl (by (simp only [List.length_map, List.length_take, List.length_append, decide_eq_true_eq, decide_eq_false_iff_not, ne_eq, Classical.not_not]; omega)) ?_
        refine awp_skip ?_
        refine awp_seq ?_
        refine awp_block ?_
        refine awp_seq ?_
        refine awp_region (by kernel_rfl) ?_
        apply w_field_box
        case hg => exact (by exact True.intro)
        case hx => exact rfl
        case hoff => conv => lhs; whnf
        case hf => exact rfl
        case hd => exact rfl
        apply w_load_box
        case hg => exact (by exact True.intro)
        case hx => exact rfl
        case hL => exact rfl
        case hy => conv => lhs; whnf
        case ht => exact rfl
        case hd => exact rfl
        apply w_move
        case hg => exact (by exact True.intro)
        case hx => conv => lhs; whnf
        case hd => exact rfl
        apply w_index_data
        case hg => exact (by exact True.intro)
        case hx => exact rfl
        case hi => exact rfl
        case hk => exact rfl
        case hr => exact map_get (by assumption)
        case hT => exact rfl
        case hd => exact rfl
        apply w_load_dagg
        case hg => exact (by exact True.intro)
        case hx => exact rfl
        case hsz => conv => lhs; whnf
        case ht => exact rfl
        case hy => conv => lhs; whnf
        case hlen => exact rfl
        case hd => exact rfl
        apply w_alloc (γ := 101)
        case hg => exact (by exact True.intro)
        case hz => exact rfl
        case h1 => exact rfl
        case hdead => exact rfl
        case hf => exact rfl
        case hd => exact rfl
        apply w_store
        case hg => exact (by exact True.intro)
        case hx => exact rfl
        case hL => exact rfl
        case hv => conv => lhs; whnf
        case hc => exact rfl
        case ht => exact rfl
        case hb => exact rfl
        refine .done (by exact fun h => Bool.noConfusion h) ?_
        refine awp_seq ?_
        refine awp_region (by kernel_rfl) ?_
        apply w_field_box
        case hg => exact (by exact True.intro)
        case hx => exact rfl
        case hoff => conv => lhs; whnf
        case hf => exact rfl
        case hd => exact rfl
        apply w_load_box
        case hg => exact (by exact True.intro)
        case hx => exact rfl
        case hL => exact rfl
        case hy => conv => lhs; whnf
        case ht => exact rfl
        case hd => exact rfl
        apply w_len_data
        case hg => exact (by exact True.intro)
        case hx => exact rfl
        case hT => exact rfl
        case hd => exact rfl
        apply w_bin
        case hg => exact (by exact True.intro)
        case hx => exact rfl
        case hy => exact rfl
        case hr => exact rb_neq
        case h1 => exact rfl
        case hd => exact rfl
        apply w_move
        case hg => exact (by exact True.intro)
        case hx => conv => lhs; whnf
        case hd => exact rfl
        apply w_skip
        case hg => (exact ⟨rfl, congrArg ab (by (simp only [List.length_map, List.length_take, List.length_append, decide_eq_true_eq, decide_eq_false_iff_not, ne_eq, Classical.not_not]; omega))⟩)
        case hd => exact rfl
        apply w_skip
        case hg => (exact ⟨rfl, congrArg ab (by (simp only [List.length_map, List.length_take, List.length_append, decide_eq_true_eq, decide_eq_false_iff_not, ne_eq, Classical.not_not]; omega))⟩)
        case hd => exact rfl
        apply w_skip
        case hg => (exact ⟨rfl, congrArg ab (by (simp only [List.length_map, List.length_take, List.length_append, decide_eq_true_eq, decide_eq_false_iff_not, ne_eq, Classical.not_not]; omega))⟩)
        case hd => exact rfl
        apply w_pick_t
        case hg => exact (by exact True.intro)
        case hc => exact rfl
        case hb => exact (by (simp only [List.length_map, List.length_take, List.length_append, decide_eq_true_eq, decide_eq_false_iff_not, ne_eq, Classical.not_not]; omega))
        case hx => conv => lhs; whnf
        case hd => exact rfl
        apply w_move
        case hg => exact (by exact True.intro)
        case hx => conv => lhs; whnf
        case hd => exact rfl
        apply w_skip
        case hg => exact ⟨rfl, rfl⟩
        case hd => exact rfl
        apply w_skip
        case hg => exact ⟨rfl, rfl⟩
        case hd => exact rfl
        apply w_skip
        case hg => exact ⟨rfl, rfl⟩
        case hd => exact rfl
        apply w_skip
        case hg => exact ⟨rfl, rfl⟩
        case hd => exact rfl
        apply w_skip
        case hg => exact ⟨rfl, rfl⟩
        case hd => exact rfl
        apply w_skip
        case hg => exact ⟨rfl, rfl⟩
        case hd => exact rfl
        apply w_pick_t
        case hg => exact (by exact True.intro)
        case hc => exact rfl
        case hb => exact (by rfl)
        case hx => conv => lhs; whnf
        case hd => exact rfl
        refine .done (by exact fun h => Bool.noConfusion h) ?_
        refine awp_cond_t rfl (by rfl) ?_
        refine awp_seq ?_
        refine awp_region (by kernel_rfl) ?_
        apply w_assign
        case hg => exact (by exact True.intro)
        case hx => conv => lhs; whnf
        case hd => exact rfl
        refine .done (by exact fun h => Bool.noConfusion h) ?_
        exact awp_ret ⟨_, St.le_refl _, ⟨rfl, trivial⟩, subL_nil _⟩
      have c3 : w.b.length = 64 := by simpa using c3
      by_cases c1 : w.at_ < 0
      · refine awp_seq ?_
        refine awp_seq ?_
        refine awp_region (by kernel_rfl) ?_
        apply w_move
        case hg => exact (by exact True.intro)
        case hx => conv => lhs; whnf
        case hd => exact rfl
        apply w_field_box
        case hg => exact (by exact True.intro)
        case hx => exact rfl
        case hoff => conv => lhs; whnf
        case hf => exact rfl
        case hd => exact rfl
        apply w_load_box
        case hg => exact (by exact True.intro)
        case hx => exact rfl
        case hL => exact rfl
        case hy => conv => lhs; whnf
        case ht => exact rfl
        case hd => exact rfl
        apply w_len_data
        case hg => exact (by exact True.intro)
        case hx => exact rfl
        case hT => exact rfl
        case hd => exact rfl
        apply w_bin
        case hg => exact (by exact True.intro)
        case hx => exact rfl
        case hy => exact rfl
        case hr => exact rb_lss
        case h1 => exact rfl
        case hd => exact rfl
        refine .done (by exact fun h => Bool.noConfusion h) ?_
        refine awp_cond_t rfl (by (simp only [List.length_map, List.length_take, List.length_append, decide_eq_true_eq, decide_eq_false_iff_not, ne_eq, Classical.not_not]; omega)) ?_
        refine awp_skip ?_
        refine awp_seq ?_
        refine awp_block ?_
        refine awp_seq ?_
        refine awp_region (by kernel_rfl) ?_
        apply w_field_box
        case hg => exact (by exact True.intro)
        case hx => exact rfl
        case hoff => conv => lhs; whnf
        case hf => exact rfl
        case hd => exact rfl
        apply w_load_box
        case hg => exact (by exact True.intro)
        case hx => exact rfl
        case hL => exact rfl
        case hy => conv => lhs; whnf
        case ht => exact rfl
        case hd => exact rfl
        apply w_move
        case hg => exact (by exact True.intro)
        case hx => conv => lhs; whnf
        case hd => exact rfl
        apply w_index_data
        case hg => exact (by exact True.intro)
        case hx => exact rfl
        case hi => exact rfl
        case hk => exact rfl
        case hr => exact map_get (by assumption)
        case hT => exact rfl
        case hd => exact rfl
        apply w_load_dagg
        case hg => exact (by exact True.intro)
        case hx => exact rfl
        case hsz => conv => lhs; whnf
        case ht => exact rfl
        case hy => conv => lhs; whnf
        case hlen => exact rfl
        case hd => exact rfl
        apply w_alloc (γ := 101)
        case hg => exact (by exact True.intro)
        case hz => exact rfl
        case h1 => exact rfl
        case hdead => exact rfl
        case hf => exact rfl
        case hd => exact rfl
        apply w_store
        case hg => exact (by exact True.intro)
        case hx => exact rfl
        case hL => exact rfl
        case hv => conv => lhs; whnf
        case hc => exact rfl
        case ht => exact rfl
        case hb => exact rfl
        refine .done (by exact fun h => Bool.noConfusion h) ?_
        refine awp_seq ?_
        refine awp_region (by kernel_rfl) ?_
        apply w_field_box
        case hg => exact (by exact True.intro)
        case hx => exact rfl
        case hoff => conv => lhs; whnf
        case hf => exact rfl
        case hd => exact rfl
        apply w_load_box
        case hg => exact (by exact True.intro)
        case hx => exact rfl
        case hL => exact rfl
        case hy => conv => lhs; whnf
        case ht => exact rfl
        case hd => exact rfl
        apply w_len_data
        case hg => exact (by exact True.intro)
        case hx => exact rfl
        case hT => exact rfl
        case hd => exact rfl
        apply w_bin
        case hg => exact (by exact True.intro)
        case hx => exact rfl
        case hy => exact rfl
        case hr => exact rb_neq
        case h1 => exact rfl
        case hd => exact rfl
        apply w_move
        case hg => exact (by exact True.intro)
        case hx => conv => lhs; whnf
        case hd => exact rfl
        apply w_field_box
        case hg => exact (by (exact ⟨rfl, congrArg ab (by (simp only [List.length_map, List.length_take, List.length_append, decide_eq_true_eq, decide_eq_false_iff_not, ne_eq, Classical.not_not]; omega))⟩))
        case hx => exact rfl
        case hoff => conv => lhs; whnf
        case hf => exact rfl
        case hd => exact rfl
        apply w_load_box
        case hg => exact (by (exact ⟨rfl, congrArg ab (by (simp only [List.length_map, List.length_take, List.length_append, decide_eq_true_eq, decide_eq_false_iff_not, ne_eq, Classical.not_not]; omega))⟩))
        case hx => exact rfl
        case hL => exact rfl
        case hy => conv => lhs; whnf
        case ht => exact rfl
        case hd => exact rfl
        apply w_bin
        case hg => exact (by (exact ⟨rfl, congrArg ab (by (simp only [List.length_map, List.length_take, List.length_append, decide_eq_true_eq, decide_eq_false_iff_not, ne_eq, Classical.not_not]; omega))⟩))
        case hx => exact rfl
        case hy => exact rfl
        case hr => exact rb_lss
        case h1 => exact rfl
        case hd => exact rfl
        apply w_pick_f
        case hg => exact (by exact True.intro)
        case hc => exact rfl
        case hb => exact (by (simp only [List.length_map, List.length_take, List.length_append, decide_eq_true_eq, decide_eq_false_iff_not, ne_eq, Classical.not_not]; omega))
        case hx => conv => lhs; whnf
        case hd => exact rfl
        apply w_move
        case hg => exact (by exact True.intro)
        case hx => conv => lhs; whnf
        case hd => exact rfl
        apply w_skip
        case hg => (exact ⟨rfl, congrArg ab (by (simp only [List.length_map, List.length_take, List.length_append, decide_eq_true_eq, decide_eq_false_iff_not, ne_eq, Classical.not_not]; omega))⟩)
        case hd => exact rfl
        apply w_skip
        case hg => (exact ⟨rfl, congrArg ab (by (simp only [List.length_map, List.length_take, List.length_append, decide_eq_true_eq, decide_eq_false_iff_not, ne_eq, Classical.not_not]; omega))⟩)
        case hd => exact rfl
        apply w_skip
        case hg => (exact ⟨rfl, congrArg ab (by (simp only [List.length_map, List.length_take, List.length_append, decide_eq_true_eq, decide_eq_false_iff_not, ne_eq, Classical.not_not]; omega))⟩)
        case hd => exact rfl
        apply w_skip
        case hg => (exact ⟨rfl, congrArg ab (by (simp only [List.length_map, List.length_take, List.length_append, decide_eq_true_eq, decide_eq_false_iff_not, ne_eq, Classical.not_not]; omega))⟩)
        case hd => exact rfl
        apply w_skip
        case hg => (exact ⟨rfl, congrArg ab (by (simp only [List.length_map, List.length_take, List.length_append, decide_eq_true_eq, decide_eq_false_iff_not, ne_eq, Classical.not_not]; omega))⟩)
        case hd => exact rfl
        apply w_skip
        case hg => (exact ⟨rfl, congrArg ab (by (simp only [List.length_map, List.length_take, List.length_append, decide_eq_true_eq, decide_eq_false_iff_not, ne_eq, Classical.not_not]; omega))⟩)
        case hd => exact rfl
        apply w_pick_t
        case hg => exact (by exact True.intro)
        case hc => exact rfl
        case hb => exact (by (simp only [List.length_map, List.length_take, List.length_append, decide_eq_true_eq, decide_eq_false_iff_not, ne_eq, Classical.not_not]; omega))
        case hx => conv => lhs; whnf
        case hd => exact rfl
        refine .done (by exact fun h => Bool.noConfusion h) ?_
        refine awp_cond_t rfl (by rfl) ?_
        refine awp_seq ?_
        refine awp_region (by kernel_rfl) ?_
        apply w_assign
        case hg => exact (by exact True.intro)
        case hx => conv => lhs; whnf
        case hd => exact rfl
        refine .done (by exact fun h => Bool.noConfusion h) ?_
        exact awp_ret ⟨_, St.le_refl _, ⟨rfl, trivial⟩, subL_nil _⟩
      have c2 : (secs.length : Int) ≤ w.at_ := by omega
      refine awp_seq ?_
      refine awp_seq ?_
      refine awp_region (by kernel_rfl) ?_
      apply w_move
      case hg => exact (by exact True.intro)
      case hx => conv => lhs; whnf
      case hd => exact rfl
      apply w_field_box
      case hg => exact (by exact True.intro)
      case hx => exact rfl
      case hoff => conv => lhs; whnf
      case hf => exact rfl
      case hd => exact rfl
      apply w_load_box
      case hg => exact (by exact True.intro)
      case hx => exact rfl
      case hL => exact rfl
      case hy => conv => lhs; whnf
      case ht => exact rfl
      case hd => exact rfl
      apply w_len_data
      case hg => exact (by exact True.intro)
      case hx => exact rfl
      case hT => exact rfl
      case hd => exact rfl
      apply w_bin
      case hg => exact (by exact True.intro)
      case hx => exact rfl
      case hy => exact rfl
      case hr => exact rb_lss
      case h1 => exact rfl
      case hd => exact rfl
      refine .done (by exact fun h => Bool.noConfusion h) ?_
      refine awp_cond_t rfl (by (simp only [List.length_map, List.length_take, List.length_append, decide_eq_true_eq, decide_eq_false_iff_not, ne_eq, Classical.not_not]; omega)) ?_
      refine awp_skip ?_
      refine awp_seq ?_
      refine awp_block ?_
      refine awp_seq ?_
      refine awp_region (by kernel_rfl) ?_
      apply w_field_box
      case hg => exact (by exact True.intro)
      case hx => exact rfl
      case hoff => conv => lhs; whnf
      case hf => exact rfl
      case hd => exact rfl
      apply w_load_box
      case hg => exact (by exact True.intro)
      case hx => exact rfl
      case hL => exact rfl
      case hy => conv => lhs; whnf
      case ht => exact rfl
      case hd => exact rfl
      apply w_move
      case hg => exact (by exact True.intro)
      case hx => conv => lhs; whnf
      case hd => exact rfl
      apply w_index_data
      case hg => exact (by exact True.intro)
      case hx => exact rfl
      case hi => exact rfl
      case hk => exact rfl
      case hr => exact map_get (by assumption)
      case hT => exact rfl
      case hd => exact rfl
      apply w_load_dagg
      case hg => exact (by exact True.intro)
      case hx => exact rfl
      case hsz => conv => lhs; whnf
      case ht => exact rfl
      case hy => conv => lhs; whnf
      case hlen => exact rfl
      case hd => exact rfl
      apply w_alloc (γ := 101)
      case hg => exact (by exact True.intro)
      case hz => exact rfl
      case h1 => exact rfl
      case hdead => exact rfl
      case hf => exact rfl
      case hd => exact rfl
      apply w_store
      case hg => exact (by exact True.intro)
      case hx => exact rfl
      case hL => exact rfl
      case hv => conv => lhs; whnf
      case hc => exact rfl
      case ht => exact rfl
      case hb => exact rfl
      refine .done (by exact fun h => Bool.noConfusion h) ?_
      refine awp_seq ?_
      refine awp_region (by kernel_rfl) ?_
      apply w_field_box
      case hg => exact (by exact True.intro)
      case hx => exact rfl
      case hoff => conv => lhs; whnf
      case hf => exact rfl
      case hd => exact rfl
      apply w_load_box
      case hg => exact (by exact True.intro)
      case hx => exact rfl
      case hL => exact rfl
      case hy => conv => lhs; whnf
      case ht => exact rfl
      case hd => exact rfl
      apply w_len_data
      case hg => exact (by exact True.intro)
      case hx => exact rfl
      case hT => exact rfl
      case hd => exact rfl
      apply w_bin
      case hg => exact (by exact True.intro)
      case hx => exact rfl
      case hy => exact rfl
      case hr => exact rb_neq
      case h1 => exact rfl
      case hd => exact rfl
      apply w_move
      case hg => exact (by exact True.intro)
      case hx => conv => lhs; whnf
      case hd => exact rfl
      apply w_field_box
      case hg => exact (by (exact ⟨rfl, congrArg ab (by (simp only [List.length_map, List.length_take, List.length_append, decide_eq_true_eq, decide_eq_false_iff_not, ne_eq, Classical.not_not]; omega))⟩))
      case hx => exact rfl
      case hoff => conv => lhs; whnf
      case hf => exact rfl
      case hd => exact rfl
      apply w_load_box
      case hg => exact (by (exact ⟨rfl, congrArg ab (by (simp only [List.length_map, List.length_take, List.length_append, decide_eq_true_eq, decide_eq_false_iff_not, ne_eq, Classical.not_not]; omega))⟩))
      case hx => exact rfl
      case hL => exact rfl
      case hy => conv => lhs; whnf
      case ht => exact rfl
      case hd => exact rfl
      apply w_bin
      case hg => exact (by (exact ⟨rfl, congrArg ab (by (simp only [List.length_map, List.length_take, List.length_append, decide_eq_true_eq, decide_eq_false_iff_not, ne_eq, Classical.not_not]; omega))⟩))
      case hx => exact rfl
      case hy => exact rfl
      case hr => exact rb_lss
      case h1 => exact rfl
      case hd => exact rfl
      apply w_pick_f
      case hg => exact (by exact True.intro)
      case hc => exact rfl
      case hb => exact (by (simp only [List.length_map, List.length_take, List.length_append, decide_eq_true_eq, decide_eq_false_iff_not, ne_eq, Classical.not_not]; omega))
      case hx => conv => lhs; whnf
      case hd => exact rfl
      apply w_move
      case hg => exact (by exact True.intro)
      case hx => conv => lhs; whnf
      case hd => exact rfl
      apply w_field_box
      case hg => exact (by (exact ⟨rfl, congrArg ab (by (simp only [List.length_map, List.length_take, List.length_append, decide_eq_true_eq, decide_eq_false_iff_not, ne_eq, Classical.not_not]; omega))⟩))
      case hx => exact rfl
      case hoff => conv => lhs; whnf
      case hf => exact rfl
      case hd => exact rfl
      apply w_load_box
      case hg => exact (by (exact ⟨rfl, congrArg ab (by (simp only [List.length_map, List.length_take, List.length_append, decide_eq_true_eq, decide_eq_false_iff_not, ne_eq, Classical.not_not]; omega))⟩))
      case hx => exact rfl
      case hL => exact rfl
      case hy => conv => lhs; whnf
      case ht => exact rfl
      case hd => exact rfl
      apply w_field_box
      case hg => exact (by (exact ⟨rfl, congrArg ab (by (simp only [List.length_map, List.length_take, List.length_append, decide_eq_true_eq, decide_eq_false_iff_not, ne_eq, Classical.not_not]; omega))⟩))
      case hx => exact rfl
      case hoff => conv => lhs; whnf
      case hf => exact rfl
      case hd => exact rfl
      apply w_load_box
      case hg => exact (by (exact ⟨rfl, congrArg ab (by (simp only [List.length_map, List.length_take, List.length_append, decide_eq_true_eq, decide_eq_false_iff_not, ne_eq, Classical.not_not]; omega))⟩))
      case hx => exact rfl
      case hL => exact rfl
      case hy => conv => lhs; whnf
      case ht => exact rfl
      case hd => exact rfl
      apply w_len_data
      case hg => exact (by (exact ⟨rfl, congrArg ab (by (simp only [List.length_map, List.length_take, List.length_append, decide_eq_true_eq, decide_eq_false_iff_not, ne_eq, Classical.not_not]; omega))⟩))
      case hx => exact rfl
      case hT => exact rfl
      case hd => exact rfl
      apply w_bin
      case hg => exact (by (exact ⟨rfl, congrArg ab (by (simp only [List.length_map, List.length_take, List.length_append, decide_eq_true_eq, decide_eq_false_iff_not, ne_eq, Classical.not_not]; omega))⟩))
      case hx => exact rfl
      case hy => exact rfl
      case hr => exact rb_geq
      case h1 => exact rfl
      case hd => exact rfl
      apply w_pick_f
      case hg => exact (by exact True.intro)
      case hc => exact rfl
      case hb => exact (by (simp only [List.length_map, List.length_take, List.length_append, decide_eq_true_eq, decide_eq_false_iff_not, ne_eq, Classical.not_not]; omega))
      case hx => conv => lhs; whnf
      case hd => exact rfl
      refine .done (by exact fun h => Bool.noConfusion h) ?_
      refine awp_cond_t rfl (by (simp only [List.length_map, List.length_take, List.length_append, decide_eq_true_eq, decide_eq_false_iff_not, ne_eq, Classical.not_not]; omega)) ?_
      refine awp_seq ?_
      refine awp_region (by kernel_rfl) ?_
      apply w_assign
      case hg => exact (by exact True.intro)
      case hx => conv => lhs; whnf
      case hd => exact rfl
      refine .done (by exact fun h => Bool.noConfusion h) ?_
      exact awp_ret ⟨_, St.le_refl _, ⟨rfl, trivial⟩, subL_nil _⟩
  obtain rfl : k = pend.length := by omega
  have hp2 : ∀ w ∈ pend, 0 ≤ w.at_ ∧ w.at_ < secs.length ∧ w.b.length = 64 := all_of_get fun i x hx => hq i x (List.getElem?_eq_some_iff.1 hx).1 hx
  have hv : validS ⟨secs, pend, on⟩ = true := by
    simp only [validS, decide_eq_true_eq]
    exact ⟨k1, k2, k3, hp1, hp2⟩
  rw [hv]
  refine awp_seq ?_
  refine awp_seq ?_
  refine awp_region (by kernel_rfl) ?_
  apply w_move
  case hg => exact (by exact True.intro)
  case hx => conv => lhs; whnf
  case hd => exact rfl
  apply w_field_box
  case hg => exact (by exact True.intro)
  case hx => exact rfl
  case hoff => conv => lhs; whnf
  case hf => exact rfl
  case hd => exact rfl
  apply w_load_box
  case hg => exact (by exact True.intro)
  case hx => exact rfl
  case hL => exact rfl
  case hy => conv => lhs; whnf
  case ht => exact rfl
  case hd => exact rfl
  apply w_len_data
  case hg => exact (by exact True.intro)
  case hx => exact rfl
  case hT => exact rfl
  case hd => exact rfl
  apply w_bin
  case hg => exact (by exact True.intro)
  case hx => exact rfl
  case hy => exact rfl
  case hr => exact rb_lss
  case h1 => exact rfl
  case hd => exact rfl
  refine .done (by exact fun h => Bool.noConfusion h) ?_
  refine awp_cond_f rfl (by (simp only [List.length_map, List.length_take, List.length_append, decide_eq_true_eq, decide_eq_false_iff_not, ne_eq, Classical.not_not]; omega)) ?_
  refine awp_exit ?_
  refine awp_seq ?_
  refine awp_region (by kernel_rfl) ?_
  apply w_assign
  case hg => exact (by exact True.intro)
  case hx => conv => lhs; whnf
  case hd => exact rfl
  refine .done (by exact fun h => Bool.noConfusion h) ?_
  exact awp_ret ⟨_, St.le_refl _, ⟨rfl, trivial⟩, subL_nil _⟩
set_option maxHeartbeats 8000000 in
theorem rusable_con (d : Disk) : Con Try.prog 31 [] [aDisk d] [] (ai (usableS d)) := by
  obtain ⟨secs, pend, on⟩ := d
  refine con_of (xs := [ai (usableS ⟨secs, pend, on⟩)]) Try.func31 rfl Try.ntmps31 rfl rfl rfl (fun E => ?_)
  cases hv : validS ⟨secs, pend, on⟩ with
  | true =>
    cases on with
    | true =>
      rw [show usableS ⟨secs, pend, true⟩ = 0 by simp only [usableS, hv]; rfl]
      refine awp_seq ?_
      refine awp_region (by kernel_rfl) ?_
      apply w_box (γ := 100)
      case hg => exact (by exact True.intro)
      case hx => conv => lhs; whnf
      case hc => exact rfl
      case hdead => exact rfl
      case hf => exact rfl
      case hm => exact rfl
      case hd => exact rfl
      apply w_assign
      case hg => exact (by exact True.intro)
      case hx => conv => lhs; whnf
      case hd => exact rfl
      refine .done (by exact fun h => Bool.noConfusion h) ?_
      refine awp_seq ?_
      refine awp_seq ?_
      refine awp_region (by kernel_rfl) ?_
      apply w_load_boxagg
      case hg => exact (by exact True.intro)
      case hx => exact rfl
      case hL => exact rfl
      case hsz => conv => lhs; whnf
      case ht => exact rfl
      case hy => conv => lhs; whnf
      case hlen => exact rfl
      case hd => exact rfl
      apply w_call (hcon := rvalid_con ⟨secs, pend, true⟩)
      case hxs => exact rfl
      case hys => conv => lhs; whnf
      case hle => (refine ⟨(by exact AVal.le_refl _), ?_⟩; exact trivial)
      case hf => exact rfl
      case hLi => (repeat (first | exact trivial | refine ⟨rfl, ?_⟩ | fail)) <;> fail
      case hin => exact rfl
      case hbox => exact rfl
      case hres => exact rfl
      case hnew => (repeat (first | exact trivial | refine ⟨rfl, ?_⟩ | fail)) <;> fail
      case hdead => (repeat (first | exact trivial | refine ⟨rfl, ?_⟩ | fail)) <;> fail
      case hd => exact rfl
      case hg => exact (by exact True.intro)
      apply w_un
      case hg => exact (by exact True.intro)
      case hx => exact rfl
      case hr => exact ru_not
      case h1 => exact rfl
      case hd => exact rfl
      refine .done (by exact fun h => Bool.noConfusion h) ?_
      refine awp_cond_f rfl (by (simp [*] <;> fail)) ?_
      refine awp_skip ?_
      refine awp_seq ?_
      refine awp_seq ?_
      refine awp_region (by kernel_rfl) ?_
      apply w_field_box
      case hg => exact (by exact True.intro)
      case hx => exact rfl
      case hoff => conv => lhs; whnf
      case hf => exact rfl
      case hd => exact rfl
      apply w_load_box
      case hg => exact (by exact True.intro)
      case hx => exact rfl
      case hL => exact rfl
      case hy => conv => lhs; whnf
      case ht => exact rfl
      case hd => exact rfl
      apply w_un
      case hg => exact (by exact True.intro)
      case hx => exact rfl
      case hr => exact ru_not
      case h1 => exact rfl
      case hd => exact rfl
      refine .done (by exact fun h => Bool.noConfusion h) ?_
      refine awp_cond_f rfl (by rfl) ?_
      refine awp_skip ?_
      refine awp_seq ?_
      refine awp_region (by kernel_rfl) ?_
      apply w_assign
      case hg => exact (by exact True.intro)
      case hx => conv => lhs; whnf
      case hd => exact rfl
      refine .done (by exact fun h => Bool.noConfusion h) ?_
      exact awp_ret ⟨_, St.le_refl _, ⟨rfl, trivial⟩, subL_nil _⟩
    | false =>
      rw [show usableS ⟨secs, pend, false⟩ = 22 by simp only [usableS, hv]; rfl]
      refine awp_seq ?_
      refine awp_region (by kernel_rfl) ?_
      apply w_box (γ := 100)
      case hg => exact (by exact True.intro)
      case hx => conv => lhs; whnf
      case hc => exact rfl
      case hdead => exact rfl
      case hf => exact rfl
      case hm => exact rfl
      case hd => exact rfl
      apply w_assign
      case hg => exact (by exact True.intro)
      case hx => conv => lhs; whnf
      case hd => exact rfl
      refine .done (by exact fun h => Bool.noConfusion h) ?_
      refine awp_seq ?_
      refine awp_seq ?_
      refine awp_region (by kernel_rfl) ?_
      apply w_load_boxagg
      case hg => exact (by exact True.intro)
      case hx => exact rfl
      case hL => exact rfl
      case hsz => conv => lhs; whnf
      case ht => exact rfl
      case hy => conv => lhs; whnf
      case hlen => exact rfl
      case hd => exact rfl
      apply w_call (hcon := rvalid_con ⟨secs, pend, false⟩)
      case hxs => exact rfl
      case hys => conv => lhs; whnf
      case hle => (refine ⟨(by exact AVal.le_refl _), ?_⟩; exact trivial)
      case hf => exact rfl
      case hLi => (repeat (first | exact trivial | refine ⟨rfl, ?_⟩ | fail)) <;> fail
      case hin => exact rfl
      case hbox => exact rfl
      case hres => exact rfl
      case hnew => (repeat (first | exact trivial | refine ⟨rfl, ?_⟩ | fail)) <;> fail
      case hdead => (repeat (first | exact trivial | refine ⟨rfl, ?_⟩ | fail)) <;> fail
      case hd => exact rfl
      case hg => exact (by exact True.intro)
      apply w_un
      case hg => exact (by exact True.intro)
      case hx => exact rfl
      case hr => exact ru_not
      case h1 => exact rfl
      case hd => exact rfl
      refine .done (by exact fun h => Bool.noConfusion h) ?_
      refine awp_cond_f rfl (by (simp [*] <;> fail)) ?_
      refine awp_skip ?_
      refine awp_seq ?_
      refine awp_seq ?_
      refine awp_region (by kernel_rfl) ?_
      apply w_field_box
      case hg => exact (by exact True.intro)
      case hx => exact rfl
      case hoff => conv => lhs; whnf
      case hf => exact rfl
      case hd => exact rfl
      apply w_load_box
      case hg => exact (by exact True.intro)
      case hx => exact rfl
      case hL => exact rfl
      case hy => conv => lhs; whnf
      case ht => exact rfl
      case hd => exact rfl
      apply w_un
      case hg => exact (by exact True.intro)
      case hx => exact rfl
      case hr => exact ru_not
      case h1 => exact rfl
      case hd => exact rfl
      refine .done (by exact fun h => Bool.noConfusion h) ?_
      refine awp_cond_t rfl (by rfl) ?_
      refine awp_seq ?_
      refine awp_region (by kernel_rfl) ?_
      apply w_assign
      case hg => exact (by exact True.intro)
      case hx => conv => lhs; whnf
      case hd => exact rfl
      refine .done (by exact fun h => Bool.noConfusion h) ?_
      exact awp_ret ⟨_, St.le_refl _, ⟨rfl, trivial⟩, subL_nil _⟩
  | false =>
    rw [show usableS ⟨secs, pend, on⟩ = 1 by simp only [usableS, hv]; rfl]
    refine awp_seq ?_
    refine awp_region (by kernel_rfl) ?_
    apply w_box (γ := 100)
    case hg => exact (by exact True.intro)
    case hx => conv => lhs; whnf
    case hc => exact rfl
    case hdead => exact rfl
    case hf => exact rfl
    case hm => exact rfl
    case hd => exact rfl
    apply w_assign
    case hg => exact (by exact True.intro)
    case hx => conv => lhs; whnf
    case hd => exact rfl
    refine .done (by exact fun h => Bool.noConfusion h) ?_
    refine awp_seq ?_
    refine awp_seq ?_
    refine awp_region (by kernel_rfl) ?_
    apply w_load_boxagg
    case hg => exact (by exact True.intro)
    case hx => exact rfl
    case hL => exact rfl
    case hsz => conv => lhs; whnf
    case ht => exact rfl
    case hy => conv => lhs; whnf
    case hlen => exact rfl
    case hd => exact rfl
    apply w_call (hcon := rvalid_con ⟨secs, pend, on⟩)
    case hxs => exact rfl
    case hys => conv => lhs; whnf
    case hle => (refine ⟨(by exact AVal.le_refl _), ?_⟩; exact trivial)
    case hf => exact rfl
    case hLi => (repeat (first | exact trivial | refine ⟨rfl, ?_⟩ | fail)) <;> fail
    case hin => exact rfl
    case hbox => exact rfl
    case hres => exact rfl
    case hnew => (repeat (first | exact trivial | refine ⟨rfl, ?_⟩ | fail)) <;> fail
    case hdead => (repeat (first | exact trivial | refine ⟨rfl, ?_⟩ | fail)) <;> fail
    case hd => exact rfl
    case hg => exact (by exact True.intro)
    apply w_un
    case hg => exact (by exact True.intro)
    case hx => exact rfl
    case hr => exact ru_not
    case h1 => exact rfl
    case hd => exact rfl
    refine .done (by exact fun h => Bool.noConfusion h) ?_
    refine awp_cond_t rfl (by (simp [*] <;> fail)) ?_
    refine awp_seq ?_
    refine awp_region (by kernel_rfl) ?_
    apply w_assign
    case hg => exact (by exact True.intro)
    case hx => conv => lhs; whnf
    case hd => exact rfl
    refine .done (by exact fun h => Bool.noConfusion h) ?_
    exact awp_ret ⟨_, St.le_refl _, ⟨rfl, trivial⟩, subL_nil _⟩
end Go.Fw

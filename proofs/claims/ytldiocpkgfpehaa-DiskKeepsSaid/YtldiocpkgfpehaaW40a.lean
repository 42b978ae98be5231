import Derived.Test.YtldiocpkgfpehaaChecked
import Derived.Test.YtldiocpkgfpehaaP40
import Derived.Test.YtldiocpkgfpehaaFwM
namespace Go.Fw
open Go Go.Proofs
set_option linter.unusedVariables false
set_option linter.unusedSimpArgs false
set_option maxHeartbeats 4000000 in
theorem few_con (d : Disk) : Con Try.prog 9 [] [aDisk d] [] (ab (fewS d)) := by
  refine con_of (xs := [ab (fewS d)]) Try.func9 rfl Try.ntmps9 rfl rfl rfl (fun E => ?_)
  by_cases h1 : 20 < d.sectors.length
  · have hv : fewS d = false := by simp only [fewS, decide_eq_false_iff_not]; omega
    refine awp_seq ?_
    refine awp_region (by kernel_rfl) ?_
    apply w_box (γ := 100)
    case hg => exact (by exact True.intro)
    case hx => conv => lhs; whnf
    case hc => exact rfl
    case hdead => exact rfl
    case hf => exact rfl
    case hm => exact rfl
    case hd => exact rfl
    apply w_assign
    case hg => exact (by exact True.intro)
    case hx => conv => lhs; whnf
    case hd => exact rfl
    refine .done (by exact fun h => Bool.noConfusion h) ?_
    refine awp_seq ?_
    refine awp_seq ?_
    refine awp_region (by kernel_rfl) ?_
    apply w_field_box
    case hg => exact (by exact True.intro)
    case hx => exact rfl
    case hoff => conv => lhs; whnf
    case hf => exact rfl
    case hd => exact rfl
    apply w_load_box
    case hg => exact (by exact True.intro)
    case hx => exact rfl
    case hL => exact rfl
    case hy => conv => lhs; whnf
    case ht => exact rfl
    case hd => exact rfl
    apply w_len_data
    case hg => exact (by exact True.intro)
    case hx => exact rfl
    case hT => exact rfl
    case hd => exact rfl
    apply w_bin
    case hg => exact (by exact True.intro)
    case hx => exact rfl
    case hy => exact rfl
    case hr => exact rb_gtr
    case h1 => exact rfl
    case hd => exact rfl
    apply w_move
    case hg => exact (by exact True.intro)
    case hx => conv => lhs; whnf
    case hd => exact rfl
    apply w_skip
    case hg => (exact ⟨rfl, congrArg ab (by (simp only [List.length_map, List.length_take, List.length_append, decide_eq_true_eq, decide_eq_false_iff_not, ne_eq, Classical.not_not]; omega))⟩)
    case hd => exact rfl
    apply w_skip
    case hg => (exact ⟨rfl, congrArg ab (by (simp only [List.length_map, List.length_take, List.length_append, decide_eq_true_eq, decide_eq_false_iff_not, ne_eq, Classical.not_not]; omega))⟩)
    case hd => exact rfl
    apply w_skip
    case hg => (exact ⟨rfl, congrArg ab (by (simp only [List.length_map, List.length_take, List.length_append, decide_eq_true_eq, decide_eq_false_iff_not, ne_eq, Classical.not_not]; omega))⟩)
    case hd => exact rfl
    apply w_skip
    case hg => (exact ⟨rfl, congrArg ab (by (simp only [List.length_map, List.length_take, List.length_append, decide_eq_true_eq, decide_eq_false_iff_not, ne_eq, Classical.not_not]; omega))⟩)
    case hd => exact rfl
    apply w_pick_t
    case hg => exact (by exact True.intro)
    case hc => exact rfl
    case hb => exact (by (simp only [List.length_map, List.length_take, List.length_append, decide_eq_true_eq, decide_eq_false_iff_not, ne_eq, Classical.not_not]; omega))
    case hx => conv => lhs; whnf
    case hd => exact rfl
    refine .done (by exact fun h => Bool.noConfusion h) ?_
    refine awp_cond_t rfl (by rfl) ?_
    refine awp_seq ?_
    refine awp_region (by kernel_rfl) ?_
    apply w_assign
    case hg => exact (by exact True.intro)
    case hx => conv => lhs; whnf
    case hd => exact rfl
    refine .done (by exact fun h => Bool.noConfusion h) ?_
    exact awp_ret ⟨_, le_slot 2 (AVal.le_of_eq (by rw [hv]; rfl)), ⟨rfl, trivial⟩, subL_nil _⟩
  by_cases h2 : 30 < d.pending.length
  · have hv : fewS d = false := by simp only [fewS, decide_eq_false_iff_not]; omega
    refine awp_seq ?_
    refine awp_region (by kernel_rfl) ?_
    apply w_box (γ := 100)
    case hg => exact (by exact True.intro)
    case hx => conv => lhs; whnf
    case hc => exact rfl
    case hdead => exact rfl
    case hf => exact rfl
    case hm => exact rfl
    case hd => exact rfl
    apply w_assign
    case hg => exact (by exact True.intro)
    case hx => conv => lhs; whnf
    case hd => exact rfl
    refine .done (by exact fun h => Bool.noConfusion h) ?_
    refine awp_seq ?_
    refine awp_seq ?_
    refine awp_region (by kernel_rfl) ?_
    apply w_field_box
    case hg => exact (by exact True.intro)
    case hx => exact rfl
    case hoff => conv => lhs; whnf
    case hf => exact rfl
    case hd => exact rfl
    apply w_load_box
    case hg => exact (by exact True.intro)
    case hx => exact rfl
    case hL => exact rfl
    case hy => conv => lhs; whnf
    case ht => exact rfl
    case hd => exact rfl
    apply w_len_data
    case hg => exact (by exact True.intro)
    case hx => exact rfl
    case hT => exact rfl
    case hd => exact rfl
    apply w_bin
    case hg => exact (by exact True.intro)
    case hx => exact rfl
    case hy => exact rfl
    case hr => exact rb_gtr
    case h1 => exact rfl
    case hd => exact rfl
    apply w_move
    case hg => exact (by exact True.intro)
    case hx => conv => lhs; whnf
    case hd => exact rfl
    apply w_field_box
    case hg => exact (by (exact ⟨rfl, congrArg ab (by (simp only [List.length_map, List.length_take, List.length_append, decide_eq_true_eq, decide_eq_false_iff_not, ne_eq, Classical.not_not]; omega))⟩))
    case hx => exact rfl
    case hoff => conv => lhs; whnf
    case hf => exact rfl
    case hd => exact rfl
    apply w_load_box
    case hg => exact (by (exact ⟨rfl, congrArg ab (by (simp only [List.length_map, List.length_take, List.length_append, decide_eq_true_eq, decide_eq_false_iff_not, ne_eq, Classical.not_not]; omega))⟩))
    case hx => exact rfl
    case hL => exact rfl
    case hy => conv => lhs; whnf
    case ht => exact rfl
    case hd => exact rfl
    apply w_len_data
    case hg => exact (by (exact ⟨rfl, congrArg ab (by (simp only [List.length_map, List.length_take, List.length_append, decide_eq_true_eq, decide_eq_false_iff_not, ne_eq, Classical.not_not]; omega))⟩))
    case hx => exact rfl
    case hT => exact rfl
    case hd => exact rfl
    apply w_bin
    case hg => exact (by (exact ⟨rfl, congrArg ab (by (simp only [List.length_map, List.length_take, List.length_append, decide_eq_true_eq, decide_eq_false_iff_not, ne_eq, Classical.not_not]; omega))⟩))
    case hx => exact rfl
    case hy => exact rfl
    case hr => exact rb_gtr
    case h1 => exact rfl
    case hd => exact rfl
    apply w_pick_f
    case hg => exact (by exact True.intro)
    case hc => exact rfl
    case hb => exact (by (simp only [List.length_map, List.length_take, List.length_append, decide_eq_true_eq, decide_eq_false_iff_not, ne_eq, Classical.not_not]; omega))
    case hx => conv => lhs; whnf
    case hd => exact rfl
    refine .done (by exact fun h => Bool.noConfusion h) ?_
    refine awp_cond_t rfl (by (simp only [List.length_map, List.length_take, List.length_append, decide_eq_true_eq, decide_eq_false_iff_not, ne_eq, Classical.not_not]; omega)) ?_
    refine awp_seq ?_
    refine awp_region (by kernel_rfl) ?_
    apply w_assign
    case hg => exact (by exact True.intro)
    case hx => conv => lhs; whnf
    case hd => exact rfl
    refine .done (by exact fun h => Bool.noConfusion h) ?_
    exact awp_ret ⟨_, le_slot 2 (AVal.le_of_eq (by rw [hv]; rfl)), ⟨rfl, trivial⟩, subL_nil _⟩
  refine awp_seq ?_
  refine awp_region (by kernel_rfl) ?_
  apply w_box (γ := 100)
  case hg => exact (by exact True.intro)
  case hx => conv => lhs; whnf
  case hc => exact rfl
  case hdead => exact rfl
  case hf => exact rfl
  case hm => exact rfl
  case hd => exact rfl
  apply w_assign
  case hg => exact (by exact True.intro)
  case hx => conv => lhs; whnf
  case hd => exact rfl
  refine .done (by exact fun h => Bool.noConfusion h) ?_
  refine awp_seq ?_
  refine awp_seq ?_
  refine awp_region (by kernel_rfl) ?_
  apply w_field_box
  case hg => exact (by exact True.intro)
  case hx => exact rfl
  case hoff => conv => lhs; whnf
  case hf => exact rfl
  case hd => exact rfl
  apply w_load_box
  case hg => exact (by exact True.intro)
  case hx => exact rfl
  case hL => exact rfl
  case hy => conv => lhs; whnf
  case ht => exact rfl
  case hd => exact rfl
  apply w_len_data
  case hg => exact (by exact True.intro)
  case hx => exact rfl
  case hT => exact rfl
  case hd => exact rfl
  apply w_bin
  case hg => exact (by exact True.intro)
  case hx => exact rfl
  case hy => exact rfl
  case hr => exact rb_gtr
  case h1 => exact rfl
  case hd => exact rfl
  apply w_move
  case hg => exact (by exact True.intro)
  case hx => conv => lhs; whnf
  case hd => exact rfl
  apply w_field_box
  case hg => exact (by (exact ⟨rfl, congrArg ab (by (simp only [List.length_map, List.length_take, List.length_append, decide_eq_true_eq, decide_eq_false_iff_not, ne_eq, Classical.not_not]; omega))⟩))
  case hx => exact rfl
  case hoff => conv => lhs; whnf
  case hf => exact rfl
  case hd => exact rfl
  apply w_load_box
  case hg => exact (by (exact ⟨rfl, congrArg ab (by (simp only [List.length_map, List.length_take, List.length_append, decide_eq_true_eq, decide_eq_false_iff_not, ne_eq, Classical.not_not]; omega))⟩))
  case hx => exact rfl
  case hL => exact rfl
  case hy => conv => lhs; whnf
  case ht => exact rfl
  case hd => exact rfl
  apply w_len_data
  case hg => exact (by (exact ⟨rfl, congrArg ab (by (simp only [List.length_map, List.length_take, List.length_append, decide_eq_true_eq, decide_eq_false_iff_not, ne_eq, Classical.not_not]; omega))⟩))
  case hx => exact rfl
  case hT => exact rfl
  case hd => exact rfl
  apply w_bin
  case hg => exact (by (exact ⟨rfl, congrArg ab (by (simp only [List.length_map, List.length_take, List.length_append, decide_eq_true_eq, decide_eq_false_iff_not, ne_eq, Classical.not_not]; omega))⟩))
  case hx => exact rfl
  case hy => exact rfl
  case hr => exact rb_gtr
  case h1 => exact rfl
  case hd => exact rfl
  apply w_pick_f
  case hg => exact (by exact True.intro)
  case hc => exact rfl
  case hb => exact (by (simp only [List.length_map, List.length_take, List.length_append, decide_eq_true_eq, decide_eq_false_iff_not, ne_eq, Classical.not_not]; omega))
  case hx => conv => lhs; whnf
  case hd => exact rfl
  refine .done (by exact fun h => Bool.noConfusion h) ?_
  refine awp_cond_f rfl (by (simp only [List.length_map, List.length_take, List.length_append, decide_eq_true_eq, decide_eq_false_iff_not, ne_eq, Classical.not_not]; omega)) ?_
  refine awp_skip ?_
  refine awp_seq ?_
  refine awp_seq ?_
  refine awp_region (by kernel_rfl) ?_
  apply w_assign
  case hg => exact (by exact True.intro)
  case hx => conv => lhs; whnf
  case hd => exact rfl
  refine .done (by exact fun h => Bool.noConfusion h) ?_
  refine awp_block ?_
  refine awp_loopI (fun k : Nat => k ≤ d.sectors.length ∧ ∀ (i : Nat) s, i < k → d.sectors[i]? = some s → s.length ≤ 200) (fun k => ⟨44, [(1, .ptr 100 0), (3, ai k)], [(100, .box (aDisk d).parts)]⟩) (fun k => d.sectors.length - k) 0 ⟨by omega, by omega⟩
    (le_mk rfl ⟨(by (first | ((exact AVal.le_refl _)) | ((exact AVal.le_nil _)) | ((refine AVal.le_agg ?_; ((repeat (first | exact trivial | refine ⟨(by (first | ((exact AVal.le_refl _)) | ((exact AVal.le_nil _)) | ((refine AVal.le_of_eq ?_; (conv => lhs; whnf); (first | ((rfl)) | ((simp <;> fail)) | fail))) | fail)), ?_⟩ | fail)) <;> fail))) | ((refine AVal.le_of_eq ?_; (conv => lhs; whnf); (first | ((rfl)) | ((simp <;> fail)) | fail))) | fail)), (by (first | ((exact AVal.le_refl _)) | ((exact AVal.le_nil _)) | ((refine AVal.le_agg ?_; ((repeat (first | exact trivial | refine ⟨(by (first | ((exact AVal.le_refl _)) | ((exact AVal.le_nil _)) | ((refine AVal.le_of_eq ?_; (conv => lhs; whnf); (first | ((rfl)) | ((simp <;> fail)) | fail))) | fail)), ?_⟩ | fail)) <;> fail))) | ((refine AVal.le_of_eq ?_; (conv => lhs; whnf); (first | ((rfl)) | ((simp <;> fail)) | fail))) | fail)), trivial⟩ ⟨rfl, trivial⟩) ?_
  rintro k ⟨hk, hp⟩
  refine awp_seq ?_
  refine awp_seq ?_
  refine awp_region (by kernel_rfl) ?_
  apply w_move
  case hg => exact (by exact True.intro)
  case hx => conv => lhs; whnf
  case hd => exact rfl
  apply w_field_box
  case hg => exact (by exact True.intro)
  case hx => exact rfl
  case hoff => conv => lhs; whnf
  case hf => exact rfl
  case hd => exact rfl
  apply w_load_box
  case hg => exact (by exact True.intro)
  case hx => exact rfl
  case hL => exact rfl
  case hy => conv => lhs; whnf
  case ht => exact rfl
  case hd => exact rfl
  apply w_len_data
  case hg => exact (by exact True.intro)
  case hx => exact rfl
  case hT => exact rfl
  case hd => exact rfl
  apply w_bin
  case hg => exact (by exact True.intro)
  case hx => exact rfl
  case hy => exact rfl
  case hr => exact rb_lss
  case h1 => exact rfl
  case hd => exact rfl
  refine .done (by exact fun h => Bool.noConfusion h) ?_
  refine awp_cond rfl (fun h => ?_) (fun h => ?_)
  · have h := of_decide_eq_true h
    simp only [List.length_map] at h
    obtain ⟨s, hs⟩ := get_of_lt (l := d.sectors) (k := k) (by omega)
    by_cases h3 : 200 < s.length
    · have hv : fewS d = false := by
        simp only [fewS, decide_eq_false_iff_not]
        intro hf
        have := hf.2.2.1 s (List.mem_of_getElem? hs)
        omega
      refine awp_skip ?_
      refine awp_seq ?_
      refine awp_block ?_
      refine awp_seq ?_
      refine awp_region (by kernel_rfl) ?_
      apply w_field_box
      case hg => exact (by exact True.intro)
      case hx => exact rfl
      case hoff => conv => lhs; whnf
      case hf => exact rfl
      case hd => exact rfl
      apply w_load_box
      case hg => exact (by exact True.intro)
      case hx => exact rfl
      case hL => exact rfl
      case hy => conv => lhs; whnf
      case ht => exact rfl
      case hd => exact rfl
      apply w_move
      case hg => exact (by exact True.intro)
      case hx => conv => lhs; whnf
      case hd => exact rfl
      apply w_index_data
      case hg => exact (by exact True.intro)
      case hx => exact rfl
      case hi => exact rfl
      case hk => exact rfl
      case hr => exact map_get (by assumption)
      case hT => exact rfl
      case hd => exact rfl
      apply w_load_d
      case hg => exact (by exact True.intro)
      case hx => exact rfl
      case ht => exact rfl
      case hd => exact rfl
      apply w_len_data
      case hg => exact (by exact True.intro)
      case hx => exact rfl
      case hT => exact rfl
      case hd => exact rfl
      apply w_bin
      case hg => exact (by exact True.intro)
      case hx => exact rfl
      case hy => exact rfl
      case hr => exact rb_gtr
      case h1 => exact rfl
      case hd => exact rfl
      refine .done (by exact fun h => Bool.noConfusion h) ?_
      refine awp_cond_t rfl (by (simp only [List.length_map, List.length_take, List.length_append, decide_eq_true_eq, decide_eq_false_iff_not, ne_eq, Classical.not_not]; omega)) ?_
      refine awp_seq ?_
      refine awp_region (by kernel_rfl) ?_
      apply w_assign
      case hg => exact (by exact True.intro)
      case hx => conv => lhs; whnf
      case hd => exact rfl
      refine .done (by exact fun h => Bool.noConfusion h) ?_
      exact awp_ret ⟨_, le_slot 2 (AVal.le_of_eq (by rw [hv]; rfl)), ⟨rfl, trivial⟩, subL_nil _⟩
    · refine awp_skip ?_
      refine awp_seq ?_
      refine awp_block ?_
      refine awp_seq ?_
      refine awp_region (by kernel_rfl) ?_
      apply w_field_box
      case hg => exact (by exact True.intro)
      case hx => exact rfl
      case hoff => conv => lhs; whnf
      case hf => exact rfl
      case hd => exact rfl
      apply w_load_box
      case hg => exact (by exact True.intro)
      case hx => exact rfl
      case hL => exact rfl
      case hy => conv => lhs; whnf
      case ht => exact rfl
      case hd => exact rfl
      apply w_move
      case hg => exact (by exact True.intro)
      case hx => conv => lhs; whnf
      case hd => exact rfl
      apply w_index_data
      case hg => exact (by exact True.intro)
      case hx => exact rfl
      case hi => exact rfl
      case hk => exact rfl
      case hr => exact map_get (by assumption)
      case hT => exact rfl
      case hd => exact rfl
      apply w_load_d
      case hg => exact (by exact True.intro)
      case hx => exact rfl
      case ht => exact rfl
      case hd => exact rfl
      apply w_len_data
      case hg => exact (by exact True.intro)
      case hx => exact rfl
      case hT => exact rfl
      case hd => exact rfl
      apply w_bin
      case hg => exact (by exact True.intro)
      case hx => exact rfl
      case hy => exact rfl
      case hr => exact rb_gtr
      case h1 => exact rfl
      case hd => exact rfl
      refine .done (by exact fun h => Bool.noConfusion h) ?_
      refine awp_cond_f rfl (by (simp only [List.length_map, List.length_take, List.length_append, decide_eq_true_eq, decide_eq_false_iff_not, ne_eq, Classical.not_not]; omega)) ?_
      refine awp_skip ?_
      refine awp_region (by kernel_rfl) ?_
      apply w_move
      case hg => exact (by exact True.intro)
      case hx => conv => lhs; whnf
      case hd => exact rfl
      apply w_bin
      case hg => exact (by exact True.intro)
      case hx => exact rfl
      case hy => exact rfl
      case hr => (exact rb_add64 (by unfold in64; omega))
      case h1 => exact rfl
      case hd => exact rfl
      apply w_assign
      case hg => exact (by exact True.intro)
      case hx => conv => lhs; whnf
      case hd => exact rfl
      refine .done (by exact fun h => Bool.noConfusion h) ?_
      refine ⟨k + 1, ⟨by omega, fun i t hi ht => ?_⟩, by omega, le_mk rfl ⟨(by (first | ((exact AVal.le_refl _)) | ((exact AVal.le_nil _)) | ((refine AVal.le_agg ?_; ((repeat (first | exact trivial | refine ⟨(by (first | ((exact AVal.le_refl _)) | ((exact AVal.le_nil _)) | ((refine AVal.le_of_eq ?_; (conv => lhs; whnf); (first | ((rfl)) | ((simp <;> fail)) | fail))) | fail)), ?_⟩ | fail)) <;> fail))) | ((refine AVal.le_of_eq ?_; (conv => lhs; whnf); (first | ((rfl)) | ((simp <;> fail)) | fail))) | fail)), (by (first | ((exact AVal.le_refl _)) | ((exact AVal.le_nil _)) | ((refine AVal.le_agg ?_; ((repeat (first | exact trivial | refine ⟨(by (first | ((exact AVal.le_refl _)) | ((exact AVal.le_nil _)) | ((refine AVal.le_of_eq ?_; (conv => lhs; whnf); (first | ((rfl)) | ((simp <;> fail)) | fail))) | fail)), ?_⟩ | fail)) <;> fail))) | ((refine AVal.le_of_eq ?_; (conv => lhs; whnf); (first | ((rfl)) | ((simp <;> fail)) | fail))) | fail)), trivial⟩ ⟨rfl, trivial⟩⟩
      by_cases hik : i = k
      · subst hik; rw [hs] at ht; cases ht; omega
      · exact hp i t (by omega) ht
  · have h := of_decide_eq_false h
    simp only [List.length_map] at h
    obtain rfl : k = d.sectors.length := by omega
    have hp1 : ∀ s ∈ d.sectors, s.length ≤ 200 := all_of_get fun i x hx => hp i x (List.getElem?_eq_some_iff.1 hx).1 hx
    refine awp_exit ?_
    refine awp_seq ?_
    refine awp_seq ?_
    refine awp_region (by kernel_rfl) ?_
    apply w_assign
    case hg => exact (by exact True.intro)
    case hx => conv => lhs; whnf
    case hd => exact rfl
    refine .done (by exact fun h => Bool.noConfusion h) ?_
    refine awp_block ?_
    refine awp_loopI (fun k : Nat => k ≤ d.pending.length ∧ ∀ (i : Nat) w, i < k → d.pending[i]? = some w → w.b.length ≤ 200) (fun k => ⟨44, [(1, .ptr 100 0), (4, ai k)], [(100, .box (aDisk d).parts)]⟩) (fun k => d.pending.length - k) 0 ⟨by omega, by omega⟩
      (le_mk rfl ⟨(by (first | ((exact AVal.le_refl _)) | ((exact AVal.le_nil _)) | ((refine AVal.le_agg ?_; ((repeat (first | exact trivial | refine ⟨(by (first | ((exact AVal.le_refl _)) | ((exact AVal.le_nil _)) | ((refine AVal.le_of_eq ?_; (conv => lhs; whnf); (first | ((rfl)) | ((simp <;> fail)) | fail))) | fail)), ?_⟩ | fail)) <;> fail))) | ((refine AVal.le_of_eq ?_; (conv => lhs; whnf); (first | ((rfl)) | ((simp <;> fail)) | fail))) | fail)), (by (first | ((exact AVal.le_refl _)) | ((exact AVal.le_nil _)) | ((refine AVal.le_agg ?_; ((repeat (first | exact trivial | refine ⟨(by (first | ((exact AVal.le_refl _)) | ((exact AVal.le_nil _)) | ((refine AVal.le_of_eq ?_; (conv => lhs; whnf); (first | ((rfl)) | ((simp <;> fail)) | fail))) | fail)), ?_⟩ | fail)) <;> fail))) | ((refine AVal.le_of_eq ?_; (conv => lhs; whnf); (first | ((rfl)) | ((simp <;> fail)) | fail))) | fail)), trivial⟩ ⟨rfl, trivial⟩) ?_
    rintro k ⟨hk, hq⟩
    refine awp_seq ?_
    refine awp_seq ?_
    refine awp_region (by kernel_rfl) ?_
    apply w_move
    case hg => exact (by exact True.intro)
    case hx => conv => lhs; whnf
    case hd => exact rfl
    apply w_field_box
    case hg => exact (by exact True.intro)
    case hx => exact rfl
    case hoff => conv => lhs; whnf
    case hf => exact rfl
    case hd => exact rfl
    apply w_load_box
    case hg => exact (by exact True.intro)
    case hx => exact rfl
    case hL => exact rfl
    case hy => conv => lhs; whnf
    case ht => exact rfl
    case hd => exact rfl
    apply w_len_data
    case hg => exact (by exact True.intro)
    case hx => exact rfl
    case hT => exact rfl
    case hd => exact rfl
    apply w_bin
    case hg => exact (by exact True.intro)
    case hx => exact rfl
    case hy => exact rfl
    case hr => exact rb_lss
    case h1 => exact rfl
    case hd => exact rfl
    refine .done (by exact fun h => Bool.noConfusion h) ?_
    refine awp_cond rfl (fun h => ?_) (fun h => ?_)
    · have h := of_decide_eq_true h
      simp only [List.length_map] at h
      obtain ⟨s, hs⟩ := get_of_lt (l := d.pending) (k := k) (by omega)
      by_cases h3 : 200 < s.b.length
      · have hv : fewS d = false := by
          simp only [fewS, decide_eq_false_iff_not]
          intro hf
          have := hf.2.2.2 s (List.mem_of_getElem? hs)
          omega
        refine awp_skip ?_
        refine awp_seq ?_
        refine awp_block ?_
        refine awp_seq ?_
        refine awp_region (by kernel_rfl) ?_
        apply w_field_box
        case hg => exact (by exact True.intro)
        case hx => exact rfl
        case hoff => conv => lhs; whnf
        case hf => exact rfl
        case hd => exact rfl
        apply w_load_box
        case hg => exact (by exact True.intro)
        case hx => exact rfl
        case hL => exact rfl
        case hy => conv => lhs; whnf
        case ht => exact rfl
        case hd => exact rfl
        apply w_move
        case hg => exact (by exact True.intro)
        case hx => conv => lhs; whnf
        case hd => exact rfl
        apply w_index_data
        case hg => exact (by exact True.intro)
        case hx => exact rfl
        case hi => exact rfl
        case hk => exact rfl
        case hr => exact map_get (by assumption)
        case hT => exact rfl
        case hd => exact rfl
        apply w_field_d
        case hg => exact (by exact True.intro)
        case hx => exact rfl
        case hoff => conv => lhs; whnf
        case hf => exact rfl
        case hd => exact rfl
        apply w_load_d
        case hg => exact (by exact True.intro)
        case hx => exact rfl
        case ht => exact rfl
        case hd => exact rfl
        apply w_len_data
        case hg => exact (by exact True.intro)
        case hx => exact rfl
        case hT => exact rfl
        case hd => exact rfl
        apply w_bin
        case hg => exact (by exact True.intro)
        case hx => exact rfl
        case hy => exact rfl
        case hr => exact rb_gtr
        case h1 => exact rfl
        case hd => exact rfl
        refine .done (by exact fun h => Bool.noConfusion h) ?_
        refine awp_cond_t rfl (by (simp only [List.length_map, List.length_take, List.length_append, decide_eq_true_eq, decide_eq_false_iff_not, ne_eq, Classical.not_not]; omega)) ?_
        refine awp_seq ?_
        refine awp_region (by kernel_rfl) ?_
        apply w_assign
        case hg => exact (by exact True.intro)
        case hx => conv => lhs; whnf
        case hd => exact rfl
        refine .done (by exact fun h => Bool.noConfusion h) ?_
        exact awp_ret ⟨_, le_slot 2 (AVal.le_of_eq (by rw [hv]; rfl)), ⟨rfl, trivial⟩, subL_nil _⟩
      · refine awp_skip ?_
        refine awp_seq ?_
        refine awp_block ?_
        refine awp_seq ?_
        refine awp_region (by kernel_rfl) ?_
        apply w_field_box
        case hg => exact (by exact True.intro)
        case hx => exact rfl
        case hoff => conv => lhs; whnf
        case hf => exact rfl
        case hd => exact rfl
        apply w_load_box
        case hg => exact (by exact True.intro)
        case hx => exact rfl
        case hL => exact rfl
        case hy => conv => lhs; whnf
        case ht => exact rfl
        case hd => exact rfl
        apply w_move
        case hg => exact (by exact True.intro)
        case hx => conv => lhs; whnf
        case hd => exact rfl
        apply w_index_data
        case hg => exact (by exact True.intro)
        case hx => exact rfl
        case hi => exact rfl
        case hk => exact rfl
        case hr => exact map_get (by assumption)
        case hT => exact rfl
        case hd => exact rfl
        apply w_field_d
        case hg => exact (by exact True.intro)
        case hx => exact rfl
        case hoff => conv => lhs; whnf
        case hf => exact rfl
        case hd => exact rfl
        apply w_load_d
        case hg => exact (by exact True.intro)
        case hx => exact rfl
        case ht => exact rfl
        case hd => exact rfl
        apply w_len_data
        case hg => exact (by exact True.intro)
        case hx => exact rfl
        case hT => exact rfl
        case hd => exact rfl
        apply w_bin
        case hg => exact (by exact True.intro)
        case hx => exact rfl
        case hy => exact rfl
        case hr => exact rb_gtr
        case h1 => exact rfl
        case hd => exact rfl
        refine .done (by exact fun h => Bool.noConfusion h) ?_
        refine awp_cond_f rfl (by (simp only [List.length_map, List.length_take, List.length_append, decide_eq_true_eq, decide_eq_false_iff_not, ne_eq, Classical.not_not]; omega)) ?_
        refine awp_skip ?_
        refine awp_region (by kernel_rfl) ?_
        apply w_move
        case hg => exact (by exact True.intro)
        case hx => conv => lhs; whnf
        case hd => exact rfl
        apply w_bin
        case hg => exact (by exact True.intro)
        case hx => exact rfl
        case hy => exact rfl
        case hr => (exact rb_add64 (by unfold in64; omega))
        case h1 => exact rfl
        case hd => exact rfl
        apply w_assign
        case hg => exact (by exact True.intro)
        case hx => conv => lhs; whnf
        case hd => exact rfl
        refine .done (by exact fun h => Bool.noConfusion h) ?_
        refine ⟨k + 1, ⟨by omega, fun i t hi ht => ?_⟩, by omega, le_mk rfl ⟨(by (first | ((exact AVal.le_refl _)) | ((exact AVal.le_nil _)) | ((refine AVal.le_agg ?_; ((repeat (first | exact trivial | refine ⟨(by (first | ((exact AVal.le_refl _)) | ((exact AVal.le_nil _)) | ((refine AVal.le_of_eq ?_; (conv => lhs; whnf); (first | ((rfl)) | ((simp <;> fail)) | fail))) | fail)), ?_⟩ | fail)) <;> fail))) | ((refine AVal.le_of_eq ?_; (conv => lhs; whnf); (first | ((rfl)) | ((simp <;> fail)) | fail))) | fail)), (by (first | ((exact AVal.le_refl _)) | ((exact AVal.le_nil _)) | ((refine AVal.le_agg ?_; ((repeat (first | exact trivial | refine ⟨(by (first | ((exact AVal.le_refl _)) | ((exact AVal.le_nil _)) | ((refine AVal.le_of_eq ?_; (conv => lhs; whnf); (first | ((rfl)) | ((simp <;> fail)) | fail))) | fail)), ?_⟩ | fail)) <;> fail))) | ((refine AVal.le_of_eq ?_; (conv => lhs; whnf); (first | ((rfl)) | ((simp <;> fail)) | fail))) | fail)), trivial⟩ ⟨rfl, trivial⟩⟩
        by_cases hik : i = k
        · subst hik; rw [hs] at ht; cases ht; omega
        · exact hq i t (by omega) ht
    · have h := of_decide_eq_false h
      simp only [List.length_map] at h
      obtain rfl : k = d.pending.length := by omega
      have hp2 : ∀ w ∈ d.pending, w.b.length ≤ 200 := all_of_get fun i x hx => hq i x (List.getElem?_eq_some_iff.1 hx).1 hx
      have hv : fewS d = true := by
        simp only [fewS, decide_eq_true_eq]
        exact ⟨by omega, by omega, hp1, hp2⟩
      refine awp_exit ?_
      refine awp_seq ?_
      refine awp_region (by kernel_rfl) ?_
      apply w_assign
      case hg => exact (by exact True.intro)
      case hx => conv => lhs; whnf
      case hd => exact rfl
      refine .done (by exact fun h => Bool.noConfusion h) ?_
      exact awp_ret ⟨_, le_slot 2 (AVal.le_of_eq (by rw [hv]; rfl)), ⟨rfl, trivial⟩, subL_nil _⟩
end Go.Fw

/- The reference's Read. -/
import Derived.Test.YtldiocpkgfpehaaW40s
import Derived.Test.YtldiocpkgfpehaaW40k
namespace Go.Fw
open Go Go.Proofs
set_option linter.unusedVariables false
set_option linter.unusedSimpArgs false
set_option maxHeartbeats 8000000 in
theorem rread_con (d : Disk) (a : Int) (hl : fewL d) : Con Try.prog 22 [] [aDisk d, ai a] [] (aTwo (.d (dBytes (readS d a).1)) (readS d a).2) := by
  refine con_of (xs := [.d (dBytes (readS d a).1), ai (readS d a).2]) Try.func22 rfl Try.ntmps22 rfl rfl rfl (fun E => ?_)
  by_cases hu : usableS d = 0
  · have hp := hl.2.1
    by_cases h1 : a < 0
    · rw [show readS d a = ([], 1) by simp [readS, hu]; omega]
      refine awp_seq ?_
      refine awp_region (by kernel_rfl) ?_
      apply w_box (γ := 100)
      case hg => exact (by exact True.intro)
      case hx => conv => lhs; whnf
      case hc => exact rfl
      case hdead => exact rfl
      case hf => exact rfl
      case hm => exact rfl
      case hd => exact rfl
      apply w_assign
      case hg => exact (by exact True.intro)
      case hx => conv => lhs; whnf
      case hd => exact rfl
      apply w_assign
      case hg => exact (by exact True.intro)
      case hx => conv => lhs; whnf
      case hd => exact rfl
      refine .done (by exact fun h => Bool.noConfusion h) ?_
      refine awp_seq ?_
      refine awp_seq ?_
      refine awp_region (by kernel_rfl) ?_
      apply w_load_boxagg
      case hg => exact (by exact True.intro)
      case hx => exact rfl
      case hL => exact rfl
      case hsz => conv => lhs; whnf
      case ht => exact rfl
      case hy => conv => lhs; whnf
      case hlen => exact rfl
      case hd => exact rfl
      apply w_call (hcon := rusable_con d)
      case hxs => exact rfl
      case hys => conv => lhs; whnf
      case hle => (refine ⟨(by exact AVal.le_refl _), ?_⟩; exact trivial)
      case hf => exact rfl
      case hLi => (repeat (first | exact trivial | refine ⟨rfl, ?_⟩ | fail)) <;> fail
      case hin => exact rfl
      case hbox => exact rfl
      case hres => exact rfl
      case hnew => (repeat (first | exact trivial | refine ⟨rfl, ?_⟩ | fail)) <;> fail
      case hdead => (repeat (first | exact trivial | refine ⟨rfl, ?_⟩ | fail)) <;> fail
      case hd => exact rfl
      case hg => exact (by exact True.intro)
      apply w_assign
      case hg => exact (by exact True.intro)
      case hx => conv => lhs; whnf
      case hd => exact rfl
      refine .done (by exact fun h => Bool.noConfusion h) ?_
      refine awp_seq ?_
      refine awp_region (by kernel_rfl) ?_
      apply w_move
      case hg => exact (by exact True.intro)
      case hx => conv => lhs; whnf
      case hd => exact rfl
      apply w_bin
      case hg => exact (by exact True.intro)
      case hx => exact rfl
      case hy => exact rfl
      case hr => exact rb_neq
      case h1 => exact rfl
      case hd => exact rfl
      refine .done (by exact fun h => Bool.noConfusion h) ?_
      refine awp_cond_f rfl (by (simp only [List.length_map, List.length_take, List.length_append, decide_eq_true_eq, decide_eq_false_iff_not, ne_eq, Classical.not_not]; omega)) ?_
      refine awp_skip ?_
      refine awp_seq ?_
      refine awp_seq ?_
      refine awp_region (by kernel_rfl) ?_
      apply w_move
      case hg => exact (by exact True.intro)
      case hx => conv => lhs; whnf
      case hd => exact rfl
      apply w_bin
      case hg => exact (by exact True.intro)
      case hx => exact rfl
      case hy => exact rfl
      case hr => exact rb_lss
      case h1 => exact rfl
      case hd => exact rfl
      apply w_move
      case hg => exact (by exact True.intro)
      case hx => conv => lhs; whnf
      case hd => exact rfl
      apply w_skip
      case hg => (exact ⟨rfl, congrArg ab (by (simp only [List.length_map, List.length_take, List.length_append, decide_eq_true_eq, decide_eq_false_iff_not, ne_eq, Classical.not_not]; omega))⟩)
      case hd => exact rfl
      apply w_skip
      case hg => (exact ⟨rfl, congrArg ab (by (simp only [List.length_map, List.length_take, List.length_append, decide_eq_true_eq, decide_eq_false_iff_not, ne_eq, Classical.not_not]; omega))⟩)
      case hd => exact rfl
      apply w_skip
      case hg => (exact ⟨rfl, congrArg ab (by (simp only [List.length_map, List.length_take, List.length_append, decide_eq_true_eq, decide_eq_false_iff_not, ne_eq, Classical.not_not]; omega))⟩)
      case hd => exact rfl
      apply w_skip
      case hg => (exact ⟨rfl, congrArg ab (by (simp only [List.length_map, List.length_take, List.length_append, decide_eq_true_eq, decide_eq_false_iff_not, ne_eq, Classical.not_not]; omega))⟩)
      case hd => exact rfl
      apply w_skip
      case hg => (exact ⟨rfl, congrArg ab (by (simp only [List.length_map, List.length_take, List.length_append, decide_eq_true_eq, decide_eq_false_iff_not, ne_eq, Classical.not_not]; omega))⟩)
      case hd => exact rfl
      apply w_pick_t
      case hg => exact (by exact True.intro)
      case hc => exact rfl
      case hb => exact (by (simp only [List.length_map, List.length_take, List.length_append, decide_eq_true_eq, decide_eq_false_iff_not, ne_eq, Classical.not_not]; omega))
      case hx => conv => lhs; whnf
      case hd => exact rfl
      refine .done (by exact fun h => Bool.noConfusion h) ?_
      refine awp_cond_t rfl (by rfl) ?_
      refine awp_seq ?_
      refine awp_region (by kernel_rfl) ?_
      apply w_assign
      case hg => exact (by exact True.intro)
      case hx => conv => lhs; whnf
      case hd => exact rfl
      apply w_assign
      case hg => exact (by exact True.intro)
      case hx => conv => lhs; whnf
      case hd => exact rfl
      refine .done (by exact fun h => Bool.noConfusion h) ?_
      exact awp_ret ⟨_, le_slot 4 (y := .d (dBytes [])) (AVal.le_nil 1), ⟨rfl, rfl, trivial⟩, subL_nil _⟩
    by_cases h2 : (d.sectors.length : Int) ≤ a
    · rw [show readS d a = ([], 1) by simp [readS, hu]; omega]
      refine awp_seq ?_
      refine awp_region (by kernel_rfl) ?_
      apply w_box (γ := 100)
      case hg => exact (by exact True.intro)
      case hx => conv => lhs; whnf
      case hc => exact rfl
      case hdead => exact rfl
      case hf => exact rfl
      case hm => exact rfl
      case hd => exact rfl
      apply w_assign
      case hg => exact (by exact True.intro)
      case hx => conv => lhs; whnf
      case hd => exact rfl
      apply w_assign
      case hg => exact (by exact True.intro)
      case hx => conv => lhs; whnf
      case hd => exact rfl
      refine .done (by exact fun h => Bool.noConfusion h) ?_
      refine awp_seq ?_
      refine awp_seq ?_
      refine awp_region (by kernel_rfl) ?_
      apply w_load_boxagg
      case hg => exact (by exact True.intro)
      case hx => exact rfl
      case hL => exact rfl
      case hsz => conv => lhs; whnf
      case ht => exact rfl
      case hy => conv => lhs; whnf
      case hlen => exact rfl
      case hd => exact rfl
      apply w_call (hcon := rusable_con d)
      case hxs => exact rfl
      case hys => conv => lhs; whnf
      case hle => (refine ⟨(by exact AVal.le_refl _), ?_⟩; exact trivial)
      case hf => exact rfl
      case hLi => (repeat (first | exact trivial | refine ⟨rfl, ?_⟩ | fail)) <;> fail
      case hin => exact rfl
      case hbox => exact rfl
      case hres => exact rfl
      case hnew => (repeat (first | exact trivial | refine ⟨rfl, ?_⟩ | fail)) <;> fail
      case hdead => (repeat (first | exact trivial | refine ⟨rfl, ?_⟩ | fail)) <;> fail
      case hd => exact rfl
      case hg => exact (by exact True.intro)
      apply w_assign
      case hg => exact (by exact True.intro)
      case hx => conv => lhs; whnf
      case hd => exact rfl
      refine .done (by exact fun h => Bool.noConfusion h) ?_
      refine awp_seq ?_
      refine awp_region (by kernel_rfl) ?_
      apply w_move
      case hg => exact (by exact True.intro)
      case hx => conv => lhs; whnf
      case hd => exact rfl
      apply w_bin
      case hg => exact (by exact True.intro)
      case hx => exact rfl
      case hy => exact rfl
      case hr => exact rb_neq
      case h1 => exact rfl
      case hd => exact rfl
      refine .done (by exact fun h => Bool.noConfusion h) ?_
      refine awp_cond_f rfl (by (simp only [List.length_map, List.length_take, List.length_append, decide_eq_true_eq, decide_eq_false_iff_not, ne_eq, Classical.not_not]; omega)) ?_
      refine awp_skip ?_
      refine awp_seq ?_
      refine awp_seq ?_
      refine awp_region (by kernel_rfl) ?_
      apply w_move
      case hg => exact (by exact True.intro)
      case hx => conv => lhs; whnf
      case hd => exact rfl
      apply w_bin
      case hg => exact (by exact True.intro)
      case hx => exact rfl
      case hy => exact rfl
      case hr => exact rb_lss
      case h1 => exact rfl
      case hd => exact rfl
      apply w_move
      case hg => exact (by exact True.intro)
      case hx => conv => lhs; whnf
      case hd => exact rfl
      apply w_move
      case hg => exact (by (exact ⟨rfl, congrArg ab (by (simp only [List.length_map, List.length_take, List.length_append, decide_eq_true_eq, decide_eq_false_iff_not, ne_eq, Classical.not_not]; omega))⟩))
      case hx => conv => lhs; whnf
      case hd => exact rfl
      apply w_field_box
      case hg => exact (by (exact ⟨rfl, congrArg ab (by (simp only [List.length_map, List.length_take, List.length_append, decide_eq_true_eq, decide_eq_false_iff_not, ne_eq, Classical.not_not]; omega))⟩))
      case hx => exact rfl
      case hoff => conv => lhs; whnf
      case hf => exact rfl
      case hd => exact rfl
      apply w_load_box
      case hg => exact (by (exact ⟨rfl, congrArg ab (by (simp only [List.length_map, List.length_take, List.length_append, decide_eq_true_eq, decide_eq_false_iff_not, ne_eq, Classical.not_not]; omega))⟩))
      case hx => exact rfl
      case hL => exact rfl
      case hy => conv => lhs; whnf
      case ht => exact rfl
      case hd => exact rfl
      apply w_len_data
      case hg => exact (by (exact ⟨rfl, congrArg ab (by (simp only [List.length_map, List.length_take, List.length_append, decide_eq_true_eq, decide_eq_false_iff_not, ne_eq, Classical.not_not]; omega))⟩))
      case hx => exact rfl
      case hT => exact rfl
      case hd => exact rfl
      apply w_bin
      case hg => exact (by (exact ⟨rfl, congrArg ab (by (simp only [List.length_map, List.length_take, List.length_append, decide_eq_true_eq, decide_eq_false_iff_not, ne_eq, Classical.not_not]; omega))⟩))
      case hx => exact rfl
      case hy => exact rfl
      case hr => exact rb_geq
      case h1 => exact rfl
      case hd => exact rfl
      apply w_pick_f
      case hg => exact (by exact True.intro)
      case hc => exact rfl
      case hb => exact (by (simp only [List.length_map, List.length_take, List.length_append, decide_eq_true_eq, decide_eq_false_iff_not, ne_eq, Classical.not_not]; omega))
      case hx => conv => lhs; whnf
      case hd => exact rfl
      refine .done (by exact fun h => Bool.noConfusion h) ?_
      refine awp_cond_t rfl (by (simp only [List.length_map, List.length_take, List.length_append, decide_eq_true_eq, decide_eq_false_iff_not, ne_eq, Classical.not_not]; omega)) ?_
      refine awp_seq ?_
      refine awp_region (by kernel_rfl) ?_
      apply w_assign
      case hg => exact (by exact True.intro)
      case hx => conv => lhs; whnf
      case hd => exact rfl
      apply w_assign
      case hg => exact (by exact True.intro)
      case hx => conv => lhs; whnf
      case hd => exact rfl
      refine .done (by exact fun h => Bool.noConfusion h) ?_
      exact awp_ret ⟨_, le_slot 4 (y := .d (dBytes [])) (AVal.le_nil 1), ⟨rfl, rfl, trivial⟩, subL_nil _⟩
    obtain ⟨k, rfl⟩ : ∃ k : Nat, a = k := ⟨a.toNat, by omega⟩
    obtain ⟨s, hs⟩ := get_of_lt (l := d.sectors) (k := k) (by omega)
    have hsl := hl.2.2.1 s (List.mem_of_getElem? hs)
    refine awp_seq ?_
    refine awp_region (by kernel_rfl) ?_
    apply w_box (γ := 100)
    case hg => exact (by exact True.intro)
    case hx => conv => lhs; whnf
    case hc => exact rfl
    case hdead => exact rfl
    case hf => exact rfl
    case hm => exact rfl
    case hd => exact rfl
    apply w_assign
    case hg => exact (by exact True.intro)
    case hx => conv => lhs; whnf
    case hd => exact rfl
    apply w_assign
    case hg => exact (by exact True.intro)
    case hx => conv => lhs; whnf
    case hd => exact rfl
    refine .done (by exact fun h => Bool.noConfusion h) ?_
    refine awp_seq ?_
    refine awp_seq ?_
    refine awp_region (by kernel_rfl) ?_
    apply w_load_boxagg
    case hg => exact (by exact True.intro)
    case hx => exact rfl
    case hL => exact rfl
    case hsz => conv => lhs; whnf
    case ht => exact rfl
    case hy => conv => lhs; whnf
    case hlen => exact rfl
    case hd => exact rfl
    apply w_call (hcon := rusable_con d)
    case hxs => exact rfl
    case hys => conv => lhs; whnf
    case hle => (refine ⟨(by exact AVal.le_refl _), ?_⟩; exact trivial)
    case hf => exact rfl
    case hLi => (repeat (first | exact trivial | refine ⟨rfl, ?_⟩ | fail)) <;> fail
    case hin => exact rfl
    case hbox => exact rfl
    case hres => exact rfl
    case hnew => (repeat (first | exact trivial | refine ⟨rfl, ?_⟩ | fail)) <;> fail
    case hdead => (repeat (first | exact trivial | refine ⟨rfl, ?_⟩ | fail)) <;> fail
    case hd => exact rfl
    case hg => exact (by exact True.intro)
    apply w_assign
    case hg => exact (by exact True.intro)
    case hx => conv => lhs; whnf
    case hd => exact rfl
    refine .done (by exact fun h => Bool.noConfusion h) ?_
    refine awp_seq ?_
    refine awp_region (by kernel_rfl) ?_
    apply w_move
    case hg => exact (by exact True.intro)
    case hx => conv => lhs; whnf
    case hd => exact rfl
    apply w_bin
    case hg => exact (by exact True.intro)
    case hx => exact rfl
    case hy => exact rfl
    case hr => exact rb_neq
    case h1 => exact rfl
    case hd => exact rfl
    refine .done (by exact fun h => Bool.noConfusion h) ?_
    refine awp_cond_f rfl (by (simp only [List.length_map, List.length_take, List.length_append, decide_eq_true_eq, decide_eq_false_iff_not, ne_eq, Classical.not_not]; omega)) ?_
    refine awp_skip ?_
    refine awp_seq ?_
    refine awp_seq ?_
    refine awp_region (by kernel_rfl) ?_
    apply w_move
    case hg => exact (by exact True.intro)
    case hx => conv => lhs; whnf
    case hd => exact rfl
    apply w_bin
    case hg => exact (by exact True.intro)
    case hx => exact rfl
    case hy => exact rfl
    case hr => exact rb_lss
    case h1 => exact rfl
    case hd => exact rfl
    apply w_move
    case hg => exact (by exact True.intro)
    case hx => conv => lhs; whnf
    case hd => exact rfl
    apply w_move
    case hg => exact (by exact ⟨rfl, rfl⟩)
    case hx => conv => lhs; whnf
    case hd => exact rfl
    apply w_field_box
    case hg => exact (by exact ⟨rfl, rfl⟩)
    case hx => exact rfl
    case hoff => conv => lhs; whnf
    case hf => exact rfl
    case hd => exact rfl
    apply w_load_box
    case hg => exact (by exact ⟨rfl, rfl⟩)
    case hx => exact rfl
    case hL => exact rfl
    case hy => conv => lhs; whnf
    case ht => exact rfl
    case hd => exact rfl
    apply w_len_data
    case hg => exact (by exact ⟨rfl, rfl⟩)
    case hx => exact rfl
    case hT => exact rfl
    case hd => exact rfl
    apply w_bin
    case hg => exact (by exact ⟨rfl, rfl⟩)
    case hx => exact rfl
    case hy => exact rfl
    case hr => exact rb_geq
    case h1 => exact rfl
    case hd => exact rfl
    apply w_pick_f
    case hg => exact (by exact True.intro)
    case hc => exact rfl
    case hb => exact (by rfl)
    case hx => conv => lhs; whnf
    case hd => exact rfl
    refine .done (by exact fun h => Bool.noConfusion h) ?_
    refine awp_cond_f rfl (by (simp only [List.length_map, List.length_take, List.length_append, decide_eq_true_eq, decide_eq_false_iff_not, ne_eq, Classical.not_not]; omega)) ?_
    refine awp_skip ?_
    refine awp_seq ?_
    refine awp_region (by kernel_rfl) ?_
    apply w_field_box
    case hg => exact (by exact True.intro)
    case hx => exact rfl
    case hoff => conv => lhs; whnf
    case hf => exact rfl
    case hd => exact rfl
    apply w_load_box
    case hg => exact (by exact True.intro)
    case hx => exact rfl
    case hL => exact rfl
    case hy => conv => lhs; whnf
    case ht => exact rfl
    case hd => exact rfl
    apply w_move
    case hg => exact (by exact True.intro)
    case hx => conv => lhs; whnf
    case hd => exact rfl
    apply w_index_data
    case hg => exact (by exact True.intro)
    case hx => exact rfl
    case hi => exact rfl
    case hk => exact rfl
    case hr => exact map_get (by assumption)
    case hT => exact rfl
    case hd => exact rfl
    apply w_load_d
    case hg => exact (by exact True.intro)
    case hx => exact rfl
    case ht => exact rfl
    case hd => exact rfl
    apply w_assign
    case hg => exact (by exact True.intro)
    case hx => conv => lhs; whnf
    case hd => exact rfl
    refine .done (by exact fun h => Bool.noConfusion h) ?_
    refine awp_seq ?_
    refine awp_seq ?_
    refine awp_region (by kernel_rfl) ?_
    apply w_assign
    case hg => exact (by exact True.intro)
    case hx => conv => lhs; whnf
    case hd => exact rfl
    refine .done (by exact fun h => Bool.noConfusion h) ?_
    refine awp_block ?_
    have hok := okW_of (usable_ok hu).1
    have hs64 := hok.1 s (List.mem_of_getElem? hs)
    rw [show readS d (k : Int) = (boundS d.pending k s d.pending.length, 0) by unfold readS; rw [if_neg (by simpa using hu), if_pos (by omega), Int.toNat_natCast, hs]; rfl]
    refine awp_loopI (fun j : Nat => j ≤ d.pending.length) (fun j => ⟨52, [(1, ai k), (2, .ptr 100 0), (7, .d (dBytes (boundS d.pending k s j))), (8, ai j)], [(100, .box [.d (dSecs d.sectors), .d (dPend d.pending), ab d.on])]⟩) (fun j => d.pending.length - j) 0 (by omega)
      (le_mk rfl ⟨(by (first | ((exact AVal.le_refl _)) | ((exact AVal.le_nil _)) | ((refine AVal.le_agg ?_; ((repeat (first | exact trivial | refine ⟨(by (first | ((exact AVal.le_refl _)) | ((exact AVal.le_nil _)) | ((refine AVal.le_of_eq ?_; (conv => lhs; whnf); (first | ((rfl)) | ((simp <;> fail)) | fail))) | fail)), ?_⟩ | fail)) <;> fail))) | ((refine AVal.le_of_eq ?_; (conv => lhs; whnf); (first | ((rfl)) | ((simp <;> fail)) | fail))) | fail)), (by (first | ((exact AVal.le_refl _)) | ((exact AVal.le_nil _)) | ((refine AVal.le_agg ?_; ((repeat (first | exact trivial | refine ⟨(by (first | ((exact AVal.le_refl _)) | ((exact AVal.le_nil _)) | ((refine AVal.le_of_eq ?_; (conv => lhs; whnf); (first | ((rfl)) | ((simp <;> fail)) | fail))) | fail)), ?_⟩ | fail)) <;> fail))) | ((refine AVal.le_of_eq ?_; (conv => lhs; whnf); (first | ((rfl)) | ((simp <;> fail)) | fail))) | fail)), (by (first | ((exact AVal.le_refl _)) | ((exact AVal.le_nil _)) | ((refine AVal.le_agg ?_; ((repeat (first | exact trivial | refine ⟨(by (first | ((exact AVal.le_refl _)) | ((exact AVal.le_nil _)) | ((refine AVal.le_of_eq ?_; (conv => lhs; whnf); (first | ((rfl)) | ((simp <;> fail)) | fail))) | fail)), ?_⟩ | fail)) <;> fail))) | ((refine AVal.le_of_eq ?_; (conv => lhs; whnf); (first | ((rfl)) | ((simp <;> fail)) | fail))) | fail)), (by (first | ((exact AVal.le_refl _)) | ((exact AVal.le_nil _)) | ((refine AVal.le_agg ?_; ((repeat (first | exact trivial | refine ⟨(by (first | ((exact AVal.le_refl _)) | ((exact AVal.le_nil _)) | ((refine AVal.le_of_eq ?_; (conv => lhs; whnf); (first | ((rfl)) | ((simp <;> fail)) | fail))) | fail)), ?_⟩ | fail)) <;> fail))) | ((refine AVal.le_of_eq ?_; (conv => lhs; whnf); (first | ((rfl)) | ((simp <;> fail)) | fail))) | fail)), trivial⟩ ⟨rfl, trivial⟩) ?_
    intro j hj
    by_cases hlt : j < d.pending.length
    · obtain ⟨⟨at_, b⟩, hw⟩ := get_of_lt (l := d.pending) (k := j) hlt
      by_cases hat : at_ = (k : Int)
      · subst hat
        refine awp_seq ?_
        refine awp_seq ?_
        refine awp_region (by kernel_rfl) ?_
        apply w_move
        case hg => exact (by exact True.intro)
        case hx => conv => lhs; whnf
        case hd => exact rfl
        apply w_field_box
        case hg => exact (by exact True.intro)
        case hx => exact rfl
        case hoff => conv => lhs; whnf
        case hf => exact rfl
        case hd => exact rfl
        apply w_load_box
        case hg => exact (by exact True.intro)
        case hx => exact rfl
        case hL => exact rfl
        case hy => conv => lhs; whnf
        case ht => exact rfl
        case hd => exact rfl
        apply w_len_data
        case hg => exact (by exact True.intro)
        case hx => exact rfl
        case hT => exact rfl
        case hd => exact rfl
        apply w_bin
        case hg => exact (by exact True.intro)
        case hx => exact rfl
        case hy => exact rfl
        case hr => exact rb_lss
        case h1 => exact rfl
        case hd => exact rfl
        refine .done (by exact fun h => Bool.noConfusion h) ?_
        refine awp_cond_t rfl (by (simp only [List.length_map, List.length_take, List.length_append, decide_eq_true_eq, decide_eq_false_iff_not, ne_eq, Classical.not_not]; omega)) ?_
        refine awp_skip ?_
        refine awp_seq ?_
        refine awp_block ?_
        refine awp_seq ?_
        refine awp_region (by kernel_rfl) ?_
        apply w_field_box
        case hg => exact (by exact True.intro)
        case hx => exact rfl
        case hoff => conv => lhs; whnf
        case hf => exact rfl
        case hd => exact rfl
        apply w_load_box
        case hg => exact (by exact True.intro)
        case hx => exact rfl
        case hL => exact rfl
        case hy => conv => lhs; whnf
        case ht => exact rfl
        case hd => exact rfl
        apply w_move
        case hg => exact (by exact True.intro)
        case hx => conv => lhs; whnf
        case hd => exact rfl
        apply w_index_data
        case hg => exact (by exact True.intro)
        case hx => exact rfl
        case hi => exact rfl
        case hk => exact rfl
        case hr => exact map_get (by assumption)
        case hT => exact rfl
        case hd => exact rfl
        apply w_field_d
        case hg => exact (by exact True.intro)
        case hx => exact rfl
        case hoff => conv => lhs; whnf
        case hf => exact rfl
        case hd => exact rfl
        apply w_load_d
        case hg => exact (by exact True.intro)
        case hx => exact rfl
        case ht => exact rfl
        case hd => exact rfl
        apply w_move
        case hg => exact (by exact True.intro)
        case hx => conv => lhs; whnf
        case hd => exact rfl
        apply w_bin
        case hg => exact (by exact True.intro)
        case hx => exact rfl
        case hy => exact rfl
        case hr => exact rb_eql
        case h1 => exact rfl
        case hd => exact rfl
        refine .done (by exact fun h => Bool.noConfusion h) ?_
        refine awp_cond_t rfl (by (simp <;> fail)) ?_
        refine awp_region (by kernel_rfl) ?_
        apply w_field_box
        case hg => exact (by exact True.intro)
        case hx => exact rfl
        case hoff => conv => lhs; whnf
        case hf => exact rfl
        case hd => exact rfl
        apply w_load_box
        case hg => exact (by exact True.intro)
        case hx => exact rfl
        case hL => exact rfl
        case hy => conv => lhs; whnf
        case ht => exact rfl
        case hd => exact rfl
        apply w_move
        case hg => exact (by exact True.intro)
        case hx => conv => lhs; whnf
        case hd => exact rfl
        apply w_index_data
        case hg => exact (by exact True.intro)
        case hx => exact rfl
        case hi => exact rfl
        case hk => exact rfl
        case hr => exact map_get (by assumption)
        case hT => exact rfl
        case hd => exact rfl
        apply w_field_d
        case hg => exact (by exact True.intro)
        case hx => exact rfl
        case hoff => conv => lhs; whnf
        case hf => exact rfl
        case hd => exact rfl
        apply w_load_d
        case hg => exact (by exact True.intro)
        case hx => exact rfl
        case ht => exact rfl
        case hd => exact rfl
        apply w_assign
        case hg => exact (by exact True.intro)
        case hx => conv => lhs; whnf
        case hd => exact rfl
        refine .done (by exact fun h => Bool.noConfusion h) ?_
        refine awp_region (by kernel_rfl) ?_
        apply w_move
        case hg => exact (by exact True.intro)
        case hx => conv => lhs; whnf
        case hd => exact rfl
        apply w_bin
        case hg => exact (by exact True.intro)
        case hx => exact rfl
        case hy => exact rfl
        case hr => (exact rb_add64 (by unfold in64; omega))
        case h1 => exact rfl
        case hd => exact rfl
        apply w_assign
        case hg => exact (by exact True.intro)
        case hx => conv => lhs; whnf
        case hd => exact rfl
        refine .done (by exact fun h => Bool.noConfusion h) ?_
        refine ⟨j + 1, by omega, by omega, le_mk rfl ⟨(by (first | ((exact AVal.le_refl _)) | ((exact AVal.le_nil _)) | ((refine AVal.le_agg ?_; ((repeat (first | exact trivial | refine ⟨(by (first | ((exact AVal.le_refl _)) | ((exact AVal.le_nil _)) | ((refine AVal.le_of_eq ?_; (conv => lhs; whnf); (first | ((rfl)) | ((simp <;> fail)) | fail))) | fail)), ?_⟩ | fail)) <;> fail))) | ((refine AVal.le_of_eq ?_; (conv => lhs; whnf); (first | ((rfl)) | ((simp <;> fail)) | fail))) | fail)), (by (first | ((exact AVal.le_refl _)) | ((exact AVal.le_nil _)) | ((refine AVal.le_agg ?_; ((repeat (first | exact trivial | refine ⟨(by (first | ((exact AVal.le_refl _)) | ((exact AVal.le_nil _)) | ((refine AVal.le_of_eq ?_; (conv => lhs; whnf); (first | ((rfl)) | ((simp <;> fail)) | fail))) | fail)), ?_⟩ | fail)) <;> fail))) | ((refine AVal.le_of_eq ?_; (conv => lhs; whnf); (first | ((rfl)) | ((simp <;> fail)) | fail))) | fail)), (by refine AVal.le_of_eq ?_; refine Eq.trans (b := AVal.d (dBytes b)) rfl ?_; simp [boundS, hw]), (by (first | ((exact AVal.le_refl _)) | ((exact AVal.le_nil _)) | ((refine AVal.le_agg ?_; ((repeat (first | exact trivial | refine ⟨(by (first | ((exact AVal.le_refl _)) | ((exact AVal.le_nil _)) | ((refine AVal.le_of_eq ?_; (conv => lhs; whnf); (first | ((rfl)) | ((simp <;> fail)) | fail))) | fail)), ?_⟩ | fail)) <;> fail))) | ((refine AVal.le_of_eq ?_; (conv => lhs; whnf); (first | ((rfl)) | ((simp <;> fail)) | fail))) | fail)), trivial⟩ ⟨rfl, trivial⟩⟩
      · refine awp_seq ?_
        refine awp_seq ?_
        refine awp_region (by kernel_rfl) ?_
        apply w_move
        case hg => exact (by exact True.intro)
        case hx => conv => lhs; whnf
        case hd => exact rfl
        apply w_field_box
        case hg => exact (by exact True.intro)
        case hx => exact rfl
        case hoff => conv => lhs; whnf
        case hf => exact rfl
        case hd => exact rfl
        apply w_load_box
        case hg => exact (by exact True.intro)
        case hx => exact rfl
        case hL => exact rfl
        case hy => conv => lhs; whnf
        case ht => exact rfl
        case hd => exact rfl
        apply w_len_data
        case hg => exact (by exact True.intro)
        case hx => exact rfl
        case hT => exact rfl
        case hd => exact rfl
        apply w_bin
        case hg => exact (by exact True.intro)
        case hx => exact rfl
        case hy => exact rfl
        case hr => exact rb_lss
        case h1 => exact rfl
        case hd => exact rfl
        refine .done (by exact fun h => Bool.noConfusion h) ?_
        refine awp_cond_t rfl (by (simp only [List.length_map, List.length_take, List.length_append, decide_eq_true_eq, decide_eq_false_iff_not, ne_eq, Classical.not_not]; omega)) ?_
        refine awp_skip ?_
        refine awp_seq ?_
        refine awp_block ?_
        refine awp_seq ?_
        refine awp_region (by kernel_rfl) ?_
        apply w_field_box
        case hg => exact (by exact True.intro)
        case hx => exact rfl
        case hoff => conv => lhs; whnf
        case hf => exact rfl
        case hd => exact rfl
        apply w_load_box
        case hg => exact (by exact True.intro)
        case hx => exact rfl
        case hL => exact rfl
        case hy => conv => lhs; whnf
        case ht => exact rfl
        case hd => exact rfl
        apply w_move
        case hg => exact (by exact True.intro)
        case hx => conv => lhs; whnf
        case hd => exact rfl
        apply w_index_data
        case hg => exact (by exact True.intro)
        case hx => exact rfl
        case hi => exact rfl
        case hk => exact rfl
        case hr => exact map_get (by assumption)
        case hT => exact rfl
        case hd => exact rfl
        apply w_field_d
        case hg => exact (by exact True.intro)
        case hx => exact rfl
        case hoff => conv => lhs; whnf
        case hf => exact rfl
        case hd => exact rfl
        apply w_load_d
        case hg => exact (by exact True.intro)
        case hx => exact rfl
        case ht => exact rfl
        case hd => exact rfl
        apply w_move
        case hg => exact (by exact True.intro)
        case hx => conv => lhs; whnf
        case hd => exact rfl
        apply w_bin
        case hg => exact (by exact True.intro)
        case hx => exact rfl
        case hy => exact rfl
        case hr => exact rb_eql
        case h1 => exact rfl
        case hd => exact rfl
        refine .done (by exact fun h => Bool.noConfusion h) ?_
        refine awp_cond_f rfl (by (simp only [List.length_map, List.length_take, List.length_append, decide_eq_true_eq, decide_eq_false_iff_not, ne_eq, Classical.not_not]; omega)) ?_
        refine awp_skip ?_
        refine awp_region (by kernel_rfl) ?_
        apply w_move
        case hg => exact (by exact True.intro)
        case hx => conv => lhs; whnf
        case hd => exact rfl
        apply w_bin
        case hg => exact (by exact True.intro)
        case hx => exact rfl
        case hy => exact rfl
        case hr => (exact rb_add64 (by unfold in64; omega))
        case h1 => exact rfl
        case hd => exact rfl
        apply w_assign
        case hg => exact (by exact True.intro)
        case hx => conv => lhs; whnf
        case hd => exact rfl
        refine .done (by exact fun h => Bool.noConfusion h) ?_
        refine ⟨j + 1, by omega, by omega, le_mk rfl ⟨(by (first | ((exact AVal.le_refl _)) | ((exact AVal.le_nil _)) | ((refine AVal.le_agg ?_; ((repeat (first | exact trivial | refine ⟨(by (first | ((exact AVal.le_refl _)) | ((exact AVal.le_nil _)) | ((refine AVal.le_of_eq ?_; (conv => lhs; whnf); (first | ((rfl)) | ((simp <;> fail)) | fail))) | fail)), ?_⟩ | fail)) <;> fail))) | ((refine AVal.le_of_eq ?_; (conv => lhs; whnf); (first | ((rfl)) | ((simp <;> fail)) | fail))) | fail)), (by (first | ((exact AVal.le_refl _)) | ((exact AVal.le_nil _)) | ((refine AVal.le_agg ?_; ((repeat (first | exact trivial | refine ⟨(by (first | ((exact AVal.le_refl _)) | ((exact AVal.le_nil _)) | ((refine AVal.le_of_eq ?_; (conv => lhs; whnf); (first | ((rfl)) | ((simp <;> fail)) | fail))) | fail)), ?_⟩ | fail)) <;> fail))) | ((refine AVal.le_of_eq ?_; (conv => lhs; whnf); (first | ((rfl)) | ((simp <;> fail)) | fail))) | fail)), (by refine AVal.le_of_eq ?_; refine Eq.trans (b := AVal.d (dBytes (boundS d.pending k s j))) rfl ?_; simp [boundS, hw, hat]), (by (first | ((exact AVal.le_refl _)) | ((exact AVal.le_nil _)) | ((refine AVal.le_agg ?_; ((repeat (first | exact trivial | refine ⟨(by (first | ((exact AVal.le_refl _)) | ((exact AVal.le_nil _)) | ((refine AVal.le_of_eq ?_; (conv => lhs; whnf); (first | ((rfl)) | ((simp <;> fail)) | fail))) | fail)), ?_⟩ | fail)) <;> fail))) | ((refine AVal.le_of_eq ?_; (conv => lhs; whnf); (first | ((rfl)) | ((simp <;> fail)) | fail))) | fail)), trivial⟩ ⟨rfl, trivial⟩⟩
    obtain rfl : j = d.pending.length := by omega
    have hbl := bound_len (a := (k : Int)) hok hs64 d.pending.length
    refine awp_seq ?_
    refine awp_seq ?_
    refine awp_region (by kernel_rfl) ?_
    apply w_move
    case hg => exact (by exact True.intro)
    case hx => conv => lhs; whnf
    case hd => exact rfl
    apply w_field_box
    case hg => exact (by exact True.intro)
    case hx => exact rfl
    case hoff => conv => lhs; whnf
    case hf => exact rfl
    case hd => exact rfl
    apply w_load_box
    case hg => exact (by exact True.intro)
    case hx => exact rfl
    case hL => exact rfl
    case hy => conv => lhs; whnf
    case ht => exact rfl
    case hd => exact rfl
    apply w_len_data
    case hg => exact (by exact True.intro)
    case hx => exact rfl
    case hT => exact rfl
    case hd => exact rfl
    apply w_bin
    case hg => exact (by exact True.intro)
    case hx => exact rfl
    case hy => exact rfl
    case hr => exact rb_lss
    case h1 => exact rfl
    case hd => exact rfl
    refine .done (by exact fun h => Bool.noConfusion h) ?_
    refine awp_cond_f rfl (by (simp only [List.length_map, List.length_take, List.length_append, decide_eq_true_eq, decide_eq_false_iff_not, ne_eq, Classical.not_not]; omega)) ?_
    refine awp_exit ?_
    refine awp_seq ?_
    refine awp_region (by kernel_rfl) ?_
    apply w_lit_own (len := 0) (γ := 101)
    case hg => exact (by exact True.intro)
    case hpl => exact rfl
    case hps => conv => lhs; whnf
    case hz => exact rfl
    case hS => conv => lhs; whnf
    case hT => exact rfl
    case hzl => exact rfl
    case hz1 => exact rfl
    case hsmall => exact rfl
    case hsl => exact rfl
    case hout => conv => lhs; whnf
    case hxs => conv => lhs; whnf
    case hdead => exact rfl
    case hf => exact rfl
    case hd => exact rfl
    apply w_move
    case hg => exact (by exact True.intro)
    case hx => conv => lhs; whnf
    case hd => exact rfl
    apply w_append
    case hg => exact (by exact True.intro)
    case hx => exact rfl
    case hL => exact rfl
    case hy => exact rfl
    case hn => exact rfl
    case hB => conv => lhs; whnf
    case hT => exact rfl
    case hT2 => exact rfl
    case hb0 => exact rfl
    case hroom => (simp only [List.length_map, List.length_take, List.length_append, List.length_cons, List.length_nil, List.length_replicate, List.length_set]; omega)
    case hd => exact rfl
    apply w_assign
    case hg => exact (by exact True.intro)
    case hx => conv => lhs; whnf
    case hd => exact rfl
    apply w_assign
    case hg => exact (by exact True.intro)
    case hx => conv => lhs; whnf
    case hd => exact rfl
    refine .done (by exact fun h => Bool.noConfusion h) ?_
    refine awp_le (le_freeze 101 rfl) ?_
    refine awp_le (le_data 4 101 rfl rfl (by simp)) ?_
    exact awp_ret ⟨_, le_slot 4 (y := .d (dBytes (boundS d.pending k s d.pending.length))) (AVal.le_of_eq (by refine Eq.trans (b := AVal.d (.sl 1 ([] ++ _))) rfl ?_; simp)), ⟨rfl, rfl, trivial⟩, subL_nil _⟩
  · rw [show readS d a = ([], usableS d) by simp [readS, hu]]
    refine awp_seq ?_
    refine awp_region (by kernel_rfl) ?_
    apply w_box (γ := 100)
    case hg => exact (by exact True.intro)
    case hx => conv => lhs; whnf
    case hc => exact rfl
    case hdead => exact rfl
    case hf => exact rfl
    case hm => exact rfl
    case hd => exact rfl
    apply w_assign
    case hg => exact (by exact True.intro)
    case hx => conv => lhs; whnf
    case hd => exact rfl
    apply w_assign
    case hg => exact (by exact True.intro)
    case hx => conv => lhs; whnf
    case hd => exact rfl
    refine .done (by exact fun h => Bool.noConfusion h) ?_
    refine awp_seq ?_
    refine awp_seq ?_
    refine awp_region (by kernel_rfl) ?_
    apply w_load_boxagg
    case hg => exact (by exact True.intro)
    case hx => exact rfl
    case hL => exact rfl
    case hsz => conv => lhs; whnf
    case ht => exact rfl
    case hy => conv => lhs; whnf
    case hlen => exact rfl
    case hd => exact rfl
    apply w_call (hcon := rusable_con d)
    case hxs => exact rfl
    case hys => conv => lhs; whnf
    case hle => (refine ⟨(by exact AVal.le_refl _), ?_⟩; exact trivial)
    case hf => exact rfl
    case hLi => (repeat (first | exact trivial | refine ⟨rfl, ?_⟩ | fail)) <;> fail
    case hin => exact rfl
    case hbox => exact rfl
    case hres => exact rfl
    case hnew => (repeat (first | exact trivial | refine ⟨rfl, ?_⟩ | fail)) <;> fail
    case hdead => (repeat (first | exact trivial | refine ⟨rfl, ?_⟩ | fail)) <;> fail
    case hd => exact rfl
    case hg => exact (by exact True.intro)
    apply w_assign
    case hg => exact (by exact True.intro)
    case hx => conv => lhs; whnf
    case hd => exact rfl
    refine .done (by exact fun h => Bool.noConfusion h) ?_
    refine awp_seq ?_
    refine awp_region (by kernel_rfl) ?_
    apply w_move
    case hg => exact (by exact True.intro)
    case hx => conv => lhs; whnf
    case hd => exact rfl
    apply w_bin
    case hg => exact (by exact True.intro)
    case hx => exact rfl
    case hy => exact rfl
    case hr => exact rb_neq
    case h1 => exact rfl
    case hd => exact rfl
    refine .done (by exact fun h => Bool.noConfusion h) ?_
    refine awp_cond_t rfl (by (simp only [List.length_map, List.length_take, List.length_append, decide_eq_true_eq, decide_eq_false_iff_not, ne_eq, Classical.not_not]; omega)) ?_
    refine awp_seq ?_
    refine awp_region (by kernel_rfl) ?_
    apply w_move
    case hg => exact (by exact True.intro)
    case hx => conv => lhs; whnf
    case hd => exact rfl
    apply w_assign
    case hg => exact (by exact True.intro)
    case hx => conv => lhs; whnf
    case hd => exact rfl
    apply w_assign
    case hg => exact (by exact True.intro)
    case hx => conv => lhs; whnf
    case hd => exact rfl
    refine .done (by exact fun h => Bool.noConfusion h) ?_
    exact awp_ret ⟨_, le_slot 4 (y := .d (dBytes [])) (AVal.le_nil 1), ⟨rfl, rfl, trivial⟩, subL_nil _⟩
end Go.Fw

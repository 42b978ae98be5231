/- The reference's Write and part. -/
import Derived.Test.YtldiocpkgfpehaaW40r
namespace Go.Fw
open Go Go.Proofs
set_option linter.unusedVariables false
set_option linter.unusedSimpArgs false
set_option maxHeartbeats 8000000 in
theorem rpart_con (a b : List UInt8) (k : Nat) (ha : a.length ≤ 4096) (hb : b.length ≤ 4096) (hk : k ≤ a.length) (hk2 : k ≤ b.length) : Con Try.prog 39 [] [.d (dBytes a), ai k, .d (dBytes b)] [] (.d (dBytes (a.take k ++ b.drop k))) := by
  refine con_of (xs := [.d (dBytes (a.take k ++ b.drop k))]) Try.func39 rfl Try.ntmps39 rfl rfl rfl (fun E => ?_)
  refine awp_seq ?_
  refine awp_region (by kernel_rfl) ?_
  apply w_assign
  case hg => exact (by exact True.intro)
  case hx => conv => lhs; whnf
  case hd => exact rfl
  refine .done (by exact fun h => Bool.noConfusion h) ?_
  refine awp_seq ?_
  refine awp_region (by kernel_rfl) ?_
  apply w_lit_own (len := 0) (γ := 100)
  case hg => exact (by exact True.intro)
  case hpl => exact rfl
  case hps => conv => lhs; whnf
  case hz => exact rfl
  case hS => conv => lhs; whnf
  case hT => exact rfl
  case hzl => exact rfl
  case hz1 => exact rfl
  case hsmall => exact rfl
  case hsl => exact rfl
  case hout => conv => lhs; whnf
  case hxs => conv => lhs; whnf
  case hdead => exact rfl
  case hf => exact rfl
  case hd => exact rfl
  apply w_move
  case hg => exact (by exact True.intro)
  case hx => conv => lhs; whnf
  case hd => exact rfl
  apply w_move
  case hg => exact (by exact True.intro)
  case hx => conv => lhs; whnf
  case hd => exact rfl
  apply w_slice
  case hg => exact (by exact True.intro)
  case hx => exact rfl
  case hlo => trivial
  case hhi => trivial
  case hlh => omega
  case hh => (simp; omega)
  case hT => exact rfl
  case hd => exact rfl
  apply w_append
  case hg => exact (by exact True.intro)
  case hx => exact rfl
  case hL => exact rfl
  case hy => exact rfl
  case hn => exact rfl
  case hB => conv => lhs; whnf
  case hT => exact rfl
  case hT2 => exact rfl
  case hb0 => exact rfl
  case hroom => (simp; omega)
  case hd => exact rfl
  apply w_assign
  case hg => exact (by exact True.intro)
  case hx => conv => lhs; whnf
  case hd => exact rfl
  refine .done (by exact fun h => Bool.noConfusion h) ?_
  refine awp_seq ?_
  refine awp_region (by kernel_rfl) ?_
  apply w_move
  case hg => exact (by exact True.intro)
  case hx => conv => lhs; whnf
  case hd => exact rfl
  apply w_move
  case hg => exact (by exact True.intro)
  case hx => conv => lhs; whnf
  case hd => exact rfl
  apply w_move
  case hg => exact (by exact True.intro)
  case hx => conv => lhs; whnf
  case hd => exact rfl
  apply w_slice
  case hg => exact (by exact True.intro)
  case hx => exact rfl
  case hlo => trivial
  case hhi => trivial
  case hlh => (simp; omega)
  case hh => omega
  case hT => exact rfl
  case hd => exact rfl
  apply w_append
  case hg => exact (by exact True.intro)
  case hx => exact rfl
  case hL => exact rfl
  case hy => exact rfl
  case hn => (simp <;> fail)
  case hB => conv => lhs; whnf
  case hT => exact rfl
  case hT2 => exact rfl
  case hb0 => exact rfl
  case hroom => (simp; omega)
  case hd => exact rfl
  apply w_assign
  case hg => exact (by exact True.intro)
  case hx => conv => lhs; whnf
  case hd => exact rfl
  refine .done (by exact fun h => Bool.noConfusion h) ?_
  refine awp_le (le_freeze 100 rfl) ?_
  refine awp_le (le_data 6 100 rfl rfl (by simp)) ?_
  exact awp_ret ⟨_, le_slot 6 (y := .d (dBytes (a.take k ++ b.drop k))) (AVal.le_of_eq (by refine Eq.trans (b := AVal.d (.sl 1 (([] ++ _) ++ _))) rfl ?_; simp [List.take_of_length_le])), ⟨rfl, trivial⟩, subL_nil _⟩
set_option maxHeartbeats 8000000 in
theorem rwrite_con (d : Disk) (a : Int) (b : List UInt8) (hl : fewL d) (hbl : b.length ≤ 4096) : Con Try.prog 12 [] [aDisk d, ai a, .d (dBytes b)] [] (aTwo (aDisk (writeS d a b).1) (writeS d a b).2) := by
  refine con_of (xs := [aDisk (writeS d a b).1, ai (writeS d a b).2]) Try.func12 rfl Try.ntmps12 rfl rfl rfl (fun E => ?_)
  by_cases hu : usableS d = 0
  · have hp := hl.2.1
    by_cases h1 : a < 0
    · rw [show writeS d a b = (emptyD, 1) by simp [writeS, hu]; omega]
      refine awp_seq ?_
      refine awp_region (by kernel_rfl) ?_
      apply w_box (γ := 100)
      case hg => exact (by exact True.intro)
      case hx => conv => lhs; whnf
      case hc => exact rfl
      case hdead => exact rfl
      case hf => exact rfl
      case hm => exact rfl
      case hd => exact rfl
      apply w_alloc (γ := 101)
      case hg => exact (by exact True.intro)
      case hz => exact rfl
      case h1 => exact rfl
      case hdead => exact rfl
      case hf => exact rfl
      case hd => exact rfl
      apply w_assign
      case hg => exact (by exact True.intro)
      case hx => conv => lhs; whnf
      case hd => exact rfl
      refine .done (by exact fun h => Bool.noConfusion h) ?_
      refine awp_seq ?_
      refine awp_seq ?_
      refine awp_region (by kernel_rfl) ?_
      apply w_load_boxagg
      case hg => exact (by exact True.intro)
      case hx => exact rfl
      case hL => exact rfl
      case hsz => conv => lhs; whnf
      case ht => exact rfl
      case hy => conv => lhs; whnf
      case hlen => exact rfl
      case hd => exact rfl
      apply w_call (hcon := rusable_con d)
      case hxs => exact rfl
      case hys => conv => lhs; whnf
      case hle => (refine ⟨(by exact AVal.le_refl _), ?_⟩; exact trivial)
      case hf => exact rfl
      case hLi => (repeat (first | exact trivial | refine ⟨rfl, ?_⟩ | fail)) <;> fail
      case hin => exact rfl
      case hbox => exact rfl
      case hres => exact rfl
      case hnew => (repeat (first | exact trivial | refine ⟨rfl, ?_⟩ | fail)) <;> fail
      case hdead => (repeat (first | exact trivial | refine ⟨rfl, ?_⟩ | fail)) <;> fail
      case hd => exact rfl
      case hg => exact (by exact True.intro)
      apply w_assign
      case hg => exact (by exact True.intro)
      case hx => conv => lhs; whnf
      case hd => exact rfl
      refine .done (by exact fun h => Bool.noConfusion h) ?_
      refine awp_seq ?_
      refine awp_region (by kernel_rfl) ?_
      apply w_move
      case hg => exact (by exact True.intro)
      case hx => conv => lhs; whnf
      case hd => exact rfl
      apply w_bin
      case hg => exact (by exact True.intro)
      case hx => exact rfl
      case hy => exact rfl
      case hr => exact rb_neq
      case h1 => exact rfl
      case hd => exact rfl
      refine .done (by exact fun h => Bool.noConfusion h) ?_
      refine awp_cond_f rfl (by (simp only [List.length_map, List.length_take, List.length_append, decide_eq_true_eq, decide_eq_false_iff_not, ne_eq, Classical.not_not]; omega)) ?_
      refine awp_skip ?_
      refine awp_seq ?_
      refine awp_seq ?_
      refine awp_region (by kernel_rfl) ?_
      apply w_move
      case hg => exact (by exact True.intro)
      case hx => conv => lhs; whnf
      case hd => exact rfl
      apply w_bin
      case hg => exact (by exact True.intro)
      case hx => exact rfl
      case hy => exact rfl
      case hr => exact rb_lss
      case h1 => exact rfl
      case hd => exact rfl
      apply w_move
      case hg => exact (by exact True.intro)
      case hx => conv => lhs; whnf
      case hd => exact rfl
      apply w_skip
      case hg => (exact ⟨rfl, congrArg ab (by (simp only [List.length_map, List.length_take, List.length_append, decide_eq_true_eq, decide_eq_false_iff_not, ne_eq, Classical.not_not]; omega))⟩)
      case hd => exact rfl
      apply w_skip
      case hg => (exact ⟨rfl, congrArg ab (by (simp only [List.length_map, List.length_take, List.length_append, decide_eq_true_eq, decide_eq_false_iff_not, ne_eq, Classical.not_not]; omega))⟩)
      case hd => exact rfl
      apply w_skip
      case hg => (exact ⟨rfl, congrArg ab (by (simp only [List.length_map, List.length_take, List.length_append, decide_eq_true_eq, decide_eq_false_iff_not, ne_eq, Classical.not_not]; omega))⟩)
      case hd => exact rfl
      apply w_skip
      case hg => (exact ⟨rfl, congrArg ab (by (simp only [List.length_map, List.length_take, List.length_append, decide_eq_true_eq, decide_eq_false_iff_not, ne_eq, Classical.not_not]; omega))⟩)
      case hd => exact rfl
      apply w_skip
      case hg => (exact ⟨rfl, congrArg ab (by (simp only [List.length_map, List.length_take, List.length_append, decide_eq_true_eq, decide_eq_false_iff_not, ne_eq, Classical.not_not]; omega))⟩)
      case hd => exact rfl
      apply w_pick_t
      case hg => exact (by exact True.intro)
      case hc => exact rfl
      case hb => exact (by (simp only [List.length_map, List.length_take, List.length_append, decide_eq_true_eq, decide_eq_false_iff_not, ne_eq, Classical.not_not]; omega))
      case hx => conv => lhs; whnf
      case hd => exact rfl
      apply w_move
      case hg => exact (by exact True.intro)
      case hx => conv => lhs; whnf
      case hd => exact rfl
      apply w_skip
      case hg => exact ⟨rfl, rfl⟩
      case hd => exact rfl
      apply w_skip
      case hg => exact ⟨rfl, rfl⟩
      case hd => exact rfl
      apply w_skip
      case hg => exact ⟨rfl, rfl⟩
      case hd => exact rfl
      apply w_pick_t
      case hg => exact (by exact True.intro)
      case hc => exact rfl
      case hb => exact (by rfl)
      case hx => conv => lhs; whnf
      case hd => exact rfl
      refine .done (by exact fun h => Bool.noConfusion h) ?_
      refine awp_cond_t rfl (by rfl) ?_
      refine awp_seq ?_
      refine awp_region (by kernel_rfl) ?_
      apply w_build
      case hg => exact (by exact True.intro)
      case hpl => exact rfl
      case hps => conv => lhs; whnf
      case hz => exact rfl
      case h1 => exact rfl
      case ht => exact rfl
      case hout => conv => lhs; whnf
      case hd => exact rfl
      apply w_store
      case hg => exact (by exact True.intro)
      case hx => exact rfl
      case hL => exact rfl
      case hv => conv => lhs; whnf
      case hc => exact rfl
      case ht => exact rfl
      case hb => exact rfl
      apply w_assign
      case hg => exact (by exact True.intro)
      case hx => conv => lhs; whnf
      case hd => exact rfl
      refine .done (by exact fun h => Bool.noConfusion h) ?_
      exact awp_ret ⟨_, le_box 101 (cs := [ani, ani, ab false]) (cs' := [.d (dSecs []), .d (dPend []), ab false]) rfl ⟨AVal.le_nil 1, AVal.le_nil 2, AVal.le_refl _, trivial⟩ rfl, ⟨⟨101, 0, _, rfl, rfl, .inr ⟨3, _, rfl, rfl, rfl, rfl⟩⟩, rfl, trivial⟩, subL_nil _⟩
    by_cases h2 : (d.sectors.length : Int) ≤ a
    · rw [show writeS d a b = (emptyD, 1) by simp [writeS, hu]; omega]
      refine awp_seq ?_
      refine awp_region (by kernel_rfl) ?_
      apply w_box (γ := 100)
      case hg => exact (by exact True.intro)
      case hx => conv => lhs; whnf
      case hc => exact rfl
      case hdead => exact rfl
      case hf => exact rfl
      case hm => exact rfl
      case hd => exact rfl
      apply w_alloc (γ := 101)
      case hg => exact (by exact True.intro)
      case hz => exact rfl
      case h1 => exact rfl
      case hdead => exact rfl
      case hf => exact rfl
      case hd => exact rfl
      apply w_assign
      case hg => exact (by exact True.intro)
      case hx => conv => lhs; whnf
      case hd => exact rfl
      refine .done (by exact fun h => Bool.noConfusion h) ?_
      refine awp_seq ?_
      refine awp_seq ?_
      refine awp_region (by kernel_rfl) ?_
      apply w_load_boxagg
      case hg => exact (by exact True.intro)
      case hx => exact rfl
      case hL => exact rfl
      case hsz => conv => lhs; whnf
      case ht => exact rfl
      case hy => conv => lhs; whnf
      case hlen => exact rfl
      case hd => exact rfl
      apply w_call (hcon := rusable_con d)
      case hxs => exact rfl
      case hys => conv => lhs; whnf
      case hle => (refine ⟨(by exact AVal.le_refl _), ?_⟩; exact trivial)
      case hf => exact rfl
      case hLi => (repeat (first | exact trivial | refine ⟨rfl, ?_⟩ | fail)) <;> fail
      case hin => exact rfl
      case hbox => exact rfl
      case hres => exact rfl
      case hnew => (repeat (first | exact trivial | refine ⟨rfl, ?_⟩ | fail)) <;> fail
      case hdead => (repeat (first | exact trivial | refine ⟨rfl, ?_⟩ | fail)) <;> fail
      case hd => exact rfl
      case hg => exact (by exact True.intro)
      apply w_assign
      case hg => exact (by exact True.intro)
      case hx => conv => lhs; whnf
      case hd => exact rfl
      refine .done (by exact fun h => Bool.noConfusion h) ?_
      refine awp_seq ?_
      refine awp_region (by kernel_rfl) ?_
      apply w_move
      case hg => exact (by exact True.intro)
      case hx => conv => lhs; whnf
      case hd => exact rfl
      apply w_bin
      case hg => exact (by exact True.intro)
      case hx => exact rfl
      case hy => exact rfl
      case hr => exact rb_neq
      case h1 => exact rfl
      case hd => exact rfl
      refine .done (by exact fun h => Bool.noConfusion h) ?_
      refine awp_cond_f rfl (by (simp only [List.length_map, List.length_take, List.length_append, decide_eq_true_eq, decide_eq_false_iff_not, ne_eq, Classical.not_not]; omega)) ?_
      refine awp_skip ?_
      refine awp_seq ?_
      refine awp_seq ?_
      refine awp_region (by kernel_rfl) ?_
      apply w_move
      case hg => exact (by exact True.intro)
      case hx => conv => lhs; whnf
      case hd => exact rfl
      apply w_bin
      case hg => exact (by exact True.intro)
      case hx => exact rfl
      case hy => exact rfl
      case hr => exact rb_lss
      case h1 => exact rfl
      case hd => exact rfl
      apply w_move
      case hg => exact (by exact True.intro)
      case hx => conv => lhs; whnf
      case hd => exact rfl
      apply w_move
      case hg => exact (by (exact ⟨rfl, congrArg ab (by (simp only [List.length_map, List.length_take, List.length_append, decide_eq_true_eq, decide_eq_false_iff_not, ne_eq, Classical.not_not]; omega))⟩))
      case hx => conv => lhs; whnf
      case hd => exact rfl
      apply w_field_box
      case hg => exact (by (exact ⟨rfl, congrArg ab (by (simp only [List.length_map, List.length_take, List.length_append, decide_eq_true_eq, decide_eq_false_iff_not, ne_eq, Classical.not_not]; omega))⟩))
      case hx => exact rfl
      case hoff => conv => lhs; whnf
      case hf => exact rfl
      case hd => exact rfl
      apply w_load_box
      case hg => exact (by (exact ⟨rfl, congrArg ab (by (simp only [List.length_map, List.length_take, List.length_append, decide_eq_true_eq, decide_eq_false_iff_not, ne_eq, Classical.not_not]; omega))⟩))
      case hx => exact rfl
      case hL => exact rfl
      case hy => conv => lhs; whnf
      case ht => exact rfl
      case hd => exact rfl
      apply w_len_data
      case hg => exact (by (exact ⟨rfl, congrArg ab (by (simp only [List.length_map, List.length_take, List.length_append, decide_eq_true_eq, decide_eq_false_iff_not, ne_eq, Classical.not_not]; omega))⟩))
      case hx => exact rfl
      case hT => exact rfl
      case hd => exact rfl
      apply w_bin
      case hg => exact (by (exact ⟨rfl, congrArg ab (by (simp only [List.length_map, List.length_take, List.length_append, decide_eq_true_eq, decide_eq_false_iff_not, ne_eq, Classical.not_not]; omega))⟩))
      case hx => exact rfl
      case hy => exact rfl
      case hr => exact rb_geq
      case h1 => exact rfl
      case hd => exact rfl
      apply w_pick_f
      case hg => exact (by exact True.intro)
      case hc => exact rfl
      case hb => exact (by (simp only [List.length_map, List.length_take, List.length_append, decide_eq_true_eq, decide_eq_false_iff_not, ne_eq, Classical.not_not]; omega))
      case hx => conv => lhs; whnf
      case hd => exact rfl
      apply w_move
      case hg => exact (by exact True.intro)
      case hx => conv => lhs; whnf
      case hd => exact rfl
      apply w_skip
      case hg => (exact ⟨rfl, congrArg ab (by (simp only [List.length_map, List.length_take, List.length_append, decide_eq_true_eq, decide_eq_false_iff_not, ne_eq, Classical.not_not]; omega))⟩)
      case hd => exact rfl
      apply w_skip
      case hg => (exact ⟨rfl, congrArg ab (by (simp only [List.length_map, List.length_take, List.length_append, decide_eq_true_eq, decide_eq_false_iff_not, ne_eq, Classical.not_not]; omega))⟩)
      case hd => exact rfl
      apply w_skip
      case hg => (exact ⟨rfl, congrArg ab (by (simp only [List.length_map, List.length_take, List.length_append, decide_eq_true_eq, decide_eq_false_iff_not, ne_eq, Classical.not_not]; omega))⟩)
      case hd => exact rfl
      apply w_pick_t
      case hg => exact (by exact True.intro)
      case hc => exact rfl
      case hb => exact (by (simp only [List.length_map, List.length_take, List.length_append, decide_eq_true_eq, decide_eq_false_iff_not, ne_eq, Classical.not_not]; omega))
      case hx => conv => lhs; whnf
      case hd => exact rfl
      refine .done (by exact fun h => Bool.noConfusion h) ?_
      refine awp_cond_t rfl (by rfl) ?_
      refine awp_seq ?_
      refine awp_region (by kernel_rfl) ?_
      apply w_build
      case hg => exact (by exact True.intro)
      case hpl => exact rfl
      case hps => conv => lhs; whnf
      case hz => exact rfl
      case h1 => exact rfl
      case ht => exact rfl
      case hout => conv => lhs; whnf
      case hd => exact rfl
      apply w_store
      case hg => exact (by exact True.intro)
      case hx => exact rfl
      case hL => exact rfl
      case hv => conv => lhs; whnf
      case hc => exact rfl
      case ht => exact rfl
      case hb => exact rfl
      apply w_assign
      case hg => exact (by exact True.intro)
      case hx => conv => lhs; whnf
      case hd => exact rfl
      refine .done (by exact fun h => Bool.noConfusion h) ?_
      exact awp_ret ⟨_, le_box 101 (cs := [ani, ani, ab false]) (cs' := [.d (dSecs []), .d (dPend []), ab false]) rfl ⟨AVal.le_nil 1, AVal.le_nil 2, AVal.le_refl _, trivial⟩ rfl, ⟨⟨101, 0, _, rfl, rfl, .inr ⟨3, _, rfl, rfl, rfl, rfl⟩⟩, rfl, trivial⟩, subL_nil _⟩
    by_cases h3 : b.length ≠ 64
    · rw [show writeS d a b = (emptyD, 1) by simp [writeS, hu]; omega]
      refine awp_seq ?_
      refine awp_region (by kernel_rfl) ?_
      apply w_box (γ := 100)
      case hg => exact (by exact True.intro)
      case hx => conv => lhs; whnf
      case hc => exact rfl
      case hdead => exact rfl
      case hf => exact rfl
      case hm => exact rfl
      case hd => exact rfl
      apply w_alloc (γ := 101)
      case hg => exact (by exact True.intro)
      case hz => exact rfl
      case h1 => exact rfl
      case hdead => exact rfl
      case hf => exact rfl
      case hd => exact rfl
      apply w_assign
      case hg => exact (by exact True.intro)
      case hx => conv => lhs; whnf
      case hd => exact rfl
      refine .done (by exact fun h => Bool.noConfusion h) ?_
      refine awp_seq ?_
      refine awp_seq ?_
      refine awp_region (by kernel_rfl) ?_
      apply w_load_boxagg
      case hg => exact (by exact True.intro)
      case hx => exact rfl
      case hL => exact rfl
      case hsz => conv => lhs; whnf
      case ht => exact rfl
      case hy => conv => lhs; whnf
      case hlen => exact rfl
      case hd => exact rfl
      apply w_call (hcon := rusable_con d)
      case hxs => exact rfl
      case hys => conv => lhs; whnf
      case hle => (refine ⟨(by exact AVal.le_refl _), ?_⟩; exact trivial)
      case hf => exact rfl
      case hLi => (repeat (first | exact trivial | refine ⟨rfl, ?_⟩ | fail)) <;> fail
      case hin => exact rfl
      case hbox => exact rfl
      case hres => exact rfl
      case hnew => (repeat (first | exact trivial | refine ⟨rfl, ?_⟩ | fail)) <;> fail
      case hdead => (repeat (first | exact trivial | refine ⟨rfl, ?_⟩ | fail)) <;> fail
      case hd => exact rfl
      case hg => exact (by exact True.intro)
      apply w_assign
      case hg => exact (by exact True.intro)
      case hx => conv => lhs; whnf
      case hd => exact rfl
      refine .done (by exact fun h => Bool.noConfusion h) ?_
      refine awp_seq ?_
      refine awp_region (by kernel_rfl) ?_
      apply w_move
      case hg => exact (by exact True.intro)
      case hx => conv => lhs; whnf
      case hd => exact rfl
      apply w_bin
      case hg => exact (by exact True.intro)
      case hx => exact rfl
      case hy => exact rfl
      case hr => exact rb_neq
      case h1 => exact rfl
      case hd => exact rfl
      refine .done (by exact fun h => Bool.noConfusion h) ?_
      refine awp_cond_f rfl (by (simp only [List.length_map, List.length_take, List.length_append, decide_eq_true_eq, decide_eq_false_iff_not, ne_eq, Classical.not_not]; omega)) ?_
      refine awp_skip ?_
      refine awp_seq ?_
      refine awp_seq ?_
      refine awp_region (by kernel_rfl) ?_
      apply w_move
      case hg => exact (by exact True.intro)
      case hx => conv => lhs; whnf
      case hd => exact rfl
      apply w_bin
      case hg => exact (by exact True.intro)
      case hx => exact rfl
      case hy => exact rfl
      case hr => exact rb_lss
      case h1 => exact rfl
      case hd => exact rfl
      apply w_move
      case hg => exact (by exact True.intro)
      case hx => conv => lhs; whnf
      case hd => exact rfl
      apply w_move
      case hg => exact (by (exact ⟨rfl, congrArg ab (by (simp only [List.length_map, List.length_take, List.length_append, decide_eq_true_eq, decide_eq_false_iff_not, ne_eq, Classical.not_not]; omega))⟩))
      case hx => conv => lhs; whnf
      case hd => exact rfl
      apply w_field_box
      case hg => exact (by (exact ⟨rfl, congrArg ab (by (simp only [List.length_map, List.length_take, List.length_append, decide_eq_true_eq, decide_eq_false_iff_not, ne_eq, Classical.not_not]; omega))⟩))
      case hx => exact rfl
      case hoff => conv => lhs; whnf
      case hf => exact rfl
      case hd => exact rfl
      apply w_load_box
      case hg => exact (by (exact ⟨rfl, congrArg ab (by (simp only [List.length_map, List.length_take, List.length_append, decide_eq_true_eq, decide_eq_false_iff_not, ne_eq, Classical.not_not]; omega))⟩))
      case hx => exact rfl
      case hL => exact rfl
      case hy => conv => lhs; whnf
      case ht => exact rfl
      case hd => exact rfl
      apply w_len_data
      case hg => exact (by (exact ⟨rfl, congrArg ab (by (simp only [List.length_map, List.length_take, List.length_append, decide_eq_true_eq, decide_eq_false_iff_not, ne_eq, Classical.not_not]; omega))⟩))
      case hx => exact rfl
      case hT => exact rfl
      case hd => exact rfl
      apply w_bin
      case hg => exact (by (exact ⟨rfl, congrArg ab (by (simp only [List.length_map, List.length_take, List.length_append, decide_eq_true_eq, decide_eq_false_iff_not, ne_eq, Classical.not_not]; omega))⟩))
      case hx => exact rfl
      case hy => exact rfl
      case hr => exact rb_geq
      case h1 => exact rfl
      case hd => exact rfl
      apply w_pick_f
      case hg => exact (by exact True.intro)
      case hc => exact rfl
      case hb => exact (by (simp only [List.length_map, List.length_take, List.length_append, decide_eq_true_eq, decide_eq_false_iff_not, ne_eq, Classical.not_not]; omega))
      case hx => conv => lhs; whnf
      case hd => exact rfl
      apply w_move
      case hg => exact (by exact True.intro)
      case hx => conv => lhs; whnf
      case hd => exact rfl
      apply w_move
      case hg => exact (by (exact ⟨rfl, congrArg ab (by (simp only [List.length_map, List.length_take, List.length_append, decide_eq_true_eq, decide_eq_false_iff_not, ne_eq, Classical.not_not]; omega))⟩))
      case hx => conv => lhs; whnf
      case hd => exact rfl
      apply w_len_data
      case hg => exact (by (exact ⟨rfl, congrArg ab (by (simp only [List.length_map, List.length_take, List.length_append, decide_eq_true_eq, decide_eq_false_iff_not, ne_eq, Classical.not_not]; omega))⟩))
      case hx => exact rfl
      case hT => exact rfl
      case hd => exact rfl
      apply w_bin
      case hg => exact (by (exact ⟨rfl, congrArg ab (by (simp only [List.length_map, List.length_take, List.length_append, decide_eq_true_eq, decide_eq_false_iff_not, ne_eq, Classical.not_not]; omega))⟩))
      case hx => exact rfl
      case hy => exact rfl
      case hr => exact rb_neq
      case h1 => exact rfl
      case hd => exact rfl
      apply w_pick_f
      case hg => exact (by exact True.intro)
      case hc => exact rfl
      case hb => exact (by (simp only [List.length_map, List.length_take, List.length_append, decide_eq_true_eq, decide_eq_false_iff_not, ne_eq, Classical.not_not]; omega))
      case hx => conv => lhs; whnf
      case hd => exact rfl
      refine .done (by exact fun h => Bool.noConfusion h) ?_
      refine awp_cond_t rfl (by (simp only [List.length_map, List.length_take, List.length_append, decide_eq_true_eq, decide_eq_false_iff_not, ne_eq, Classical.not_not]; omega)) ?_
      refine awp_seq ?_
      refine awp_region (by kernel_rfl) ?_
      apply w_build
      case hg => exact (by exact True.intro)
      case hpl => exact rfl
      case hps => conv => lhs; whnf
      case hz => exact rfl
      case h1 => exact rfl
      case ht => exact rfl
      case hout => conv => lhs; whnf
      case hd => exact rfl
      apply w_store
      case hg => exact (by exact True.intro)
      case hx => exact rfl
      case hL => exact rfl
      case hv => conv => lhs; whnf
      case hc => exact rfl
      case ht => exact rfl
      case hb => exact rfl
      apply w_assign
      case hg => exact (by exact True.intro)
      case hx => conv => lhs; whnf
      case hd => exact rfl
      refine .done (by exact fun h => Bool.noConfusion h) ?_
      exact awp_ret ⟨_, le_box 101 (cs := [ani, ani, ab false]) (cs' := [.d (dSecs []), .d (dPend []), ab false]) rfl ⟨AVal.le_nil 1, AVal.le_nil 2, AVal.le_refl _, trivial⟩ rfl, ⟨⟨101, 0, _, rfl, rfl, .inr ⟨3, _, rfl, rfl, rfl, rfl⟩⟩, rfl, trivial⟩, subL_nil _⟩
    have h3 : b.length = 64 := by simpa using h3
    rw [show writeS d a b = (⟨d.sectors, d.pending ++ [⟨a, b⟩], d.on⟩, 0) by simp only [writeS, hu]; rw [if_neg (by simp), if_pos ⟨by omega, by omega, h3⟩]]
    refine awp_seq ?_
    refine awp_region (by kernel_rfl) ?_
    apply w_box (γ := 100)
    case hg => exact (by exact True.intro)
    case hx => conv => lhs; whnf
    case hc => exact rfl
    case hdead => exact rfl
    case hf => exact rfl
    case hm => exact rfl
    case hd => exact rfl
    apply w_alloc (γ := 101)
    case hg => exact (by exact True.intro)
    case hz => exact rfl
    case h1 => exact rfl
    case hdead => exact rfl
    case hf => exact rfl
    case hd => exact rfl
    apply w_assign
    case hg => exact (by exact True.intro)
    case hx => conv => lhs; whnf
    case hd => exact rfl
    refine .done (by exact fun h => Bool.noConfusion h) ?_
    refine awp_seq ?_
    refine awp_seq ?_
    refine awp_region (by kernel_rfl) ?_
    apply w_load_boxagg
    case hg => exact (by exact True.intro)
    case hx => exact rfl
    case hL => exact rfl
    case hsz => conv => lhs; whnf
    case ht => exact rfl
    case hy => conv => lhs; whnf
    case hlen => exact rfl
    case hd => exact rfl
    apply w_call (hcon := rusable_con d)
    case hxs => exact rfl
    case hys => conv => lhs; whnf
    case hle => (refine ⟨(by exact AVal.le_refl _), ?_⟩; exact trivial)
    case hf => exact rfl
    case hLi => (repeat (first | exact trivial | refine ⟨rfl, ?_⟩ | fail)) <;> fail
    case hin => exact rfl
    case hbox => exact rfl
    case hres => exact rfl
    case hnew => (repeat (first | exact trivial | refine ⟨rfl, ?_⟩ | fail)) <;> fail
    case hdead => (repeat (first | exact trivial | refine ⟨rfl, ?_⟩ | fail)) <;> fail
    case hd => exact rfl
    case hg => exact (by exact True.intro)
    apply w_assign
    case hg => exact (by exact True.intro)
    case hx => conv => lhs; whnf
    case hd => exact rfl
    refine .done (by exact fun h => Bool.noConfusion h) ?_
    refine awp_seq ?_
    refine awp_region (by kernel_rfl) ?_
    apply w_move
    case hg => exact (by exact True.intro)
    case hx => conv => lhs; whnf
    case hd => exact rfl
    apply w_bin
    case hg => exact (by exact True.intro)
    case hx => exact rfl
    case hy => exact rfl
    case hr => exact rb_neq
    case h1 => exact rfl
    case hd => exact rfl
    refine .done (by exact fun h => Bool.noConfusion h) ?_
    refine awp_cond_f rfl (by (simp only [List.length_map, List.length_take, List.length_append, decide_eq_true_eq, decide_eq_false_iff_not, ne_eq, Classical.not_not]; omega)) ?_
    refine awp_skip ?_
    refine awp_seq ?_
    refine awp_seq ?_
    refine awp_region (by kernel_rfl) ?_
    apply w_move
    case hg => exact (by exact True.intro)
    case hx => conv => lhs; whnf
    case hd => exact rfl
    apply w_bin
    case hg => exact (by exact True.intro)
    case hx => exact rfl
    case hy => exact rfl
    case hr => exact rb_lss
    case h1 => exact rfl
    case hd => exact rfl
    apply w_move
    case hg => exact (by exact True.intro)
    case hx => conv => lhs; whnf
    case hd => exact rfl
    apply w_move
    case hg => exact (by (exact ⟨rfl, congrArg ab (by (simp only [List.length_map, List.length_take, List.length_append, decide_eq_true_eq, decide_eq_false_iff_not, ne_eq, Classical.not_not]; omega))⟩))
    case hx => conv => lhs; whnf
    case hd => exact rfl
    apply w_field_box
    case hg => exact (by (exact ⟨rfl, congrArg ab (by (simp only [List.length_map, List.length_take, List.length_append, decide_eq_true_eq, decide_eq_false_iff_not, ne_eq, Classical.not_not]; omega))⟩))
    case hx => exact rfl
    case hoff => conv => lhs; whnf
    case hf => exact rfl
    case hd => exact rfl
    apply w_load_box
    case hg => exact (by (exact ⟨rfl, congrArg ab (by (simp only [List.length_map, List.length_take, List.length_append, decide_eq_true_eq, decide_eq_false_iff_not, ne_eq, Classical.not_not]; omega))⟩))
    case hx => exact rfl
    case hL => exact rfl
    case hy => conv => lhs; whnf
    case ht => exact rfl
    case hd => exact rfl
    apply w_len_data
    case hg => exact (by (exact ⟨rfl, congrArg ab (by (simp only [List.length_map, List.length_take, List.length_append, decide_eq_true_eq, decide_eq_false_iff_not, ne_eq, Classical.not_not]; omega))⟩))
    case hx => exact rfl
    case hT => exact rfl
    case hd => exact rfl
    apply w_bin
    case hg => exact (by (exact ⟨rfl, congrArg ab (by (simp only [List.length_map, List.length_take, List.length_append, decide_eq_true_eq, decide_eq_false_iff_not, ne_eq, Classical.not_not]; omega))⟩))
    case hx => exact rfl
    case hy => exact rfl
    case hr => exact rb_geq
    case h1 => exact rfl
    case hd => exact rfl
    apply w_pick_f
    case hg => exact (by exact True.intro)
    case hc => exact rfl
    case hb => exact (by (simp only [List.length_map, List.length_take, List.length_append, decide_eq_true_eq, decide_eq_false_iff_not, ne_eq, Classical.not_not]; omega))
    case hx => conv => lhs; whnf
    case hd => exact rfl
    apply w_move
    case hg => exact (by exact True.intro)
    case hx => conv => lhs; whnf
    case hd => exact rfl
    apply w_move
    case hg => exact (by (exact ⟨rfl, congrArg ab (by (simp only [List.length_map, List.length_take, List.length_append, decide_eq_true_eq, decide_eq_false_iff_not, ne_eq, Classical.not_not]; omega))⟩))
    case hx => conv => lhs; whnf
    case hd => exact rfl
    apply w_len_data
    case hg => exact (by (exact ⟨rfl, congrArg ab (by (simp only [List.length_map, List.length_take, List.length_append, decide_eq_true_eq, decide_eq_false_iff_not, ne_eq, Classical.not_not]; omega))⟩))
    case hx => exact rfl
    case hT => exact rfl
    case hd => exact rfl
    apply w_bin
    case hg => exact (by (exact ⟨rfl, congrArg ab (by (simp only [List.length_map, List.length_take, List.length_append, decide_eq_true_eq, decide_eq_false_iff_not, ne_eq, Classical.not_not]; omega))⟩))
    case hx => exact rfl
    case hy => exact rfl
    case hr => exact rb_neq
    case h1 => exact rfl
    case hd => exact rfl
    apply w_pick_f
    case hg => exact (by exact True.intro)
    case hc => exact rfl
    case hb => exact (by (simp only [List.length_map, List.length_take, List.length_append, decide_eq_true_eq, decide_eq_false_iff_not, ne_eq, Classical.not_not]; omega))
    case hx => conv => lhs; whnf
    case hd => exact rfl
    refine .done (by exact fun h => Bool.noConfusion h) ?_
    refine awp_cond_f rfl (by (simp only [List.length_map, List.length_take, List.length_append, decide_eq_true_eq, decide_eq_false_iff_not, ne_eq, Classical.not_not]; omega)) ?_
    refine awp_skip ?_
    refine awp_seq ?_
    refine awp_region (by kernel_rfl) ?_
    apply w_load_boxagg
    case hg => exact (by exact True.intro)
    case hx => exact rfl
    case hL => exact rfl
    case hsz => conv => lhs; whnf
    case ht => exact rfl
    case hy => conv => lhs; whnf
    case hlen => exact rfl
    case hd => exact rfl
    apply w_call (hcon := rcopy_con d hl)
    case hxs => exact rfl
    case hys => conv => lhs; whnf
    case hle => (refine ⟨(by exact AVal.le_refl _), ?_⟩; exact trivial)
    case hf => exact rfl
    case hLi => (repeat (first | exact trivial | refine ⟨rfl, ?_⟩ | fail)) <;> fail
    case hin => exact rfl
    case hbox => exact rfl
    case hres => exact rfl
    case hnew => (repeat (first | exact trivial | refine ⟨rfl, ?_⟩ | fail)) <;> fail
    case hdead => (repeat (first | exact trivial | refine ⟨rfl, ?_⟩ | fail)) <;> fail
    case hd => exact rfl
    case hg => exact (by exact True.intro)
    apply w_alloc (γ := 102)
    case hg => exact (by exact True.intro)
    case hz => exact rfl
    case h1 => exact rfl
    case hdead => exact rfl
    case hf => exact rfl
    case hd => exact rfl
    apply w_store
    case hg => exact (by exact True.intro)
    case hx => exact rfl
    case hL => exact rfl
    case hv => conv => lhs; whnf
    case hc => exact rfl
    case ht => exact rfl
    case hb => exact rfl
    refine .done (by exact fun h => Bool.noConfusion h) ?_
    refine awp_seq ?_
    refine awp_region (by kernel_rfl) ?_
    apply w_field_box
    case hg => exact (by exact True.intro)
    case hx => exact rfl
    case hoff => conv => lhs; whnf
    case hf => exact rfl
    case hd => exact rfl
    apply w_load_box
    case hg => exact (by exact True.intro)
    case hx => exact rfl
    case hL => exact rfl
    case hy => conv => lhs; whnf
    case ht => exact rfl
    case hd => exact rfl
    apply w_move
    case hg => exact (by exact True.intro)
    case hx => conv => lhs; whnf
    case hd => exact rfl
    apply w_lit_own (len := 0) (γ := 103)
    case hg => exact (by exact True.intro)
    case hpl => exact rfl
    case hps => conv => lhs; whnf
    case hz => exact rfl
    case hS => conv => lhs; whnf
    case hT => exact rfl
    case hzl => exact rfl
    case hz1 => exact rfl
    case hsmall => exact rfl
    case hsl => exact rfl
    case hout => conv => lhs; whnf
    case hxs => conv => lhs; whnf
    case hdead => exact rfl
    case hf => exact rfl
    case hd => exact rfl
    apply w_move
    case hg => exact (by exact True.intro)
    case hx => conv => lhs; whnf
    case hd => exact rfl
    apply w_append_go (γ := 103)
    case hg => exact (by exact True.intro)
    case hx => exact rfl
    case hL => exact rfl
    case hy => exact rfl
    case hn => exact rfl
    case hB => conv => lhs; whnf
    case hT => exact rfl
    case hT2 => exact rfl
    case hb0 => exact rfl
    case hroom => (simp only [List.length_map, List.length_take, List.length_append, List.length_cons, List.length_nil, List.length_replicate, List.length_set]; omega)
    case hd => exact rfl
    apply w_build
    case hg => exact (by exact True.intro)
    case hpl => exact rfl
    case hps => conv => lhs; whnf
    case hz => exact rfl
    case h1 => exact rfl
    case ht => exact rfl
    case hout => conv => lhs; whnf
    case hd => exact rfl
    apply w_lit
    case hg => exact (by exact True.intro)
    case hpl => exact rfl
    case hps => conv => lhs; whnf
    case hz => exact rfl
    case hS => conv => lhs; whnf
    case hT => exact rfl
    case hzl => exact rfl
    case hz1 => exact rfl
    case hsmall => exact rfl
    case hsl => exact rfl
    case hout => conv => lhs; whnf
    case hxs => conv => lhs; whnf
    case hd => exact rfl
    apply w_append
    case hg => exact (by exact True.intro)
    case hx => exact rfl
    case hL => exact rfl
    case hy => exact rfl
    case hn => (simp <;> fail)
    case hB => conv => lhs; whnf
    case hT => exact rfl
    case hT2 => exact rfl
    case hb0 => exact rfl
    case hroom => (simp only [List.length_map, List.length_take, List.length_append, List.length_cons, List.length_nil, List.length_replicate, List.length_set]; omega)
    case hd => exact rfl
    apply w_field_box
    case hg => exact (by exact True.intro)
    case hx => exact rfl
    case hoff => conv => lhs; whnf
    case hf => exact rfl
    case hd => exact rfl
    apply w_store
    case hg => exact (by exact True.intro)
    case hx => exact rfl
    case hL => exact rfl
    case hv => conv => lhs; whnf
    case hc => exact rfl
    case ht => exact rfl
    case hb => exact rfl
    refine .done (by exact fun _ => rfl) ?_
    refine awp_seq ?_
    refine awp_region (by kernel_rfl) ?_
    apply w_load_boxagg
    case hg => exact (by exact True.intro)
    case hx => exact rfl
    case hL => exact rfl
    case hsz => conv => lhs; whnf
    case ht => exact rfl
    case hy => conv => lhs; whnf
    case hlen => exact rfl
    case hd => exact rfl
    apply w_store
    case hg => exact (by exact True.intro)
    case hx => exact rfl
    case hL => exact rfl
    case hv => conv => lhs; whnf
    case hc => exact rfl
    case ht => exact rfl
    case hb => exact rfl
    apply w_assign
    case hg => exact (by exact True.intro)
    case hx => conv => lhs; whnf
    case hd => exact rfl
    refine .done (by exact fun h => Bool.noConfusion h) ?_
    refine awp_le (le_freeze 130 rfl) ?_
    refine awp_le (le_freeze 131 rfl) ?_
    refine awp_le (le_data_box 101 0 130 (cs := [.own 130 d.sectors.length, .own 131 ((d.pending.map cWr).length + 1), ab d.on]) (sz := 1) (xs := d.sectors.map cBytes) rfl rfl rfl (by simp)) ?_
    refine awp_le (le_data_box 101 1 131 (cs := [.d (dSecs d.sectors), .own 131 ((d.pending.map cWr).length + 1), ab d.on]) (sz := 2) (xs := (d.pending ++ [(⟨a, b⟩ : Wr)]).map cWr) rfl rfl (by refine Eq.trans (b := AObj.froz 2 (_ ++ [[_, .sl 1 ([] ++ _)]])) rfl ?_; simp) (by simp)) ?_
    exact awp_ret ⟨_, St.le_refl _, ⟨⟨101, 0, _, rfl, rfl, .inr ⟨3, _, rfl, rfl, rfl, rfl⟩⟩, rfl, trivial⟩, subL_nil _⟩
  · rw [show writeS d a b = (emptyD, usableS d) by simp [writeS, hu]]
    refine awp_seq ?_
    refine awp_region (by kernel_rfl) ?_
    apply w_box (γ := 100)
    case hg => exact (by exact True.intro)
    case hx => conv => lhs; whnf
    case hc => exact rfl
    case hdead => exact rfl
    case hf => exact rfl
    case hm => exact rfl
    case hd => exact rfl
    apply w_alloc (γ := 101)
    case hg => exact (by exact True.intro)
    case hz => exact rfl
    case h1 => exact rfl
    case hdead => exact rfl
    case hf => exact rfl
    case hd => exact rfl
    apply w_assign
    case hg => exact (by exact True.intro)
    case hx => conv => lhs; whnf
    case hd => exact rfl
    refine .done (by exact fun h => Bool.noConfusion h) ?_
    refine awp_seq ?_
    refine awp_seq ?_
    refine awp_region (by kernel_rfl) ?_
    apply w_load_boxagg
    case hg => exact (by exact True.intro)
    case hx => exact rfl
    case hL => exact rfl
    case hsz => conv => lhs; whnf
    case ht => exact rfl
    case hy => conv => lhs; whnf
    case hlen => exact rfl
    case hd => exact rfl
    apply w_call (hcon := rusable_con d)
    case hxs => exact rfl
    case hys => conv => lhs; whnf
    case hle => (refine ⟨(by exact AVal.le_refl _), ?_⟩; exact trivial)
    case hf => exact rfl
    case hLi => (repeat (first | exact trivial | refine ⟨rfl, ?_⟩ | fail)) <;> fail
    case hin => exact rfl
    case hbox => exact rfl
    case hres => exact rfl
    case hnew => (repeat (first | exact trivial | refine ⟨rfl, ?_⟩ | fail)) <;> fail
    case hdead => (repeat (first | exact trivial | refine ⟨rfl, ?_⟩ | fail)) <;> fail
    case hd => exact rfl
    case hg => exact (by exact True.intro)
    apply w_assign
    case hg => exact (by exact True.intro)
    case hx => conv => lhs; whnf
    case hd => exact rfl
    refine .done (by exact fun h => Bool.noConfusion h) ?_
    refine awp_seq ?_
    refine awp_region (by kernel_rfl) ?_
    apply w_move
    case hg => exact (by exact True.intro)
    case hx => conv => lhs; whnf
    case hd => exact rfl
    apply w_bin
    case hg => exact (by exact True.intro)
    case hx => exact rfl
    case hy => exact rfl
    case hr => exact rb_neq
    case h1 => exact rfl
    case hd => exact rfl
    refine .done (by exact fun h => Bool.noConfusion h) ?_
    refine awp_cond_t rfl (by (simp only [List.length_map, List.length_take, List.length_append, decide_eq_true_eq, decide_eq_false_iff_not, ne_eq, Classical.not_not]; omega)) ?_
    refine awp_seq ?_
    refine awp_region (by kernel_rfl) ?_
    apply w_build
    case hg => exact (by exact True.intro)
    case hpl => exact rfl
    case hps => conv => lhs; whnf
    case hz => exact rfl
    case h1 => exact rfl
    case ht => exact rfl
    case hout => conv => lhs; whnf
    case hd => exact rfl
    apply w_move
    case hg => exact (by exact True.intro)
    case hx => conv => lhs; whnf
    case hd => exact rfl
    apply w_store
    case hg => exact (by exact True.intro)
    case hx => exact rfl
    case hL => exact rfl
    case hv => conv => lhs; whnf
    case hc => exact rfl
    case ht => exact rfl
    case hb => exact rfl
    apply w_assign
    case hg => exact (by exact True.intro)
    case hx => conv => lhs; whnf
    case hd => exact rfl
    refine .done (by exact fun h => Bool.noConfusion h) ?_
    exact awp_ret ⟨_, le_box 101 (cs := [ani, ani, ab false]) (cs' := [.d (dSecs []), .d (dPend []), ab false]) rfl ⟨AVal.le_nil 1, AVal.le_nil 2, AVal.le_refl _, trivial⟩ rfl, ⟨⟨101, 0, _, rfl, rfl, .inr ⟨3, _, rfl, rfl, rfl, rfl⟩⟩, rfl, trivial⟩, subL_nil _⟩
end Go.Fw

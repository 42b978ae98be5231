import Derived.Test.YtldiocpkgfpehaaW40j
namespace Go.Fw
open Go Go.Proofs
set_option linter.unusedVariables false
set_option linter.unusedSimpArgs false
set_option maxHeartbeats 8000000 in
theorem disk_data (d : Disk) : Con Try.prog 30 [] [.agg [.d (dPend d.pending), .d (dSecs d.sectors), ab d.on]] [] (aDisk d) := by
  refine con_of (xs := [aDisk d]) Try.func30 rfl Try.ntmps30 rfl rfl rfl (fun E => ?_)
  refine awp_seq ?_
  refine awp_region (by kernel_rfl) ?_
  apply w_box (γ := 100)
  case hg => exact (by exact True.intro)
  case hx => conv => lhs; whnf
  case hc => exact rfl
  case hdead => exact rfl
  case hf => exact rfl
  case hm => exact rfl
  case hd => exact rfl
  apply w_alloc (γ := 101)
  case hg => exact (by exact True.intro)
  case hz => exact rfl
  case h1 => exact rfl
  case hdead => exact rfl
  case hf => exact rfl
  case hd => exact rfl
  refine .done (by exact fun h => Bool.noConfusion h) ?_
  refine awp_seq ?_
  refine awp_region (by kernel_rfl) ?_
  apply w_field_box
  case hg => exact (by exact True.intro)
  case hx => exact rfl
  case hoff => conv => lhs; whnf
  case hf => exact rfl
  case hd => exact rfl
  apply w_load_box
  case hg => exact (by exact True.intro)
  case hx => exact rfl
  case hL => exact rfl
  case hy => conv => lhs; whnf
  case ht => exact rfl
  case hd => exact rfl
  apply w_field_box
  case hg => exact (by exact True.intro)
  case hx => exact rfl
  case hoff => conv => lhs; whnf
  case hf => exact rfl
  case hd => exact rfl
  apply w_field_box
  case hg => exact (by exact True.intro)
  case hx => exact rfl
  case hoff => conv => lhs; whnf
  case hf => exact rfl
  case hd => exact rfl
  apply w_load_box
  case hg => exact (by exact True.intro)
  case hx => exact rfl
  case hL => exact rfl
  case hy => conv => lhs; whnf
  case ht => exact rfl
  case hd => exact rfl
  apply w_field_box
  case hg => exact (by exact True.intro)
  case hx => exact rfl
  case hoff => conv => lhs; whnf
  case hf => exact rfl
  case hd => exact rfl
  apply w_load_box
  case hg => exact (by exact True.intro)
  case hx => exact rfl
  case hL => exact rfl
  case hy => conv => lhs; whnf
  case ht => exact rfl
  case hd => exact rfl
  apply w_build
  case hg => exact (by exact True.intro)
  case hpl => exact rfl
  case hps => conv => lhs; whnf
  case hz => exact rfl
  case h1 => exact rfl
  case ht => exact rfl
  case hout => conv => lhs; whnf
  case hd => exact rfl
  apply w_store
  case hg => exact (by exact True.intro)
  case hx => exact rfl
  case hL => exact rfl
  case hv => conv => lhs; whnf
  case hc => exact rfl
  case ht => exact rfl
  case hb => exact rfl
  refine .done (by exact fun h => Bool.noConfusion h) ?_
  exact awp_ret ⟨_, St.le_refl _, ⟨⟨101, 0, _, rfl, rfl, .inr ⟨3, _, rfl, rfl, rfl, rfl⟩⟩, trivial⟩, subL_nil _⟩
theorem whole_eq {b r : List UInt8} (hb : b.length = 64) (hr : r.length = 64) : List.take (min (List.map cByte b).length (List.map cByte r).length) (List.map cByte b) ++ List.drop (min (List.map cByte b).length (List.map cByte r).length) (List.map cByte r) = List.map cByte b := by
  rw [List.length_map, List.length_map, hb, hr, List.take_of_length_le (by simp [hb]), List.drop_of_length_le (by simp [hr])]; simp
theorem bound_len {d : Disk} {a : Int} {s : List UInt8} (hok : okW d.sectors d.pending) (hs : s.length = 64) : ∀ k, (boundS d.pending a s k).length = 64
  | 0 => hs
  | k + 1 => by
    simp only [boundS]
    split
    · rename_i w hw
      split
      · exact (hok.2 w (List.mem_of_getElem? hw)).2.2
      · exact bound_len hok hs k
    · exact bound_len hok hs k
set_option maxHeartbeats 8000000 in
theorem new_con (n : Int) : Con Try.prog 18 [] [ai n] [] (aTwo (aDisk (newS n).1) (newS n).2) := by
  refine con_of (xs := [aDisk (newS n).1, ai (newS n).2]) Try.func18 rfl Try.ntmps18 rfl rfl rfl (fun E => ?_)
  by_cases h1 : n < 1
  · rw [show newS n = (emptyD, 1) by unfold newS; rw [if_neg (by omega)]]
    refine awp_seq ?_
    refine awp_region (by kernel_rfl) ?_
    apply w_alloc (γ := 100)
    case hg => exact (by exact True.intro)
    case hz => exact rfl
    case h1 => exact rfl
    case hdead => exact rfl
    case hf => exact rfl
    case hd => exact rfl
    apply w_assign
    case hg => exact (by exact True.intro)
    case hx => conv => lhs; whnf
    case hd => exact rfl
    refine .done (by exact fun h => Bool.noConfusion h) ?_
    refine awp_seq ?_
    refine awp_seq ?_
    refine awp_region (by kernel_rfl) ?_
    apply w_move
    case hg => exact (by exact True.intro)
    case hx => conv => lhs; whnf
    case hd => exact rfl
    apply w_bin
    case hg => exact (by exact True.intro)
    case hx => exact rfl
    case hy => exact rfl
    case hr => exact rb_lss
    case h1 => exact rfl
    case hd => exact rfl
    apply w_move
    case hg => exact (by exact True.intro)
    case hx => conv => lhs; whnf
    case hd => exact rfl
    apply w_skip
    case hg => (exact ⟨rfl, congrArg ab (by (simp only [List.length_map, List.length_take, List.length_append, decide_eq_true_eq, decide_eq_false_iff_not, ne_eq, Classical.not_not]; omega))⟩)
    case hd => exact rfl
    apply w_skip
    case hg => (exact ⟨rfl, congrArg ab (by (simp only [List.length_map, List.length_take, List.length_append, decide_eq_true_eq, decide_eq_false_iff_not, ne_eq, Classical.not_not]; omega))⟩)
    case hd => exact rfl
    apply w_pick_t
    case hg => exact (by exact True.intro)
    case hc => exact rfl
    case hb => exact (by (simp only [List.length_map, List.length_take, List.length_append, decide_eq_true_eq, decide_eq_false_iff_not, ne_eq, Classical.not_not]; omega))
    case hx => conv => lhs; whnf
    case hd => exact rfl
    refine .done (by exact fun h => Bool.noConfusion h) ?_
    refine awp_cond_t rfl (by rfl) ?_
    refine awp_seq ?_
    refine awp_region (by kernel_rfl) ?_
    apply w_build
    case hg => exact (by exact True.intro)
    case hpl => exact rfl
    case hps => conv => lhs; whnf
    case hz => exact rfl
    case h1 => exact rfl
    case ht => exact rfl
    case hout => conv => lhs; whnf
    case hd => exact rfl
    apply w_store
    case hg => exact (by exact True.intro)
    case hx => exact rfl
    case hL => exact rfl
    case hv => conv => lhs; whnf
    case hc => exact rfl
    case ht => exact rfl
    case hb => exact rfl
    apply w_assign
    case hg => exact (by exact True.intro)
    case hx => conv => lhs; whnf
    case hd => exact rfl
    refine .done (by exact fun h => Bool.noConfusion h) ?_
    exact awp_ret ⟨_, le_box 100 (cs := [ani, ani, ab false]) (cs' := [.d (dSecs []), .d (dPend []), ab false]) rfl ⟨AVal.le_nil 1, AVal.le_nil 2, AVal.le_refl _, trivial⟩ rfl, ⟨⟨100, 0, _, rfl, rfl, .inr ⟨3, _, rfl, rfl, rfl, rfl⟩⟩, rfl, trivial⟩, subL_nil _⟩
  by_cases h2 : 4096 < n
  · rw [show newS n = (emptyD, 1) by unfold newS; rw [if_neg (by omega)]]
    refine awp_seq ?_
    refine awp_region (by kernel_rfl) ?_
    apply w_alloc (γ := 100)
    case hg => exact (by exact True.intro)
    case hz => exact rfl
    case h1 => exact rfl
    case hdead => exact rfl
    case hf => exact rfl
    case hd => exact rfl
    apply w_assign
    case hg => exact (by exact True.intro)
    case hx => conv => lhs; whnf
    case hd => exact rfl
    refine .done (by exact fun h => Bool.noConfusion h) ?_
    refine awp_seq ?_
    refine awp_seq ?_
    refine awp_region (by kernel_rfl) ?_
    apply w_move
    case hg => exact (by exact True.intro)
    case hx => conv => lhs; whnf
    case hd => exact rfl
    apply w_bin
    case hg => exact (by exact True.intro)
    case hx => exact rfl
    case hy => exact rfl
    case hr => exact rb_lss
    case h1 => exact rfl
    case hd => exact rfl
    apply w_move
    case hg => exact (by exact True.intro)
    case hx => conv => lhs; whnf
    case hd => exact rfl
    apply w_move
    case hg => exact (by (exact ⟨rfl, congrArg ab (by (simp only [List.length_map, List.length_take, List.length_append, decide_eq_true_eq, decide_eq_false_iff_not, ne_eq, Classical.not_not]; omega))⟩))
    case hx => conv => lhs; whnf
    case hd => exact rfl
    apply w_bin
    case hg => exact (by (exact ⟨rfl, congrArg ab (by (simp only [List.length_map, List.length_take, List.length_append, decide_eq_true_eq, decide_eq_false_iff_not, ne_eq, Classical.not_not]; omega))⟩))
    case hx => exact rfl
    case hy => exact rfl
    case hr => exact rb_gtr
    case h1 => exact rfl
    case hd => exact rfl
    apply w_pick_f
    case hg => exact (by exact True.intro)
    case hc => exact rfl
    case hb => exact (by (simp only [List.length_map, List.length_take, List.length_append, decide_eq_true_eq, decide_eq_false_iff_not, ne_eq, Classical.not_not]; omega))
    case hx => conv => lhs; whnf
    case hd => exact rfl
    refine .done (by exact fun h => Bool.noConfusion h) ?_
    refine awp_cond_t rfl (by (simp only [List.length_map, List.length_take, List.length_append, decide_eq_true_eq, decide_eq_false_iff_not, ne_eq, Classical.not_not]; omega)) ?_
    refine awp_seq ?_
    refine awp_region (by kernel_rfl) ?_
    apply w_build
    case hg => exact (by exact True.intro)
    case hpl => exact rfl
    case hps => conv => lhs; whnf
    case hz => exact rfl
    case h1 => exact rfl
    case ht => exact rfl
    case hout => conv => lhs; whnf
    case hd => exact rfl
    apply w_store
    case hg => exact (by exact True.intro)
    case hx => exact rfl
    case hL => exact rfl
    case hv => conv => lhs; whnf
    case hc => exact rfl
    case ht => exact rfl
    case hb => exact rfl
    apply w_assign
    case hg => exact (by exact True.intro)
    case hx => conv => lhs; whnf
    case hd => exact rfl
    refine .done (by exact fun h => Bool.noConfusion h) ?_
    exact awp_ret ⟨_, le_box 100 (cs := [ani, ani, ab false]) (cs' := [.d (dSecs []), .d (dPend []), ab false]) rfl ⟨AVal.le_nil 1, AVal.le_nil 2, AVal.le_refl _, trivial⟩ rfl, ⟨⟨100, 0, _, rfl, rfl, .inr ⟨3, _, rfl, rfl, rfl, rfl⟩⟩, rfl, trivial⟩, subL_nil _⟩
  obtain ⟨m, rfl⟩ : ∃ m : Nat, n = m := ⟨n.toNat, by omega⟩
  rw [show newS (m : Int) = (⟨List.replicate m zeroS, [], true⟩, 0) by unfold newS; rw [if_pos (by omega), Int.toNat_natCast]]
  refine awp_seq ?_
  refine awp_region (by kernel_rfl) ?_
  apply w_alloc (γ := 100)
  case hg => exact (by exact True.intro)
  case hz => exact rfl
  case h1 => exact rfl
  case hdead => exact rfl
  case hf => exact rfl
  case hd => exact rfl
  apply w_assign
  case hg => exact (by exact True.intro)
  case hx => conv => lhs; whnf
  case hd => exact rfl
  refine .done (by exact fun h => Bool.noConfusion h) ?_
  refine awp_seq ?_
  refine awp_seq ?_
  refine awp_region (by kernel_rfl) ?_
  apply w_move
  case hg => exact (by exact True.intro)
  case hx => conv => lhs; whnf
  case hd => exact rfl
  apply w_bin
  case hg => exact (by exact True.intro)
  case hx => exact rfl
  case hy => exact rfl
  case hr => exact rb_lss
  case h1 => exact rfl
  case hd => exact rfl
  apply w_move
  case hg => exact (by exact True.intro)
  case hx => conv => lhs; whnf
  case hd => exact rfl
  apply w_move
  case hg => exact (by (exact ⟨rfl, congrArg ab (by (simp only [List.length_map, List.length_take, List.length_append, decide_eq_true_eq, decide_eq_false_iff_not, ne_eq, Classical.not_not]; omega))⟩))
  case hx => conv => lhs; whnf
  case hd => exact rfl
  apply w_bin
  case hg => exact (by (exact ⟨rfl, congrArg ab (by (simp only [List.length_map, List.length_take, List.length_append, decide_eq_true_eq, decide_eq_false_iff_not, ne_eq, Classical.not_not]; omega))⟩))
  case hx => exact rfl
  case hy => exact rfl
  case hr => exact rb_gtr
  case h1 => exact rfl
  case hd => exact rfl
  apply w_pick_f
  case hg => exact (by exact True.intro)
  case hc => exact rfl
  case hb => exact (by (simp only [List.length_map, List.length_take, List.length_append, decide_eq_true_eq, decide_eq_false_iff_not, ne_eq, Classical.not_not]; omega))
  case hx => conv => lhs; whnf
  case hd => exact rfl
  refine .done (by exact fun h => Bool.noConfusion h) ?_
  refine awp_cond_f rfl (by (simp only [List.length_map, List.length_take, List.length_append, decide_eq_true_eq, decide_eq_false_iff_not, ne_eq, Classical.not_not]; omega)) ?_
  refine awp_skip ?_
  refine awp_seq ?_
  refine awp_region (by kernel_rfl) ?_
  apply w_build
  case hg => exact (by exact True.intro)
  case hpl => exact rfl
  case hps => conv => lhs; whnf
  case hz => exact rfl
  case h1 => exact rfl
  case ht => exact rfl
  case hout => conv => lhs; whnf
  case hd => exact rfl
  apply w_alloc (γ := 101)
  case hg => exact (by exact True.intro)
  case hz => exact rfl
  case h1 => exact rfl
  case hdead => exact rfl
  case hf => exact rfl
  case hd => exact rfl
  apply w_store
  case hg => exact (by exact True.intro)
  case hx => exact rfl
  case hL => exact rfl
  case hv => conv => lhs; whnf
  case hc => exact rfl
  case ht => exact rfl
  case hb => exact rfl
  refine .done (by exact fun h => Bool.noConfusion h) ?_
  refine awp_seq ?_
  refine awp_seq ?_
  refine awp_region (by kernel_rfl) ?_
  apply w_move
  case hg => exact (by exact True.intro)
  case hx => conv => lhs; whnf
  case hd => exact rfl
  apply w_move
  case hg => exact (by exact True.intro)
  case hx => conv => lhs; whnf
  case hd => exact rfl
  refine .done (by exact fun h => Bool.noConfusion h) ?_
  refine awp_block ?_
  refine awp_le (le_adopt_box 101 1 121 1 (cs := [ani, ani, ab true]) rfl rfl rfl rfl rfl) ?_
  refine awp_loopI (fun k : Nat => k ≤ m) (fun k => ⟨25, [(2, .ptr 100 0), (4, .ptr 101 0), (13, ai m), (14, ai k)], [(100, .box [ani, ani, ab false]), (101, .box [ani, .own 121 k, ab true]), (121, .row 1 ((List.replicate k zeroS).map cBytes))]⟩) (fun k => m - k) 0 (by omega)
    (le_mk rfl ⟨(by (first | ((exact AVal.le_refl _)) | ((exact AVal.le_nil _)) | ((refine AVal.le_agg ?_; ((repeat (first | exact trivial | refine ⟨(by (first | ((exact AVal.le_refl _)) | ((exact AVal.le_nil _)) | ((refine AVal.le_of_eq ?_; (conv => lhs; whnf); (first | ((rfl)) | ((simp <;> fail)) | fail))) | fail)), ?_⟩ | fail)) <;> fail))) | ((refine AVal.le_of_eq ?_; (conv => lhs; whnf); (first | ((rfl)) | ((simp <;> fail)) | fail))) | fail)), (by (first | ((exact AVal.le_refl _)) | ((exact AVal.le_nil _)) | ((refine AVal.le_agg ?_; ((repeat (first | exact trivial | refine ⟨(by (first | ((exact AVal.le_refl _)) | ((exact AVal.le_nil _)) | ((refine AVal.le_of_eq ?_; (conv => lhs; whnf); (first | ((rfl)) | ((simp <;> fail)) | fail))) | fail)), ?_⟩ | fail)) <;> fail))) | ((refine AVal.le_of_eq ?_; (conv => lhs; whnf); (first | ((rfl)) | ((simp <;> fail)) | fail))) | fail)), (by (first | ((exact AVal.le_refl _)) | ((exact AVal.le_nil _)) | ((refine AVal.le_agg ?_; ((repeat (first | exact trivial | refine ⟨(by (first | ((exact AVal.le_refl _)) | ((exact AVal.le_nil _)) | ((refine AVal.le_of_eq ?_; (conv => lhs; whnf); (first | ((rfl)) | ((simp <;> fail)) | fail))) | fail)), ?_⟩ | fail)) <;> fail))) | ((refine AVal.le_of_eq ?_; (conv => lhs; whnf); (first | ((rfl)) | ((simp <;> fail)) | fail))) | fail)), (by (first | ((exact AVal.le_refl _)) | ((exact AVal.le_nil _)) | ((refine AVal.le_agg ?_; ((repeat (first | exact trivial | refine ⟨(by (first | ((exact AVal.le_refl _)) | ((exact AVal.le_nil _)) | ((refine AVal.le_of_eq ?_; (conv => lhs; whnf); (first | ((rfl)) | ((simp <;> fail)) | fail))) | fail)), ?_⟩ | fail)) <;> fail))) | ((refine AVal.le_of_eq ?_; (conv => lhs; whnf); (first | ((rfl)) | ((simp <;> fail)) | fail))) | fail)), trivial⟩ ⟨rfl, rfl, rfl, trivial⟩) ?_
  intro k hk
  refine awp_seq ?_
  refine awp_region (by kernel_rfl) ?_
  apply w_bin
  case hg => exact (by exact True.intro)
  case hx => exact rfl
  case hy => exact rfl
  case hr => exact rb_lss
  case h1 => exact rfl
  case hd => exact rfl
  refine .done (by exact fun h => Bool.noConfusion h) ?_
  refine awp_seq ?_
  refine awp_cond rfl (fun h => ?_) (fun h => ?_)
  · have h := of_decide_eq_true h
    refine awp_skip ?_
    refine awp_seq ?_
    refine awp_block ?_
    refine awp_region (by kernel_rfl) ?_
    apply w_field_box
    case hg => exact (by exact True.intro)
    case hx => exact rfl
    case hoff => conv => lhs; whnf
    case hf => exact rfl
    case hd => exact rfl
    apply w_load_box
    case hg => exact (by exact True.intro)
    case hx => exact rfl
    case hL => exact rfl
    case hy => conv => lhs; whnf
    case ht => exact rfl
    case hd => exact rfl
    apply w_make
    case hg => exact (by exact True.intro)
    case hx => exact rfl
    case hy => exact rfl
    case hm => exact rfl
    case hm' => exact rfl
    case hz => exact rfl
    case hB => conv => lhs; whnf
    case hS => conv => lhs; whnf
    case hT => exact rfl
    case h1 => exact rfl
    case hl => exact rfl
    case hroom => (simp only [List.length_map, List.length_take, List.length_append, List.length_cons, List.length_nil, List.length_replicate, List.length_set]; omega)
    case hn => (simp only [List.length_map, List.length_take, List.length_append, List.length_cons, List.length_nil, List.length_replicate, List.length_set]; omega)
    case hd => exact rfl
    apply w_lit
    case hg => exact (by exact True.intro)
    case hpl => exact rfl
    case hps => conv => lhs; whnf
    case hz => exact rfl
    case hS => conv => lhs; whnf
    case hT => exact rfl
    case hzl => exact rfl
    case hz1 => exact rfl
    case hsmall => exact rfl
    case hsl => exact rfl
    case hout => conv => lhs; whnf
    case hxs => conv => lhs; whnf
    case hd => exact rfl
    apply w_append
    case hg => exact (by exact True.intro)
    case hx => exact rfl
    case hL => exact rfl
    case hy => exact rfl
    case hn => (simp <;> fail)
    case hB => conv => lhs; whnf
    case hT => exact rfl
    case hT2 => exact rfl
    case hb0 => exact rfl
    case hroom => (simp only [List.length_map, List.length_take, List.length_append, List.length_cons, List.length_nil, List.length_replicate, List.length_set]; omega)
    case hd => exact rfl
    apply w_field_box
    case hg => exact (by exact True.intro)
    case hx => exact rfl
    case hoff => conv => lhs; whnf
    case hf => exact rfl
    case hd => exact rfl
    apply w_store
    case hg => exact (by exact True.intro)
    case hx => exact rfl
    case hL => exact rfl
    case hv => conv => lhs; whnf
    case hc => exact rfl
    case ht => exact rfl
    case hb => exact rfl
    refine .done (by exact fun _ => rfl) ?_
    refine awp_region (by kernel_rfl) ?_
    apply w_bin
    case hg => exact (by exact True.intro)
    case hx => exact rfl
    case hy => exact rfl
    case hr => (exact rb_add64 (by unfold in64; omega))
    case h1 => exact rfl
    case hd => exact rfl
    apply w_move
    case hg => exact (by exact True.intro)
    case hx => conv => lhs; whnf
    case hd => exact rfl
    refine .done (by exact fun h => Bool.noConfusion h) ?_
    refine ⟨k + 1, by omega, by omega, le_mk rfl ⟨(by (first | ((exact AVal.le_refl _)) | ((exact AVal.le_nil _)) | ((refine AVal.le_agg ?_; ((repeat (first | exact trivial | refine ⟨(by (first | ((exact AVal.le_refl _)) | ((exact AVal.le_nil _)) | ((refine AVal.le_of_eq ?_; (conv => lhs; whnf); (first | ((rfl)) | ((simp <;> fail)) | fail))) | fail)), ?_⟩ | fail)) <;> fail))) | ((refine AVal.le_of_eq ?_; (conv => lhs; whnf); (first | ((rfl)) | ((simp <;> fail)) | fail))) | fail)), (by (first | ((exact AVal.le_refl _)) | ((exact AVal.le_nil _)) | ((refine AVal.le_agg ?_; ((repeat (first | exact trivial | refine ⟨(by (first | ((exact AVal.le_refl _)) | ((exact AVal.le_nil _)) | ((refine AVal.le_of_eq ?_; (conv => lhs; whnf); (first | ((rfl)) | ((simp <;> fail)) | fail))) | fail)), ?_⟩ | fail)) <;> fail))) | ((refine AVal.le_of_eq ?_; (conv => lhs; whnf); (first | ((rfl)) | ((simp <;> fail)) | fail))) | fail)), (by (first | ((exact AVal.le_refl _)) | ((exact AVal.le_nil _)) | ((refine AVal.le_agg ?_; ((repeat (first | exact trivial | refine ⟨(by (first | ((exact AVal.le_refl _)) | ((exact AVal.le_nil _)) | ((refine AVal.le_of_eq ?_; (conv => lhs; whnf); (first | ((rfl)) | ((simp <;> fail)) | fail))) | fail)), ?_⟩ | fail)) <;> fail))) | ((refine AVal.le_of_eq ?_; (conv => lhs; whnf); (first | ((rfl)) | ((simp <;> fail)) | fail))) | fail)), (by (first | ((exact AVal.le_refl _)) | ((exact AVal.le_nil _)) | ((refine AVal.le_agg ?_; ((repeat (first | exact trivial | refine ⟨(by (first | ((exact AVal.le_refl _)) | ((exact AVal.le_nil _)) | ((refine AVal.le_of_eq ?_; (conv => lhs; whnf); (first | ((rfl)) | ((simp <;> fail)) | fail))) | fail)), ?_⟩ | fail)) <;> fail))) | ((refine AVal.le_of_eq ?_; (conv => lhs; whnf); (first | ((rfl)) | ((simp <;> fail)) | fail))) | fail)), trivial⟩ ⟨rfl, ?_, ?_, trivial⟩⟩
    · refine Eq.trans (b := AObj.box [ani, .own 121 _, ab true]) rfl ?_
      congr 3; simp
    · refine Eq.trans (b := AObj.row 1 (_ ++ [_])) rfl ?_
      rw [show List.replicate (k + 1) zeroS = List.replicate k zeroS ++ [zeroS] from List.replicate_succ', List.map_append]; rfl
  have h := of_decide_eq_false h
  obtain rfl : k = m := by omega
  refine awp_le (le_freeze 121 rfl) ?_
  refine awp_le (le_data_box 101 1 121 (cs := [ani, .own 121 k, ab true]) (sz := 1) (xs := (List.replicate k zeroS).map cBytes) rfl rfl rfl (by simp)) ?_
  refine awp_le (le_box 101 (cs := [ani, .d (dSecs (List.replicate k zeroS)), ab true]) (cs' := [.d (dPend []), .d (dSecs (List.replicate k zeroS)), ab true]) rfl ⟨AVal.le_nil 2, AVal.le_refl _, AVal.le_refl _, trivial⟩ rfl) ?_
  refine awp_exit ?_
  refine awp_seq ?_
  refine awp_region (by kernel_rfl) ?_
  apply w_load_boxagg
  case hg => exact (by exact True.intro)
  case hx => exact rfl
  case hL => exact rfl
  case hsz => conv => lhs; whnf
  case ht => exact rfl
  case hy => conv => lhs; whnf
  case hlen => exact rfl
  case hd => exact rfl
  apply w_call (hcon := disk_data ⟨List.replicate k zeroS, [], true⟩)
  case hxs => exact rfl
  case hys => conv => lhs; whnf
  case hle => (refine ⟨(by exact AVal.le_refl _), ?_⟩; exact trivial)
  case hf => exact rfl
  case hLi => (repeat (first | exact trivial | refine ⟨rfl, ?_⟩ | fail)) <;> fail
  case hin => exact rfl
  case hbox => exact rfl
  case hres => exact rfl
  case hnew => (repeat (first | exact trivial | refine ⟨rfl, ?_⟩ | fail)) <;> fail
  case hdead => (repeat (first | exact trivial | refine ⟨rfl, ?_⟩ | fail)) <;> fail
  case hd => exact rfl
  case hg => exact (by exact True.intro)
  apply w_store
  case hg => exact (by exact True.intro)
  case hx => exact rfl
  case hL => exact rfl
  case hv => conv => lhs; whnf
  case hc => exact rfl
  case ht => exact rfl
  case hb => exact rfl
  apply w_assign
  case hg => exact (by exact True.intro)
  case hx => conv => lhs; whnf
  case hd => exact rfl
  refine .done (by exact fun h => Bool.noConfusion h) ?_
  exact awp_ret ⟨_, St.le_refl _, ⟨⟨100, 0, _, rfl, rfl, .inr ⟨3, _, rfl, rfl, rfl, rfl⟩⟩, rfl, trivial⟩, subL_nil _⟩
set_option maxHeartbeats 8000000 in
theorem read_con (d : Disk) (a : Int) (hl : fewL d) : Con Try.prog 21 [] [aDisk d, ai a] [] (aTwo (.d (dBytes (readS d a).1)) (readS d a).2) := by
  refine con_of (xs := [.d (dBytes (readS d a).1), ai (readS d a).2]) Try.func21 rfl Try.ntmps21 rfl rfl rfl (fun E => ?_)
  by_cases hu : usableS d = 0
  · have hp := hl.2.1
    by_cases h1 : a < 0
    · rw [show readS d a = ([], 1) by simp [readS, hu]; omega]
      refine awp_seq ?_
      refine awp_region (by kernel_rfl) ?_
      apply w_box (γ := 100)
      case hg => exact (by exact True.intro)
      case hx => conv => lhs; whnf
      case hc => exact rfl
      case hdead => exact rfl
      case hf => exact rfl
      case hm => exact rfl
      case hd => exact rfl
      apply w_assign
      case hg => exact (by exact True.intro)
      case hx => conv => lhs; whnf
      case hd => exact rfl
      apply w_assign
      case hg => exact (by exact True.intro)
      case hx => conv => lhs; whnf
      case hd => exact rfl
      refine .done (by exact fun h => Bool.noConfusion h) ?_
      refine awp_seq ?_
      refine awp_seq ?_
      refine awp_region (by kernel_rfl) ?_
      apply w_load_boxagg
      case hg => exact (by exact True.intro)
      case hx => exact rfl
      case hL => exact rfl
      case hsz => conv => lhs; whnf
      case ht => exact rfl
      case hy => conv => lhs; whnf
      case hlen => exact rfl
      case hd => exact rfl
      apply w_call (hcon := usable_con d)
      case hxs => exact rfl
      case hys => conv => lhs; whnf
      case hle => (refine ⟨(by exact AVal.le_refl _), ?_⟩; exact trivial)
      case hf => exact rfl
      case hLi => (repeat (first | exact trivial | refine ⟨rfl, ?_⟩ | fail)) <;> fail
      case hin => exact rfl
      case hbox => exact rfl
      case hres => exact rfl
      case hnew => (repeat (first | exact trivial | refine ⟨rfl, ?_⟩ | fail)) <;> fail
      case hdead => (repeat (first | exact trivial | refine ⟨rfl, ?_⟩ | fail)) <;> fail
      case hd => exact rfl
      case hg => exact (by exact True.intro)
      apply w_assign
      case hg => exact (by exact True.intro)
      case hx => conv => lhs; whnf
      case hd => exact rfl
      refine .done (by exact fun h => Bool.noConfusion h) ?_
      refine awp_seq ?_
      refine awp_region (by kernel_rfl) ?_
      apply w_move
      case hg => exact (by exact True.intro)
      case hx => conv => lhs; whnf
      case hd => exact rfl
      apply w_bin
      case hg => exact (by exact True.intro)
      case hx => exact rfl
      case hy => exact rfl
      case hr => exact rb_neq
      case h1 => exact rfl
      case hd => exact rfl
      refine .done (by exact fun h => Bool.noConfusion h) ?_
      refine awp_cond_f rfl (by (simp only [List.length_map, List.length_take, List.length_append, decide_eq_true_eq, decide_eq_false_iff_not, ne_eq, Classical.not_not]; omega)) ?_
      refine awp_skip ?_
      refine awp_seq ?_
      refine awp_seq ?_
      refine awp_region (by kernel_rfl) ?_
      apply w_move
      case hg => exact (by exact True.intro)
      case hx => conv => lhs; whnf
      case hd => exact rfl
      apply w_bin
      case hg => exact (by exact True.intro)
      case hx => exact rfl
      case hy => exact rfl
      case hr => exact rb_lss
      case h1 => exact rfl
      case hd => exact rfl
      apply w_move
      case hg => exact (by exact True.intro)
      case hx => conv => lhs; whnf
      case hd => exact rfl
      apply w_skip
      case hg => (exact ⟨rfl, congrArg ab (by (simp only [List.length_map, List.length_take, List.length_append, decide_eq_true_eq, decide_eq_false_iff_not, ne_eq, Classical.not_not]; omega))⟩)
      case hd => exact rfl
      apply w_skip
      case hg => (exact ⟨rfl, congrArg ab (by (simp only [List.length_map, List.length_take, List.length_append, decide_eq_true_eq, decide_eq_false_iff_not, ne_eq, Classical.not_not]; omega))⟩)
      case hd => exact rfl
      apply w_skip
      case hg => (exact ⟨rfl, congrArg ab (by (simp only [List.length_map, List.length_take, List.length_append, decide_eq_true_eq, decide_eq_false_iff_not, ne_eq, Classical.not_not]; omega))⟩)
      case hd => exact rfl
      apply w_skip
      case hg => (exact ⟨rfl, congrArg ab (by (simp only [List.length_map, List.length_take, List.length_append, decide_eq_true_eq, decide_eq_false_iff_not, ne_eq, Classical.not_not]; omega))⟩)
      case hd => exact rfl
      apply w_skip
      case hg => (exact ⟨rfl, congrArg ab (by (simp only [List.length_map, List.length_take, List.length_append, decide_eq_true_eq, decide_eq_false_iff_not, ne_eq, Classical.not_not]; omega))⟩)
      case hd => exact rfl
      apply w_pick_t
      case hg => exact (by exact True.intro)
      case hc => exact rfl
      case hb => exact (by (simp only [List.length_map, List.length_take, List.length_append, decide_eq_true_eq, decide_eq_false_iff_not, ne_eq, Classical.not_not]; omega))
      case hx => conv => lhs; whnf
      case hd => exact rfl
      refine .done (by exact fun h => Bool.noConfusion h) ?_
      refine awp_cond_t rfl (by rfl) ?_
      refine awp_seq ?_
      refine awp_region (by kernel_rfl) ?_
      apply w_assign
      case hg => exact (by exact True.intro)
      case hx => conv => lhs; whnf
      case hd => exact rfl
      apply w_assign
      case hg => exact (by exact True.intro)
      case hx => conv => lhs; whnf
      case hd => exact rfl
      refine .done (by exact fun h => Bool.noConfusion h) ?_
      exact awp_ret ⟨_, le_slot 4 (y := .d (dBytes [])) (AVal.le_nil 1), ⟨rfl, rfl, trivial⟩, subL_nil _⟩
    by_cases h2 : (d.sectors.length : Int) ≤ a
    · rw [show readS d a = ([], 1) by simp [readS, hu]; omega]
      refine awp_seq ?_
      refine awp_region (by kernel_rfl) ?_
      apply w_box (γ := 100)
      case hg => exact (by exact True.intro)
      case hx => conv => lhs; whnf
      case hc => exact rfl
      case hdead => exact rfl
      case hf => exact rfl
      case hm => exact rfl
      case hd => exact rfl
      apply w_assign
      case hg => exact (by exact True.intro)
      case hx => conv => lhs; whnf
      case hd => exact rfl
      apply w_assign
      case hg => exact (by exact True.intro)
      case hx => conv => lhs; whnf
      case hd => exact rfl
      refine .done (by exact fun h => Bool.noConfusion h) ?_
      refine awp_seq ?_
      refine awp_seq ?_
      refine awp_region (by kernel_rfl) ?_
      apply w_load_boxagg
      case hg => exact (by exact True.intro)
      case hx => exact rfl
      case hL => exact rfl
      case hsz => conv => lhs; whnf
      case ht => exact rfl
      case hy => conv => lhs; whnf
      case hlen => exact rfl
      case hd => exact rfl
      apply w_call (hcon := usable_con d)
      case hxs => exact rfl
      case hys => conv => lhs; whnf
      case hle => (refine ⟨(by exact AVal.le_refl _), ?_⟩; exact trivial)
      case hf => exact rfl
      case hLi => (repeat (first | exact trivial | refine ⟨rfl, ?_⟩ | fail)) <;> fail
      case hin => exact rfl
      case hbox => exact rfl
      case hres => exact rfl
      case hnew => (repeat (first | exact trivial | refine ⟨rfl, ?_⟩ | fail)) <;> fail
      case hdead => (repeat (first | exact trivial | refine ⟨rfl, ?_⟩ | fail)) <;> fail
      case hd => exact rfl
      case hg => exact (by exact True.intro)
      apply w_assign
      case hg => exact (by exact True.intro)
      case hx => conv => lhs; whnf
      case hd => exact rfl
      refine .done (by exact fun h => Bool.noConfusion h) ?_
      refine awp_seq ?_
      refine awp_region (by kernel_rfl) ?_
      apply w_move
      case hg => exact (by exact True.intro)
      case hx => conv => lhs; whnf
      case hd => exact rfl
      apply w_bin
      case hg => exact (by exact True.intro)
      case hx => exact rfl
      case hy => exact rfl
      case hr => exact rb_neq
      case h1 => exact rfl
      case hd => exact rfl
      refine .done (by exact fun h => Bool.noConfusion h) ?_
      refine awp_cond_f rfl (by (simp only [List.length_map, List.length_take, List.length_append, decide_eq_true_eq, decide_eq_false_iff_not, ne_eq, Classical.not_not]; omega)) ?_
      refine awp_skip ?_
      refine awp_seq ?_
      refine awp_seq ?_
      refine awp_region (by kernel_rfl) ?_
      apply w_move
      case hg => exact (by exact True.intro)
      case hx => conv => lhs; whnf
      case hd => exact rfl
      apply w_bin
      case hg => exact (by exact True.intro)
      case hx => exact rfl
      case hy => exact rfl
      case hr => exact rb_lss
      case h1 => exact rfl
      case hd => exact rfl
      apply w_move
      case hg => exact (by exact True.intro)
      case hx => conv => lhs; whnf
      case hd => exact rfl
      apply w_move
      case hg => exact (by (exact ⟨rfl, congrArg ab (by (simp only [List.length_map, List.length_take, List.length_append, decide_eq_true_eq, decide_eq_false_iff_not, ne_eq, Classical.not_not]; omega))⟩))
      case hx => conv => lhs; whnf
      case hd => exact rfl
      apply w_field_box
      case hg => exact (by (exact ⟨rfl, congrArg ab (by (simp only [List.length_map, List.length_take, List.length_append, decide_eq_true_eq, decide_eq_false_iff_not, ne_eq, Classical.not_not]; omega))⟩))
      case hx => exact rfl
      case hoff => conv => lhs; whnf
      case hf => exact rfl
      case hd => exact rfl
      apply w_load_box
      case hg => exact (by (exact ⟨rfl, congrArg ab (by (simp only [List.length_map, List.length_take, List.length_append, decide_eq_true_eq, decide_eq_false_iff_not, ne_eq, Classical.not_not]; omega))⟩))
      case hx => exact rfl
      case hL => exact rfl
      case hy => conv => lhs; whnf
      case ht => exact rfl
      case hd => exact rfl
      apply w_len_data
      case hg => exact (by (exact ⟨rfl, congrArg ab (by (simp only [List.length_map, List.length_take, List.length_append, decide_eq_true_eq, decide_eq_false_iff_not, ne_eq, Classical.not_not]; omega))⟩))
      case hx => exact rfl
      case hT => exact rfl
      case hd => exact rfl
      apply w_bin
      case hg => exact (by (exact ⟨rfl, congrArg ab (by (simp only [List.length_map, List.length_take, List.length_append, decide_eq_true_eq, decide_eq_false_iff_not, ne_eq, Classical.not_not]; omega))⟩))
      case hx => exact rfl
      case hy => exact rfl
      case hr => exact rb_geq
      case h1 => exact rfl
      case hd => exact rfl
      apply w_pick_f
      case hg => exact (by exact True.intro)
      case hc => exact rfl
      case hb => exact (by (simp only [List.length_map, List.length_take, List.length_append, decide_eq_true_eq, decide_eq_false_iff_not, ne_eq, Classical.not_not]; omega))
      case hx => conv => lhs; whnf
      case hd => exact rfl
      refine .done (by exact fun h => Bool.noConfusion h) ?_
      refine awp_cond_t rfl (by (simp only [List.length_map, List.length_take, List.length_append, decide_eq_true_eq, decide_eq_false_iff_not, ne_eq, Classical.not_not]; omega)) ?_
      refine awp_seq ?_
      refine awp_region (by kernel_rfl) ?_
      apply w_assign
      case hg => exact (by exact True.intro)
      case hx => conv => lhs; whnf
      case hd => exact rfl
      apply w_assign
      case hg => exact (by exact True.intro)
      case hx => conv => lhs; whnf
      case hd => exact rfl
      refine .done (by exact fun h => Bool.noConfusion h) ?_
      exact awp_ret ⟨_, le_slot 4 (y := .d (dBytes [])) (AVal.le_nil 1), ⟨rfl, rfl, trivial⟩, subL_nil _⟩
    obtain ⟨k, rfl⟩ : ∃ k : Nat, a = k := ⟨a.toNat, by omega⟩
    obtain ⟨s, hs⟩ := get_of_lt (l := d.sectors) (k := k) (by omega)
    have hsl := hl.2.2.1 s (List.mem_of_getElem? hs)
    refine awp_seq ?_
    refine awp_region (by kernel_rfl) ?_
    apply w_box (γ := 100)
    case hg => exact (by exact True.intro)
    case hx => conv => lhs; whnf
    case hc => exact rfl
    case hdead => exact rfl
    case hf => exact rfl
    case hm => exact rfl
    case hd => exact rfl
    apply w_assign
    case hg => exact (by exact True.intro)
    case hx => conv => lhs; whnf
    case hd => exact rfl
    apply w_assign
    case hg => exact (by exact True.intro)
    case hx => conv => lhs; whnf
    case hd => exact rfl
    refine .done (by exact fun h => Bool.noConfusion h) ?_
    refine awp_seq ?_
    refine awp_seq ?_
    refine awp_region (by kernel_rfl) ?_
    apply w_load_boxagg
    case hg => exact (by exact True.intro)
    case hx => exact rfl
    case hL => exact rfl
    case hsz => conv => lhs; whnf
    case ht => exact rfl
    case hy => conv => lhs; whnf
    case hlen => exact rfl
    case hd => exact rfl
    apply w_call (hcon := usable_con d)
    case hxs => exact rfl
    case hys => conv => lhs; whnf
    case hle => (refine ⟨(by exact AVal.le_refl _), ?_⟩; exact trivial)
    case hf => exact rfl
    case hLi => (repeat (first | exact trivial | refine ⟨rfl, ?_⟩ | fail)) <;> fail
    case hin => exact rfl
    case hbox => exact rfl
    case hres => exact rfl
    case hnew => (repeat (first | exact trivial | refine ⟨rfl, ?_⟩ | fail)) <;> fail
    case hdead => (repeat (first | exact trivial | refine ⟨rfl, ?_⟩ | fail)) <;> fail
    case hd => exact rfl
    case hg => exact (by exact True.intro)
    apply w_assign
    case hg => exact (by exact True.intro)
    case hx => conv => lhs; whnf
    case hd => exact rfl
    refine .done (by exact fun h => Bool.noConfusion h) ?_
    refine awp_seq ?_
    refine awp_region (by kernel_rfl) ?_
    apply w_move
    case hg => exact (by exact True.intro)
    case hx => conv => lhs; whnf
    case hd => exact rfl
    apply w_bin
    case hg => exact (by exact True.intro)
    case hx => exact rfl
    case hy => exact rfl
    case hr => exact rb_neq
    case h1 => exact rfl
    case hd => exact rfl
    refine .done (by exact fun h => Bool.noConfusion h) ?_
    refine awp_cond_f rfl (by (simp only [List.length_map, List.length_take, List.length_append, decide_eq_true_eq, decide_eq_false_iff_not, ne_eq, Classical.not_not]; omega)) ?_
    refine awp_skip ?_
    refine awp_seq ?_
    refine awp_seq ?_
    refine awp_region (by kernel_rfl) ?_
    apply w_move
    case hg => exact (by exact True.intro)
    case hx => conv => lhs; whnf
    case hd => exact rfl
    apply w_bin
    case hg => exact (by exact True.intro)
    case hx => exact rfl
    case hy => exact rfl
    case hr => exact rb_lss
    case h1 => exact rfl
    case hd => exact rfl
    apply w_move
    case hg => exact (by exact True.intro)
    case hx => conv => lhs; whnf
    case hd => exact rfl
    apply w_move
    case hg => exact (by exact ⟨rfl, rfl⟩)
    case hx => conv => lhs; whnf
    case hd => exact rfl
    apply w_field_box
    case hg => exact (by exact ⟨rfl, rfl⟩)
    case hx => exact rfl
    case hoff => conv => lhs; whnf
    case hf => exact rfl
    case hd => exact rfl
    apply w_load_box
    case hg => exact (by exact ⟨rfl, rfl⟩)
    case hx => exact rfl
    case hL => exact rfl
    case hy => conv => lhs; whnf
    case ht => exact rfl
    case hd => exact rfl
    apply w_len_data
    case hg => exact (by exact ⟨rfl, rfl⟩)
    case hx => exact rfl
    case hT => exact rfl
    case hd => exact rfl
    apply w_bin
    case hg => exact (by exact ⟨rfl, rfl⟩)
    case hx => exact rfl
    case hy => exact rfl
    case hr => exact rb_geq
    case h1 => exact rfl
    case hd => exact rfl
    apply w_pick_f
    case hg => exact (by exact True.intro)
    case hc => exact rfl
    case hb => exact (by rfl)
    case hx => conv => lhs; whnf
    case hd => exact rfl
    refine .done (by exact fun h => Bool.noConfusion h) ?_
    refine awp_cond_f rfl (by (simp only [List.length_map, List.length_take, List.length_append, decide_eq_true_eq, decide_eq_false_iff_not, ne_eq, Classical.not_not]; omega)) ?_
    refine awp_skip ?_
    refine awp_seq ?_
    refine awp_region (by kernel_rfl) ?_
    apply w_field_box
    case hg => exact (by exact True.intro)
    case hx => exact rfl
    case hoff => conv => lhs; whnf
    case hf => exact rfl
    case hd => exact rfl
    apply w_load_box
    case hg => exact (by exact True.intro)
    case hx => exact rfl
    case hL => exact rfl
    case hy => conv => lhs; whnf
    case ht => exact rfl
    case hd => exact rfl
    apply w_move
    case hg => exact (by exact True.intro)
    case hx => conv => lhs; whnf
    case hd => exact rfl
    apply w_index_data
    case hg => exact (by exact True.intro)
    case hx => exact rfl
    case hi => exact rfl
    case hk => exact rfl
    case hr => exact map_get (by assumption)
    case hT => exact rfl
    case hd => exact rfl
    apply w_load_d
    case hg => exact (by exact True.intro)
    case hx => exact rfl
    case ht => exact rfl
    case hd => exact rfl
    apply w_call (hcon := clone_own (s.map cByte) (by simp; omega))
    case hxs => exact rfl
    case hys => conv => lhs; whnf
    case hle => (refine ⟨(by exact AVal.le_refl _), ?_⟩; exact trivial)
    case hf => exact rfl
    case hLi => (repeat (first | exact trivial | refine ⟨rfl, ?_⟩ | fail)) <;> fail
    case hin => exact rfl
    case hbox => exact rfl
    case hres => exact rfl
    case hnew => (repeat (first | exact trivial | refine ⟨rfl, ?_⟩ | fail)) <;> fail
    case hdead => (repeat (first | exact trivial | refine ⟨rfl, ?_⟩ | fail)) <;> fail
    case hd => exact rfl
    case hg => exact (by exact True.intro)
    apply w_assign
    case hg => exact (by exact True.intro)
    case hx => conv => lhs; whnf
    case hd => exact rfl
    refine .done (by exact fun h => Bool.noConfusion h) ?_
    refine awp_seq ?_
    refine awp_seq ?_
    refine awp_region (by kernel_rfl) ?_
    apply w_field_box
    case hg => exact (by exact True.intro)
    case hx => exact rfl
    case hoff => conv => lhs; whnf
    case hf => exact rfl
    case hd => exact rfl
    apply w_load_box
    case hg => exact (by exact True.intro)
    case hx => exact rfl
    case hL => exact rfl
    case hy => conv => lhs; whnf
    case ht => exact rfl
    case hd => exact rfl
    apply w_len_data
    case hg => exact (by exact True.intro)
    case hx => exact rfl
    case hT => exact rfl
    case hd => exact rfl
    apply w_move
    case hg => exact (by exact True.intro)
    case hx => conv => lhs; whnf
    case hd => exact rfl
    refine .done (by exact fun h => Bool.noConfusion h) ?_
    refine awp_block ?_
    have hok := okW_of (usable_ok hu).1
    rw [show readS d (k : Int) = (boundS d.pending k s d.pending.length, 0) by unfold readS; rw [if_neg (by simpa using hu), if_pos (by omega), Int.toNat_natCast, hs]; rfl]
    refine awp_loopI (fun j : Nat => j ≤ d.pending.length) (fun j => ⟨47, [(1, ai k), (2, .ptr 100 0), (7, .own 110 64), (31, .d (dPend d.pending)), (32, ai (d.pending.map cWr).length), (33, ai j)], [(100, .box [.d (dSecs d.sectors), .d (dPend d.pending), ab d.on]), (110, .row 1 ((boundS d.pending k s j).map cByte))]⟩) (fun j => d.pending.length - j) 0 (by omega)
      (le_mk rfl ⟨(by (first | ((exact AVal.le_refl _)) | ((exact AVal.le_nil _)) | ((refine AVal.le_agg ?_; ((repeat (first | exact trivial | refine ⟨(by (first | ((exact AVal.le_refl _)) | ((exact AVal.le_nil _)) | ((refine AVal.le_of_eq ?_; (conv => lhs; whnf); (first | ((rfl)) | ((simp <;> fail)) | fail))) | fail)), ?_⟩ | fail)) <;> fail))) | ((refine AVal.le_of_eq ?_; (conv => lhs; whnf); (first | ((rfl)) | ((simp <;> fail)) | fail))) | fail)), (by (first | ((exact AVal.le_refl _)) | ((exact AVal.le_nil _)) | ((refine AVal.le_agg ?_; ((repeat (first | exact trivial | refine ⟨(by (first | ((exact AVal.le_refl _)) | ((exact AVal.le_nil _)) | ((refine AVal.le_of_eq ?_; (conv => lhs; whnf); (first | ((rfl)) | ((simp <;> fail)) | fail))) | fail)), ?_⟩ | fail)) <;> fail))) | ((refine AVal.le_of_eq ?_; (conv => lhs; whnf); (first | ((rfl)) | ((simp <;> fail)) | fail))) | fail)), (by refine AVal.le_of_eq ?_; refine Eq.trans (b := AVal.own 110 _) rfl ?_; simp [hok.1 s (List.mem_of_getElem? hs)]), (by (first | ((exact AVal.le_refl _)) | ((exact AVal.le_nil _)) | ((refine AVal.le_agg ?_; ((repeat (first | exact trivial | refine ⟨(by (first | ((exact AVal.le_refl _)) | ((exact AVal.le_nil _)) | ((refine AVal.le_of_eq ?_; (conv => lhs; whnf); (first | ((rfl)) | ((simp <;> fail)) | fail))) | fail)), ?_⟩ | fail)) <;> fail))) | ((refine AVal.le_of_eq ?_; (conv => lhs; whnf); (first | ((rfl)) | ((simp <;> fail)) | fail))) | fail)), (by (first | ((exact AVal.le_refl _)) | ((exact AVal.le_nil _)) | ((refine AVal.le_agg ?_; ((repeat (first | exact trivial | refine ⟨(by (first | ((exact AVal.le_refl _)) | ((exact AVal.le_nil _)) | ((refine AVal.le_of_eq ?_; (conv => lhs; whnf); (first | ((rfl)) | ((simp <;> fail)) | fail))) | fail)), ?_⟩ | fail)) <;> fail))) | ((refine AVal.le_of_eq ?_; (conv => lhs; whnf); (first | ((rfl)) | ((simp <;> fail)) | fail))) | fail)), (by (first | ((exact AVal.le_refl _)) | ((exact AVal.le_nil _)) | ((refine AVal.le_agg ?_; ((repeat (first | exact trivial | refine ⟨(by (first | ((exact AVal.le_refl _)) | ((exact AVal.le_nil _)) | ((refine AVal.le_of_eq ?_; (conv => lhs; whnf); (first | ((rfl)) | ((simp <;> fail)) | fail))) | fail)), ?_⟩ | fail)) <;> fail))) | ((refine AVal.le_of_eq ?_; (conv => lhs; whnf); (first | ((rfl)) | ((simp <;> fail)) | fail))) | fail)), trivial⟩ ⟨rfl, rfl, trivial⟩) ?_
    intro j hj
    refine awp_seq ?_
    refine awp_region (by kernel_rfl) ?_
    apply w_bin
    case hg => exact (by exact True.intro)
    case hx => exact rfl
    case hy => exact rfl
    case hr => exact rb_lss
    case h1 => exact rfl
    case hd => exact rfl
    refine .done (by exact fun h => Bool.noConfusion h) ?_
    refine awp_seq ?_
    refine awp_cond rfl (fun h => ?_) (fun h => ?_)
    · have h := of_decide_eq_true h
      simp only [List.length_map] at h
      obtain ⟨⟨at_, b⟩, hw⟩ := get_of_lt (l := d.pending) (k := j) (by omega)
      obtain ⟨b1, b2, b3⟩ := hok.2 _ (List.mem_of_getElem? hw)
      simp only at b1 b2 b3
      have hbl := bound_len (a := (k : Int)) hok (hok.1 s (List.mem_of_getElem? hs)) j
      by_cases hat : at_ = (k : Int)
      · subst hat
        refine awp_skip ?_
        refine awp_seq ?_
        refine awp_block ?_
        refine awp_seq ?_
        refine awp_region (by kernel_rfl) ?_
        apply w_index_data
        case hg => exact (by exact True.intro)
        case hx => exact rfl
        case hi => exact rfl
        case hk => exact rfl
        case hr => exact map_get (by assumption)
        case hT => exact rfl
        case hd => exact rfl
        apply w_load_dagg
        case hg => exact (by exact True.intro)
        case hx => exact rfl
        case hsz => conv => lhs; whnf
        case ht => exact rfl
        case hy => conv => lhs; whnf
        case hlen => exact rfl
        case hd => exact rfl
        apply w_alloc (γ := 101)
        case hg => exact (by exact True.intro)
        case hz => exact rfl
        case h1 => exact rfl
        case hdead => exact rfl
        case hf => exact rfl
        case hd => exact rfl
        apply w_store
        case hg => exact (by exact True.intro)
        case hx => exact rfl
        case hL => exact rfl
        case hv => conv => lhs; whnf
        case hc => exact rfl
        case ht => exact rfl
        case hb => exact rfl
        refine .done (by exact fun h => Bool.noConfusion h) ?_
        refine awp_seq ?_
        refine awp_region (by kernel_rfl) ?_
        apply w_field_box
        case hg => exact (by exact True.intro)
        case hx => exact rfl
        case hoff => conv => lhs; whnf
        case hf => exact rfl
        case hd => exact rfl
        apply w_load_box
        case hg => exact (by exact True.intro)
        case hx => exact rfl
        case hL => exact rfl
        case hy => conv => lhs; whnf
        case ht => exact rfl
        case hd => exact rfl
        apply w_move
        case hg => exact (by exact True.intro)
        case hx => conv => lhs; whnf
        case hd => exact rfl
        apply w_bin
        case hg => exact (by exact True.intro)
        case hx => exact rfl
        case hy => exact rfl
        case hr => exact rb_eql
        case h1 => exact rfl
        case hd => exact rfl
        refine .done (by exact fun h => Bool.noConfusion h) ?_
        refine awp_cond_t rfl (by (simp <;> fail)) ?_
        refine awp_region (by kernel_rfl) ?_
        apply w_move
        case hg => exact (by exact True.intro)
        case hx => conv => lhs; whnf
        case hd => exact rfl
        apply w_field_box
        case hg => exact (by exact True.intro)
        case hx => exact rfl
        case hoff => conv => lhs; whnf
        case hf => exact rfl
        case hd => exact rfl
        apply w_load_box
        case hg => exact (by exact True.intro)
        case hx => exact rfl
        case hL => exact rfl
        case hy => conv => lhs; whnf
        case ht => exact rfl
        case hd => exact rfl
        apply w_copy_own
        case hg => exact (by exact True.intro)
        case hx => exact rfl
        case hL => exact rfl
        case hn => (simp only [List.length_map, List.length_take, List.length_append, List.length_cons, List.length_nil, List.length_replicate, List.length_set]; omega)
        case hy => exact rfl
        case hm => exact rfl
        case hT => exact rfl
        case hd => exact rfl
        refine .done (by exact fun h => Bool.noConfusion h) ?_
        refine awp_region (by kernel_rfl) ?_
        apply w_bin
        case hg => exact (by exact True.intro)
        case hx => exact rfl
        case hy => exact rfl
        case hr => (exact rb_add64 (by unfold in64; omega))
        case h1 => exact rfl
        case hd => exact rfl
        apply w_move
        case hg => exact (by exact True.intro)
        case hx => conv => lhs; whnf
        case hd => exact rfl
        refine .done (by exact fun h => Bool.noConfusion h) ?_
        refine ⟨j + 1, by omega, by omega, le_mk rfl ⟨(by (first | ((exact AVal.le_refl _)) | ((exact AVal.le_nil _)) | ((refine AVal.le_agg ?_; ((repeat (first | exact trivial | refine ⟨(by (first | ((exact AVal.le_refl _)) | ((exact AVal.le_nil _)) | ((refine AVal.le_of_eq ?_; (conv => lhs; whnf); (first | ((rfl)) | ((simp <;> fail)) | fail))) | fail)), ?_⟩ | fail)) <;> fail))) | ((refine AVal.le_of_eq ?_; (conv => lhs; whnf); (first | ((rfl)) | ((simp <;> fail)) | fail))) | fail)), (by (first | ((exact AVal.le_refl _)) | ((exact AVal.le_nil _)) | ((refine AVal.le_agg ?_; ((repeat (first | exact trivial | refine ⟨(by (first | ((exact AVal.le_refl _)) | ((exact AVal.le_nil _)) | ((refine AVal.le_of_eq ?_; (conv => lhs; whnf); (first | ((rfl)) | ((simp <;> fail)) | fail))) | fail)), ?_⟩ | fail)) <;> fail))) | ((refine AVal.le_of_eq ?_; (conv => lhs; whnf); (first | ((rfl)) | ((simp <;> fail)) | fail))) | fail)), (by (first | ((exact AVal.le_refl _)) | ((exact AVal.le_nil _)) | ((refine AVal.le_agg ?_; ((repeat (first | exact trivial | refine ⟨(by (first | ((exact AVal.le_refl _)) | ((exact AVal.le_nil _)) | ((refine AVal.le_of_eq ?_; (conv => lhs; whnf); (first | ((rfl)) | ((simp <;> fail)) | fail))) | fail)), ?_⟩ | fail)) <;> fail))) | ((refine AVal.le_of_eq ?_; (conv => lhs; whnf); (first | ((rfl)) | ((simp <;> fail)) | fail))) | fail)), (by (first | ((exact AVal.le_refl _)) | ((exact AVal.le_nil _)) | ((refine AVal.le_agg ?_; ((repeat (first | exact trivial | refine ⟨(by (first | ((exact AVal.le_refl _)) | ((exact AVal.le_nil _)) | ((refine AVal.le_of_eq ?_; (conv => lhs; whnf); (first | ((rfl)) | ((simp <;> fail)) | fail))) | fail)), ?_⟩ | fail)) <;> fail))) | ((refine AVal.le_of_eq ?_; (conv => lhs; whnf); (first | ((rfl)) | ((simp <;> fail)) | fail))) | fail)), (by (first | ((exact AVal.le_refl _)) | ((exact AVal.le_nil _)) | ((refine AVal.le_agg ?_; ((repeat (first | exact trivial | refine ⟨(by (first | ((exact AVal.le_refl _)) | ((exact AVal.le_nil _)) | ((refine AVal.le_of_eq ?_; (conv => lhs; whnf); (first | ((rfl)) | ((simp <;> fail)) | fail))) | fail)), ?_⟩ | fail)) <;> fail))) | ((refine AVal.le_of_eq ?_; (conv => lhs; whnf); (first | ((rfl)) | ((simp <;> fail)) | fail))) | fail)), (by (first | ((exact AVal.le_refl _)) | ((exact AVal.le_nil _)) | ((refine AVal.le_agg ?_; ((repeat (first | exact trivial | refine ⟨(by (first | ((exact AVal.le_refl _)) | ((exact AVal.le_nil _)) | ((refine AVal.le_of_eq ?_; (conv => lhs; whnf); (first | ((rfl)) | ((simp <;> fail)) | fail))) | fail)), ?_⟩ | fail)) <;> fail))) | ((refine AVal.le_of_eq ?_; (conv => lhs; whnf); (first | ((rfl)) | ((simp <;> fail)) | fail))) | fail)), trivial⟩ ⟨rfl, ?_, trivial⟩⟩
        refine Eq.trans (b := AObj.row 1 _) rfl ?_
        simp only [boundS, hw, if_true]
        exact congrArg (AObj.row 1) (whole_eq b3 hbl)
      · refine awp_skip ?_
        refine awp_seq ?_
        refine awp_block ?_
        refine awp_seq ?_
        refine awp_region (by kernel_rfl) ?_
        apply w_index_data
        case hg => exact (by exact True.intro)
        case hx => exact rfl
        case hi => exact rfl
        case hk => exact rfl
        case hr => exact map_get (by assumption)
        case hT => exact rfl
        case hd => exact rfl
        apply w_load_dagg
        case hg => exact (by exact True.intro)
        case hx => exact rfl
        case hsz => conv => lhs; whnf
        case ht => exact rfl
        case hy => conv => lhs; whnf
        case hlen => exact rfl
        case hd => exact rfl
        apply w_alloc (γ := 101)
        case hg => exact (by exact True.intro)
        case hz => exact rfl
        case h1 => exact rfl
        case hdead => exact rfl
        case hf => exact rfl
        case hd => exact rfl
        apply w_store
        case hg => exact (by exact True.intro)
        case hx => exact rfl
        case hL => exact rfl
        case hv => conv => lhs; whnf
        case hc => exact rfl
        case ht => exact rfl
        case hb => exact rfl
        refine .done (by exact fun h => Bool.noConfusion h) ?_
        refine awp_seq ?_
        refine awp_region (by kernel_rfl) ?_
        apply w_field_box
        case hg => exact (by exact True.intro)
        case hx => exact rfl
        case hoff => conv => lhs; whnf
        case hf => exact rfl
        case hd => exact rfl
        apply w_load_box
        case hg => exact (by exact True.intro)
        case hx => exact rfl
        case hL => exact rfl
        case hy => conv => lhs; whnf
        case ht => exact rfl
        case hd => exact rfl
        apply w_move
        case hg => exact (by exact True.intro)
        case hx => conv => lhs; whnf
        case hd => exact rfl
        apply w_bin
        case hg => exact (by exact True.intro)
        case hx => exact rfl
        case hy => exact rfl
        case hr => exact rb_eql
        case h1 => exact rfl
        case hd => exact rfl
        refine .done (by exact fun h => Bool.noConfusion h) ?_
        refine awp_cond_f rfl (by (simp only [List.length_map, List.length_take, List.length_append, decide_eq_true_eq, decide_eq_false_iff_not, ne_eq, Classical.not_not]; omega)) ?_
        refine awp_skip ?_
        refine awp_region (by kernel_rfl) ?_
        apply w_bin
        case hg => exact (by exact True.intro)
        case hx => exact rfl
        case hy => exact rfl
        case hr => (exact rb_add64 (by unfold in64; omega))
        case h1 => exact rfl
        case hd => exact rfl
        apply w_move
        case hg => exact (by exact True.intro)
        case hx => conv => lhs; whnf
        case hd => exact rfl
        refine .done (by exact fun h => Bool.noConfusion h) ?_
        refine ⟨j + 1, by omega, by omega, le_mk rfl ⟨(by (first | ((exact AVal.le_refl _)) | ((exact AVal.le_nil _)) | ((refine AVal.le_agg ?_; ((repeat (first | exact trivial | refine ⟨(by (first | ((exact AVal.le_refl _)) | ((exact AVal.le_nil _)) | ((refine AVal.le_of_eq ?_; (conv => lhs; whnf); (first | ((rfl)) | ((simp <;> fail)) | fail))) | fail)), ?_⟩ | fail)) <;> fail))) | ((refine AVal.le_of_eq ?_; (conv => lhs; whnf); (first | ((rfl)) | ((simp <;> fail)) | fail))) | fail)), (by (first | ((exact AVal.le_refl _)) | ((exact AVal.le_nil _)) | ((refine AVal.le_agg ?_; ((repeat (first | exact trivial | refine ⟨(by (first | ((exact AVal.le_refl _)) | ((exact AVal.le_nil _)) | ((refine AVal.le_of_eq ?_; (conv => lhs; whnf); (first | ((rfl)) | ((simp <;> fail)) | fail))) | fail)), ?_⟩ | fail)) <;> fail))) | ((refine AVal.le_of_eq ?_; (conv => lhs; whnf); (first | ((rfl)) | ((simp <;> fail)) | fail))) | fail)), (by (first | ((exact AVal.le_refl _)) | ((exact AVal.le_nil _)) | ((refine AVal.le_agg ?_; ((repeat (first | exact trivial | refine ⟨(by (first | ((exact AVal.le_refl _)) | ((exact AVal.le_nil _)) | ((refine AVal.le_of_eq ?_; (conv => lhs; whnf); (first | ((rfl)) | ((simp <;> fail)) | fail))) | fail)), ?_⟩ | fail)) <;> fail))) | ((refine AVal.le_of_eq ?_; (conv => lhs; whnf); (first | ((rfl)) | ((simp <;> fail)) | fail))) | fail)), (by (first | ((exact AVal.le_refl _)) | ((exact AVal.le_nil _)) | ((refine AVal.le_agg ?_; ((repeat (first | exact trivial | refine ⟨(by (first | ((exact AVal.le_refl _)) | ((exact AVal.le_nil _)) | ((refine AVal.le_of_eq ?_; (conv => lhs; whnf); (first | ((rfl)) | ((simp <;> fail)) | fail))) | fail)), ?_⟩ | fail)) <;> fail))) | ((refine AVal.le_of_eq ?_; (conv => lhs; whnf); (first | ((rfl)) | ((simp <;> fail)) | fail))) | fail)), (by (first | ((exact AVal.le_refl _)) | ((exact AVal.le_nil _)) | ((refine AVal.le_agg ?_; ((repeat (first | exact trivial | refine ⟨(by (first | ((exact AVal.le_refl _)) | ((exact AVal.le_nil _)) | ((refine AVal.le_of_eq ?_; (conv => lhs; whnf); (first | ((rfl)) | ((simp <;> fail)) | fail))) | fail)), ?_⟩ | fail)) <;> fail))) | ((refine AVal.le_of_eq ?_; (conv => lhs; whnf); (first | ((rfl)) | ((simp <;> fail)) | fail))) | fail)), (by (first | ((exact AVal.le_refl _)) | ((exact AVal.le_nil _)) | ((refine AVal.le_agg ?_; ((repeat (first | exact trivial | refine ⟨(by (first | ((exact AVal.le_refl _)) | ((exact AVal.le_nil _)) | ((refine AVal.le_of_eq ?_; (conv => lhs; whnf); (first | ((rfl)) | ((simp <;> fail)) | fail))) | fail)), ?_⟩ | fail)) <;> fail))) | ((refine AVal.le_of_eq ?_; (conv => lhs; whnf); (first | ((rfl)) | ((simp <;> fail)) | fail))) | fail)), trivial⟩ ⟨rfl, ?_, trivial⟩⟩
        refine Eq.trans (b := AObj.row 1 _) rfl ?_
        simp [boundS, hw, hat]
    have h := of_decide_eq_false h
    simp only [List.length_map] at h
    obtain rfl : j = d.pending.length := by omega
    have hbl := bound_len (a := (k : Int)) hok (hok.1 s (List.mem_of_getElem? hs)) d.pending.length
    refine awp_exit ?_
    refine awp_seq ?_
    refine awp_region (by kernel_rfl) ?_
    apply w_move
    case hg => exact (by exact True.intro)
    case hx => conv => lhs; whnf
    case hd => exact rfl
    apply w_assign
    case hg => exact (by exact True.intro)
    case hx => conv => lhs; whnf
    case hd => exact rfl
    apply w_assign
    case hg => exact (by exact True.intro)
    case hx => conv => lhs; whnf
    case hd => exact rfl
    refine .done (by exact fun h => Bool.noConfusion h) ?_
    refine awp_ret ⟨_, St.le_trans (le_freeze 110 rfl) (le_data 4 110 rfl rfl (by simp [hbl])), ⟨rfl, rfl, trivial⟩, subL_nil _⟩
  · rw [show readS d a = ([], usableS d) by simp [readS, hu]]
    refine awp_seq ?_
    refine awp_region (by kernel_rfl) ?_
    apply w_box (γ := 100)
    case hg => exact (by exact True.intro)
    case hx => conv => lhs; whnf
    case hc => exact rfl
    case hdead => exact rfl
    case hf => exact rfl
    case hm => exact rfl
    case hd => exact rfl
    apply w_assign
    case hg => exact (by exact True.intro)
    case hx => conv => lhs; whnf
    case hd => exact rfl
    apply w_assign
    case hg => exact (by exact True.intro)
    case hx => conv => lhs; whnf
    case hd => exact rfl
    refine .done (by exact fun h => Bool.noConfusion h) ?_
    refine awp_seq ?_
    refine awp_seq ?_
    refine awp_region (by kernel_rfl) ?_
    apply w_load_boxagg
    case hg => exact (by exact True.intro)
    case hx => exact rfl
    case hL => exact rfl
    case hsz => conv => lhs; whnf
    case ht => exact rfl
    case hy => conv => lhs; whnf
    case hlen => exact rfl
    case hd => exact rfl
    apply w_call (hcon := usable_con d)
    case hxs => exact rfl
    case hys => conv => lhs; whnf
    case hle => (refine ⟨(by exact AVal.le_refl _), ?_⟩; exact trivial)
    case hf => exact rfl
    case hLi => (repeat (first | exact trivial | refine ⟨rfl, ?_⟩ | fail)) <;> fail
    case hin => exact rfl
    case hbox => exact rfl
    case hres => exact rfl
    case hnew => (repeat (first | exact trivial | refine ⟨rfl, ?_⟩ | fail)) <;> fail
    case hdead => (repeat (first | exact trivial | refine ⟨rfl, ?_⟩ | fail)) <;> fail
    case hd => exact rfl
    case hg => exact (by exact True.intro)
    apply w_assign
    case hg => exact (by exact True.intro)
    case hx => conv => lhs; whnf
    case hd => exact rfl
    refine .done (by exact fun h => Bool.noConfusion h) ?_
    refine awp_seq ?_
    refine awp_region (by kernel_rfl) ?_
    apply w_move
    case hg => exact (by exact True.intro)
    case hx => conv => lhs; whnf
    case hd => exact rfl
    apply w_bin
    case hg => exact (by exact True.intro)
    case hx => exact rfl
    case hy => exact rfl
    case hr => exact rb_neq
    case h1 => exact rfl
    case hd => exact rfl
    refine .done (by exact fun h => Bool.noConfusion h) ?_
    refine awp_cond_t rfl (by (simp only [List.length_map, List.length_take, List.length_append, decide_eq_true_eq, decide_eq_false_iff_not, ne_eq, Classical.not_not]; omega)) ?_
    refine awp_seq ?_
    refine awp_region (by kernel_rfl) ?_
    apply w_move
    case hg => exact (by exact True.intro)
    case hx => conv => lhs; whnf
    case hd => exact rfl
    apply w_assign
    case hg => exact (by exact True.intro)
    case hx => conv => lhs; whnf
    case hd => exact rfl
    apply w_assign
    case hg => exact (by exact True.intro)
    case hx => conv => lhs; whnf
    case hd => exact rfl
    refine .done (by exact fun h => Bool.noConfusion h) ?_
    exact awp_ret ⟨_, le_slot 4 (y := .d (dBytes [])) (AVal.le_nil 1), ⟨rfl, rfl, trivial⟩, subL_nil _⟩
end Go.Fw

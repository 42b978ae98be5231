/- The law about what a write and a crash leave. -/
import Derived.Test.YtldiocpkgfpehaaW41e
namespace Go.Fw
open Go Go.Proofs
set_option linter.unusedVariables false
set_option linter.unusedSimpArgs false
set_option maxHeartbeats 8000000 in
theorem diskKeeps_con (d : Disk) (a x o : UInt8) : Con Try.prog 8 [] [aDisk d, au8 a.toNat, au8 x.toNat, au8 o.toNat] [] (ab true) := by
  refine con_of (xs := [ab true]) Try.func8 rfl Try.ntmps8 rfl rfl rfl (fun E => ?_)
  cases hf : fewS d with
  | false =>
    refine awp_seq ?_
    refine awp_region (by kernel_rfl) ?_
    apply w_box (γ := 100)
    case hg => exact (by exact True.intro)
    case hx => conv => lhs; whnf
    case hc => exact rfl
    case hdead => exact rfl
    case hf => exact rfl
    case hm => exact rfl
    case hd => exact rfl
    apply w_assign
    case hg => exact (by exact True.intro)
    case hx => conv => lhs; whnf
    case hd => exact rfl
    refine .done (by exact fun h => Bool.noConfusion h) ?_
    refine awp_seq ?_
    refine awp_seq ?_
    refine awp_region (by kernel_rfl) ?_
    apply w_load_boxagg
    case hg => exact (by exact True.intro)
    case hx => exact rfl
    case hL => exact rfl
    case hsz => conv => lhs; whnf
    case ht => exact rfl
    case hy => conv => lhs; whnf
    case hlen => exact rfl
    case hd => exact rfl
    apply w_call (hcon := few_con d)
    case hxs => exact rfl
    case hys => conv => lhs; whnf
    case hle => (refine ⟨(by exact AVal.le_refl _), ?_⟩; exact trivial)
    case hf => exact rfl
    case hLi => (repeat (first | exact trivial | refine ⟨rfl, ?_⟩ | fail)) <;> fail
    case hin => exact rfl
    case hbox => exact rfl
    case hres => exact rfl
    case hnew => (repeat (first | exact trivial | refine ⟨rfl, ?_⟩ | fail)) <;> fail
    case hdead => (repeat (first | exact trivial | refine ⟨rfl, ?_⟩ | fail)) <;> fail
    case hd => exact rfl
    case hg => exact (by exact True.intro)
    apply w_un
    case hg => exact (by exact True.intro)
    case hx => exact rfl
    case hr => exact ru_not
    case h1 => exact rfl
    case hd => exact rfl
    apply w_move
    case hg => exact (by exact True.intro)
    case hx => conv => lhs; whnf
    case hd => exact rfl
    apply w_skip
    case hg => (exact ⟨rfl, congrArg ab (by (simp [*] <;> fail))⟩)
    case hd => exact rfl
    apply w_skip
    case hg => (exact ⟨rfl, congrArg ab (by (simp [*] <;> fail))⟩)
    case hd => exact rfl
    apply w_skip
    case hg => (exact ⟨rfl, congrArg ab (by (simp [*] <;> fail))⟩)
    case hd => exact rfl
    apply w_pick_t
    case hg => exact (by exact True.intro)
    case hc => exact rfl
    case hb => exact (by (simp [*] <;> fail))
    case hx => conv => lhs; whnf
    case hd => exact rfl
    apply w_move
    case hg => exact (by exact True.intro)
    case hx => conv => lhs; whnf
    case hd => exact rfl
    apply w_skip
    case hg => exact ⟨rfl, rfl⟩
    case hd => exact rfl
    apply w_skip
    case hg => exact ⟨rfl, rfl⟩
    case hd => exact rfl
    apply w_skip
    case hg => exact ⟨rfl, rfl⟩
    case hd => exact rfl
    apply w_skip
    case hg => exact ⟨rfl, rfl⟩
    case hd => exact rfl
    apply w_pick_t
    case hg => exact (by exact True.intro)
    case hc => exact rfl
    case hb => exact (by rfl)
    case hx => conv => lhs; whnf
    case hd => exact rfl
    refine .done (by exact fun h => Bool.noConfusion h) ?_
    refine awp_cond_t rfl (by rfl) ?_
    refine awp_seq ?_
    refine awp_region (by kernel_rfl) ?_
    apply w_call (hcon := alive_con)
    case hxs => exact rfl
    case hys => conv => lhs; whnf
    case hle => (exact trivial)
    case hf => exact rfl
    case hLi => (repeat (first | exact trivial | refine ⟨rfl, ?_⟩ | fail)) <;> fail
    case hin => exact rfl
    case hbox => exact rfl
    case hres => exact rfl
    case hnew => (repeat (first | exact trivial | refine ⟨rfl, ?_⟩ | fail)) <;> fail
    case hdead => (repeat (first | exact trivial | refine ⟨rfl, ?_⟩ | fail)) <;> fail
    case hd => exact rfl
    case hg => exact (by exact True.intro)
    apply w_assign
    case hg => exact (by exact True.intro)
    case hx => conv => lhs; whnf
    case hd => exact rfl
    refine .done (by exact fun h => Bool.noConfusion h) ?_
    exact awp_ret ⟨_, St.le_refl _, ⟨rfl, trivial⟩, subL_nil _⟩
  | true =>
    have hl := fewL_of hf
    cases hv : validS d with
    | false =>
      refine awp_seq ?_
      refine awp_region (by kernel_rfl) ?_
      apply w_box (γ := 100)
      case hg => exact (by exact True.intro)
      case hx => conv => lhs; whnf
      case hc => exact rfl
      case hdead => exact rfl
      case hf => exact rfl
      case hm => exact rfl
      case hd => exact rfl
      apply w_assign
      case hg => exact (by exact True.intro)
      case hx => conv => lhs; whnf
      case hd => exact rfl
      refine .done (by exact fun h => Bool.noConfusion h) ?_
      refine awp_seq ?_
      refine awp_seq ?_
      refine awp_region (by kernel_rfl) ?_
      apply w_load_boxagg
      case hg => exact (by exact True.intro)
      case hx => exact rfl
      case hL => exact rfl
      case hsz => conv => lhs; whnf
      case ht => exact rfl
      case hy => conv => lhs; whnf
      case hlen => exact rfl
      case hd => exact rfl
      apply w_call (hcon := few_con d)
      case hxs => exact rfl
      case hys => conv => lhs; whnf
      case hle => (refine ⟨(by exact AVal.le_refl _), ?_⟩; exact trivial)
      case hf => exact rfl
      case hLi => (repeat (first | exact trivial | refine ⟨rfl, ?_⟩ | fail)) <;> fail
      case hin => exact rfl
      case hbox => exact rfl
      case hres => exact rfl
      case hnew => (repeat (first | exact trivial | refine ⟨rfl, ?_⟩ | fail)) <;> fail
      case hdead => (repeat (first | exact trivial | refine ⟨rfl, ?_⟩ | fail)) <;> fail
      case hd => exact rfl
      case hg => exact (by exact True.intro)
      apply w_un
      case hg => exact (by exact True.intro)
      case hx => exact rfl
      case hr => exact ru_not
      case h1 => exact rfl
      case hd => exact rfl
      apply w_move
      case hg => exact (by exact True.intro)
      case hx => conv => lhs; whnf
      case hd => exact rfl
      apply w_load_boxagg
      case hg => exact (by (exact ⟨rfl, congrArg ab (by (simp [*] <;> fail))⟩))
      case hx => exact rfl
      case hL => exact rfl
      case hsz => conv => lhs; whnf
      case ht => exact rfl
      case hy => conv => lhs; whnf
      case hlen => exact rfl
      case hd => exact rfl
      apply w_call (hcon := valid_con d)
      case hxs => exact rfl
      case hys => conv => lhs; whnf
      case hle => (refine ⟨(by exact AVal.le_refl _), ?_⟩; exact trivial)
      case hf => exact rfl
      case hLi => (repeat (first | exact trivial | refine ⟨rfl, ?_⟩ | fail)) <;> fail
      case hin => exact rfl
      case hbox => exact rfl
      case hres => exact rfl
      case hnew => (repeat (first | exact trivial | refine ⟨rfl, ?_⟩ | fail)) <;> fail
      case hdead => (repeat (first | exact trivial | refine ⟨rfl, ?_⟩ | fail)) <;> fail
      case hd => exact rfl
      case hg => exact (by (exact ⟨rfl, congrArg ab (by (simp [*] <;> fail))⟩))
      apply w_un
      case hg => exact (by (exact ⟨rfl, congrArg ab (by (simp [*] <;> fail))⟩))
      case hx => exact rfl
      case hr => exact ru_not
      case h1 => exact rfl
      case hd => exact rfl
      apply w_pick_f
      case hg => exact (by exact True.intro)
      case hc => exact rfl
      case hb => exact (by (simp [*] <;> fail))
      case hx => conv => lhs; whnf
      case hd => exact rfl
      apply w_move
      case hg => exact (by exact True.intro)
      case hx => conv => lhs; whnf
      case hd => exact rfl
      apply w_skip
      case hg => (exact ⟨rfl, congrArg ab (by (simp [*] <;> fail))⟩)
      case hd => exact rfl
      apply w_skip
      case hg => (exact ⟨rfl, congrArg ab (by (simp [*] <;> fail))⟩)
      case hd => exact rfl
      apply w_skip
      case hg => (exact ⟨rfl, congrArg ab (by (simp [*] <;> fail))⟩)
      case hd => exact rfl
      apply w_skip
      case hg => (exact ⟨rfl, congrArg ab (by (simp [*] <;> fail))⟩)
      case hd => exact rfl
      apply w_pick_t
      case hg => exact (by exact True.intro)
      case hc => exact rfl
      case hb => exact (by (simp [*] <;> fail))
      case hx => conv => lhs; whnf
      case hd => exact rfl
      refine .done (by exact fun h => Bool.noConfusion h) ?_
      refine awp_cond_t rfl (by rfl) ?_
      refine awp_seq ?_
      refine awp_region (by kernel_rfl) ?_
      apply w_call (hcon := alive_con)
      case hxs => exact rfl
      case hys => conv => lhs; whnf
      case hle => (exact trivial)
      case hf => exact rfl
      case hLi => (repeat (first | exact trivial | refine ⟨rfl, ?_⟩ | fail)) <;> fail
      case hin => exact rfl
      case hbox => exact rfl
      case hres => exact rfl
      case hnew => (repeat (first | exact trivial | refine ⟨rfl, ?_⟩ | fail)) <;> fail
      case hdead => (repeat (first | exact trivial | refine ⟨rfl, ?_⟩ | fail)) <;> fail
      case hd => exact rfl
      case hg => exact (by exact True.intro)
      apply w_assign
      case hg => exact (by exact True.intro)
      case hx => conv => lhs; whnf
      case hd => exact rfl
      refine .done (by exact fun h => Bool.noConfusion h) ?_
      exact awp_ret ⟨_, St.le_refl _, ⟨rfl, trivial⟩, subL_nil _⟩
    | true =>
      have hok := okW_of hv
      have hlen := (validS_len hv).1
      have e0 : ((d.sectors.map cBytes).length : Int) ≠ 0 := by rw [List.length_map]; omega
      have a0 : (0 : Int) ≤ (a.toNat : Int) := by omega
      have o0 : (0 : Int) ≤ (o.toNat : Int) := by omega
      obtain ⟨k, hk⟩ : ∃ k : Nat, (k : Int) = (a.toNat : Int) % (d.sectors.length : Int) := ⟨a.toNat % d.sectors.length, by simp⟩
      obtain ⟨j, hj⟩ : ∃ j : Nat, (j : Int) = (o.toNat : Int) % (d.sectors.length : Int) := ⟨o.toNat % d.sectors.length, by simp⟩
      have hkl : k < d.sectors.length := by
        have := Int.emod_lt_of_pos (a.toNat : Int) (show (0 : Int) < d.sectors.length by omega)
        omega
      have hjl : j < d.sectors.length := by
        have := Int.emod_lt_of_pos (o.toNat : Int) (show (0 : Int) < d.sectors.length by omega)
        omega
      have ek : Value.int .i64 ((a.toNat : Int) % ((d.sectors.map cBytes).length : Int)) = ai' k := by rw [List.length_map, ← hk]
      have ej : Value.int .i64 ((o.toNat : Int) % ((d.sectors.map cBytes).length : Int)) = ai' j := by rw [List.length_map, ← hj]
      cases ho : d.on with
      | false =>
        have hwr : Con Try.prog 11 [] [aDisk d, ai k, .d (dBytes (fillS x))] [] (aTwo (aDisk emptyD) 22) := by
          have h := write_con d k (fillS x) hl (by simp [fillS])
          rwa [show writeS d k (fillS x) = (emptyD, 22) by simp [writeS, usableS, hv, ho]] at h
        have hcr : Con Try.prog 14 [] [aDisk d, .d (dInts [])] [] (aDisk d) := by
          have h := crash_con d [] hl
          rwa [crash_off hv ho] at h
        refine awp_seq ?_
        refine awp_region (by kernel_rfl) ?_
        apply w_box (γ := 100)
        case hg => exact (by exact True.intro)
        case hx => conv => lhs; whnf
        case hc => exact rfl
        case hdead => exact rfl
        case hf => exact rfl
        case hm => exact rfl
        case hd => exact rfl
        apply w_assign
        case hg => exact (by exact True.intro)
        case hx => conv => lhs; whnf
        case hd => exact rfl
        refine .done (by exact fun h => Bool.noConfusion h) ?_
        refine awp_seq ?_
        refine awp_seq ?_
        refine awp_region (by kernel_rfl) ?_
        apply w_load_boxagg
        case hg => exact (by exact True.intro)
        case hx => exact rfl
        case hL => exact rfl
        case hsz => conv => lhs; whnf
        case ht => exact rfl
        case hy => conv => lhs; whnf
        case hlen => exact rfl
        case hd => exact rfl
        apply w_call (hcon := few_con d)
        case hxs => exact rfl
        case hys => conv => lhs; whnf
        case hle => (refine ⟨(by exact AVal.le_refl _), ?_⟩; exact trivial)
        case hf => exact rfl
        case hLi => (repeat (first | exact trivial | refine ⟨rfl, ?_⟩ | fail)) <;> fail
        case hin => exact rfl
        case hbox => exact rfl
        case hres => exact rfl
        case hnew => (repeat (first | exact trivial | refine ⟨rfl, ?_⟩ | fail)) <;> fail
        case hdead => (repeat (first | exact trivial | refine ⟨rfl, ?_⟩ | fail)) <;> fail
        case hd => exact rfl
        case hg => exact (by exact True.intro)
        apply w_un
        case hg => exact (by exact True.intro)
        case hx => exact rfl
        case hr => exact ru_not
        case h1 => exact rfl
        case hd => exact rfl
        apply w_move
        case hg => exact (by exact True.intro)
        case hx => conv => lhs; whnf
        case hd => exact rfl
        apply w_load_boxagg
        case hg => exact (by (exact ⟨rfl, congrArg ab (by (simp [*] <;> fail))⟩))
        case hx => exact rfl
        case hL => exact rfl
        case hsz => conv => lhs; whnf
        case ht => exact rfl
        case hy => conv => lhs; whnf
        case hlen => exact rfl
        case hd => exact rfl
        apply w_call (hcon := valid_con d)
        case hxs => exact rfl
        case hys => conv => lhs; whnf
        case hle => (refine ⟨(by exact AVal.le_refl _), ?_⟩; exact trivial)
        case hf => exact rfl
        case hLi => (repeat (first | exact trivial | refine ⟨rfl, ?_⟩ | fail)) <;> fail
        case hin => exact rfl
        case hbox => exact rfl
        case hres => exact rfl
        case hnew => (repeat (first | exact trivial | refine ⟨rfl, ?_⟩ | fail)) <;> fail
        case hdead => (repeat (first | exact trivial | refine ⟨rfl, ?_⟩ | fail)) <;> fail
        case hd => exact rfl
        case hg => exact (by (exact ⟨rfl, congrArg ab (by (simp [*] <;> fail))⟩))
        apply w_un
        case hg => exact (by (exact ⟨rfl, congrArg ab (by (simp [*] <;> fail))⟩))
        case hx => exact rfl
        case hr => exact ru_not
        case h1 => exact rfl
        case hd => exact rfl
        apply w_pick_f
        case hg => exact (by exact True.intro)
        case hc => exact rfl
        case hb => exact (by (simp [*] <;> fail))
        case hx => conv => lhs; whnf
        case hd => exact rfl
        apply w_move
        case hg => exact (by exact True.intro)
        case hx => conv => lhs; whnf
        case hd => exact rfl
        apply w_field_box
        case hg => exact (by (exact ⟨rfl, congrArg ab (by (simp [*] <;> fail))⟩))
        case hx => exact rfl
        case hoff => conv => lhs; whnf
        case hf => exact rfl
        case hd => exact rfl
        apply w_load_box
        case hg => exact (by (exact ⟨rfl, congrArg ab (by (simp [*] <;> fail))⟩))
        case hx => exact rfl
        case hL => exact rfl
        case hy => conv => lhs; whnf
        case ht => exact rfl
        case hd => exact rfl
        apply w_len_data
        case hg => exact (by (exact ⟨rfl, congrArg ab (by (simp [*] <;> fail))⟩))
        case hx => exact rfl
        case hT => exact rfl
        case hd => exact rfl
        apply w_bin
        case hg => exact (by (exact ⟨rfl, congrArg ab (by (simp [*] <;> fail))⟩))
        case hx => exact rfl
        case hy => exact rfl
        case hr => exact rb_eql
        case h1 => exact rfl
        case hd => exact rfl
        apply w_pick_f
        case hg => exact (by exact True.intro)
        case hc => exact rfl
        case hb => exact (by (simp [*] <;> fail))
        case hx => conv => lhs; whnf
        case hd => exact rfl
        refine .done (by exact fun h => Bool.noConfusion h) ?_
        refine awp_cond_f rfl (by (simp only [List.length_map, List.length_take, List.length_append, decide_eq_true_eq, decide_eq_false_iff_not, ne_eq, Classical.not_not]; omega)) ?_
        refine awp_skip ?_
        refine awp_seq ?_
        refine awp_region (by kernel_rfl) ?_
        apply w_move
        case hg => exact (by exact True.intro)
        case hx => conv => lhs; whnf
        case hd => exact rfl
        apply w_conv
        case hg => exact (by exact True.intro)
        case hx => exact rfl
        case hr => exact rc_b64 rfl rfl
        case h1 => exact rfl
        case hd => exact rfl
        apply w_field_box
        case hg => exact (by exact True.intro)
        case hx => exact rfl
        case hoff => conv => lhs; whnf
        case hf => exact rfl
        case hd => exact rfl
        apply w_load_box
        case hg => exact (by exact True.intro)
        case hx => exact rfl
        case hL => exact rfl
        case hy => conv => lhs; whnf
        case ht => exact rfl
        case hd => exact rfl
        apply w_len_data
        case hg => exact (by exact True.intro)
        case hx => exact rfl
        case hT => exact rfl
        case hd => exact rfl
        refine w_bin_to (ai' k) ek rfl rfl (rb_rem a0 e0) rfl rfl (by exact True.intro) ?_
        apply w_assign
        case hg => exact (by exact True.intro)
        case hx => conv => lhs; whnf
        case hd => exact rfl
        refine .done (by exact fun h => Bool.noConfusion h) ?_
        refine awp_seq ?_
        refine awp_region (by kernel_rfl) ?_
        apply w_move
        case hg => exact (by exact True.intro)
        case hx => conv => lhs; whnf
        case hd => exact rfl
        apply w_conv
        case hg => exact (by exact True.intro)
        case hx => exact rfl
        case hr => exact rc_b64 rfl rfl
        case h1 => exact rfl
        case hd => exact rfl
        apply w_field_box
        case hg => exact (by exact True.intro)
        case hx => exact rfl
        case hoff => conv => lhs; whnf
        case hf => exact rfl
        case hd => exact rfl
        apply w_load_box
        case hg => exact (by exact True.intro)
        case hx => exact rfl
        case hL => exact rfl
        case hy => conv => lhs; whnf
        case ht => exact rfl
        case hd => exact rfl
        apply w_len_data
        case hg => exact (by exact True.intro)
        case hx => exact rfl
        case hT => exact rfl
        case hd => exact rfl
        refine w_bin_to (ai' j) ej rfl rfl (rb_rem o0 e0) rfl rfl (by exact True.intro) ?_
        apply w_assign
        case hg => exact (by exact True.intro)
        case hx => conv => lhs; whnf
        case hd => exact rfl
        refine .done (by exact fun h => Bool.noConfusion h) ?_
        refine awp_seq ?_
        refine awp_seq ?_
        refine awp_region (by kernel_rfl) ?_
        apply w_field_box
        case hg => exact (by exact True.intro)
        case hx => exact rfl
        case hoff => conv => lhs; whnf
        case hf => exact rfl
        case hd => exact rfl
        apply w_load_box
        case hg => exact (by exact True.intro)
        case hx => exact rfl
        case hL => exact rfl
        case hy => conv => lhs; whnf
        case ht => exact rfl
        case hd => exact rfl
        apply w_un
        case hg => exact (by exact True.intro)
        case hx => exact rfl
        case hr => exact ru_not
        case h1 => exact rfl
        case hd => exact rfl
        refine .done (by exact fun h => Bool.noConfusion h) ?_
        refine awp_cond_t rfl (by (simp [*] <;> fail)) ?_
        refine awp_seq ?_
        refine awp_region (by kernel_rfl) ?_
        apply w_load_boxagg
        case hg => exact (by exact True.intro)
        case hx => exact rfl
        case hL => exact rfl
        case hsz => conv => lhs; whnf
        case ht => exact rfl
        case hy => conv => lhs; whnf
        case hlen => exact rfl
        case hd => exact rfl
        apply w_move
        case hg => exact (by exact True.intro)
        case hx => conv => lhs; whnf
        case hd => exact rfl
        apply w_move
        case hg => exact (by exact True.intro)
        case hx => conv => lhs; whnf
        case hd => exact rfl
        apply w_call (hcon := filled_b x)
        case hxs => exact rfl
        case hys => conv => lhs; whnf
        case hle => (refine ⟨(by exact AVal.le_refl _), ?_⟩; exact trivial)
        case hf => exact rfl
        case hLi => (repeat (first | exact trivial | refine ⟨rfl, ?_⟩ | fail)) <;> fail
        case hin => exact rfl
        case hbox => exact rfl
        case hres => exact rfl
        case hnew => (repeat (first | exact trivial | refine ⟨rfl, ?_⟩ | fail)) <;> fail
        case hdead => (repeat (first | exact trivial | refine ⟨rfl, ?_⟩ | fail)) <;> fail
        case hd => exact rfl
        case hg => exact (by exact True.intro)
        apply w_call (hcon := hwr)
        case hxs => exact rfl
        case hys => conv => lhs; whnf
        case hle => (refine ⟨(by exact AVal.le_refl _), ?_⟩; refine ⟨(by exact AVal.le_refl _), ?_⟩; refine ⟨(by exact AVal.le_refl _), ?_⟩; exact trivial)
        case hf => exact rfl
        case hLi => (repeat (first | exact trivial | refine ⟨rfl, ?_⟩ | fail)) <;> fail
        case hin => exact rfl
        case hbox => exact rfl
        case hres => exact rfl
        case hnew => (repeat (first | exact trivial | refine ⟨rfl, ?_⟩ | fail)) <;> fail
        case hdead => (repeat (first | exact trivial | refine ⟨rfl, ?_⟩ | fail)) <;> fail
        case hd => exact rfl
        case hg => exact (by exact True.intro)
        apply w_move
        case hg => exact (by exact True.intro)
        case hx => conv => lhs; whnf
        case hd => exact rfl
        apply w_extract
        case hg => exact (by exact True.intro)
        case hx => exact rfl
        case hy => conv => lhs; whnf
        case hd => exact rfl
        apply w_extract
        case hg => exact (by exact True.intro)
        case hx => exact rfl
        case hy => conv => lhs; whnf
        case hd => exact rfl
        apply w_alloc (γ := 101)
        case hg => exact (by exact True.intro)
        case hz => exact rfl
        case h1 => exact rfl
        case hdead => exact rfl
        case hf => exact rfl
        case hd => exact rfl
        apply w_store
        case hg => exact (by exact True.intro)
        case hx => exact rfl
        case hL => exact rfl
        case hv => conv => lhs; whnf
        case hc => exact rfl
        case ht => exact rfl
        case hb => exact rfl
        apply w_assign
        case hg => exact (by exact True.intro)
        case hx => conv => lhs; whnf
        case hd => exact rfl
        refine .done (by exact fun _ => rfl) ?_
        refine awp_seq ?_
        refine awp_region (by kernel_rfl) ?_
        apply w_move
        case hg => exact (by exact True.intro)
        case hx => conv => lhs; whnf
        case hd => exact rfl
        apply w_bin
        case hg => exact (by exact True.intro)
        case hx => exact rfl
        case hy => exact rfl
        case hr => exact rb_eql
        case h1 => exact rfl
        case hd => exact rfl
        apply w_move
        case hg => exact (by exact True.intro)
        case hx => conv => lhs; whnf
        case hd => exact rfl
        apply w_load_boxagg
        case hg => exact (by exact ⟨rfl, rfl⟩)
        case hx => exact rfl
        case hL => exact rfl
        case hsz => conv => lhs; whnf
        case ht => exact rfl
        case hy => conv => lhs; whnf
        case hlen => exact rfl
        case hd => exact rfl
        apply w_call (hcon := hcr)
        case hxs => exact rfl
        case hys => conv => lhs; whnf
        case hle => (refine ⟨(by exact AVal.le_refl _), ?_⟩; refine ⟨(by exact AVal.le_nil _), ?_⟩; exact trivial)
        case hf => exact rfl
        case hLi => (repeat (first | exact trivial | refine ⟨rfl, ?_⟩ | fail)) <;> fail
        case hin => exact rfl
        case hbox => exact rfl
        case hres => exact rfl
        case hnew => (repeat (first | exact trivial | refine ⟨rfl, ?_⟩ | fail)) <;> fail
        case hdead => (repeat (first | exact trivial | refine ⟨rfl, ?_⟩ | fail)) <;> fail
        case hd => exact rfl
        case hg => exact (by exact ⟨rfl, rfl⟩)
        apply w_load_boxagg
        case hg => exact (by exact ⟨rfl, rfl⟩)
        case hx => exact rfl
        case hL => exact rfl
        case hsz => conv => lhs; whnf
        case ht => exact rfl
        case hy => conv => lhs; whnf
        case hlen => exact rfl
        case hd => exact rfl
        apply w_call (hcon := same_con d)
        case hxs => exact rfl
        case hys => conv => lhs; whnf
        case hle => (refine ⟨(by exact AVal.le_refl _), ?_⟩; refine ⟨(by exact AVal.le_refl _), ?_⟩; exact trivial)
        case hf => exact rfl
        case hLi => (repeat (first | exact trivial | refine ⟨rfl, ?_⟩ | fail)) <;> fail
        case hin => exact rfl
        case hbox => exact rfl
        case hres => exact rfl
        case hnew => (repeat (first | exact trivial | refine ⟨rfl, ?_⟩ | fail)) <;> fail
        case hdead => (repeat (first | exact trivial | refine ⟨rfl, ?_⟩ | fail)) <;> fail
        case hd => exact rfl
        case hg => exact (by exact ⟨rfl, rfl⟩)
        apply w_pick_t
        case hg => exact (by exact True.intro)
        case hc => exact rfl
        case hb => exact (by rfl)
        case hx => conv => lhs; whnf
        case hd => exact rfl
        apply w_move
        case hg => exact (by exact True.intro)
        case hx => conv => lhs; whnf
        case hd => exact rfl
        apply w_call (hcon := alive_con)
        case hxs => exact rfl
        case hys => conv => lhs; whnf
        case hle => (exact trivial)
        case hf => exact rfl
        case hLi => (repeat (first | exact trivial | refine ⟨rfl, ?_⟩ | fail)) <;> fail
        case hin => exact rfl
        case hbox => exact rfl
        case hres => exact rfl
        case hnew => (repeat (first | exact trivial | refine ⟨rfl, ?_⟩ | fail)) <;> fail
        case hdead => (repeat (first | exact trivial | refine ⟨rfl, ?_⟩ | fail)) <;> fail
        case hd => exact rfl
        case hg => exact (by exact ⟨rfl, rfl⟩)
        apply w_pick_t
        case hg => exact (by exact True.intro)
        case hc => exact rfl
        case hb => exact (by rfl)
        case hx => conv => lhs; whnf
        case hd => exact rfl
        apply w_assign
        case hg => exact (by exact True.intro)
        case hx => conv => lhs; whnf
        case hd => exact rfl
        refine .done (by exact fun _ => rfl) ?_
        exact awp_ret ⟨_, St.le_refl _, ⟨rfl, trivial⟩, subL_nil _⟩
      | true =>
        obtain ⟨s, hs⟩ := get_of_lt (l := d.sectors) hkl
        obtain ⟨t, ht⟩ := get_of_lt (l := d.sectors) hjl
        have hvW := wrote_valid (x := x) hv hkl
        have hlW := wrote_few (k := k) (x := x) hf
        have hwr : Con Try.prog 11 [] [aDisk d, ai k, .d (dBytes (fillS x))] [] (aTwo (aDisk (wroteD d k x)) 0) := by
          have h := write_con d k (fillS x) hl (by simp [fillS])
          rwa [wroteS hv ho hkl] at h
        have hr1 : Con Try.prog 21 [] [aDisk d, ai j] [] (aTwo (.d (dBytes (boundS d.pending j t d.pending.length))) 0) := by
          have h := read_con d j hl
          rwa [readS_at hv ho ht] at h
        have hr2 : Con Try.prog 21 [] [aDisk (wroteD d k x), ai k] [] (aTwo (.d (dBytes (fillS x))) 0) := by
          have h := read_con (wroteD d k x) k hlW
          rwa [read_wrote hv hkl hs, if_pos rfl] at h
        have hsy : Con Try.prog 23 [] [aDisk (wroteD d k x)] [] (aTwo (aDisk (syncD (wroteD d k x))) 0) := by
          have h := sync_con (wroteD d k x) hlW
          rwa [syncS_on hvW rfl] at h
        have hlS := few_sync hlW hvW true
        have hlO := few_sync hlW hvW false
        have hvS := sync_valid hvW
        have hd3 : fewL ⟨d.sectors, [], false⟩ := ⟨hl.1, by simp, hl.2.2.1, fun w hm => nomatch hm⟩
        have hpw : (wroteD d k x).pending.length = d.pending.length + 1 := by simp
        have hc1 : Con Try.prog 14 [] [aDisk (wroteD d k x), .d (dInts (List.replicate (d.pending.length + 1) 64))] [] (aDisk ⟨settleS (wroteD d k x) (fun _ => 64), [], false⟩) := by
          have h := crash_con (wroteD d k x) (List.replicate (d.pending.length + 1) 64) hlW
          rwa [← hpw, crash_all hvW, hpw] at h
        have hc2 : Con Try.prog 14 [] [aDisk (syncD (wroteD d k x)), .d (dInts [])] [] (aDisk ⟨settleS (wroteD d k x) (fun _ => 64), [], false⟩) := by
          have h := crash_con (syncD (wroteD d k x)) [] hlS
          rwa [crash_none hvS] at h
        have hc3 : Con Try.prog 14 [] [aDisk (wroteD d k x), .d (dInts [])] [] (aDisk ⟨d.sectors, [], false⟩) := by
          have h := crash_con (wroteD d k x) [] hlW
          rwa [crash_none hvW] at h
        have hp1 : Con Try.prog 16 [] [aDisk ⟨settleS (wroteD d k x) (fun _ => 64), [], false⟩] [] (aDisk (syncD (wroteD d k x))) := by
          have h := power_con ⟨settleS (wroteD d k x) (fun _ => 64), [], false⟩ hlO
          rwa [power_off (validS_len hvS) (okW_of hvS).1] at h
        have hp3 : Con Try.prog 16 [] [aDisk ⟨d.sectors, [], false⟩] [] (aDisk ⟨d.sectors, [], true⟩) := by
          have h := power_con ⟨d.sectors, [], false⟩ hd3
          rwa [power_off (validS_len hv) hok.1] at h
        by_cases hkj : k = j
        · subst hkj
          rw [hs] at ht; cases ht
          refine awp_seq ?_
          refine awp_region (by kernel_rfl) ?_
          apply w_box (γ := 100)
          case hg => exact (by exact True.intro)
          case hx => conv => lhs; whnf
          case hc => exact rfl
          case hdead => exact rfl
          case hf => exact rfl
          case hm => exact rfl
          case hd => exact rfl
          apply w_assign
          case hg => exact (by exact True.intro)
          case hx => conv => lhs; whnf
          case hd => exact rfl
          refine .done (by exact fun h => Bool.noConfusion h) ?_
          refine awp_seq ?_
          refine awp_seq ?_
          refine awp_region (by kernel_rfl) ?_
          apply w_load_boxagg
          case hg => exact (by exact True.intro)
          case hx => exact rfl
          case hL => exact rfl
          case hsz => conv => lhs; whnf
          case ht => exact rfl
          case hy => conv => lhs; whnf
          case hlen => exact rfl
          case hd => exact rfl
          apply w_call (hcon := few_con d)
          case hxs => exact rfl
          case hys => conv => lhs; whnf
          case hle => (refine ⟨(by exact AVal.le_refl _), ?_⟩; exact trivial)
          case hf => exact rfl
          case hLi => (repeat (first | exact trivial | refine ⟨rfl, ?_⟩ | fail)) <;> fail
          case hin => exact rfl
          case hbox => exact rfl
          case hres => exact rfl
          case hnew => (repeat (first | exact trivial | refine ⟨rfl, ?_⟩ | fail)) <;> fail
          case hdead => (repeat (first | exact trivial | refine ⟨rfl, ?_⟩ | fail)) <;> fail
          case hd => exact rfl
          case hg => exact (by exact True.intro)
          apply w_un
          case hg => exact (by exact True.intro)
          case hx => exact rfl
          case hr => exact ru_not
          case h1 => exact rfl
          case hd => exact rfl
          apply w_move
          case hg => exact (by exact True.intro)
          case hx => conv => lhs; whnf
          case hd => exact rfl
          apply w_load_boxagg
          case hg => exact (by (exact ⟨rfl, congrArg ab (by (simp [*] <;> fail))⟩))
          case hx => exact rfl
          case hL => exact rfl
          case hsz => conv => lhs; whnf
          case ht => exact rfl
          case hy => conv => lhs; whnf
          case hlen => exact rfl
          case hd => exact rfl
          apply w_call (hcon := valid_con d)
          case hxs => exact rfl
          case hys => conv => lhs; whnf
          case hle => (refine ⟨(by exact AVal.le_refl _), ?_⟩; exact trivial)
          case hf => exact rfl
          case hLi => (repeat (first | exact trivial | refine ⟨rfl, ?_⟩ | fail)) <;> fail
          case hin => exact rfl
          case hbox => exact rfl
          case hres => exact rfl
          case hnew => (repeat (first | exact trivial | refine ⟨rfl, ?_⟩ | fail)) <;> fail
          case hdead => (repeat (first | exact trivial | refine ⟨rfl, ?_⟩ | fail)) <;> fail
          case hd => exact rfl
          case hg => exact (by (exact ⟨rfl, congrArg ab (by (simp [*] <;> fail))⟩))
          apply w_un
          case hg => exact (by (exact ⟨rfl, congrArg ab (by (simp [*] <;> fail))⟩))
          case hx => exact rfl
          case hr => exact ru_not
          case h1 => exact rfl
          case hd => exact rfl
          apply w_pick_f
          case hg => exact (by exact True.intro)
          case hc => exact rfl
          case hb => exact (by (simp [*] <;> fail))
          case hx => conv => lhs; whnf
          case hd => exact rfl
          apply w_move
          case hg => exact (by exact True.intro)
          case hx => conv => lhs; whnf
          case hd => exact rfl
          apply w_field_box
          case hg => exact (by (exact ⟨rfl, congrArg ab (by (simp [*] <;> fail))⟩))
          case hx => exact rfl
          case hoff => conv => lhs; whnf
          case hf => exact rfl
          case hd => exact rfl
          apply w_load_box
          case hg => exact (by (exact ⟨rfl, congrArg ab (by (simp [*] <;> fail))⟩))
          case hx => exact rfl
          case hL => exact rfl
          case hy => conv => lhs; whnf
          case ht => exact rfl
          case hd => exact rfl
          apply w_len_data
          case hg => exact (by (exact ⟨rfl, congrArg ab (by (simp [*] <;> fail))⟩))
          case hx => exact rfl
          case hT => exact rfl
          case hd => exact rfl
          apply w_bin
          case hg => exact (by (exact ⟨rfl, congrArg ab (by (simp [*] <;> fail))⟩))
          case hx => exact rfl
          case hy => exact rfl
          case hr => exact rb_eql
          case h1 => exact rfl
          case hd => exact rfl
          apply w_pick_f
          case hg => exact (by exact True.intro)
          case hc => exact rfl
          case hb => exact (by (simp [*] <;> fail))
          case hx => conv => lhs; whnf
          case hd => exact rfl
          refine .done (by exact fun h => Bool.noConfusion h) ?_
          refine awp_cond_f rfl (by (simp only [List.length_map, List.length_take, List.length_append, decide_eq_true_eq, decide_eq_false_iff_not, ne_eq, Classical.not_not]; omega)) ?_
          refine awp_skip ?_
          refine awp_seq ?_
          refine awp_region (by kernel_rfl) ?_
          apply w_move
          case hg => exact (by exact True.intro)
          case hx => conv => lhs; whnf
          case hd => exact rfl
          apply w_conv
          case hg => exact (by exact True.intro)
          case hx => exact rfl
          case hr => exact rc_b64 rfl rfl
          case h1 => exact rfl
          case hd => exact rfl
          apply w_field_box
          case hg => exact (by exact True.intro)
          case hx => exact rfl
          case hoff => conv => lhs; whnf
          case hf => exact rfl
          case hd => exact rfl
          apply w_load_box
          case hg => exact (by exact True.intro)
          case hx => exact rfl
          case hL => exact rfl
          case hy => conv => lhs; whnf
          case ht => exact rfl
          case hd => exact rfl
          apply w_len_data
          case hg => exact (by exact True.intro)
          case hx => exact rfl
          case hT => exact rfl
          case hd => exact rfl
          refine w_bin_to (ai' k) ek rfl rfl (rb_rem a0 e0) rfl rfl (by exact True.intro) ?_
          apply w_assign
          case hg => exact (by exact True.intro)
          case hx => conv => lhs; whnf
          case hd => exact rfl
          refine .done (by exact fun h => Bool.noConfusion h) ?_
          refine awp_seq ?_
          refine awp_region (by kernel_rfl) ?_
          apply w_move
          case hg => exact (by exact True.intro)
          case hx => conv => lhs; whnf
          case hd => exact rfl
          apply w_conv
          case hg => exact (by exact True.intro)
          case hx => exact rfl
          case hr => exact rc_b64 rfl rfl
          case h1 => exact rfl
          case hd => exact rfl
          apply w_field_box
          case hg => exact (by exact True.intro)
          case hx => exact rfl
          case hoff => conv => lhs; whnf
          case hf => exact rfl
          case hd => exact rfl
          apply w_load_box
          case hg => exact (by exact True.intro)
          case hx => exact rfl
          case hL => exact rfl
          case hy => conv => lhs; whnf
          case ht => exact rfl
          case hd => exact rfl
          apply w_len_data
          case hg => exact (by exact True.intro)
          case hx => exact rfl
          case hT => exact rfl
          case hd => exact rfl
          refine w_bin_to (ai' k) ej rfl rfl (rb_rem o0 e0) rfl rfl (by exact True.intro) ?_
          apply w_assign
          case hg => exact (by exact True.intro)
          case hx => conv => lhs; whnf
          case hd => exact rfl
          refine .done (by exact fun h => Bool.noConfusion h) ?_
          refine awp_seq ?_
          refine awp_seq ?_
          refine awp_region (by kernel_rfl) ?_
          apply w_field_box
          case hg => exact (by exact True.intro)
          case hx => exact rfl
          case hoff => conv => lhs; whnf
          case hf => exact rfl
          case hd => exact rfl
          apply w_load_box
          case hg => exact (by exact True.intro)
          case hx => exact rfl
          case hL => exact rfl
          case hy => conv => lhs; whnf
          case ht => exact rfl
          case hd => exact rfl
          apply w_un
          case hg => exact (by exact True.intro)
          case hx => exact rfl
          case hr => exact ru_not
          case h1 => exact rfl
          case hd => exact rfl
          refine .done (by exact fun h => Bool.noConfusion h) ?_
          refine awp_cond_f rfl (by (simp [*] <;> fail)) ?_
          refine awp_skip ?_
          refine awp_seq ?_
          refine awp_region (by kernel_rfl) ?_
          apply w_load_boxagg
          case hg => exact (by exact True.intro)
          case hx => exact rfl
          case hL => exact rfl
          case hsz => conv => lhs; whnf
          case ht => exact rfl
          case hy => conv => lhs; whnf
          case hlen => exact rfl
          case hd => exact rfl
          apply w_move
          case hg => exact (by exact True.intro)
          case hx => conv => lhs; whnf
          case hd => exact rfl
          apply w_call (hcon := hr1)
          case hxs => exact rfl
          case hys => conv => lhs; whnf
          case hle => (refine ⟨(by exact AVal.le_refl _), ?_⟩; refine ⟨(by exact AVal.le_refl _), ?_⟩; exact trivial)
          case hf => exact rfl
          case hLi => (repeat (first | exact trivial | refine ⟨rfl, ?_⟩ | fail)) <;> fail
          case hin => exact rfl
          case hbox => exact rfl
          case hres => exact rfl
          case hnew => (repeat (first | exact trivial | refine ⟨rfl, ?_⟩ | fail)) <;> fail
          case hdead => (repeat (first | exact trivial | refine ⟨rfl, ?_⟩ | fail)) <;> fail
          case hd => exact rfl
          case hg => exact (by exact True.intro)
          apply w_move
          case hg => exact (by exact True.intro)
          case hx => conv => lhs; whnf
          case hd => exact rfl
          apply w_extract
          case hg => exact (by exact True.intro)
          case hx => exact rfl
          case hy => conv => lhs; whnf
          case hd => exact rfl
          apply w_extract
          case hg => exact (by exact True.intro)
          case hx => exact rfl
          case hy => conv => lhs; whnf
          case hd => exact rfl
          apply w_assign
          case hg => exact (by exact True.intro)
          case hx => conv => lhs; whnf
          case hd => exact rfl
          apply w_assign
          case hg => exact (by exact True.intro)
          case hx => conv => lhs; whnf
          case hd => exact rfl
          refine .done (by exact fun h => Bool.noConfusion h) ?_
          refine awp_seq ?_
          refine awp_region (by kernel_rfl) ?_
          apply w_load_boxagg
          case hg => exact (by exact True.intro)
          case hx => exact rfl
          case hL => exact rfl
          case hsz => conv => lhs; whnf
          case ht => exact rfl
          case hy => conv => lhs; whnf
          case hlen => exact rfl
          case hd => exact rfl
          apply w_move
          case hg => exact (by exact True.intro)
          case hx => conv => lhs; whnf
          case hd => exact rfl
          apply w_move
          case hg => exact (by exact True.intro)
          case hx => conv => lhs; whnf
          case hd => exact rfl
          apply w_call (hcon := filled_b x)
          case hxs => exact rfl
          case hys => conv => lhs; whnf
          case hle => (refine ⟨(by exact AVal.le_refl _), ?_⟩; exact trivial)
          case hf => exact rfl
          case hLi => (repeat (first | exact trivial | refine ⟨rfl, ?_⟩ | fail)) <;> fail
          case hin => exact rfl
          case hbox => exact rfl
          case hres => exact rfl
          case hnew => (repeat (first | exact trivial | refine ⟨rfl, ?_⟩ | fail)) <;> fail
          case hdead => (repeat (first | exact trivial | refine ⟨rfl, ?_⟩ | fail)) <;> fail
          case hd => exact rfl
          case hg => exact (by exact True.intro)
          apply w_call (hcon := hwr)
          case hxs => exact rfl
          case hys => conv => lhs; whnf
          case hle => (refine ⟨(by exact AVal.le_refl _), ?_⟩; refine ⟨(by exact AVal.le_refl _), ?_⟩; refine ⟨(by exact AVal.le_refl _), ?_⟩; exact trivial)
          case hf => exact rfl
          case hLi => (repeat (first | exact trivial | refine ⟨rfl, ?_⟩ | fail)) <;> fail
          case hin => exact rfl
          case hbox => exact rfl
          case hres => exact rfl
          case hnew => (repeat (first | exact trivial | refine ⟨rfl, ?_⟩ | fail)) <;> fail
          case hdead => (repeat (first | exact trivial | refine ⟨rfl, ?_⟩ | fail)) <;> fail
          case hd => exact rfl
          case hg => exact (by exact True.intro)
          apply w_move
          case hg => exact (by exact True.intro)
          case hx => conv => lhs; whnf
          case hd => exact rfl
          apply w_extract
          case hg => exact (by exact True.intro)
          case hx => exact rfl
          case hy => conv => lhs; whnf
          case hd => exact rfl
          apply w_extract
          case hg => exact (by exact True.intro)
          case hx => exact rfl
          case hy => conv => lhs; whnf
          case hd => exact rfl
          apply w_alloc (γ := 101)
          case hg => exact (by exact True.intro)
          case hz => exact rfl
          case h1 => exact rfl
          case hdead => exact rfl
          case hf => exact rfl
          case hd => exact rfl
          apply w_store
          case hg => exact (by exact True.intro)
          case hx => exact rfl
          case hL => exact rfl
          case hv => conv => lhs; whnf
          case hc => exact rfl
          case ht => exact rfl
          case hb => exact rfl
          apply w_assign
          case hg => exact (by exact True.intro)
          case hx => conv => lhs; whnf
          case hd => exact rfl
          refine .done (by exact fun _ => rfl) ?_
          refine awp_seq ?_
          refine awp_region (by kernel_rfl) ?_
          apply w_load_boxagg
          case hg => exact (by exact True.intro)
          case hx => exact rfl
          case hL => exact rfl
          case hsz => conv => lhs; whnf
          case ht => exact rfl
          case hy => conv => lhs; whnf
          case hlen => exact rfl
          case hd => exact rfl
          apply w_move
          case hg => exact (by exact True.intro)
          case hx => conv => lhs; whnf
          case hd => exact rfl
          apply w_call (hcon := hr2)
          case hxs => exact rfl
          case hys => conv => lhs; whnf
          case hle => (refine ⟨(by exact AVal.le_refl _), ?_⟩; refine ⟨(by exact AVal.le_refl _), ?_⟩; exact trivial)
          case hf => exact rfl
          case hLi => (repeat (first | exact trivial | refine ⟨rfl, ?_⟩ | fail)) <;> fail
          case hin => exact rfl
          case hbox => exact rfl
          case hres => exact rfl
          case hnew => (repeat (first | exact trivial | refine ⟨rfl, ?_⟩ | fail)) <;> fail
          case hdead => (repeat (first | exact trivial | refine ⟨rfl, ?_⟩ | fail)) <;> fail
          case hd => exact rfl
          case hg => exact (by exact True.intro)
          apply w_move
          case hg => exact (by exact True.intro)
          case hx => conv => lhs; whnf
          case hd => exact rfl
          apply w_extract
          case hg => exact (by exact True.intro)
          case hx => exact rfl
          case hy => conv => lhs; whnf
          case hd => exact rfl
          apply w_extract
          case hg => exact (by exact True.intro)
          case hx => exact rfl
          case hy => conv => lhs; whnf
          case hd => exact rfl
          apply w_assign
          case hg => exact (by exact True.intro)
          case hx => conv => lhs; whnf
          case hd => exact rfl
          apply w_assign
          case hg => exact (by exact True.intro)
          case hx => conv => lhs; whnf
          case hd => exact rfl
          refine .done (by exact fun h => Bool.noConfusion h) ?_
          refine awp_seq ?_
          refine awp_region (by kernel_rfl) ?_
          apply w_load_boxagg
          case hg => exact (by exact True.intro)
          case hx => exact rfl
          case hL => exact rfl
          case hsz => conv => lhs; whnf
          case ht => exact rfl
          case hy => conv => lhs; whnf
          case hlen => exact rfl
          case hd => exact rfl
          apply w_move
          case hg => exact (by exact True.intro)
          case hx => conv => lhs; whnf
          case hd => exact rfl
          apply w_call (hcon := hr2)
          case hxs => exact rfl
          case hys => conv => lhs; whnf
          case hle => (refine ⟨(by exact AVal.le_refl _), ?_⟩; refine ⟨(by exact AVal.le_refl _), ?_⟩; exact trivial)
          case hf => exact rfl
          case hLi => (repeat (first | exact trivial | refine ⟨rfl, ?_⟩ | fail)) <;> fail
          case hin => exact rfl
          case hbox => exact rfl
          case hres => exact rfl
          case hnew => (repeat (first | exact trivial | refine ⟨rfl, ?_⟩ | fail)) <;> fail
          case hdead => (repeat (first | exact trivial | refine ⟨rfl, ?_⟩ | fail)) <;> fail
          case hd => exact rfl
          case hg => exact (by exact True.intro)
          apply w_move
          case hg => exact (by exact True.intro)
          case hx => conv => lhs; whnf
          case hd => exact rfl
          apply w_extract
          case hg => exact (by exact True.intro)
          case hx => exact rfl
          case hy => conv => lhs; whnf
          case hd => exact rfl
          apply w_extract
          case hg => exact (by exact True.intro)
          case hx => exact rfl
          case hy => conv => lhs; whnf
          case hd => exact rfl
          apply w_assign
          case hg => exact (by exact True.intro)
          case hx => conv => lhs; whnf
          case hd => exact rfl
          apply w_assign
          case hg => exact (by exact True.intro)
          case hx => conv => lhs; whnf
          case hd => exact rfl
          refine .done (by exact fun h => Bool.noConfusion h) ?_
          refine awp_seq ?_
          refine awp_seq ?_
          refine awp_region (by kernel_rfl) ?_
          apply w_move
          case hg => exact (by exact True.intro)
          case hx => conv => lhs; whnf
          case hd => exact rfl
          apply w_bin
          case hg => exact (by exact True.intro)
          case hx => exact rfl
          case hy => exact rfl
          case hr => exact rb_neq
          case h1 => exact rfl
          case hd => exact rfl
          apply w_move
          case hg => exact (by exact True.intro)
          case hx => conv => lhs; whnf
          case hd => exact rfl
          apply w_move
          case hg => exact (by exact ⟨rfl, rfl⟩)
          case hx => conv => lhs; whnf
          case hd => exact rfl
          apply w_bin
          case hg => exact (by exact ⟨rfl, rfl⟩)
          case hx => exact rfl
          case hy => exact rfl
          case hr => exact rb_neq
          case h1 => exact rfl
          case hd => exact rfl
          apply w_pick_f
          case hg => exact (by exact True.intro)
          case hc => exact rfl
          case hb => exact (by rfl)
          case hx => conv => lhs; whnf
          case hd => exact rfl
          apply w_move
          case hg => exact (by exact True.intro)
          case hx => conv => lhs; whnf
          case hd => exact rfl
          apply w_move
          case hg => exact (by exact ⟨rfl, rfl⟩)
          case hx => conv => lhs; whnf
          case hd => exact rfl
          apply w_bin
          case hg => exact (by exact ⟨rfl, rfl⟩)
          case hx => exact rfl
          case hy => exact rfl
          case hr => exact rb_neq
          case h1 => exact rfl
          case hd => exact rfl
          apply w_pick_f
          case hg => exact (by exact True.intro)
          case hc => exact rfl
          case hb => exact (by rfl)
          case hx => conv => lhs; whnf
          case hd => exact rfl
          apply w_move
          case hg => exact (by exact True.intro)
          case hx => conv => lhs; whnf
          case hd => exact rfl
          apply w_move
          case hg => exact (by exact ⟨rfl, rfl⟩)
          case hx => conv => lhs; whnf
          case hd => exact rfl
          apply w_str
          case hg => exact (by exact ⟨rfl, rfl⟩)
          case hx => exact rfl
          case ht => exact rfl
          case hd => exact rfl
          apply w_move
          case hg => exact (by exact ⟨rfl, rfl⟩)
          case hx => conv => lhs; whnf
          case hd => exact rfl
          apply w_call (hcon := filled_b x)
          case hxs => exact rfl
          case hys => conv => lhs; whnf
          case hle => (refine ⟨(by exact AVal.le_refl _), ?_⟩; exact trivial)
          case hf => exact rfl
          case hLi => (repeat (first | exact trivial | refine ⟨rfl, ?_⟩ | fail)) <;> fail
          case hin => exact rfl
          case hbox => exact rfl
          case hres => exact rfl
          case hnew => (repeat (first | exact trivial | refine ⟨rfl, ?_⟩ | fail)) <;> fail
          case hdead => (repeat (first | exact trivial | refine ⟨rfl, ?_⟩ | fail)) <;> fail
          case hd => exact rfl
          case hg => exact (by exact ⟨rfl, rfl⟩)
          apply w_str
          case hg => exact (by exact ⟨rfl, rfl⟩)
          case hx => exact rfl
          case ht => exact rfl
          case hd => exact rfl
          apply w_bin
          case hg => exact (by exact ⟨rfl, rfl⟩)
          case hx => exact rfl
          case hy => exact rfl
          case hr => exact rb_neqs
          case h1 => exact rfl
          case hd => exact rfl
          apply w_pick_f
          case hg => exact (by exact True.intro)
          case hc => exact rfl
          case hb => exact (by rfl)
          case hx => conv => lhs; whnf
          case hd => exact rfl
          apply w_move
          case hg => exact (by exact True.intro)
          case hx => conv => lhs; whnf
          case hd => exact rfl
          apply w_move
          case hg => exact (by (exact ⟨rfl, congrArg ab (by (simp <;> fail))⟩))
          case hx => conv => lhs; whnf
          case hd => exact rfl
          apply w_move
          case hg => exact (by (exact ⟨rfl, congrArg ab (by (simp <;> fail))⟩))
          case hx => conv => lhs; whnf
          case hd => exact rfl
          apply w_bin
          case hg => exact (by (exact ⟨rfl, congrArg ab (by (simp <;> fail))⟩))
          case hx => exact rfl
          case hy => exact rfl
          case hr => exact rb_neq
          case h1 => exact rfl
          case hd => exact rfl
          apply w_move
          case hg => exact (by (exact ⟨rfl, congrArg ab (by (simp <;> fail))⟩))
          case hx => conv => lhs; whnf
          case hd => exact rfl
          apply w_skip
          case hg => (exact ⟨rfl, congrArg ab (by (simp <;> fail))⟩)
          case hd => exact rfl
          apply w_skip
          case hg => (exact ⟨rfl, congrArg ab (by (simp <;> fail))⟩)
          case hd => exact rfl
          apply w_skip
          case hg => (exact ⟨rfl, congrArg ab (by (simp <;> fail))⟩)
          case hd => exact rfl
          apply w_skip
          case hg => (exact ⟨rfl, congrArg ab (by (simp <;> fail))⟩)
          case hd => exact rfl
          apply w_skip
          case hg => (exact ⟨rfl, congrArg ab (by (simp <;> fail))⟩)
          case hd => exact rfl
          apply w_pick_f
          case hg => exact (by (exact ⟨rfl, congrArg ab (by (simp <;> fail))⟩))
          case hc => exact rfl
          case hb => exact (by (simp <;> fail))
          case hx => conv => lhs; whnf
          case hd => exact rfl
          apply w_pick_f
          case hg => exact (by exact True.intro)
          case hc => exact rfl
          case hb => exact (by (simp <;> fail))
          case hx => conv => lhs; whnf
          case hd => exact rfl
          refine .done (by exact fun _ => rfl) ?_
          refine awp_cond_f rfl (by rfl) ?_
          refine awp_skip ?_
          refine awp_seq ?_
          refine awp_region (by kernel_rfl) ?_
          apply w_load_boxagg
          case hg => exact (by exact True.intro)
          case hx => exact rfl
          case hL => exact rfl
          case hsz => conv => lhs; whnf
          case ht => exact rfl
          case hy => conv => lhs; whnf
          case hlen => exact rfl
          case hd => exact rfl
          apply w_call (hcon := hsy)
          case hxs => exact rfl
          case hys => conv => lhs; whnf
          case hle => (refine ⟨(by exact AVal.le_refl _), ?_⟩; exact trivial)
          case hf => exact rfl
          case hLi => (repeat (first | exact trivial | refine ⟨rfl, ?_⟩ | fail)) <;> fail
          case hin => exact rfl
          case hbox => exact rfl
          case hres => exact rfl
          case hnew => (repeat (first | exact trivial | refine ⟨rfl, ?_⟩ | fail)) <;> fail
          case hdead => (repeat (first | exact trivial | refine ⟨rfl, ?_⟩ | fail)) <;> fail
          case hd => exact rfl
          case hg => exact (by exact True.intro)
          apply w_move
          case hg => exact (by exact True.intro)
          case hx => conv => lhs; whnf
          case hd => exact rfl
          apply w_extract
          case hg => exact (by exact True.intro)
          case hx => exact rfl
          case hy => conv => lhs; whnf
          case hd => exact rfl
          apply w_extract
          case hg => exact (by exact True.intro)
          case hx => exact rfl
          case hy => conv => lhs; whnf
          case hd => exact rfl
          apply w_alloc (γ := 102)
          case hg => exact (by exact True.intro)
          case hz => exact rfl
          case h1 => exact rfl
          case hdead => exact rfl
          case hf => exact rfl
          case hd => exact rfl
          apply w_store
          case hg => exact (by exact True.intro)
          case hx => exact rfl
          case hL => exact rfl
          case hv => conv => lhs; whnf
          case hc => exact rfl
          case ht => exact rfl
          case hb => exact rfl
          apply w_assign
          case hg => exact (by exact True.intro)
          case hx => conv => lhs; whnf
          case hd => exact rfl
          refine .done (by exact fun h => Bool.noConfusion h) ?_
          refine awp_seq ?_
          refine awp_region (by kernel_rfl) ?_
          apply w_assign
          case hg => exact (by exact True.intro)
          case hx => conv => lhs; whnf
          case hd => exact rfl
          refine .done (by exact fun h => Bool.noConfusion h) ?_
          refine awp_seq ?_
          refine awp_seq ?_
          refine awp_region (by kernel_rfl) ?_
          apply w_assign
          case hg => exact (by exact True.intro)
          case hx => conv => lhs; whnf
          case hd => exact rfl
          refine .done (by exact fun h => Bool.noConfusion h) ?_
          refine awp_block ?_
          refine awp_le (le_adopt 23 132 1 rfl rfl rfl) ?_
          refine awp_loopI (fun i : Nat => i ≤ d.pending.length + 1) (fun i => ⟨177, [(15, .ptr 101 0), (21, .ptr 102 0), (22, ai 0), (23, .own 132 i), (24, ai i)], [(101, .box [.d (dSecs (wroteD d k x).sectors), .d (dPend (wroteD d k x).pending), ab true]), (102, .box [.d (dSecs (syncD (wroteD d k x)).sectors), .d (dPend []), ab true]), (132, .row 1 ((List.replicate i 64).map cInt))]⟩) (fun i => d.pending.length + 1 - i) 0 (by omega)
            (le_mk rfl ⟨(by (first | ((exact AVal.le_refl _)) | ((exact AVal.le_nil _)) | ((refine AVal.le_agg ?_; ((repeat (first | exact trivial | refine ⟨(by (first | ((exact AVal.le_refl _)) | ((exact AVal.le_nil _)) | ((refine AVal.le_of_eq ?_; (conv => lhs; whnf); (first | ((rfl)) | ((simp <;> fail)) | fail))) | fail)), ?_⟩ | fail)) <;> fail))) | ((refine AVal.le_of_eq ?_; (conv => lhs; whnf); (first | ((rfl)) | ((simp <;> fail)) | fail))) | fail)), (by (first | ((exact AVal.le_refl _)) | ((exact AVal.le_nil _)) | ((refine AVal.le_agg ?_; ((repeat (first | exact trivial | refine ⟨(by (first | ((exact AVal.le_refl _)) | ((exact AVal.le_nil _)) | ((refine AVal.le_of_eq ?_; (conv => lhs; whnf); (first | ((rfl)) | ((simp <;> fail)) | fail))) | fail)), ?_⟩ | fail)) <;> fail))) | ((refine AVal.le_of_eq ?_; (conv => lhs; whnf); (first | ((rfl)) | ((simp <;> fail)) | fail))) | fail)), (by (first | ((exact AVal.le_refl _)) | ((exact AVal.le_nil _)) | ((refine AVal.le_agg ?_; ((repeat (first | exact trivial | refine ⟨(by (first | ((exact AVal.le_refl _)) | ((exact AVal.le_nil _)) | ((refine AVal.le_of_eq ?_; (conv => lhs; whnf); (first | ((rfl)) | ((simp <;> fail)) | fail))) | fail)), ?_⟩ | fail)) <;> fail))) | ((refine AVal.le_of_eq ?_; (conv => lhs; whnf); (first | ((rfl)) | ((simp <;> fail)) | fail))) | fail)), (by (first | ((exact AVal.le_refl _)) | ((exact AVal.le_nil _)) | ((refine AVal.le_agg ?_; ((repeat (first | exact trivial | refine ⟨(by (first | ((exact AVal.le_refl _)) | ((exact AVal.le_nil _)) | ((refine AVal.le_of_eq ?_; (conv => lhs; whnf); (first | ((rfl)) | ((simp <;> fail)) | fail))) | fail)), ?_⟩ | fail)) <;> fail))) | ((refine AVal.le_of_eq ?_; (conv => lhs; whnf); (first | ((rfl)) | ((simp <;> fail)) | fail))) | fail)), (by (first | ((exact AVal.le_refl _)) | ((exact AVal.le_nil _)) | ((refine AVal.le_agg ?_; ((repeat (first | exact trivial | refine ⟨(by (first | ((exact AVal.le_refl _)) | ((exact AVal.le_nil _)) | ((refine AVal.le_of_eq ?_; (conv => lhs; whnf); (first | ((rfl)) | ((simp <;> fail)) | fail))) | fail)), ?_⟩ | fail)) <;> fail))) | ((refine AVal.le_of_eq ?_; (conv => lhs; whnf); (first | ((rfl)) | ((simp <;> fail)) | fail))) | fail)), trivial⟩ ⟨rfl, rfl, rfl, trivial⟩) ?_
          intro i hi
          by_cases hlt : i < d.pending.length + 1
          · refine awp_seq ?_
            refine awp_seq ?_
            refine awp_region (by kernel_rfl) ?_
            apply w_move
            case hg => exact (by exact True.intro)
            case hx => conv => lhs; whnf
            case hd => exact rfl
            apply w_field_box
            case hg => exact (by exact True.intro)
            case hx => exact rfl
            case hoff => conv => lhs; whnf
            case hf => exact rfl
            case hd => exact rfl
            apply w_load_box
            case hg => exact (by exact True.intro)
            case hx => exact rfl
            case hL => exact rfl
            case hy => conv => lhs; whnf
            case ht => exact rfl
            case hd => exact rfl
            apply w_len_data
            case hg => exact (by exact True.intro)
            case hx => exact rfl
            case hT => exact rfl
            case hd => exact rfl
            apply w_bin
            case hg => exact (by exact True.intro)
            case hx => exact rfl
            case hy => exact rfl
            case hr => exact rb_lss
            case h1 => exact rfl
            case hd => exact rfl
            refine .done (by exact fun h => Bool.noConfusion h) ?_
            refine awp_cond_t rfl (by (simp; omega)) ?_
            refine awp_skip ?_
            refine awp_seq ?_
            refine awp_block ?_
            refine awp_region (by kernel_rfl) ?_
            apply w_move
            case hg => exact (by exact True.intro)
            case hx => conv => lhs; whnf
            case hd => exact rfl
            apply w_lit
            case hg => exact (by exact True.intro)
            case hpl => exact rfl
            case hps => conv => lhs; whnf
            case hz => exact rfl
            case hS => conv => lhs; whnf
            case hT => exact rfl
            case hzl => exact rfl
            case hz1 => exact rfl
            case hsmall => exact rfl
            case hsl => exact rfl
            case hout => conv => lhs; whnf
            case hxs => conv => lhs; whnf
            case hd => exact rfl
            apply w_append
            case hg => exact (by exact True.intro)
            case hx => exact rfl
            case hL => exact rfl
            case hy => exact rfl
            case hn => (simp <;> fail)
            case hB => conv => lhs; whnf
            case hT => exact rfl
            case hT2 => exact rfl
            case hb0 => exact rfl
            case hroom => (simp only [List.length_map, List.length_take, List.length_append, List.length_cons, List.length_nil, List.length_replicate, List.length_set]; omega)
            case hd => exact rfl
            apply w_assign
            case hg => exact (by exact True.intro)
            case hx => conv => lhs; whnf
            case hd => exact rfl
            refine .done (by exact fun h => Bool.noConfusion h) ?_
            refine awp_region (by kernel_rfl) ?_
            apply w_move
            case hg => exact (by exact True.intro)
            case hx => conv => lhs; whnf
            case hd => exact rfl
            apply w_bin
            case hg => exact (by exact True.intro)
            case hx => exact rfl
            case hy => exact rfl
            case hr => (exact rb_add64 (by unfold in64; omega))
            case h1 => exact rfl
            case hd => exact rfl
            apply w_assign
            case hg => exact (by exact True.intro)
            case hx => conv => lhs; whnf
            case hd => exact rfl
            refine .done (by exact fun h => Bool.noConfusion h) ?_
            refine ⟨i + 1, by omega, by omega, le_mk rfl ⟨(by (first | ((exact AVal.le_refl _)) | ((exact AVal.le_nil _)) | ((refine AVal.le_agg ?_; ((repeat (first | exact trivial | refine ⟨(by (first | ((exact AVal.le_refl _)) | ((exact AVal.le_nil _)) | ((refine AVal.le_of_eq ?_; (conv => lhs; whnf); (first | ((rfl)) | ((simp <;> fail)) | fail))) | fail)), ?_⟩ | fail)) <;> fail))) | ((refine AVal.le_of_eq ?_; (conv => lhs; whnf); (first | ((rfl)) | ((simp <;> fail)) | fail))) | fail)), (by (first | ((exact AVal.le_refl _)) | ((exact AVal.le_nil _)) | ((refine AVal.le_agg ?_; ((repeat (first | exact trivial | refine ⟨(by (first | ((exact AVal.le_refl _)) | ((exact AVal.le_nil _)) | ((refine AVal.le_of_eq ?_; (conv => lhs; whnf); (first | ((rfl)) | ((simp <;> fail)) | fail))) | fail)), ?_⟩ | fail)) <;> fail))) | ((refine AVal.le_of_eq ?_; (conv => lhs; whnf); (first | ((rfl)) | ((simp <;> fail)) | fail))) | fail)), (by (first | ((exact AVal.le_refl _)) | ((exact AVal.le_nil _)) | ((refine AVal.le_agg ?_; ((repeat (first | exact trivial | refine ⟨(by (first | ((exact AVal.le_refl _)) | ((exact AVal.le_nil _)) | ((refine AVal.le_of_eq ?_; (conv => lhs; whnf); (first | ((rfl)) | ((simp <;> fail)) | fail))) | fail)), ?_⟩ | fail)) <;> fail))) | ((refine AVal.le_of_eq ?_; (conv => lhs; whnf); (first | ((rfl)) | ((simp <;> fail)) | fail))) | fail)), (by (first | ((exact AVal.le_refl _)) | ((exact AVal.le_nil _)) | ((refine AVal.le_agg ?_; ((repeat (first | exact trivial | refine ⟨(by (first | ((exact AVal.le_refl _)) | ((exact AVal.le_nil _)) | ((refine AVal.le_of_eq ?_; (conv => lhs; whnf); (first | ((rfl)) | ((simp <;> fail)) | fail))) | fail)), ?_⟩ | fail)) <;> fail))) | ((refine AVal.le_of_eq ?_; (conv => lhs; whnf); (first | ((rfl)) | ((simp <;> fail)) | fail))) | fail)), (by (first | ((exact AVal.le_refl _)) | ((exact AVal.le_nil _)) | ((refine AVal.le_agg ?_; ((repeat (first | exact trivial | refine ⟨(by (first | ((exact AVal.le_refl _)) | ((exact AVal.le_nil _)) | ((refine AVal.le_of_eq ?_; (conv => lhs; whnf); (first | ((rfl)) | ((simp <;> fail)) | fail))) | fail)), ?_⟩ | fail)) <;> fail))) | ((refine AVal.le_of_eq ?_; (conv => lhs; whnf); (first | ((rfl)) | ((simp <;> fail)) | fail))) | fail)), trivial⟩ ⟨rfl, rfl, ?_, trivial⟩⟩
            refine Eq.trans (b := AObj.row 1 (_ ++ [cInt 64])) rfl ?_
            rw [List.replicate_succ', List.map_append]; rfl
          obtain rfl : i = d.pending.length + 1 := by omega
          refine awp_le (le_freeze 132 rfl) ?_
          refine awp_le (le_data 23 132 rfl rfl (by simp)) ?_
          refine awp_seq ?_
          refine awp_seq ?_
          refine awp_region (by kernel_rfl) ?_
          apply w_move
          case hg => exact (by exact True.intro)
          case hx => conv => lhs; whnf
          case hd => exact rfl
          apply w_field_box
          case hg => exact (by exact True.intro)
          case hx => exact rfl
          case hoff => conv => lhs; whnf
          case hf => exact rfl
          case hd => exact rfl
          apply w_load_box
          case hg => exact (by exact True.intro)
          case hx => exact rfl
          case hL => exact rfl
          case hy => conv => lhs; whnf
          case ht => exact rfl
          case hd => exact rfl
          apply w_len_data
          case hg => exact (by exact True.intro)
          case hx => exact rfl
          case hT => exact rfl
          case hd => exact rfl
          apply w_bin
          case hg => exact (by exact True.intro)
          case hx => exact rfl
          case hy => exact rfl
          case hr => exact rb_lss
          case h1 => exact rfl
          case hd => exact rfl
          refine .done (by exact fun h => Bool.noConfusion h) ?_
          refine awp_cond_f rfl (by (simp <;> fail)) ?_
          refine awp_exit ?_
          refine awp_seq ?_
          refine awp_region (by kernel_rfl) ?_
          apply w_load_boxagg
          case hg => exact (by exact True.intro)
          case hx => exact rfl
          case hL => exact rfl
          case hsz => conv => lhs; whnf
          case ht => exact rfl
          case hy => conv => lhs; whnf
          case hlen => exact rfl
          case hd => exact rfl
          apply w_call (hcon := hc3)
          case hxs => exact rfl
          case hys => conv => lhs; whnf
          case hle => (refine ⟨(by exact AVal.le_refl _), ?_⟩; refine ⟨(by exact AVal.le_nil _), ?_⟩; exact trivial)
          case hf => exact rfl
          case hLi => (repeat (first | exact trivial | refine ⟨rfl, ?_⟩ | fail)) <;> fail
          case hin => exact rfl
          case hbox => exact rfl
          case hres => exact rfl
          case hnew => (repeat (first | exact trivial | refine ⟨rfl, ?_⟩ | fail)) <;> fail
          case hdead => (repeat (first | exact trivial | refine ⟨rfl, ?_⟩ | fail)) <;> fail
          case hd => exact rfl
          case hg => exact (by exact True.intro)
          apply w_call (hcon := hp3)
          case hxs => exact rfl
          case hys => conv => lhs; whnf
          case hle => (refine ⟨(by exact AVal.le_refl _), ?_⟩; exact trivial)
          case hf => exact rfl
          case hLi => (repeat (first | exact trivial | refine ⟨rfl, ?_⟩ | fail)) <;> fail
          case hin => exact rfl
          case hbox => exact rfl
          case hres => exact rfl
          case hnew => (repeat (first | exact trivial | refine ⟨rfl, ?_⟩ | fail)) <;> fail
          case hdead => (repeat (first | exact trivial | refine ⟨rfl, ?_⟩ | fail)) <;> fail
          case hd => exact rfl
          case hg => exact (by exact True.intro)
          apply w_alloc (γ := 100)
          case hg => exact (by exact True.intro)
          case hz => exact rfl
          case h1 => exact rfl
          case hdead => exact rfl
          case hf => exact rfl
          case hd => exact rfl
          apply w_store
          case hg => exact (by exact True.intro)
          case hx => exact rfl
          case hL => exact rfl
          case hv => conv => lhs; whnf
          case hc => exact rfl
          case ht => exact rfl
          case hb => exact rfl
          refine .done (by exact fun h => Bool.noConfusion h) ?_
          refine awp_seq ?_
          refine awp_region (by kernel_rfl) ?_
          apply w_field_box
          case hg => exact (by exact True.intro)
          case hx => exact rfl
          case hoff => conv => lhs; whnf
          case hf => exact rfl
          case hd => exact rfl
          apply w_load_box
          case hg => exact (by exact True.intro)
          case hx => exact rfl
          case hL => exact rfl
          case hy => conv => lhs; whnf
          case ht => exact rfl
          case hd => exact rfl
          apply w_field_box
          case hg => exact (by exact True.intro)
          case hx => exact rfl
          case hoff => conv => lhs; whnf
          case hf => exact rfl
          case hd => exact rfl
          apply w_store
          case hg => exact (by exact True.intro)
          case hx => exact rfl
          case hL => exact rfl
          case hv => conv => lhs; whnf
          case hc => exact rfl
          case ht => exact rfl
          case hb => exact rfl
          refine .done (by exact fun h => Bool.noConfusion h) ?_
          refine awp_seq ?_
          refine awp_region (by kernel_rfl) ?_
          apply w_move
          case hg => exact (by exact True.intro)
          case hx => conv => lhs; whnf
          case hd => exact rfl
          apply w_bin
          case hg => exact (by exact True.intro)
          case hx => exact rfl
          case hy => exact rfl
          case hr => exact rb_eql
          case h1 => exact rfl
          case hd => exact rfl
          apply w_move
          case hg => exact (by exact True.intro)
          case hx => conv => lhs; whnf
          case hd => exact rfl
          apply w_load_boxagg
          case hg => exact (by exact ⟨rfl, rfl⟩)
          case hx => exact rfl
          case hL => exact rfl
          case hsz => conv => lhs; whnf
          case ht => exact rfl
          case hy => conv => lhs; whnf
          case hlen => exact rfl
          case hd => exact rfl
          apply w_move
          case hg => exact (by exact ⟨rfl, rfl⟩)
          case hx => conv => lhs; whnf
          case hd => exact rfl
          apply w_call (hcon := hc1)
          case hxs => exact rfl
          case hys => conv => lhs; whnf
          case hle => (refine ⟨(by exact AVal.le_refl _), ?_⟩; refine ⟨(by exact AVal.le_refl _), ?_⟩; exact trivial)
          case hf => exact rfl
          case hLi => (repeat (first | exact trivial | refine ⟨rfl, ?_⟩ | fail)) <;> fail
          case hin => exact rfl
          case hbox => exact rfl
          case hres => exact rfl
          case hnew => (repeat (first | exact trivial | refine ⟨rfl, ?_⟩ | fail)) <;> fail
          case hdead => (repeat (first | exact trivial | refine ⟨rfl, ?_⟩ | fail)) <;> fail
          case hd => exact rfl
          case hg => exact (by exact ⟨rfl, rfl⟩)
          apply w_call (hcon := hp1)
          case hxs => exact rfl
          case hys => conv => lhs; whnf
          case hle => (refine ⟨(by exact AVal.le_refl _), ?_⟩; exact trivial)
          case hf => exact rfl
          case hLi => (repeat (first | exact trivial | refine ⟨rfl, ?_⟩ | fail)) <;> fail
          case hin => exact rfl
          case hbox => exact rfl
          case hres => exact rfl
          case hnew => (repeat (first | exact trivial | refine ⟨rfl, ?_⟩ | fail)) <;> fail
          case hdead => (repeat (first | exact trivial | refine ⟨rfl, ?_⟩ | fail)) <;> fail
          case hd => exact rfl
          case hg => exact (by exact ⟨rfl, rfl⟩)
          apply w_load_boxagg
          case hg => exact (by exact ⟨rfl, rfl⟩)
          case hx => exact rfl
          case hL => exact rfl
          case hsz => conv => lhs; whnf
          case ht => exact rfl
          case hy => conv => lhs; whnf
          case hlen => exact rfl
          case hd => exact rfl
          apply w_call (hcon := same_con (syncD (wroteD d k x)))
          case hxs => exact rfl
          case hys => conv => lhs; whnf
          case hle => (refine ⟨(by exact AVal.le_refl _), ?_⟩; refine ⟨(by exact AVal.le_refl _), ?_⟩; exact trivial)
          case hf => exact rfl
          case hLi => (repeat (first | exact trivial | refine ⟨rfl, ?_⟩ | fail)) <;> fail
          case hin => exact rfl
          case hbox => exact rfl
          case hres => exact rfl
          case hnew => (repeat (first | exact trivial | refine ⟨rfl, ?_⟩ | fail)) <;> fail
          case hdead => (repeat (first | exact trivial | refine ⟨rfl, ?_⟩ | fail)) <;> fail
          case hd => exact rfl
          case hg => exact (by exact ⟨rfl, rfl⟩)
          apply w_pick_t
          case hg => exact (by exact True.intro)
          case hc => exact rfl
          case hb => exact (by rfl)
          case hx => conv => lhs; whnf
          case hd => exact rfl
          apply w_move
          case hg => exact (by exact True.intro)
          case hx => conv => lhs; whnf
          case hd => exact rfl
          apply w_load_boxagg
          case hg => exact (by exact ⟨rfl, rfl⟩)
          case hx => exact rfl
          case hL => exact rfl
          case hsz => conv => lhs; whnf
          case ht => exact rfl
          case hy => conv => lhs; whnf
          case hlen => exact rfl
          case hd => exact rfl
          apply w_call (hcon := hc2)
          case hxs => exact rfl
          case hys => conv => lhs; whnf
          case hle => (refine ⟨(by exact AVal.le_refl _), ?_⟩; refine ⟨(by exact AVal.le_nil _), ?_⟩; exact trivial)
          case hf => exact rfl
          case hLi => (repeat (first | exact trivial | refine ⟨rfl, ?_⟩ | fail)) <;> fail
          case hin => exact rfl
          case hbox => exact rfl
          case hres => exact rfl
          case hnew => (repeat (first | exact trivial | refine ⟨rfl, ?_⟩ | fail)) <;> fail
          case hdead => (repeat (first | exact trivial | refine ⟨rfl, ?_⟩ | fail)) <;> fail
          case hd => exact rfl
          case hg => exact (by exact ⟨rfl, rfl⟩)
          apply w_call (hcon := hp1)
          case hxs => exact rfl
          case hys => conv => lhs; whnf
          case hle => (refine ⟨(by exact AVal.le_refl _), ?_⟩; exact trivial)
          case hf => exact rfl
          case hLi => (repeat (first | exact trivial | refine ⟨rfl, ?_⟩ | fail)) <;> fail
          case hin => exact rfl
          case hbox => exact rfl
          case hres => exact rfl
          case hnew => (repeat (first | exact trivial | refine ⟨rfl, ?_⟩ | fail)) <;> fail
          case hdead => (repeat (first | exact trivial | refine ⟨rfl, ?_⟩ | fail)) <;> fail
          case hd => exact rfl
          case hg => exact (by exact ⟨rfl, rfl⟩)
          apply w_load_boxagg
          case hg => exact (by exact ⟨rfl, rfl⟩)
          case hx => exact rfl
          case hL => exact rfl
          case hsz => conv => lhs; whnf
          case ht => exact rfl
          case hy => conv => lhs; whnf
          case hlen => exact rfl
          case hd => exact rfl
          apply w_call (hcon := same_con (syncD (wroteD d k x)))
          case hxs => exact rfl
          case hys => conv => lhs; whnf
          case hle => (refine ⟨(by exact AVal.le_refl _), ?_⟩; refine ⟨(by exact AVal.le_refl _), ?_⟩; exact trivial)
          case hf => exact rfl
          case hLi => (repeat (first | exact trivial | refine ⟨rfl, ?_⟩ | fail)) <;> fail
          case hin => exact rfl
          case hbox => exact rfl
          case hres => exact rfl
          case hnew => (repeat (first | exact trivial | refine ⟨rfl, ?_⟩ | fail)) <;> fail
          case hdead => (repeat (first | exact trivial | refine ⟨rfl, ?_⟩ | fail)) <;> fail
          case hd => exact rfl
          case hg => exact (by exact ⟨rfl, rfl⟩)
          apply w_pick_t
          case hg => exact (by exact True.intro)
          case hc => exact rfl
          case hb => exact (by rfl)
          case hx => conv => lhs; whnf
          case hd => exact rfl
          apply w_move
          case hg => exact (by exact True.intro)
          case hx => conv => lhs; whnf
          case hd => exact rfl
          apply w_load_boxagg
          case hg => exact (by exact ⟨rfl, rfl⟩)
          case hx => exact rfl
          case hL => exact rfl
          case hsz => conv => lhs; whnf
          case ht => exact rfl
          case hy => conv => lhs; whnf
          case hlen => exact rfl
          case hd => exact rfl
          apply w_load_boxagg
          case hg => exact (by exact ⟨rfl, rfl⟩)
          case hx => exact rfl
          case hL => exact rfl
          case hsz => conv => lhs; whnf
          case ht => exact rfl
          case hy => conv => lhs; whnf
          case hlen => exact rfl
          case hd => exact rfl
          apply w_call (hcon := same_con (wroteD d k x))
          case hxs => exact rfl
          case hys => conv => lhs; whnf
          case hle => (refine ⟨(by exact AVal.le_refl _), ?_⟩; refine ⟨(by exact AVal.le_refl _), ?_⟩; exact trivial)
          case hf => exact rfl
          case hLi => (repeat (first | exact trivial | refine ⟨rfl, ?_⟩ | fail)) <;> fail
          case hin => exact rfl
          case hbox => exact rfl
          case hres => exact rfl
          case hnew => (repeat (first | exact trivial | refine ⟨rfl, ?_⟩ | fail)) <;> fail
          case hdead => (repeat (first | exact trivial | refine ⟨rfl, ?_⟩ | fail)) <;> fail
          case hd => exact rfl
          case hg => exact (by exact ⟨rfl, rfl⟩)
          apply w_pick_t
          case hg => exact (by exact True.intro)
          case hc => exact rfl
          case hb => exact (by rfl)
          case hx => conv => lhs; whnf
          case hd => exact rfl
          apply w_move
          case hg => exact (by exact True.intro)
          case hx => conv => lhs; whnf
          case hd => exact rfl
          apply w_call (hcon := alive_con)
          case hxs => exact rfl
          case hys => conv => lhs; whnf
          case hle => (exact trivial)
          case hf => exact rfl
          case hLi => (repeat (first | exact trivial | refine ⟨rfl, ?_⟩ | fail)) <;> fail
          case hin => exact rfl
          case hbox => exact rfl
          case hres => exact rfl
          case hnew => (repeat (first | exact trivial | refine ⟨rfl, ?_⟩ | fail)) <;> fail
          case hdead => (repeat (first | exact trivial | refine ⟨rfl, ?_⟩ | fail)) <;> fail
          case hd => exact rfl
          case hg => exact (by exact ⟨rfl, rfl⟩)
          apply w_pick_t
          case hg => exact (by exact True.intro)
          case hc => exact rfl
          case hb => exact (by rfl)
          case hx => conv => lhs; whnf
          case hd => exact rfl
          apply w_assign
          case hg => exact (by exact True.intro)
          case hx => conv => lhs; whnf
          case hd => exact rfl
          refine .done (by exact fun _ => rfl) ?_
          exact awp_ret ⟨_, St.le_refl _, ⟨rfl, trivial⟩, subL_nil _⟩
        have hr3 : Con Try.prog 21 [] [aDisk (wroteD d k x), ai j] [] (aTwo (.d (dBytes (boundS d.pending j t d.pending.length))) 0) := by
          have h := read_con (wroteD d k x) j hlW
          rwa [read_wrote hv hkl ht, if_neg (by omega)] at h
        refine awp_seq ?_
        refine awp_region (by kernel_rfl) ?_
        apply w_box (γ := 100)
        case hg => exact (by exact True.intro)
        case hx => conv => lhs; whnf
        case hc => exact rfl
        case hdead => exact rfl
        case hf => exact rfl
        case hm => exact rfl
        case hd => exact rfl
        apply w_assign
        case hg => exact (by exact True.intro)
        case hx => conv => lhs; whnf
        case hd => exact rfl
        refine .done (by exact fun h => Bool.noConfusion h) ?_
        refine awp_seq ?_
        refine awp_seq ?_
        refine awp_region (by kernel_rfl) ?_
        apply w_load_boxagg
        case hg => exact (by exact True.intro)
        case hx => exact rfl
        case hL => exact rfl
        case hsz => conv => lhs; whnf
        case ht => exact rfl
        case hy => conv => lhs; whnf
        case hlen => exact rfl
        case hd => exact rfl
        apply w_call (hcon := few_con d)
        case hxs => exact rfl
        case hys => conv => lhs; whnf
        case hle => (refine ⟨(by exact AVal.le_refl _), ?_⟩; exact trivial)
        case hf => exact rfl
        case hLi => (repeat (first | exact trivial | refine ⟨rfl, ?_⟩ | fail)) <;> fail
        case hin => exact rfl
        case hbox => exact rfl
        case hres => exact rfl
        case hnew => (repeat (first | exact trivial | refine ⟨rfl, ?_⟩ | fail)) <;> fail
        case hdead => (repeat (first | exact trivial | refine ⟨rfl, ?_⟩ | fail)) <;> fail
        case hd => exact rfl
        case hg => exact (by exact True.intro)
        apply w_un
        case hg => exact (by exact True.intro)
        case hx => exact rfl
        case hr => exact ru_not
        case h1 => exact rfl
        case hd => exact rfl
        apply w_move
        case hg => exact (by exact True.intro)
        case hx => conv => lhs; whnf
        case hd => exact rfl
        apply w_load_boxagg
        case hg => exact (by (exact ⟨rfl, congrArg ab (by (simp [*] <;> fail))⟩))
        case hx => exact rfl
        case hL => exact rfl
        case hsz => conv => lhs; whnf
        case ht => exact rfl
        case hy => conv => lhs; whnf
        case hlen => exact rfl
        case hd => exact rfl
        apply w_call (hcon := valid_con d)
        case hxs => exact rfl
        case hys => conv => lhs; whnf
        case hle => (refine ⟨(by exact AVal.le_refl _), ?_⟩; exact trivial)
        case hf => exact rfl
        case hLi => (repeat (first | exact trivial | refine ⟨rfl, ?_⟩ | fail)) <;> fail
        case hin => exact rfl
        case hbox => exact rfl
        case hres => exact rfl
        case hnew => (repeat (first | exact trivial | refine ⟨rfl, ?_⟩ | fail)) <;> fail
        case hdead => (repeat (first | exact trivial | refine ⟨rfl, ?_⟩ | fail)) <;> fail
        case hd => exact rfl
        case hg => exact (by (exact ⟨rfl, congrArg ab (by (simp [*] <;> fail))⟩))
        apply w_un
        case hg => exact (by (exact ⟨rfl, congrArg ab (by (simp [*] <;> fail))⟩))
        case hx => exact rfl
        case hr => exact ru_not
        case h1 => exact rfl
        case hd => exact rfl
        apply w_pick_f
        case hg => exact (by exact True.intro)
        case hc => exact rfl
        case hb => exact (by (simp [*] <;> fail))
        case hx => conv => lhs; whnf
        case hd => exact rfl
        apply w_move
        case hg => exact (by exact True.intro)
        case hx => conv => lhs; whnf
        case hd => exact rfl
        apply w_field_box
        case hg => exact (by (exact ⟨rfl, congrArg ab (by (simp [*] <;> fail))⟩))
        case hx => exact rfl
        case hoff => conv => lhs; whnf
        case hf => exact rfl
        case hd => exact rfl
        apply w_load_box
        case hg => exact (by (exact ⟨rfl, congrArg ab (by (simp [*] <;> fail))⟩))
        case hx => exact rfl
        case hL => exact rfl
        case hy => conv => lhs; whnf
        case ht => exact rfl
        case hd => exact rfl
        apply w_len_data
        case hg => exact (by (exact ⟨rfl, congrArg ab (by (simp [*] <;> fail))⟩))
        case hx => exact rfl
        case hT => exact rfl
        case hd => exact rfl
        apply w_bin
        case hg => exact (by (exact ⟨rfl, congrArg ab (by (simp [*] <;> fail))⟩))
        case hx => exact rfl
        case hy => exact rfl
        case hr => exact rb_eql
        case h1 => exact rfl
        case hd => exact rfl
        apply w_pick_f
        case hg => exact (by exact True.intro)
        case hc => exact rfl
        case hb => exact (by (simp [*] <;> fail))
        case hx => conv => lhs; whnf
        case hd => exact rfl
        refine .done (by exact fun h => Bool.noConfusion h) ?_
        refine awp_cond_f rfl (by (simp only [List.length_map, List.length_take, List.length_append, decide_eq_true_eq, decide_eq_false_iff_not, ne_eq, Classical.not_not]; omega)) ?_
        refine awp_skip ?_
        refine awp_seq ?_
        refine awp_region (by kernel_rfl) ?_
        apply w_move
        case hg => exact (by exact True.intro)
        case hx => conv => lhs; whnf
        case hd => exact rfl
        apply w_conv
        case hg => exact (by exact True.intro)
        case hx => exact rfl
        case hr => exact rc_b64 rfl rfl
        case h1 => exact rfl
        case hd => exact rfl
        apply w_field_box
        case hg => exact (by exact True.intro)
        case hx => exact rfl
        case hoff => conv => lhs; whnf
        case hf => exact rfl
        case hd => exact rfl
        apply w_load_box
        case hg => exact (by exact True.intro)
        case hx => exact rfl
        case hL => exact rfl
        case hy => conv => lhs; whnf
        case ht => exact rfl
        case hd => exact rfl
        apply w_len_data
        case hg => exact (by exact True.intro)
        case hx => exact rfl
        case hT => exact rfl
        case hd => exact rfl
        refine w_bin_to (ai' k) ek rfl rfl (rb_rem a0 e0) rfl rfl (by exact True.intro) ?_
        apply w_assign
        case hg => exact (by exact True.intro)
        case hx => conv => lhs; whnf
        case hd => exact rfl
        refine .done (by exact fun h => Bool.noConfusion h) ?_
        refine awp_seq ?_
        refine awp_region (by kernel_rfl) ?_
        apply w_move
        case hg => exact (by exact True.intro)
        case hx => conv => lhs; whnf
        case hd => exact rfl
        apply w_conv
        case hg => exact (by exact True.intro)
        case hx => exact rfl
        case hr => exact rc_b64 rfl rfl
        case h1 => exact rfl
        case hd => exact rfl
        apply w_field_box
        case hg => exact (by exact True.intro)
        case hx => exact rfl
        case hoff => conv => lhs; whnf
        case hf => exact rfl
        case hd => exact rfl
        apply w_load_box
        case hg => exact (by exact True.intro)
        case hx => exact rfl
        case hL => exact rfl
        case hy => conv => lhs; whnf
        case ht => exact rfl
        case hd => exact rfl
        apply w_len_data
        case hg => exact (by exact True.intro)
        case hx => exact rfl
        case hT => exact rfl
        case hd => exact rfl
        refine w_bin_to (ai' j) ej rfl rfl (rb_rem o0 e0) rfl rfl (by exact True.intro) ?_
        apply w_assign
        case hg => exact (by exact True.intro)
        case hx => conv => lhs; whnf
        case hd => exact rfl
        refine .done (by exact fun h => Bool.noConfusion h) ?_
        refine awp_seq ?_
        refine awp_seq ?_
        refine awp_region (by kernel_rfl) ?_
        apply w_field_box
        case hg => exact (by exact True.intro)
        case hx => exact rfl
        case hoff => conv => lhs; whnf
        case hf => exact rfl
        case hd => exact rfl
        apply w_load_box
        case hg => exact (by exact True.intro)
        case hx => exact rfl
        case hL => exact rfl
        case hy => conv => lhs; whnf
        case ht => exact rfl
        case hd => exact rfl
        apply w_un
        case hg => exact (by exact True.intro)
        case hx => exact rfl
        case hr => exact ru_not
        case h1 => exact rfl
        case hd => exact rfl
        refine .done (by exact fun h => Bool.noConfusion h) ?_
        refine awp_cond_f rfl (by (simp [*] <;> fail)) ?_
        refine awp_skip ?_
        refine awp_seq ?_
        refine awp_region (by kernel_rfl) ?_
        apply w_load_boxagg
        case hg => exact (by exact True.intro)
        case hx => exact rfl
        case hL => exact rfl
        case hsz => conv => lhs; whnf
        case ht => exact rfl
        case hy => conv => lhs; whnf
        case hlen => exact rfl
        case hd => exact rfl
        apply w_move
        case hg => exact (by exact True.intro)
        case hx => conv => lhs; whnf
        case hd => exact rfl
        apply w_call (hcon := hr1)
        case hxs => exact rfl
        case hys => conv => lhs; whnf
        case hle => (refine ⟨(by exact AVal.le_refl _), ?_⟩; refine ⟨(by exact AVal.le_refl _), ?_⟩; exact trivial)
        case hf => exact rfl
        case hLi => (repeat (first | exact trivial | refine ⟨rfl, ?_⟩ | fail)) <;> fail
        case hin => exact rfl
        case hbox => exact rfl
        case hres => exact rfl
        case hnew => (repeat (first | exact trivial | refine ⟨rfl, ?_⟩ | fail)) <;> fail
        case hdead => (repeat (first | exact trivial | refine ⟨rfl, ?_⟩ | fail)) <;> fail
        case hd => exact rfl
        case hg => exact (by exact True.intro)
        apply w_move
        case hg => exact (by exact True.intro)
        case hx => conv => lhs; whnf
        case hd => exact rfl
        apply w_extract
        case hg => exact (by exact True.intro)
        case hx => exact rfl
        case hy => conv => lhs; whnf
        case hd => exact rfl
        apply w_extract
        case hg => exact (by exact True.intro)
        case hx => exact rfl
        case hy => conv => lhs; whnf
        case hd => exact rfl
        apply w_assign
        case hg => exact (by exact True.intro)
        case hx => conv => lhs; whnf
        case hd => exact rfl
        apply w_assign
        case hg => exact (by exact True.intro)
        case hx => conv => lhs; whnf
        case hd => exact rfl
        refine .done (by exact fun h => Bool.noConfusion h) ?_
        refine awp_seq ?_
        refine awp_region (by kernel_rfl) ?_
        apply w_load_boxagg
        case hg => exact (by exact True.intro)
        case hx => exact rfl
        case hL => exact rfl
        case hsz => conv => lhs; whnf
        case ht => exact rfl
        case hy => conv => lhs; whnf
        case hlen => exact rfl
        case hd => exact rfl
        apply w_move
        case hg => exact (by exact True.intro)
        case hx => conv => lhs; whnf
        case hd => exact rfl
        apply w_move
        case hg => exact (by exact True.intro)
        case hx => conv => lhs; whnf
        case hd => exact rfl
        apply w_call (hcon := filled_b x)
        case hxs => exact rfl
        case hys => conv => lhs; whnf
        case hle => (refine ⟨(by exact AVal.le_refl _), ?_⟩; exact trivial)
        case hf => exact rfl
        case hLi => (repeat (first | exact trivial | refine ⟨rfl, ?_⟩ | fail)) <;> fail
        case hin => exact rfl
        case hbox => exact rfl
        case hres => exact rfl
        case hnew => (repeat (first | exact trivial | refine ⟨rfl, ?_⟩ | fail)) <;> fail
        case hdead => (repeat (first | exact trivial | refine ⟨rfl, ?_⟩ | fail)) <;> fail
        case hd => exact rfl
        case hg => exact (by exact True.intro)
        apply w_call (hcon := hwr)
        case hxs => exact rfl
        case hys => conv => lhs; whnf
        case hle => (refine ⟨(by exact AVal.le_refl _), ?_⟩; refine ⟨(by exact AVal.le_refl _), ?_⟩; refine ⟨(by exact AVal.le_refl _), ?_⟩; exact trivial)
        case hf => exact rfl
        case hLi => (repeat (first | exact trivial | refine ⟨rfl, ?_⟩ | fail)) <;> fail
        case hin => exact rfl
        case hbox => exact rfl
        case hres => exact rfl
        case hnew => (repeat (first | exact trivial | refine ⟨rfl, ?_⟩ | fail)) <;> fail
        case hdead => (repeat (first | exact trivial | refine ⟨rfl, ?_⟩ | fail)) <;> fail
        case hd => exact rfl
        case hg => exact (by exact True.intro)
        apply w_move
        case hg => exact (by exact True.intro)
        case hx => conv => lhs; whnf
        case hd => exact rfl
        apply w_extract
        case hg => exact (by exact True.intro)
        case hx => exact rfl
        case hy => conv => lhs; whnf
        case hd => exact rfl
        apply w_extract
        case hg => exact (by exact True.intro)
        case hx => exact rfl
        case hy => conv => lhs; whnf
        case hd => exact rfl
        apply w_alloc (γ := 101)
        case hg => exact (by exact True.intro)
        case hz => exact rfl
        case h1 => exact rfl
        case hdead => exact rfl
        case hf => exact rfl
        case hd => exact rfl
        apply w_store
        case hg => exact (by exact True.intro)
        case hx => exact rfl
        case hL => exact rfl
        case hv => conv => lhs; whnf
        case hc => exact rfl
        case ht => exact rfl
        case hb => exact rfl
        apply w_assign
        case hg => exact (by exact True.intro)
        case hx => conv => lhs; whnf
        case hd => exact rfl
        refine .done (by exact fun _ => rfl) ?_
        refine awp_seq ?_
        refine awp_region (by kernel_rfl) ?_
        apply w_load_boxagg
        case hg => exact (by exact True.intro)
        case hx => exact rfl
        case hL => exact rfl
        case hsz => conv => lhs; whnf
        case ht => exact rfl
        case hy => conv => lhs; whnf
        case hlen => exact rfl
        case hd => exact rfl
        apply w_move
        case hg => exact (by exact True.intro)
        case hx => conv => lhs; whnf
        case hd => exact rfl
        apply w_call (hcon := hr2)
        case hxs => exact rfl
        case hys => conv => lhs; whnf
        case hle => (refine ⟨(by exact AVal.le_refl _), ?_⟩; refine ⟨(by exact AVal.le_refl _), ?_⟩; exact trivial)
        case hf => exact rfl
        case hLi => (repeat (first | exact trivial | refine ⟨rfl, ?_⟩ | fail)) <;> fail
        case hin => exact rfl
        case hbox => exact rfl
        case hres => exact rfl
        case hnew => (repeat (first | exact trivial | refine ⟨rfl, ?_⟩ | fail)) <;> fail
        case hdead => (repeat (first | exact trivial | refine ⟨rfl, ?_⟩ | fail)) <;> fail
        case hd => exact rfl
        case hg => exact (by exact True.intro)
        apply w_move
        case hg => exact (by exact True.intro)
        case hx => conv => lhs; whnf
        case hd => exact rfl
        apply w_extract
        case hg => exact (by exact True.intro)
        case hx => exact rfl
        case hy => conv => lhs; whnf
        case hd => exact rfl
        apply w_extract
        case hg => exact (by exact True.intro)
        case hx => exact rfl
        case hy => conv => lhs; whnf
        case hd => exact rfl
        apply w_assign
        case hg => exact (by exact True.intro)
        case hx => conv => lhs; whnf
        case hd => exact rfl
        apply w_assign
        case hg => exact (by exact True.intro)
        case hx => conv => lhs; whnf
        case hd => exact rfl
        refine .done (by exact fun h => Bool.noConfusion h) ?_
        refine awp_seq ?_
        refine awp_region (by kernel_rfl) ?_
        apply w_load_boxagg
        case hg => exact (by exact True.intro)
        case hx => exact rfl
        case hL => exact rfl
        case hsz => conv => lhs; whnf
        case ht => exact rfl
        case hy => conv => lhs; whnf
        case hlen => exact rfl
        case hd => exact rfl
        apply w_move
        case hg => exact (by exact True.intro)
        case hx => conv => lhs; whnf
        case hd => exact rfl
        apply w_call (hcon := hr3)
        case hxs => exact rfl
        case hys => conv => lhs; whnf
        case hle => (refine ⟨(by exact AVal.le_refl _), ?_⟩; refine ⟨(by exact AVal.le_refl _), ?_⟩; exact trivial)
        case hf => exact rfl
        case hLi => (repeat (first | exact trivial | refine ⟨rfl, ?_⟩ | fail)) <;> fail
        case hin => exact rfl
        case hbox => exact rfl
        case hres => exact rfl
        case hnew => (repeat (first | exact trivial | refine ⟨rfl, ?_⟩ | fail)) <;> fail
        case hdead => (repeat (first | exact trivial | refine ⟨rfl, ?_⟩ | fail)) <;> fail
        case hd => exact rfl
        case hg => exact (by exact True.intro)
        apply w_move
        case hg => exact (by exact True.intro)
        case hx => conv => lhs; whnf
        case hd => exact rfl
        apply w_extract
        case hg => exact (by exact True.intro)
        case hx => exact rfl
        case hy => conv => lhs; whnf
        case hd => exact rfl
        apply w_extract
        case hg => exact (by exact True.intro)
        case hx => exact rfl
        case hy => conv => lhs; whnf
        case hd => exact rfl
        apply w_assign
        case hg => exact (by exact True.intro)
        case hx => conv => lhs; whnf
        case hd => exact rfl
        apply w_assign
        case hg => exact (by exact True.intro)
        case hx => conv => lhs; whnf
        case hd => exact rfl
        refine .done (by exact fun h => Bool.noConfusion h) ?_
        refine awp_seq ?_
        refine awp_seq ?_
        refine awp_region (by kernel_rfl) ?_
        apply w_move
        case hg => exact (by exact True.intro)
        case hx => conv => lhs; whnf
        case hd => exact rfl
        apply w_bin
        case hg => exact (by exact True.intro)
        case hx => exact rfl
        case hy => exact rfl
        case hr => exact rb_neq
        case h1 => exact rfl
        case hd => exact rfl
        apply w_move
        case hg => exact (by exact True.intro)
        case hx => conv => lhs; whnf
        case hd => exact rfl
        apply w_move
        case hg => exact (by exact ⟨rfl, rfl⟩)
        case hx => conv => lhs; whnf
        case hd => exact rfl
        apply w_bin
        case hg => exact (by exact ⟨rfl, rfl⟩)
        case hx => exact rfl
        case hy => exact rfl
        case hr => exact rb_neq
        case h1 => exact rfl
        case hd => exact rfl
        apply w_pick_f
        case hg => exact (by exact True.intro)
        case hc => exact rfl
        case hb => exact (by rfl)
        case hx => conv => lhs; whnf
        case hd => exact rfl
        apply w_move
        case hg => exact (by exact True.intro)
        case hx => conv => lhs; whnf
        case hd => exact rfl
        apply w_move
        case hg => exact (by exact ⟨rfl, rfl⟩)
        case hx => conv => lhs; whnf
        case hd => exact rfl
        apply w_bin
        case hg => exact (by exact ⟨rfl, rfl⟩)
        case hx => exact rfl
        case hy => exact rfl
        case hr => exact rb_neq
        case h1 => exact rfl
        case hd => exact rfl
        apply w_pick_f
        case hg => exact (by exact True.intro)
        case hc => exact rfl
        case hb => exact (by rfl)
        case hx => conv => lhs; whnf
        case hd => exact rfl
        apply w_move
        case hg => exact (by exact True.intro)
        case hx => conv => lhs; whnf
        case hd => exact rfl
        apply w_move
        case hg => exact (by exact ⟨rfl, rfl⟩)
        case hx => conv => lhs; whnf
        case hd => exact rfl
        apply w_str
        case hg => exact (by exact ⟨rfl, rfl⟩)
        case hx => exact rfl
        case ht => exact rfl
        case hd => exact rfl
        apply w_move
        case hg => exact (by exact ⟨rfl, rfl⟩)
        case hx => conv => lhs; whnf
        case hd => exact rfl
        apply w_call (hcon := filled_b x)
        case hxs => exact rfl
        case hys => conv => lhs; whnf
        case hle => (refine ⟨(by exact AVal.le_refl _), ?_⟩; exact trivial)
        case hf => exact rfl
        case hLi => (repeat (first | exact trivial | refine ⟨rfl, ?_⟩ | fail)) <;> fail
        case hin => exact rfl
        case hbox => exact rfl
        case hres => exact rfl
        case hnew => (repeat (first | exact trivial | refine ⟨rfl, ?_⟩ | fail)) <;> fail
        case hdead => (repeat (first | exact trivial | refine ⟨rfl, ?_⟩ | fail)) <;> fail
        case hd => exact rfl
        case hg => exact (by exact ⟨rfl, rfl⟩)
        apply w_str
        case hg => exact (by exact ⟨rfl, rfl⟩)
        case hx => exact rfl
        case ht => exact rfl
        case hd => exact rfl
        apply w_bin
        case hg => exact (by exact ⟨rfl, rfl⟩)
        case hx => exact rfl
        case hy => exact rfl
        case hr => exact rb_neqs
        case h1 => exact rfl
        case hd => exact rfl
        apply w_pick_f
        case hg => exact (by exact True.intro)
        case hc => exact rfl
        case hb => exact (by rfl)
        case hx => conv => lhs; whnf
        case hd => exact rfl
        apply w_move
        case hg => exact (by exact True.intro)
        case hx => conv => lhs; whnf
        case hd => exact rfl
        apply w_move
        case hg => exact (by (exact ⟨rfl, congrArg ab (by (simp <;> fail))⟩))
        case hx => conv => lhs; whnf
        case hd => exact rfl
        apply w_move
        case hg => exact (by (exact ⟨rfl, congrArg ab (by (simp <;> fail))⟩))
        case hx => conv => lhs; whnf
        case hd => exact rfl
        apply w_bin
        case hg => exact (by (exact ⟨rfl, congrArg ab (by (simp <;> fail))⟩))
        case hx => exact rfl
        case hy => exact rfl
        case hr => exact rb_neq
        case h1 => exact rfl
        case hd => exact rfl
        apply w_move
        case hg => exact (by (exact ⟨rfl, congrArg ab (by (simp <;> fail))⟩))
        case hx => conv => lhs; whnf
        case hd => exact rfl
        apply w_move
        case hg => exact (by (exact ⟨rfl, congrArg ab (by (simp only [List.length_map, List.length_take, List.length_append, decide_eq_true_eq, decide_eq_false_iff_not, ne_eq, Classical.not_not]; omega))⟩))
        case hx => conv => lhs; whnf
        case hd => exact rfl
        apply w_str
        case hg => exact (by (exact ⟨rfl, congrArg ab (by (simp only [List.length_map, List.length_take, List.length_append, decide_eq_true_eq, decide_eq_false_iff_not, ne_eq, Classical.not_not]; omega))⟩))
        case hx => exact rfl
        case ht => exact rfl
        case hd => exact rfl
        apply w_move
        case hg => exact (by (exact ⟨rfl, congrArg ab (by (simp only [List.length_map, List.length_take, List.length_append, decide_eq_true_eq, decide_eq_false_iff_not, ne_eq, Classical.not_not]; omega))⟩))
        case hx => conv => lhs; whnf
        case hd => exact rfl
        apply w_str
        case hg => exact (by (exact ⟨rfl, congrArg ab (by (simp only [List.length_map, List.length_take, List.length_append, decide_eq_true_eq, decide_eq_false_iff_not, ne_eq, Classical.not_not]; omega))⟩))
        case hx => exact rfl
        case ht => exact rfl
        case hd => exact rfl
        apply w_bin
        case hg => exact (by (exact ⟨rfl, congrArg ab (by (simp only [List.length_map, List.length_take, List.length_append, decide_eq_true_eq, decide_eq_false_iff_not, ne_eq, Classical.not_not]; omega))⟩))
        case hx => exact rfl
        case hy => exact rfl
        case hr => exact rb_neqs
        case h1 => exact rfl
        case hd => exact rfl
        apply w_pick_t
        case hg => exact (by (exact ⟨rfl, congrArg ab (by (simp <;> fail))⟩))
        case hc => exact rfl
        case hb => exact (by (simp only [List.length_map, List.length_take, List.length_append, decide_eq_true_eq, decide_eq_false_iff_not, ne_eq, Classical.not_not]; omega))
        case hx => conv => lhs; whnf
        case hd => exact rfl
        apply w_pick_f
        case hg => exact (by exact True.intro)
        case hc => exact rfl
        case hb => exact (by (simp <;> fail))
        case hx => conv => lhs; whnf
        case hd => exact rfl
        refine .done (by exact fun _ => rfl) ?_
        refine awp_cond_f rfl (by (simp <;> fail)) ?_
        refine awp_skip ?_
        refine awp_seq ?_
        refine awp_region (by kernel_rfl) ?_
        apply w_load_boxagg
        case hg => exact (by exact True.intro)
        case hx => exact rfl
        case hL => exact rfl
        case hsz => conv => lhs; whnf
        case ht => exact rfl
        case hy => conv => lhs; whnf
        case hlen => exact rfl
        case hd => exact rfl
        apply w_call (hcon := hsy)
        case hxs => exact rfl
        case hys => conv => lhs; whnf
        case hle => (refine ⟨(by exact AVal.le_refl _), ?_⟩; exact trivial)
        case hf => exact rfl
        case hLi => (repeat (first | exact trivial | refine ⟨rfl, ?_⟩ | fail)) <;> fail
        case hin => exact rfl
        case hbox => exact rfl
        case hres => exact rfl
        case hnew => (repeat (first | exact trivial | refine ⟨rfl, ?_⟩ | fail)) <;> fail
        case hdead => (repeat (first | exact trivial | refine ⟨rfl, ?_⟩ | fail)) <;> fail
        case hd => exact rfl
        case hg => exact (by exact True.intro)
        apply w_move
        case hg => exact (by exact True.intro)
        case hx => conv => lhs; whnf
        case hd => exact rfl
        apply w_extract
        case hg => exact (by exact True.intro)
        case hx => exact rfl
        case hy => conv => lhs; whnf
        case hd => exact rfl
        apply w_extract
        case hg => exact (by exact True.intro)
        case hx => exact rfl
        case hy => conv => lhs; whnf
        case hd => exact rfl
        apply w_alloc (γ := 102)
        case hg => exact (by exact True.intro)
        case hz => exact rfl
        case h1 => exact rfl
        case hdead => exact rfl
        case hf => exact rfl
        case hd => exact rfl
        apply w_store
        case hg => exact (by exact True.intro)
        case hx => exact rfl
        case hL => exact rfl
        case hv => conv => lhs; whnf
        case hc => exact rfl
        case ht => exact rfl
        case hb => exact rfl
        apply w_assign
        case hg => exact (by exact True.intro)
        case hx => conv => lhs; whnf
        case hd => exact rfl
        refine .done (by exact fun h => Bool.noConfusion h) ?_
        refine awp_seq ?_
        refine awp_region (by kernel_rfl) ?_
        apply w_assign
        case hg => exact (by exact True.intro)
        case hx => conv => lhs; whnf
        case hd => exact rfl
        refine .done (by exact fun h => Bool.noConfusion h) ?_
        refine awp_seq ?_
        refine awp_seq ?_
        refine awp_region (by kernel_rfl) ?_
        apply w_assign
        case hg => exact (by exact True.intro)
        case hx => conv => lhs; whnf
        case hd => exact rfl
        refine .done (by exact fun h => Bool.noConfusion h) ?_
        refine awp_block ?_
        refine awp_le (le_adopt 23 132 1 rfl rfl rfl) ?_
        refine awp_loopI (fun i : Nat => i ≤ d.pending.length + 1) (fun i => ⟨177, [(15, .ptr 101 0), (21, .ptr 102 0), (22, ai 0), (23, .own 132 i), (24, ai i)], [(101, .box [.d (dSecs (wroteD d k x).sectors), .d (dPend (wroteD d k x).pending), ab true]), (102, .box [.d (dSecs (syncD (wroteD d k x)).sectors), .d (dPend []), ab true]), (132, .row 1 ((List.replicate i 64).map cInt))]⟩) (fun i => d.pending.length + 1 - i) 0 (by omega)
          (le_mk rfl ⟨(by (first | ((exact AVal.le_refl _)) | ((exact AVal.le_nil _)) | ((refine AVal.le_agg ?_; ((repeat (first | exact trivial | refine ⟨(by (first | ((exact AVal.le_refl _)) | ((exact AVal.le_nil _)) | ((refine AVal.le_of_eq ?_; (conv => lhs; whnf); (first | ((rfl)) | ((simp <;> fail)) | fail))) | fail)), ?_⟩ | fail)) <;> fail))) | ((refine AVal.le_of_eq ?_; (conv => lhs; whnf); (first | ((rfl)) | ((simp <;> fail)) | fail))) | fail)), (by (first | ((exact AVal.le_refl _)) | ((exact AVal.le_nil _)) | ((refine AVal.le_agg ?_; ((repeat (first | exact trivial | refine ⟨(by (first | ((exact AVal.le_refl _)) | ((exact AVal.le_nil _)) | ((refine AVal.le_of_eq ?_; (conv => lhs; whnf); (first | ((rfl)) | ((simp <;> fail)) | fail))) | fail)), ?_⟩ | fail)) <;> fail))) | ((refine AVal.le_of_eq ?_; (conv => lhs; whnf); (first | ((rfl)) | ((simp <;> fail)) | fail))) | fail)), (by (first | ((exact AVal.le_refl _)) | ((exact AVal.le_nil _)) | ((refine AVal.le_agg ?_; ((repeat (first | exact trivial | refine ⟨(by (first | ((exact AVal.le_refl _)) | ((exact AVal.le_nil _)) | ((refine AVal.le_of_eq ?_; (conv => lhs; whnf); (first | ((rfl)) | ((simp <;> fail)) | fail))) | fail)), ?_⟩ | fail)) <;> fail))) | ((refine AVal.le_of_eq ?_; (conv => lhs; whnf); (first | ((rfl)) | ((simp <;> fail)) | fail))) | fail)), (by (first | ((exact AVal.le_refl _)) | ((exact AVal.le_nil _)) | ((refine AVal.le_agg ?_; ((repeat (first | exact trivial | refine ⟨(by (first | ((exact AVal.le_refl _)) | ((exact AVal.le_nil _)) | ((refine AVal.le_of_eq ?_; (conv => lhs; whnf); (first | ((rfl)) | ((simp <;> fail)) | fail))) | fail)), ?_⟩ | fail)) <;> fail))) | ((refine AVal.le_of_eq ?_; (conv => lhs; whnf); (first | ((rfl)) | ((simp <;> fail)) | fail))) | fail)), (by (first | ((exact AVal.le_refl _)) | ((exact AVal.le_nil _)) | ((refine AVal.le_agg ?_; ((repeat (first | exact trivial | refine ⟨(by (first | ((exact AVal.le_refl _)) | ((exact AVal.le_nil _)) | ((refine AVal.le_of_eq ?_; (conv => lhs; whnf); (first | ((rfl)) | ((simp <;> fail)) | fail))) | fail)), ?_⟩ | fail)) <;> fail))) | ((refine AVal.le_of_eq ?_; (conv => lhs; whnf); (first | ((rfl)) | ((simp <;> fail)) | fail))) | fail)), trivial⟩ ⟨rfl, rfl, rfl, trivial⟩) ?_
        intro i hi
        by_cases hlt : i < d.pending.length + 1
        · refine awp_seq ?_
          refine awp_seq ?_
          refine awp_region (by kernel_rfl) ?_
          apply w_move
          case hg => exact (by exact True.intro)
          case hx => conv => lhs; whnf
          case hd => exact rfl
          apply w_field_box
          case hg => exact (by exact True.intro)
          case hx => exact rfl
          case hoff => conv => lhs; whnf
          case hf => exact rfl
          case hd => exact rfl
          apply w_load_box
          case hg => exact (by exact True.intro)
          case hx => exact rfl
          case hL => exact rfl
          case hy => conv => lhs; whnf
          case ht => exact rfl
          case hd => exact rfl
          apply w_len_data
          case hg => exact (by exact True.intro)
          case hx => exact rfl
          case hT => exact rfl
          case hd => exact rfl
          apply w_bin
          case hg => exact (by exact True.intro)
          case hx => exact rfl
          case hy => exact rfl
          case hr => exact rb_lss
          case h1 => exact rfl
          case hd => exact rfl
          refine .done (by exact fun h => Bool.noConfusion h) ?_
          refine awp_cond_t rfl (by (simp; omega)) ?_
          refine awp_skip ?_
          refine awp_seq ?_
          refine awp_block ?_
          refine awp_region (by kernel_rfl) ?_
          apply w_move
          case hg => exact (by exact True.intro)
          case hx => conv => lhs; whnf
          case hd => exact rfl
          apply w_lit
          case hg => exact (by exact True.intro)
          case hpl => exact rfl
          case hps => conv => lhs; whnf
          case hz => exact rfl
          case hS => conv => lhs; whnf
          case hT => exact rfl
          case hzl => exact rfl
          case hz1 => exact rfl
          case hsmall => exact rfl
          case hsl => exact rfl
          case hout => conv => lhs; whnf
          case hxs => conv => lhs; whnf
          case hd => exact rfl
          apply w_append
          case hg => exact (by exact True.intro)
          case hx => exact rfl
          case hL => exact rfl
          case hy => exact rfl
          case hn => (simp <;> fail)
          case hB => conv => lhs; whnf
          case hT => exact rfl
          case hT2 => exact rfl
          case hb0 => exact rfl
          case hroom => (simp only [List.length_map, List.length_take, List.length_append, List.length_cons, List.length_nil, List.length_replicate, List.length_set]; omega)
          case hd => exact rfl
          apply w_assign
          case hg => exact (by exact True.intro)
          case hx => conv => lhs; whnf
          case hd => exact rfl
          refine .done (by exact fun h => Bool.noConfusion h) ?_
          refine awp_region (by kernel_rfl) ?_
          apply w_move
          case hg => exact (by exact True.intro)
          case hx => conv => lhs; whnf
          case hd => exact rfl
          apply w_bin
          case hg => exact (by exact True.intro)
          case hx => exact rfl
          case hy => exact rfl
          case hr => (exact rb_add64 (by unfold in64; omega))
          case h1 => exact rfl
          case hd => exact rfl
          apply w_assign
          case hg => exact (by exact True.intro)
          case hx => conv => lhs; whnf
          case hd => exact rfl
          refine .done (by exact fun h => Bool.noConfusion h) ?_
          refine ⟨i + 1, by omega, by omega, le_mk rfl ⟨(by (first | ((exact AVal.le_refl _)) | ((exact AVal.le_nil _)) | ((refine AVal.le_agg ?_; ((repeat (first | exact trivial | refine ⟨(by (first | ((exact AVal.le_refl _)) | ((exact AVal.le_nil _)) | ((refine AVal.le_of_eq ?_; (conv => lhs; whnf); (first | ((rfl)) | ((simp <;> fail)) | fail))) | fail)), ?_⟩ | fail)) <;> fail))) | ((refine AVal.le_of_eq ?_; (conv => lhs; whnf); (first | ((rfl)) | ((simp <;> fail)) | fail))) | fail)), (by (first | ((exact AVal.le_refl _)) | ((exact AVal.le_nil _)) | ((refine AVal.le_agg ?_; ((repeat (first | exact trivial | refine ⟨(by (first | ((exact AVal.le_refl _)) | ((exact AVal.le_nil _)) | ((refine AVal.le_of_eq ?_; (conv => lhs; whnf); (first | ((rfl)) | ((simp <;> fail)) | fail))) | fail)), ?_⟩ | fail)) <;> fail))) | ((refine AVal.le_of_eq ?_; (conv => lhs; whnf); (first | ((rfl)) | ((simp <;> fail)) | fail))) | fail)), (by (first | ((exact AVal.le_refl _)) | ((exact AVal.le_nil _)) | ((refine AVal.le_agg ?_; ((repeat (first | exact trivial | refine ⟨(by (first | ((exact AVal.le_refl _)) | ((exact AVal.le_nil _)) | ((refine AVal.le_of_eq ?_; (conv => lhs; whnf); (first | ((rfl)) | ((simp <;> fail)) | fail))) | fail)), ?_⟩ | fail)) <;> fail))) | ((refine AVal.le_of_eq ?_; (conv => lhs; whnf); (first | ((rfl)) | ((simp <;> fail)) | fail))) | fail)), (by (first | ((exact AVal.le_refl _)) | ((exact AVal.le_nil _)) | ((refine AVal.le_agg ?_; ((repeat (first | exact trivial | refine ⟨(by (first | ((exact AVal.le_refl _)) | ((exact AVal.le_nil _)) | ((refine AVal.le_of_eq ?_; (conv => lhs; whnf); (first | ((rfl)) | ((simp <;> fail)) | fail))) | fail)), ?_⟩ | fail)) <;> fail))) | ((refine AVal.le_of_eq ?_; (conv => lhs; whnf); (first | ((rfl)) | ((simp <;> fail)) | fail))) | fail)), (by (first | ((exact AVal.le_refl _)) | ((exact AVal.le_nil _)) | ((refine AVal.le_agg ?_; ((repeat (first | exact trivial | refine ⟨(by (first | ((exact AVal.le_refl _)) | ((exact AVal.le_nil _)) | ((refine AVal.le_of_eq ?_; (conv => lhs; whnf); (first | ((rfl)) | ((simp <;> fail)) | fail))) | fail)), ?_⟩ | fail)) <;> fail))) | ((refine AVal.le_of_eq ?_; (conv => lhs; whnf); (first | ((rfl)) | ((simp <;> fail)) | fail))) | fail)), trivial⟩ ⟨rfl, rfl, ?_, trivial⟩⟩
          refine Eq.trans (b := AObj.row 1 (_ ++ [cInt 64])) rfl ?_
          rw [List.replicate_succ', List.map_append]; rfl
        obtain rfl : i = d.pending.length + 1 := by omega
        refine awp_le (le_freeze 132 rfl) ?_
        refine awp_le (le_data 23 132 rfl rfl (by simp)) ?_
        refine awp_seq ?_
        refine awp_seq ?_
        refine awp_region (by kernel_rfl) ?_
        apply w_move
        case hg => exact (by exact True.intro)
        case hx => conv => lhs; whnf
        case hd => exact rfl
        apply w_field_box
        case hg => exact (by exact True.intro)
        case hx => exact rfl
        case hoff => conv => lhs; whnf
        case hf => exact rfl
        case hd => exact rfl
        apply w_load_box
        case hg => exact (by exact True.intro)
        case hx => exact rfl
        case hL => exact rfl
        case hy => conv => lhs; whnf
        case ht => exact rfl
        case hd => exact rfl
        apply w_len_data
        case hg => exact (by exact True.intro)
        case hx => exact rfl
        case hT => exact rfl
        case hd => exact rfl
        apply w_bin
        case hg => exact (by exact True.intro)
        case hx => exact rfl
        case hy => exact rfl
        case hr => exact rb_lss
        case h1 => exact rfl
        case hd => exact rfl
        refine .done (by exact fun h => Bool.noConfusion h) ?_
        refine awp_cond_f rfl (by (simp <;> fail)) ?_
        refine awp_exit ?_
        refine awp_seq ?_
        refine awp_region (by kernel_rfl) ?_
        apply w_load_boxagg
        case hg => exact (by exact True.intro)
        case hx => exact rfl
        case hL => exact rfl
        case hsz => conv => lhs; whnf
        case ht => exact rfl
        case hy => conv => lhs; whnf
        case hlen => exact rfl
        case hd => exact rfl
        apply w_call (hcon := hc3)
        case hxs => exact rfl
        case hys => conv => lhs; whnf
        case hle => (refine ⟨(by exact AVal.le_refl _), ?_⟩; refine ⟨(by exact AVal.le_nil _), ?_⟩; exact trivial)
        case hf => exact rfl
        case hLi => (repeat (first | exact trivial | refine ⟨rfl, ?_⟩ | fail)) <;> fail
        case hin => exact rfl
        case hbox => exact rfl
        case hres => exact rfl
        case hnew => (repeat (first | exact trivial | refine ⟨rfl, ?_⟩ | fail)) <;> fail
        case hdead => (repeat (first | exact trivial | refine ⟨rfl, ?_⟩ | fail)) <;> fail
        case hd => exact rfl
        case hg => exact (by exact True.intro)
        apply w_call (hcon := hp3)
        case hxs => exact rfl
        case hys => conv => lhs; whnf
        case hle => (refine ⟨(by exact AVal.le_refl _), ?_⟩; exact trivial)
        case hf => exact rfl
        case hLi => (repeat (first | exact trivial | refine ⟨rfl, ?_⟩ | fail)) <;> fail
        case hin => exact rfl
        case hbox => exact rfl
        case hres => exact rfl
        case hnew => (repeat (first | exact trivial | refine ⟨rfl, ?_⟩ | fail)) <;> fail
        case hdead => (repeat (first | exact trivial | refine ⟨rfl, ?_⟩ | fail)) <;> fail
        case hd => exact rfl
        case hg => exact (by exact True.intro)
        apply w_alloc (γ := 100)
        case hg => exact (by exact True.intro)
        case hz => exact rfl
        case h1 => exact rfl
        case hdead => exact rfl
        case hf => exact rfl
        case hd => exact rfl
        apply w_store
        case hg => exact (by exact True.intro)
        case hx => exact rfl
        case hL => exact rfl
        case hv => conv => lhs; whnf
        case hc => exact rfl
        case ht => exact rfl
        case hb => exact rfl
        refine .done (by exact fun h => Bool.noConfusion h) ?_
        refine awp_seq ?_
        refine awp_region (by kernel_rfl) ?_
        apply w_field_box
        case hg => exact (by exact True.intro)
        case hx => exact rfl
        case hoff => conv => lhs; whnf
        case hf => exact rfl
        case hd => exact rfl
        apply w_load_box
        case hg => exact (by exact True.intro)
        case hx => exact rfl
        case hL => exact rfl
        case hy => conv => lhs; whnf
        case ht => exact rfl
        case hd => exact rfl
        apply w_field_box
        case hg => exact (by exact True.intro)
        case hx => exact rfl
        case hoff => conv => lhs; whnf
        case hf => exact rfl
        case hd => exact rfl
        apply w_store
        case hg => exact (by exact True.intro)
        case hx => exact rfl
        case hL => exact rfl
        case hv => conv => lhs; whnf
        case hc => exact rfl
        case ht => exact rfl
        case hb => exact rfl
        refine .done (by exact fun h => Bool.noConfusion h) ?_
        refine awp_seq ?_
        refine awp_region (by kernel_rfl) ?_
        apply w_move
        case hg => exact (by exact True.intro)
        case hx => conv => lhs; whnf
        case hd => exact rfl
        apply w_bin
        case hg => exact (by exact True.intro)
        case hx => exact rfl
        case hy => exact rfl
        case hr => exact rb_eql
        case h1 => exact rfl
        case hd => exact rfl
        apply w_move
        case hg => exact (by exact True.intro)
        case hx => conv => lhs; whnf
        case hd => exact rfl
        apply w_load_boxagg
        case hg => exact (by exact ⟨rfl, rfl⟩)
        case hx => exact rfl
        case hL => exact rfl
        case hsz => conv => lhs; whnf
        case ht => exact rfl
        case hy => conv => lhs; whnf
        case hlen => exact rfl
        case hd => exact rfl
        apply w_move
        case hg => exact (by exact ⟨rfl, rfl⟩)
        case hx => conv => lhs; whnf
        case hd => exact rfl
        apply w_call (hcon := hc1)
        case hxs => exact rfl
        case hys => conv => lhs; whnf
        case hle => (refine ⟨(by exact AVal.le_refl _), ?_⟩; refine ⟨(by exact AVal.le_refl _), ?_⟩; exact trivial)
        case hf => exact rfl
        case hLi => (repeat (first | exact trivial | refine ⟨rfl, ?_⟩ | fail)) <;> fail
        case hin => exact rfl
        case hbox => exact rfl
        case hres => exact rfl
        case hnew => (repeat (first | exact trivial | refine ⟨rfl, ?_⟩ | fail)) <;> fail
        case hdead => (repeat (first | exact trivial | refine ⟨rfl, ?_⟩ | fail)) <;> fail
        case hd => exact rfl
        case hg => exact (by exact ⟨rfl, rfl⟩)
        apply w_call (hcon := hp1)
        case hxs => exact rfl
        case hys => conv => lhs; whnf
        case hle => (refine ⟨(by exact AVal.le_refl _), ?_⟩; exact trivial)
        case hf => exact rfl
        case hLi => (repeat (first | exact trivial | refine ⟨rfl, ?_⟩ | fail)) <;> fail
        case hin => exact rfl
        case hbox => exact rfl
        case hres => exact rfl
        case hnew => (repeat (first | exact trivial | refine ⟨rfl, ?_⟩ | fail)) <;> fail
        case hdead => (repeat (first | exact trivial | refine ⟨rfl, ?_⟩ | fail)) <;> fail
        case hd => exact rfl
        case hg => exact (by exact ⟨rfl, rfl⟩)
        apply w_load_boxagg
        case hg => exact (by exact ⟨rfl, rfl⟩)
        case hx => exact rfl
        case hL => exact rfl
        case hsz => conv => lhs; whnf
        case ht => exact rfl
        case hy => conv => lhs; whnf
        case hlen => exact rfl
        case hd => exact rfl
        apply w_call (hcon := same_con (syncD (wroteD d k x)))
        case hxs => exact rfl
        case hys => conv => lhs; whnf
        case hle => (refine ⟨(by exact AVal.le_refl _), ?_⟩; refine ⟨(by exact AVal.le_refl _), ?_⟩; exact trivial)
        case hf => exact rfl
        case hLi => (repeat (first | exact trivial | refine ⟨rfl, ?_⟩ | fail)) <;> fail
        case hin => exact rfl
        case hbox => exact rfl
        case hres => exact rfl
        case hnew => (repeat (first | exact trivial | refine ⟨rfl, ?_⟩ | fail)) <;> fail
        case hdead => (repeat (first | exact trivial | refine ⟨rfl, ?_⟩ | fail)) <;> fail
        case hd => exact rfl
        case hg => exact (by exact ⟨rfl, rfl⟩)
        apply w_pick_t
        case hg => exact (by exact True.intro)
        case hc => exact rfl
        case hb => exact (by rfl)
        case hx => conv => lhs; whnf
        case hd => exact rfl
        apply w_move
        case hg => exact (by exact True.intro)
        case hx => conv => lhs; whnf
        case hd => exact rfl
        apply w_load_boxagg
        case hg => exact (by exact ⟨rfl, rfl⟩)
        case hx => exact rfl
        case hL => exact rfl
        case hsz => conv => lhs; whnf
        case ht => exact rfl
        case hy => conv => lhs; whnf
        case hlen => exact rfl
        case hd => exact rfl
        apply w_call (hcon := hc2)
        case hxs => exact rfl
        case hys => conv => lhs; whnf
        case hle => (refine ⟨(by exact AVal.le_refl _), ?_⟩; refine ⟨(by exact AVal.le_nil _), ?_⟩; exact trivial)
        case hf => exact rfl
        case hLi => (repeat (first | exact trivial | refine ⟨rfl, ?_⟩ | fail)) <;> fail
        case hin => exact rfl
        case hbox => exact rfl
        case hres => exact rfl
        case hnew => (repeat (first | exact trivial | refine ⟨rfl, ?_⟩ | fail)) <;> fail
        case hdead => (repeat (first | exact trivial | refine ⟨rfl, ?_⟩ | fail)) <;> fail
        case hd => exact rfl
        case hg => exact (by exact ⟨rfl, rfl⟩)
        apply w_call (hcon := hp1)
        case hxs => exact rfl
        case hys => conv => lhs; whnf
        case hle => (refine ⟨(by exact AVal.le_refl _), ?_⟩; exact trivial)
        case hf => exact rfl
        case hLi => (repeat (first | exact trivial | refine ⟨rfl, ?_⟩ | fail)) <;> fail
        case hin => exact rfl
        case hbox => exact rfl
        case hres => exact rfl
        case hnew => (repeat (first | exact trivial | refine ⟨rfl, ?_⟩ | fail)) <;> fail
        case hdead => (repeat (first | exact trivial | refine ⟨rfl, ?_⟩ | fail)) <;> fail
        case hd => exact rfl
        case hg => exact (by exact ⟨rfl, rfl⟩)
        apply w_load_boxagg
        case hg => exact (by exact ⟨rfl, rfl⟩)
        case hx => exact rfl
        case hL => exact rfl
        case hsz => conv => lhs; whnf
        case ht => exact rfl
        case hy => conv => lhs; whnf
        case hlen => exact rfl
        case hd => exact rfl
        apply w_call (hcon := same_con (syncD (wroteD d k x)))
        case hxs => exact rfl
        case hys => conv => lhs; whnf
        case hle => (refine ⟨(by exact AVal.le_refl _), ?_⟩; refine ⟨(by exact AVal.le_refl _), ?_⟩; exact trivial)
        case hf => exact rfl
        case hLi => (repeat (first | exact trivial | refine ⟨rfl, ?_⟩ | fail)) <;> fail
        case hin => exact rfl
        case hbox => exact rfl
        case hres => exact rfl
        case hnew => (repeat (first | exact trivial | refine ⟨rfl, ?_⟩ | fail)) <;> fail
        case hdead => (repeat (first | exact trivial | refine ⟨rfl, ?_⟩ | fail)) <;> fail
        case hd => exact rfl
        case hg => exact (by exact ⟨rfl, rfl⟩)
        apply w_pick_t
        case hg => exact (by exact True.intro)
        case hc => exact rfl
        case hb => exact (by rfl)
        case hx => conv => lhs; whnf
        case hd => exact rfl
        apply w_move
        case hg => exact (by exact True.intro)
        case hx => conv => lhs; whnf
        case hd => exact rfl
        apply w_load_boxagg
        case hg => exact (by exact ⟨rfl, rfl⟩)
        case hx => exact rfl
        case hL => exact rfl
        case hsz => conv => lhs; whnf
        case ht => exact rfl
        case hy => conv => lhs; whnf
        case hlen => exact rfl
        case hd => exact rfl
        apply w_load_boxagg
        case hg => exact (by exact ⟨rfl, rfl⟩)
        case hx => exact rfl
        case hL => exact rfl
        case hsz => conv => lhs; whnf
        case ht => exact rfl
        case hy => conv => lhs; whnf
        case hlen => exact rfl
        case hd => exact rfl
        apply w_call (hcon := same_con (wroteD d k x))
        case hxs => exact rfl
        case hys => conv => lhs; whnf
        case hle => (refine ⟨(by exact AVal.le_refl _), ?_⟩; refine ⟨(by exact AVal.le_refl _), ?_⟩; exact trivial)
        case hf => exact rfl
        case hLi => (repeat (first | exact trivial | refine ⟨rfl, ?_⟩ | fail)) <;> fail
        case hin => exact rfl
        case hbox => exact rfl
        case hres => exact rfl
        case hnew => (repeat (first | exact trivial | refine ⟨rfl, ?_⟩ | fail)) <;> fail
        case hdead => (repeat (first | exact trivial | refine ⟨rfl, ?_⟩ | fail)) <;> fail
        case hd => exact rfl
        case hg => exact (by exact ⟨rfl, rfl⟩)
        apply w_pick_t
        case hg => exact (by exact True.intro)
        case hc => exact rfl
        case hb => exact (by rfl)
        case hx => conv => lhs; whnf
        case hd => exact rfl
        apply w_move
        case hg => exact (by exact True.intro)
        case hx => conv => lhs; whnf
        case hd => exact rfl
        apply w_call (hcon := alive_con)
        case hxs => exact rfl
        case hys => conv => lhs; whnf
        case hle => (exact trivial)
        case hf => exact rfl
        case hLi => (repeat (first | exact trivial | refine ⟨rfl, ?_⟩ | fail)) <;> fail
        case hin => exact rfl
        case hbox => exact rfl
        case hres => exact rfl
        case hnew => (repeat (first | exact trivial | refine ⟨rfl, ?_⟩ | fail)) <;> fail
        case hdead => (repeat (first | exact trivial | refine ⟨rfl, ?_⟩ | fail)) <;> fail
        case hd => exact rfl
        case hg => exact (by exact ⟨rfl, rfl⟩)
        apply w_pick_t
        case hg => exact (by exact True.intro)
        case hc => exact rfl
        case hb => exact (by rfl)
        case hx => conv => lhs; whnf
        case hd => exact rfl
        apply w_assign
        case hg => exact (by exact True.intro)
        case hx => conv => lhs; whnf
        case hd => exact rfl
        refine .done (by exact fun _ => rfl) ?_
        exact awp_ret ⟨_, St.le_refl _, ⟨rfl, trivial⟩, subL_nil _⟩
end Go.Fw

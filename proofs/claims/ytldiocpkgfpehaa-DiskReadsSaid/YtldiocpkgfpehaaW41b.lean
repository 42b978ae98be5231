/- The law about Valid, Read and Sync. -/
import Derived.Test.YtldiocpkgfpehaaW41a
namespace Go.Fw
open Go Go.Proofs
set_option linter.unusedVariables false
set_option linter.unusedSimpArgs false
set_option maxHeartbeats 8000000 in
theorem diskReads_con (d : Disk) (a : Int) : Con Try.prog 6 [] [aDisk d, ai a] [] (ab true) := by
  refine con_of (xs := [ab true]) Try.func6 rfl Try.ntmps6 rfl rfl rfl (fun E => ?_)
  cases hf : fewS d with
  | false =>
    refine awp_seq ?_
    refine awp_region (by kernel_rfl) ?_
    apply w_box (γ := 100)
    case hg => exact (by exact True.intro)
    case hx => conv => lhs; whnf
    case hc => exact rfl
    case hdead => exact rfl
    case hf => exact rfl
    case hm => exact rfl
    case hd => exact rfl
    apply w_assign
    case hg => exact (by exact True.intro)
    case hx => conv => lhs; whnf
    case hd => exact rfl
    refine .done (by exact fun h => Bool.noConfusion h) ?_
    refine awp_seq ?_
    refine awp_seq ?_
    refine awp_region (by kernel_rfl) ?_
    apply w_load_boxagg
    case hg => exact (by exact True.intro)
    case hx => exact rfl
    case hL => exact rfl
    case hsz => conv => lhs; whnf
    case ht => exact rfl
    case hy => conv => lhs; whnf
    case hlen => exact rfl
    case hd => exact rfl
    apply w_call (hcon := few_con d)
    case hxs => exact rfl
    case hys => conv => lhs; whnf
    case hle => (refine ⟨(by exact AVal.le_refl _), ?_⟩; exact trivial)
    case hf => exact rfl
    case hLi => (repeat (first | exact trivial | refine ⟨rfl, ?_⟩ | fail)) <;> fail
    case hin => exact rfl
    case hbox => exact rfl
    case hres => exact rfl
    case hnew => (repeat (first | exact trivial | refine ⟨rfl, ?_⟩ | fail)) <;> fail
    case hdead => (repeat (first | exact trivial | refine ⟨rfl, ?_⟩ | fail)) <;> fail
    case hd => exact rfl
    case hg => exact (by exact True.intro)
    apply w_un
    case hg => exact (by exact True.intro)
    case hx => exact rfl
    case hr => exact ru_not
    case h1 => exact rfl
    case hd => exact rfl
    refine .done (by exact fun h => Bool.noConfusion h) ?_
    refine awp_cond_t rfl (by (simp [*] <;> fail)) ?_
    refine awp_seq ?_
    refine awp_region (by kernel_rfl) ?_
    apply w_call (hcon := alive_con)
    case hxs => exact rfl
    case hys => conv => lhs; whnf
    case hle => (exact trivial)
    case hf => exact rfl
    case hLi => (repeat (first | exact trivial | refine ⟨rfl, ?_⟩ | fail)) <;> fail
    case hin => exact rfl
    case hbox => exact rfl
    case hres => exact rfl
    case hnew => (repeat (first | exact trivial | refine ⟨rfl, ?_⟩ | fail)) <;> fail
    case hdead => (repeat (first | exact trivial | refine ⟨rfl, ?_⟩ | fail)) <;> fail
    case hd => exact rfl
    case hg => exact (by exact True.intro)
    apply w_assign
    case hg => exact (by exact True.intro)
    case hx => conv => lhs; whnf
    case hd => exact rfl
    refine .done (by exact fun h => Bool.noConfusion h) ?_
    exact awp_ret ⟨_, St.le_refl _, ⟨rfl, trivial⟩, subL_nil _⟩
  | true =>
    have hl := fewL_of hf
    refine awp_seq ?_
    refine awp_region (by kernel_rfl) ?_
    apply w_box (γ := 100)
    case hg => exact (by exact True.intro)
    case hx => conv => lhs; whnf
    case hc => exact rfl
    case hdead => exact rfl
    case hf => exact rfl
    case hm => exact rfl
    case hd => exact rfl
    apply w_assign
    case hg => exact (by exact True.intro)
    case hx => conv => lhs; whnf
    case hd => exact rfl
    refine .done (by exact fun h => Bool.noConfusion h) ?_
    refine awp_seq ?_
    refine awp_seq ?_
    refine awp_region (by kernel_rfl) ?_
    apply w_load_boxagg
    case hg => exact (by exact True.intro)
    case hx => exact rfl
    case hL => exact rfl
    case hsz => conv => lhs; whnf
    case ht => exact rfl
    case hy => conv => lhs; whnf
    case hlen => exact rfl
    case hd => exact rfl
    apply w_call (hcon := few_con d)
    case hxs => exact rfl
    case hys => conv => lhs; whnf
    case hle => (refine ⟨(by exact AVal.le_refl _), ?_⟩; exact trivial)
    case hf => exact rfl
    case hLi => (repeat (first | exact trivial | refine ⟨rfl, ?_⟩ | fail)) <;> fail
    case hin => exact rfl
    case hbox => exact rfl
    case hres => exact rfl
    case hnew => (repeat (first | exact trivial | refine ⟨rfl, ?_⟩ | fail)) <;> fail
    case hdead => (repeat (first | exact trivial | refine ⟨rfl, ?_⟩ | fail)) <;> fail
    case hd => exact rfl
    case hg => exact (by exact True.intro)
    apply w_un
    case hg => exact (by exact True.intro)
    case hx => exact rfl
    case hr => exact ru_not
    case h1 => exact rfl
    case hd => exact rfl
    refine .done (by exact fun h => Bool.noConfusion h) ?_
    refine awp_cond_f rfl (by (simp [*] <;> fail)) ?_
    refine awp_skip ?_
    refine awp_seq ?_
    refine awp_region (by kernel_rfl) ?_
    apply w_load_boxagg
    case hg => exact (by exact True.intro)
    case hx => exact rfl
    case hL => exact rfl
    case hsz => conv => lhs; whnf
    case ht => exact rfl
    case hy => conv => lhs; whnf
    case hlen => exact rfl
    case hd => exact rfl
    apply w_move
    case hg => exact (by exact True.intro)
    case hx => conv => lhs; whnf
    case hd => exact rfl
    apply w_call (hcon := read_con d a hl)
    case hxs => exact rfl
    case hys => conv => lhs; whnf
    case hle => (refine ⟨(by exact AVal.le_refl _), ?_⟩; refine ⟨(by exact AVal.le_refl _), ?_⟩; exact trivial)
    case hf => exact rfl
    case hLi => (repeat (first | exact trivial | refine ⟨rfl, ?_⟩ | fail)) <;> fail
    case hin => exact rfl
    case hbox => exact rfl
    case hres => exact rfl
    case hnew => (repeat (first | exact trivial | refine ⟨rfl, ?_⟩ | fail)) <;> fail
    case hdead => (repeat (first | exact trivial | refine ⟨rfl, ?_⟩ | fail)) <;> fail
    case hd => exact rfl
    case hg => exact (by exact True.intro)
    apply w_move
    case hg => exact (by exact True.intro)
    case hx => conv => lhs; whnf
    case hd => exact rfl
    apply w_extract
    case hg => exact (by exact True.intro)
    case hx => exact rfl
    case hy => conv => lhs; whnf
    case hd => exact rfl
    apply w_extract
    case hg => exact (by exact True.intro)
    case hx => exact rfl
    case hy => conv => lhs; whnf
    case hd => exact rfl
    apply w_assign
    case hg => exact (by exact True.intro)
    case hx => conv => lhs; whnf
    case hd => exact rfl
    apply w_assign
    case hg => exact (by exact True.intro)
    case hx => conv => lhs; whnf
    case hd => exact rfl
    refine .done (by exact fun h => Bool.noConfusion h) ?_
    refine awp_seq ?_
    refine awp_region (by kernel_rfl) ?_
    apply w_load_boxagg
    case hg => exact (by exact True.intro)
    case hx => exact rfl
    case hL => exact rfl
    case hsz => conv => lhs; whnf
    case ht => exact rfl
    case hy => conv => lhs; whnf
    case hlen => exact rfl
    case hd => exact rfl
    apply w_move
    case hg => exact (by exact True.intro)
    case hx => conv => lhs; whnf
    case hd => exact rfl
    apply w_call (hcon := rread_con d a hl)
    case hxs => exact rfl
    case hys => conv => lhs; whnf
    case hle => (refine ⟨(by exact AVal.le_refl _), ?_⟩; refine ⟨(by exact AVal.le_refl _), ?_⟩; exact trivial)
    case hf => exact rfl
    case hLi => (repeat (first | exact trivial | refine ⟨rfl, ?_⟩ | fail)) <;> fail
    case hin => exact rfl
    case hbox => exact rfl
    case hres => exact rfl
    case hnew => (repeat (first | exact trivial | refine ⟨rfl, ?_⟩ | fail)) <;> fail
    case hdead => (repeat (first | exact trivial | refine ⟨rfl, ?_⟩ | fail)) <;> fail
    case hd => exact rfl
    case hg => exact (by exact True.intro)
    apply w_move
    case hg => exact (by exact True.intro)
    case hx => conv => lhs; whnf
    case hd => exact rfl
    apply w_extract
    case hg => exact (by exact True.intro)
    case hx => exact rfl
    case hy => conv => lhs; whnf
    case hd => exact rfl
    apply w_extract
    case hg => exact (by exact True.intro)
    case hx => exact rfl
    case hy => conv => lhs; whnf
    case hd => exact rfl
    apply w_assign
    case hg => exact (by exact True.intro)
    case hx => conv => lhs; whnf
    case hd => exact rfl
    apply w_assign
    case hg => exact (by exact True.intro)
    case hx => conv => lhs; whnf
    case hd => exact rfl
    refine .done (by exact fun h => Bool.noConfusion h) ?_
    refine awp_seq ?_
    refine awp_region (by kernel_rfl) ?_
    apply w_load_boxagg
    case hg => exact (by exact True.intro)
    case hx => exact rfl
    case hL => exact rfl
    case hsz => conv => lhs; whnf
    case ht => exact rfl
    case hy => conv => lhs; whnf
    case hlen => exact rfl
    case hd => exact rfl
    apply w_call (hcon := sync_con d hl)
    case hxs => exact rfl
    case hys => conv => lhs; whnf
    case hle => (refine ⟨(by exact AVal.le_refl _), ?_⟩; exact trivial)
    case hf => exact rfl
    case hLi => (repeat (first | exact trivial | refine ⟨rfl, ?_⟩ | fail)) <;> fail
    case hin => exact rfl
    case hbox => exact rfl
    case hres => exact rfl
    case hnew => (repeat (first | exact trivial | refine ⟨rfl, ?_⟩ | fail)) <;> fail
    case hdead => (repeat (first | exact trivial | refine ⟨rfl, ?_⟩ | fail)) <;> fail
    case hd => exact rfl
    case hg => exact (by exact True.intro)
    apply w_move
    case hg => exact (by exact True.intro)
    case hx => conv => lhs; whnf
    case hd => exact rfl
    apply w_extract
    case hg => exact (by exact True.intro)
    case hx => exact rfl
    case hy => conv => lhs; whnf
    case hd => exact rfl
    apply w_extract
    case hg => exact (by exact True.intro)
    case hx => exact rfl
    case hy => conv => lhs; whnf
    case hd => exact rfl
    apply w_alloc (γ := 101)
    case hg => exact (by exact True.intro)
    case hz => exact rfl
    case h1 => exact rfl
    case hdead => exact rfl
    case hf => exact rfl
    case hd => exact rfl
    apply w_store
    case hg => exact (by exact True.intro)
    case hx => exact rfl
    case hL => exact rfl
    case hv => conv => lhs; whnf
    case hc => exact rfl
    case ht => exact rfl
    case hb => exact rfl
    apply w_assign
    case hg => exact (by exact True.intro)
    case hx => conv => lhs; whnf
    case hd => exact rfl
    refine .done (by exact fun h => Bool.noConfusion h) ?_
    refine awp_seq ?_
    refine awp_region (by kernel_rfl) ?_
    apply w_load_boxagg
    case hg => exact (by exact True.intro)
    case hx => exact rfl
    case hL => exact rfl
    case hsz => conv => lhs; whnf
    case ht => exact rfl
    case hy => conv => lhs; whnf
    case hlen => exact rfl
    case hd => exact rfl
    apply w_call (hcon := rsync_con d hl)
    case hxs => exact rfl
    case hys => conv => lhs; whnf
    case hle => (refine ⟨(by exact AVal.le_refl _), ?_⟩; exact trivial)
    case hf => exact rfl
    case hLi => (repeat (first | exact trivial | refine ⟨rfl, ?_⟩ | fail)) <;> fail
    case hin => exact rfl
    case hbox => exact rfl
    case hres => exact rfl
    case hnew => (repeat (first | exact trivial | refine ⟨rfl, ?_⟩ | fail)) <;> fail
    case hdead => (repeat (first | exact trivial | refine ⟨rfl, ?_⟩ | fail)) <;> fail
    case hd => exact rfl
    case hg => exact (by exact True.intro)
    apply w_move
    case hg => exact (by exact True.intro)
    case hx => conv => lhs; whnf
    case hd => exact rfl
    apply w_extract
    case hg => exact (by exact True.intro)
    case hx => exact rfl
    case hy => conv => lhs; whnf
    case hd => exact rfl
    apply w_extract
    case hg => exact (by exact True.intro)
    case hx => exact rfl
    case hy => conv => lhs; whnf
    case hd => exact rfl
    apply w_alloc (γ := 102)
    case hg => exact (by exact True.intro)
    case hz => exact rfl
    case h1 => exact rfl
    case hdead => exact rfl
    case hf => exact rfl
    case hd => exact rfl
    apply w_store
    case hg => exact (by exact True.intro)
    case hx => exact rfl
    case hL => exact rfl
    case hv => conv => lhs; whnf
    case hc => exact rfl
    case ht => exact rfl
    case hb => exact rfl
    apply w_assign
    case hg => exact (by exact True.intro)
    case hx => conv => lhs; whnf
    case hd => exact rfl
    refine .done (by exact fun h => Bool.noConfusion h) ?_
    refine awp_seq ?_
    refine awp_region (by kernel_rfl) ?_
    apply w_load_boxagg
    case hg => exact (by exact True.intro)
    case hx => exact rfl
    case hL => exact rfl
    case hsz => conv => lhs; whnf
    case ht => exact rfl
    case hy => conv => lhs; whnf
    case hlen => exact rfl
    case hd => exact rfl
    apply w_call (hcon := valid_con d)
    case hxs => exact rfl
    case hys => conv => lhs; whnf
    case hle => (refine ⟨(by exact AVal.le_refl _), ?_⟩; exact trivial)
    case hf => exact rfl
    case hLi => (repeat (first | exact trivial | refine ⟨rfl, ?_⟩ | fail)) <;> fail
    case hin => exact rfl
    case hbox => exact rfl
    case hres => exact rfl
    case hnew => (repeat (first | exact trivial | refine ⟨rfl, ?_⟩ | fail)) <;> fail
    case hdead => (repeat (first | exact trivial | refine ⟨rfl, ?_⟩ | fail)) <;> fail
    case hd => exact rfl
    case hg => exact (by exact True.intro)
    apply w_load_boxagg
    case hg => exact (by exact True.intro)
    case hx => exact rfl
    case hL => exact rfl
    case hsz => conv => lhs; whnf
    case ht => exact rfl
    case hy => conv => lhs; whnf
    case hlen => exact rfl
    case hd => exact rfl
    apply w_call (hcon := rvalid_con d)
    case hxs => exact rfl
    case hys => conv => lhs; whnf
    case hle => (refine ⟨(by exact AVal.le_refl _), ?_⟩; exact trivial)
    case hf => exact rfl
    case hLi => (repeat (first | exact trivial | refine ⟨rfl, ?_⟩ | fail)) <;> fail
    case hin => exact rfl
    case hbox => exact rfl
    case hres => exact rfl
    case hnew => (repeat (first | exact trivial | refine ⟨rfl, ?_⟩ | fail)) <;> fail
    case hdead => (repeat (first | exact trivial | refine ⟨rfl, ?_⟩ | fail)) <;> fail
    case hd => exact rfl
    case hg => exact (by exact True.intro)
    apply w_bin
    case hg => exact (by exact True.intro)
    case hx => exact rfl
    case hy => exact rfl
    case hr => exact rb_eqb rfl
    case h1 => exact rfl
    case hd => exact rfl
    apply w_move
    case hg => exact (by exact True.intro)
    case hx => conv => lhs; whnf
    case hd => exact rfl
    apply w_move
    case hg => exact (by (exact ⟨rfl, congrArg ab (by (simp <;> fail))⟩))
    case hx => conv => lhs; whnf
    case hd => exact rfl
    apply w_str
    case hg => exact (by (exact ⟨rfl, congrArg ab (by (simp <;> fail))⟩))
    case hx => exact rfl
    case ht => exact rfl
    case hd => exact rfl
    apply w_move
    case hg => exact (by (exact ⟨rfl, congrArg ab (by (simp <;> fail))⟩))
    case hx => conv => lhs; whnf
    case hd => exact rfl
    apply w_str
    case hg => exact (by (exact ⟨rfl, congrArg ab (by (simp <;> fail))⟩))
    case hx => exact rfl
    case ht => exact rfl
    case hd => exact rfl
    apply w_bin
    case hg => exact (by (exact ⟨rfl, congrArg ab (by (simp <;> fail))⟩))
    case hx => exact rfl
    case hy => exact rfl
    case hr => exact rb_eqls
    case h1 => exact rfl
    case hd => exact rfl
    apply w_pick_t
    case hg => exact (by exact True.intro)
    case hc => exact rfl
    case hb => exact (by (simp <;> fail))
    case hx => conv => lhs; whnf
    case hd => exact rfl
    apply w_move
    case hg => exact (by exact True.intro)
    case hx => conv => lhs; whnf
    case hd => exact rfl
    apply w_move
    case hg => exact (by (exact ⟨rfl, congrArg ab (by (simp <;> fail))⟩))
    case hx => conv => lhs; whnf
    case hd => exact rfl
    apply w_move
    case hg => exact (by (exact ⟨rfl, congrArg ab (by (simp <;> fail))⟩))
    case hx => conv => lhs; whnf
    case hd => exact rfl
    apply w_bin
    case hg => exact (by (exact ⟨rfl, congrArg ab (by (simp <;> fail))⟩))
    case hx => exact rfl
    case hy => exact rfl
    case hr => exact rb_eql
    case h1 => exact rfl
    case hd => exact rfl
    apply w_pick_t
    case hg => exact (by exact True.intro)
    case hc => exact rfl
    case hb => exact (by (simp <;> fail))
    case hx => conv => lhs; whnf
    case hd => exact rfl
    apply w_move
    case hg => exact (by exact True.intro)
    case hx => conv => lhs; whnf
    case hd => exact rfl
    apply w_load_boxagg
    case hg => exact (by (exact ⟨rfl, congrArg ab (by (simp <;> fail))⟩))
    case hx => exact rfl
    case hL => exact rfl
    case hsz => conv => lhs; whnf
    case ht => exact rfl
    case hy => conv => lhs; whnf
    case hlen => exact rfl
    case hd => exact rfl
    apply w_load_boxagg
    case hg => exact (by (exact ⟨rfl, congrArg ab (by (simp <;> fail))⟩))
    case hx => exact rfl
    case hL => exact rfl
    case hsz => conv => lhs; whnf
    case ht => exact rfl
    case hy => conv => lhs; whnf
    case hlen => exact rfl
    case hd => exact rfl
    apply w_call (hcon := same_con (syncS d).1)
    case hxs => exact rfl
    case hys => conv => lhs; whnf
    case hle => (refine ⟨(by exact AVal.le_refl _), ?_⟩; refine ⟨(by exact AVal.le_refl _), ?_⟩; exact trivial)
    case hf => exact rfl
    case hLi => (repeat (first | exact trivial | refine ⟨rfl, ?_⟩ | fail)) <;> fail
    case hin => exact rfl
    case hbox => exact rfl
    case hres => exact rfl
    case hnew => (repeat (first | exact trivial | refine ⟨rfl, ?_⟩ | fail)) <;> fail
    case hdead => (repeat (first | exact trivial | refine ⟨rfl, ?_⟩ | fail)) <;> fail
    case hd => exact rfl
    case hg => exact (by (exact ⟨rfl, congrArg ab (by (simp <;> fail))⟩))
    apply w_pick_t
    case hg => exact (by exact True.intro)
    case hc => exact rfl
    case hb => exact (by (simp <;> fail))
    case hx => conv => lhs; whnf
    case hd => exact rfl
    apply w_move
    case hg => exact (by exact True.intro)
    case hx => conv => lhs; whnf
    case hd => exact rfl
    apply w_move
    case hg => exact (by exact ⟨rfl, rfl⟩)
    case hx => conv => lhs; whnf
    case hd => exact rfl
    apply w_move
    case hg => exact (by exact ⟨rfl, rfl⟩)
    case hx => conv => lhs; whnf
    case hd => exact rfl
    apply w_bin
    case hg => exact (by exact ⟨rfl, rfl⟩)
    case hx => exact rfl
    case hy => exact rfl
    case hr => exact rb_eql
    case h1 => exact rfl
    case hd => exact rfl
    apply w_pick_t
    case hg => exact (by exact True.intro)
    case hc => exact rfl
    case hb => exact (by rfl)
    case hx => conv => lhs; whnf
    case hd => exact rfl
    apply w_move
    case hg => exact (by exact True.intro)
    case hx => conv => lhs; whnf
    case hd => exact rfl
    apply w_call (hcon := alive_con)
    case hxs => exact rfl
    case hys => conv => lhs; whnf
    case hle => (exact trivial)
    case hf => exact rfl
    case hLi => (repeat (first | exact trivial | refine ⟨rfl, ?_⟩ | fail)) <;> fail
    case hin => exact rfl
    case hbox => exact rfl
    case hres => exact rfl
    case hnew => (repeat (first | exact trivial | refine ⟨rfl, ?_⟩ | fail)) <;> fail
    case hdead => (repeat (first | exact trivial | refine ⟨rfl, ?_⟩ | fail)) <;> fail
    case hd => exact rfl
    case hg => exact (by (exact ⟨rfl, congrArg ab (by (simp <;> fail))⟩))
    apply w_pick_t
    case hg => exact (by exact True.intro)
    case hc => exact rfl
    case hb => exact (by (simp <;> fail))
    case hx => conv => lhs; whnf
    case hd => exact rfl
    apply w_assign
    case hg => exact (by exact True.intro)
    case hx => conv => lhs; whnf
    case hd => exact rfl
    refine .done (by exact fun _ => rfl) ?_
    exact awp_ret ⟨_, St.le_refl _, ⟨rfl, trivial⟩, subL_nil _⟩
end Go.Fw

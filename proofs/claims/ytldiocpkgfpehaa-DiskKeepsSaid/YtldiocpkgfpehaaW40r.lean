/- The reference's part, Power, Write, Read. -/
import Derived.Test.YtldiocpkgfpehaaW40q
namespace Go.Fw
open Go Go.Proofs
set_option linter.unusedVariables false
set_option linter.unusedSimpArgs false
set_option maxHeartbeats 8000000 in
theorem rpower_con (d : Disk) (hl : fewL d) : Con Try.prog 17 [] [aDisk d] [] (aDisk (powerS d)) := by
  refine con_of (xs := [aDisk (powerS d)]) Try.func17 rfl Try.ntmps17 rfl rfl rfl (fun E => ?_)
  cases hv : validS d with
  | true =>
    rw [show powerS d = ⟨d.sectors, d.pending, true⟩ by simp [powerS, hv]]
    refine awp_seq ?_
    refine awp_region (by kernel_rfl) ?_
    apply w_box (γ := 100)
    case hg => exact (by exact True.intro)
    case hx => conv => lhs; whnf
    case hc => exact rfl
    case hdead => exact rfl
    case hf => exact rfl
    case hm => exact rfl
    case hd => exact rfl
    apply w_alloc (γ := 101)
    case hg => exact (by exact True.intro)
    case hz => exact rfl
    case h1 => exact rfl
    case hdead => exact rfl
    case hf => exact rfl
    case hd => exact rfl
    refine .done (by exact fun h => Bool.noConfusion h) ?_
    refine awp_seq ?_
    refine awp_region (by kernel_rfl) ?_
    apply w_load_boxagg
    case hg => exact (by exact True.intro)
    case hx => exact rfl
    case hL => exact rfl
    case hsz => conv => lhs; whnf
    case ht => exact rfl
    case hy => conv => lhs; whnf
    case hlen => exact rfl
    case hd => exact rfl
    apply w_call (hcon := rcopy_con d hl)
    case hxs => exact rfl
    case hys => conv => lhs; whnf
    case hle => (refine ⟨(by exact AVal.le_refl _), ?_⟩; exact trivial)
    case hf => exact rfl
    case hLi => (repeat (first | exact trivial | refine ⟨rfl, ?_⟩ | fail)) <;> fail
    case hin => exact rfl
    case hbox => exact rfl
    case hres => exact rfl
    case hnew => (repeat (first | exact trivial | refine ⟨rfl, ?_⟩ | fail)) <;> fail
    case hdead => (repeat (first | exact trivial | refine ⟨rfl, ?_⟩ | fail)) <;> fail
    case hd => exact rfl
    case hg => exact (by exact True.intro)
    apply w_alloc (γ := 102)
    case hg => exact (by exact True.intro)
    case hz => exact rfl
    case h1 => exact rfl
    case hdead => exact rfl
    case hf => exact rfl
    case hd => exact rfl
    apply w_store
    case hg => exact (by exact True.intro)
    case hx => exact rfl
    case hL => exact rfl
    case hv => conv => lhs; whnf
    case hc => exact rfl
    case ht => exact rfl
    case hb => exact rfl
    refine .done (by exact fun h => Bool.noConfusion h) ?_
    refine awp_seq ?_
    refine awp_seq ?_
    refine awp_region (by kernel_rfl) ?_
    apply w_load_boxagg
    case hg => exact (by exact True.intro)
    case hx => exact rfl
    case hL => exact rfl
    case hsz => conv => lhs; whnf
    case ht => exact rfl
    case hy => conv => lhs; whnf
    case hlen => exact rfl
    case hd => exact rfl
    apply w_call (hcon := rvalid_con d)
    case hxs => exact rfl
    case hys => conv => lhs; whnf
    case hle => (refine ⟨(by exact AVal.le_refl _), ?_⟩; exact trivial)
    case hf => exact rfl
    case hLi => (repeat (first | exact trivial | refine ⟨rfl, ?_⟩ | fail)) <;> fail
    case hin => exact rfl
    case hbox => exact rfl
    case hres => exact rfl
    case hnew => (repeat (first | exact trivial | refine ⟨rfl, ?_⟩ | fail)) <;> fail
    case hdead => (repeat (first | exact trivial | refine ⟨rfl, ?_⟩ | fail)) <;> fail
    case hd => exact rfl
    case hg => exact (by exact True.intro)
    refine .done (by exact fun h => Bool.noConfusion h) ?_
    refine awp_cond_t rfl (by assumption) ?_
    refine awp_region (by kernel_rfl) ?_
    apply w_field_box
    case hg => exact (by exact True.intro)
    case hx => exact rfl
    case hoff => conv => lhs; whnf
    case hf => exact rfl
    case hd => exact rfl
    apply w_store
    case hg => exact (by exact True.intro)
    case hx => exact rfl
    case hL => exact rfl
    case hv => conv => lhs; whnf
    case hc => exact rfl
    case ht => exact rfl
    case hb => exact rfl
    refine .done (by exact fun h => Bool.noConfusion h) ?_
    refine awp_seq ?_
    refine awp_region (by kernel_rfl) ?_
    apply w_load_boxagg
    case hg => exact (by exact True.intro)
    case hx => exact rfl
    case hL => exact rfl
    case hsz => conv => lhs; whnf
    case ht => exact rfl
    case hy => conv => lhs; whnf
    case hlen => exact rfl
    case hd => exact rfl
    apply w_store
    case hg => exact (by exact True.intro)
    case hx => exact rfl
    case hL => exact rfl
    case hv => conv => lhs; whnf
    case hc => exact rfl
    case ht => exact rfl
    case hb => exact rfl
    refine .done (by exact fun h => Bool.noConfusion h) ?_
    refine awp_le (le_freeze 130 rfl) ?_
    refine awp_le (le_freeze 131 rfl) ?_
    refine awp_le (le_data_box 101 0 130 (cs := [.own 130 d.sectors.length, .own 131 d.pending.length, ab true]) (sz := 1) (xs := d.sectors.map cBytes) rfl rfl rfl (by simp)) ?_
    refine awp_le (le_data_box 101 1 131 (cs := [.d (dSecs d.sectors), .own 131 d.pending.length, ab true]) (sz := 2) (xs := d.pending.map cWr) rfl rfl rfl (by simp)) ?_
    exact awp_ret ⟨_, St.le_refl _, ⟨⟨101, 0, _, rfl, rfl, .inr ⟨3, _, rfl, rfl, rfl, rfl⟩⟩, trivial⟩, subL_nil _⟩
  | false =>
    rw [show powerS d = d by simp [powerS, hv]]
    refine awp_seq ?_
    refine awp_region (by kernel_rfl) ?_
    apply w_box (γ := 100)
    case hg => exact (by exact True.intro)
    case hx => conv => lhs; whnf
    case hc => exact rfl
    case hdead => exact rfl
    case hf => exact rfl
    case hm => exact rfl
    case hd => exact rfl
    apply w_alloc (γ := 101)
    case hg => exact (by exact True.intro)
    case hz => exact rfl
    case h1 => exact rfl
    case hdead => exact rfl
    case hf => exact rfl
    case hd => exact rfl
    refine .done (by exact fun h => Bool.noConfusion h) ?_
    refine awp_seq ?_
    refine awp_region (by kernel_rfl) ?_
    apply w_load_boxagg
    case hg => exact (by exact True.intro)
    case hx => exact rfl
    case hL => exact rfl
    case hsz => conv => lhs; whnf
    case ht => exact rfl
    case hy => conv => lhs; whnf
    case hlen => exact rfl
    case hd => exact rfl
    apply w_call (hcon := rcopy_con d hl)
    case hxs => exact rfl
    case hys => conv => lhs; whnf
    case hle => (refine ⟨(by exact AVal.le_refl _), ?_⟩; exact trivial)
    case hf => exact rfl
    case hLi => (repeat (first | exact trivial | refine ⟨rfl, ?_⟩ | fail)) <;> fail
    case hin => exact rfl
    case hbox => exact rfl
    case hres => exact rfl
    case hnew => (repeat (first | exact trivial | refine ⟨rfl, ?_⟩ | fail)) <;> fail
    case hdead => (repeat (first | exact trivial | refine ⟨rfl, ?_⟩ | fail)) <;> fail
    case hd => exact rfl
    case hg => exact (by exact True.intro)
    apply w_alloc (γ := 102)
    case hg => exact (by exact True.intro)
    case hz => exact rfl
    case h1 => exact rfl
    case hdead => exact rfl
    case hf => exact rfl
    case hd => exact rfl
    apply w_store
    case hg => exact (by exact True.intro)
    case hx => exact rfl
    case hL => exact rfl
    case hv => conv => lhs; whnf
    case hc => exact rfl
    case ht => exact rfl
    case hb => exact rfl
    refine .done (by exact fun h => Bool.noConfusion h) ?_
    refine awp_seq ?_
    refine awp_seq ?_
    refine awp_region (by kernel_rfl) ?_
    apply w_load_boxagg
    case hg => exact (by exact True.intro)
    case hx => exact rfl
    case hL => exact rfl
    case hsz => conv => lhs; whnf
    case ht => exact rfl
    case hy => conv => lhs; whnf
    case hlen => exact rfl
    case hd => exact rfl
    apply w_call (hcon := rvalid_con d)
    case hxs => exact rfl
    case hys => conv => lhs; whnf
    case hle => (refine ⟨(by exact AVal.le_refl _), ?_⟩; exact trivial)
    case hf => exact rfl
    case hLi => (repeat (first | exact trivial | refine ⟨rfl, ?_⟩ | fail)) <;> fail
    case hin => exact rfl
    case hbox => exact rfl
    case hres => exact rfl
    case hnew => (repeat (first | exact trivial | refine ⟨rfl, ?_⟩ | fail)) <;> fail
    case hdead => (repeat (first | exact trivial | refine ⟨rfl, ?_⟩ | fail)) <;> fail
    case hd => exact rfl
    case hg => exact (by exact True.intro)
    refine .done (by exact fun h => Bool.noConfusion h) ?_
    refine awp_cond_f rfl (by assumption) ?_
    refine awp_skip ?_
    refine awp_seq ?_
    refine awp_region (by kernel_rfl) ?_
    apply w_load_boxagg
    case hg => exact (by exact True.intro)
    case hx => exact rfl
    case hL => exact rfl
    case hsz => conv => lhs; whnf
    case ht => exact rfl
    case hy => conv => lhs; whnf
    case hlen => exact rfl
    case hd => exact rfl
    apply w_store
    case hg => exact (by exact True.intro)
    case hx => exact rfl
    case hL => exact rfl
    case hv => conv => lhs; whnf
    case hc => exact rfl
    case ht => exact rfl
    case hb => exact rfl
    refine .done (by exact fun h => Bool.noConfusion h) ?_
    refine awp_le (le_freeze 130 rfl) ?_
    refine awp_le (le_freeze 131 rfl) ?_
    refine awp_le (le_data_box 101 0 130 (cs := [.own 130 d.sectors.length, .own 131 d.pending.length, ab d.on]) (sz := 1) (xs := d.sectors.map cBytes) rfl rfl rfl (by simp)) ?_
    refine awp_le (le_data_box 101 1 131 (cs := [.d (dSecs d.sectors), .own 131 d.pending.length, ab d.on]) (sz := 2) (xs := d.pending.map cWr) rfl rfl rfl (by simp)) ?_
    exact awp_ret ⟨_, St.le_refl _, ⟨⟨101, 0, _, rfl, rfl, .inr ⟨3, _, rfl, rfl, rfl, rfl⟩⟩, trivial⟩, subL_nil _⟩
end Go.Fw

import Derived.Test.YtldiocpkgfpehaaW40d
namespace Go.Fw
open Go Go.Proofs
set_option linter.unusedVariables false
set_option linter.unusedSimpArgs false
set_option maxHeartbeats 8000000 in
theorem disk_con0 (d : Disk) : Con Try.prog 30 [(0, .row 2 (d.pending.map cWr)), (1, .mat 1 (d.sectors.map fun s => s.map cByte))] [.agg [.own 0 d.pending.length, .own 1 d.sectors.length, ab d.on]] [(0, .froz 2 (d.pending.map cWr)), (1, .froz 1 (d.sectors.map cBytes))] (aDisk d) := by
  obtain ⟨secs, pend, on⟩ := d
  refine con_of (xs := [aDisk ⟨secs, pend, on⟩]) Try.func30 rfl Try.ntmps30 rfl rfl rfl (fun E => ?_)
  refine awp_seq ?_
  refine awp_region (by kernel_rfl) ?_
  apply w_box (γ := 100)
  case hg => exact (by exact True.intro)
  case hx => conv => lhs; whnf
  case hc => exact rfl
  case hdead => exact rfl
  case hf => exact rfl
  case hm => exact rfl
  case hd => exact rfl
  apply w_alloc (γ := 101)
  case hg => exact (by exact True.intro)
  case hz => exact rfl
  case h1 => exact rfl
  case hdead => exact rfl
  case hf => exact rfl
  case hd => exact rfl
  refine .done (by exact fun h => Bool.noConfusion h) ?_
  refine awp_seq ?_
  refine awp_region (by kernel_rfl) ?_
  apply w_field_box
  case hg => exact (by exact True.intro)
  case hx => exact rfl
  case hoff => conv => lhs; whnf
  case hf => exact rfl
  case hd => exact rfl
  apply w_load_box
  case hg => exact (by exact True.intro)
  case hx => exact rfl
  case hL => exact rfl
  case hy => conv => lhs; whnf
  case ht => exact rfl
  case hd => exact rfl
  apply w_field_box
  case hg => exact (by exact True.intro)
  case hx => exact rfl
  case hoff => conv => lhs; whnf
  case hf => exact rfl
  case hd => exact rfl
  apply w_field_box
  case hg => exact (by exact True.intro)
  case hx => exact rfl
  case hoff => conv => lhs; whnf
  case hf => exact rfl
  case hd => exact rfl
  apply w_load_box
  case hg => exact (by exact True.intro)
  case hx => exact rfl
  case hL => exact rfl
  case hy => conv => lhs; whnf
  case ht => exact rfl
  case hd => exact rfl
  apply w_field_box
  case hg => exact (by exact True.intro)
  case hx => exact rfl
  case hoff => conv => lhs; whnf
  case hf => exact rfl
  case hd => exact rfl
  apply w_load_box
  case hg => exact (by exact True.intro)
  case hx => exact rfl
  case hL => exact rfl
  case hy => conv => lhs; whnf
  case ht => exact rfl
  case hd => exact rfl
  apply w_build
  case hg => exact (by exact True.intro)
  case hpl => exact rfl
  case hps => conv => lhs; whnf
  case hz => exact rfl
  case h1 => exact rfl
  case ht => exact rfl
  case hout => conv => lhs; whnf
  case hd => exact rfl
  apply w_store
  case hg => exact (by exact True.intro)
  case hx => exact rfl
  case hL => exact rfl
  case hv => conv => lhs; whnf
  case hc => exact rfl
  case ht => exact rfl
  case hb => exact rfl
  refine .done (by exact fun h => Bool.noConfusion h) ?_
  refine awp_le (le_freeze 0 rfl) ?_
  refine awp_le (le_freeze_mat 1 rfl) ?_
  refine awp_le (le_data_box 101 0 1 (cs := [.own 1 secs.length, .own 0 pend.length, ab on]) (sz := 1) (xs := secs.map cBytes) rfl rfl (by refine Eq.trans (b := AObj.froz 1 _) rfl ?_; simp) (by simp)) ?_
  refine awp_le (le_data_box 101 1 0 (cs := [.d (dSecs secs), .own 0 pend.length, ab on]) (sz := 2) (xs := pend.map cWr) rfl rfl rfl (by simp)) ?_
  refine awp_ret ⟨_, St.le_refl _, ⟨⟨101, 0, _, rfl, rfl, .inr ⟨3, _, rfl, rfl, rfl, rfl⟩⟩, trivial⟩, subL_of ⟨rfl, ?_, trivial⟩⟩
  refine Eq.trans (b := AObj.froz 1 _) rfl ?_
  simp
/-- The same, at the keys that 'open' uses. -/
theorem disk_con (d : Disk) : Con Try.prog 30 [(120, .row 2 (d.pending.map cWr)), (121, .mat 1 (d.sectors.map fun s => s.map cByte))] [.agg [.own 120 d.pending.length, .own 121 d.sectors.length, ab d.on]] [(120, .froz 2 (d.pending.map cWr)), (121, .froz 1 (d.sectors.map cBytes))] (aDisk d) := by
  have h := con_swp 1 121 (con_swp 0 120 (disk_con0 d))
  exact h
end Go.Fw

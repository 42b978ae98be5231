/- The reference's Crash, Sync. -/
import Derived.Test.YtldiocpkgfpehaaW40u
namespace Go.Fw
open Go Go.Proofs
set_option linter.unusedVariables false
set_option linter.unusedSimpArgs false
set_option maxHeartbeats 8000000 in
theorem rcrash_con (d : Disk) (keep : List Int) (hl : fewL d) : Con Try.prog 15 [] [aDisk d, .d (dInts keep)] [] (aDisk (crashS d keep)) := by
  refine con_of (xs := [aDisk (crashS d keep)]) Try.func15 rfl Try.ntmps15 rfl rfl rfl (fun E => ?_)
  cases hv : validS d with
  | true =>
    have hok := okW_of hv
    rw [show crashS d keep = ⟨settleS d (keepS keep), [], false⟩ by simp [crashS, hv]]
    refine awp_seq ?_
    refine awp_region (by kernel_rfl) ?_
    apply w_box (γ := 100)
    case hg => exact (by exact True.intro)
    case hx => conv => lhs; whnf
    case hc => exact rfl
    case hdead => exact rfl
    case hf => exact rfl
    case hm => exact rfl
    case hd => exact rfl
    apply w_alloc (γ := 101)
    case hg => exact (by exact True.intro)
    case hz => exact rfl
    case h1 => exact rfl
    case hdead => exact rfl
    case hf => exact rfl
    case hd => exact rfl
    refine .done (by exact fun h => Bool.noConfusion h) ?_
    refine awp_seq ?_
    refine awp_seq ?_
    refine awp_region (by kernel_rfl) ?_
    apply w_load_boxagg
    case hg => exact (by exact True.intro)
    case hx => exact rfl
    case hL => exact rfl
    case hsz => conv => lhs; whnf
    case ht => exact rfl
    case hy => conv => lhs; whnf
    case hlen => exact rfl
    case hd => exact rfl
    apply w_call (hcon := rvalid_con d)
    case hxs => exact rfl
    case hys => conv => lhs; whnf
    case hle => (refine ⟨(by exact AVal.le_refl _), ?_⟩; exact trivial)
    case hf => exact rfl
    case hLi => (repeat (first | exact trivial | refine ⟨rfl, ?_⟩ | fail)) <;> fail
    case hin => exact rfl
    case hbox => exact rfl
    case hres => exact rfl
    case hnew => (repeat (first | exact trivial | refine ⟨rfl, ?_⟩ | fail)) <;> fail
    case hdead => (repeat (first | exact trivial | refine ⟨rfl, ?_⟩ | fail)) <;> fail
    case hd => exact rfl
    case hg => exact (by exact True.intro)
    apply w_un
    case hg => exact (by exact True.intro)
    case hx => exact rfl
    case hr => exact ru_not
    case h1 => exact rfl
    case hd => exact rfl
    refine .done (by exact fun h => Bool.noConfusion h) ?_
    refine awp_cond_f rfl (by (simp [*] <;> fail)) ?_
    refine awp_skip ?_
    refine awp_seq ?_
    refine awp_region (by kernel_rfl) ?_
    apply w_load_boxagg
    case hg => exact (by exact True.intro)
    case hx => exact rfl
    case hL => exact rfl
    case hsz => conv => lhs; whnf
    case ht => exact rfl
    case hy => conv => lhs; whnf
    case hlen => exact rfl
    case hd => exact rfl
    apply w_move
    case hg => exact (by exact True.intro)
    case hx => conv => lhs; whnf
    case hd => exact rfl
    apply w_call (hcon := rsettle_con d keep hl hok)
    case hxs => exact rfl
    case hys => conv => lhs; whnf
    case hle => (refine ⟨(by exact AVal.le_refl _), ?_⟩; refine ⟨(by exact AVal.le_refl _), ?_⟩; exact trivial)
    case hf => exact rfl
    case hLi => (repeat (first | exact trivial | refine ⟨rfl, ?_⟩ | fail)) <;> fail
    case hin => exact rfl
    case hbox => exact rfl
    case hres => exact rfl
    case hnew => (repeat (first | exact trivial | refine ⟨rfl, ?_⟩ | fail)) <;> fail
    case hdead => (repeat (first | exact trivial | refine ⟨rfl, ?_⟩ | fail)) <;> fail
    case hd => exact rfl
    case hg => exact (by exact True.intro)
    apply w_alloc (γ := 102)
    case hg => exact (by exact True.intro)
    case hz => exact rfl
    case h1 => exact rfl
    case hdead => exact rfl
    case hf => exact rfl
    case hd => exact rfl
    apply w_store
    case hg => exact (by exact True.intro)
    case hx => exact rfl
    case hL => exact rfl
    case hv => conv => lhs; whnf
    case hc => exact rfl
    case ht => exact rfl
    case hb => exact rfl
    refine .done (by exact fun h => Bool.noConfusion h) ?_
    refine awp_seq ?_
    refine awp_region (by kernel_rfl) ?_
    apply w_field_box
    case hg => exact (by exact True.intro)
    case hx => exact rfl
    case hoff => conv => lhs; whnf
    case hf => exact rfl
    case hd => exact rfl
    apply w_store
    case hg => exact (by exact True.intro)
    case hx => exact rfl
    case hL => exact rfl
    case hv => conv => lhs; whnf
    case hc => exact rfl
    case ht => exact rfl
    case hb => exact rfl
    refine .done (by exact fun h => Bool.noConfusion h) ?_
    refine awp_seq ?_
    refine awp_region (by kernel_rfl) ?_
    apply w_load_boxagg
    case hg => exact (by exact True.intro)
    case hx => exact rfl
    case hL => exact rfl
    case hsz => conv => lhs; whnf
    case ht => exact rfl
    case hy => conv => lhs; whnf
    case hlen => exact rfl
    case hd => exact rfl
    apply w_store
    case hg => exact (by exact True.intro)
    case hx => exact rfl
    case hL => exact rfl
    case hv => conv => lhs; whnf
    case hc => exact rfl
    case ht => exact rfl
    case hb => exact rfl
    refine .done (by exact fun h => Bool.noConfusion h) ?_
    exact awp_ret ⟨_, St.le_refl _, ⟨⟨101, 0, _, rfl, rfl, .inr ⟨3, _, rfl, rfl, rfl, rfl⟩⟩, trivial⟩, subL_nil _⟩
  | false =>
    rw [show crashS d keep = d by simp [crashS, hv]]
    refine awp_seq ?_
    refine awp_region (by kernel_rfl) ?_
    apply w_box (γ := 100)
    case hg => exact (by exact True.intro)
    case hx => conv => lhs; whnf
    case hc => exact rfl
    case hdead => exact rfl
    case hf => exact rfl
    case hm => exact rfl
    case hd => exact rfl
    apply w_alloc (γ := 101)
    case hg => exact (by exact True.intro)
    case hz => exact rfl
    case h1 => exact rfl
    case hdead => exact rfl
    case hf => exact rfl
    case hd => exact rfl
    refine .done (by exact fun h => Bool.noConfusion h) ?_
    refine awp_seq ?_
    refine awp_seq ?_
    refine awp_region (by kernel_rfl) ?_
    apply w_load_boxagg
    case hg => exact (by exact True.intro)
    case hx => exact rfl
    case hL => exact rfl
    case hsz => conv => lhs; whnf
    case ht => exact rfl
    case hy => conv => lhs; whnf
    case hlen => exact rfl
    case hd => exact rfl
    apply w_call (hcon := rvalid_con d)
    case hxs => exact rfl
    case hys => conv => lhs; whnf
    case hle => (refine ⟨(by exact AVal.le_refl _), ?_⟩; exact trivial)
    case hf => exact rfl
    case hLi => (repeat (first | exact trivial | refine ⟨rfl, ?_⟩ | fail)) <;> fail
    case hin => exact rfl
    case hbox => exact rfl
    case hres => exact rfl
    case hnew => (repeat (first | exact trivial | refine ⟨rfl, ?_⟩ | fail)) <;> fail
    case hdead => (repeat (first | exact trivial | refine ⟨rfl, ?_⟩ | fail)) <;> fail
    case hd => exact rfl
    case hg => exact (by exact True.intro)
    apply w_un
    case hg => exact (by exact True.intro)
    case hx => exact rfl
    case hr => exact ru_not
    case h1 => exact rfl
    case hd => exact rfl
    refine .done (by exact fun h => Bool.noConfusion h) ?_
    refine awp_cond_t rfl (by (simp [*] <;> fail)) ?_
    refine awp_seq ?_
    refine awp_region (by kernel_rfl) ?_
    apply w_load_boxagg
    case hg => exact (by exact True.intro)
    case hx => exact rfl
    case hL => exact rfl
    case hsz => conv => lhs; whnf
    case ht => exact rfl
    case hy => conv => lhs; whnf
    case hlen => exact rfl
    case hd => exact rfl
    apply w_call (hcon := rcopy_con d hl)
    case hxs => exact rfl
    case hys => conv => lhs; whnf
    case hle => (refine ⟨(by exact AVal.le_refl _), ?_⟩; exact trivial)
    case hf => exact rfl
    case hLi => (repeat (first | exact trivial | refine ⟨rfl, ?_⟩ | fail)) <;> fail
    case hin => exact rfl
    case hbox => exact rfl
    case hres => exact rfl
    case hnew => (repeat (first | exact trivial | refine ⟨rfl, ?_⟩ | fail)) <;> fail
    case hdead => (repeat (first | exact trivial | refine ⟨rfl, ?_⟩ | fail)) <;> fail
    case hd => exact rfl
    case hg => exact (by exact True.intro)
    apply w_store
    case hg => exact (by exact True.intro)
    case hx => exact rfl
    case hL => exact rfl
    case hv => conv => lhs; whnf
    case hc => exact rfl
    case ht => exact rfl
    case hb => exact rfl
    refine .done (by exact fun h => Bool.noConfusion h) ?_
    refine awp_le (le_freeze 130 rfl) ?_
    refine awp_le (le_freeze 131 rfl) ?_
    refine awp_le (le_data_box 101 0 130 (cs := [.own 130 d.sectors.length, .own 131 d.pending.length, ab d.on]) (sz := 1) (xs := d.sectors.map cBytes) rfl rfl rfl (by simp)) ?_
    refine awp_le (le_data_box 101 1 131 (cs := [.d (dSecs d.sectors), .own 131 d.pending.length, ab d.on]) (sz := 2) (xs := d.pending.map cWr) rfl rfl rfl (by simp)) ?_
    exact awp_ret ⟨_, St.le_refl _, ⟨⟨101, 0, _, rfl, rfl, .inr ⟨3, _, rfl, rfl, rfl, rfl⟩⟩, trivial⟩, subL_nil _⟩
theorem performK_ext {rows : List (List UInt8)} {pend : List Wr} {kv kv' : Nat → Int} : ∀ n, (∀ k, k < n → kv k = kv' k) → performK rows pend kv n = performK rows pend kv' n
  | 0, _ => rfl
  | n + 1, h => by
    simp only [performK]
    rw [performK_ext n (fun k hk => h k (by omega)), h n (by omega)]
theorem settle_whole (d : Disk) : settleS d (keepS (List.replicate d.pending.length 64)) = settleS d (fun _ => 64) :=
  performK_ext _ fun k hk => by simp [keepS, hk]
set_option maxHeartbeats 8000000 in
theorem rsync_con (d : Disk) (hl : fewL d) : Con Try.prog 24 [] [aDisk d] [] (aTwo (aDisk (syncS d).1) (syncS d).2) := by
  refine con_of (xs := [aDisk (syncS d).1, ai (syncS d).2]) Try.func24 rfl Try.ntmps24 rfl rfl rfl (fun E => ?_)
  by_cases hu : usableS d = 0
  · have hp := hl.2.1
    have hok := okW_of (usable_ok hu).1
    rw [show syncS d = (⟨settleS d (keepS (List.replicate d.pending.length 64)), [], d.on⟩, 0) by rw [settle_whole]; simp [syncS, hu]]
    refine awp_seq ?_
    refine awp_region (by kernel_rfl) ?_
    apply w_box (γ := 100)
    case hg => exact (by exact True.intro)
    case hx => conv => lhs; whnf
    case hc => exact rfl
    case hdead => exact rfl
    case hf => exact rfl
    case hm => exact rfl
    case hd => exact rfl
    apply w_alloc (γ := 101)
    case hg => exact (by exact True.intro)
    case hz => exact rfl
    case h1 => exact rfl
    case hdead => exact rfl
    case hf => exact rfl
    case hd => exact rfl
    apply w_assign
    case hg => exact (by exact True.intro)
    case hx => conv => lhs; whnf
    case hd => exact rfl
    refine .done (by exact fun h => Bool.noConfusion h) ?_
    refine awp_seq ?_
    refine awp_seq ?_
    refine awp_region (by kernel_rfl) ?_
    apply w_load_boxagg
    case hg => exact (by exact True.intro)
    case hx => exact rfl
    case hL => exact rfl
    case hsz => conv => lhs; whnf
    case ht => exact rfl
    case hy => conv => lhs; whnf
    case hlen => exact rfl
    case hd => exact rfl
    apply w_call (hcon := rusable_con d)
    case hxs => exact rfl
    case hys => conv => lhs; whnf
    case hle => (refine ⟨(by exact AVal.le_refl _), ?_⟩; exact trivial)
    case hf => exact rfl
    case hLi => (repeat (first | exact trivial | refine ⟨rfl, ?_⟩ | fail)) <;> fail
    case hin => exact rfl
    case hbox => exact rfl
    case hres => exact rfl
    case hnew => (repeat (first | exact trivial | refine ⟨rfl, ?_⟩ | fail)) <;> fail
    case hdead => (repeat (first | exact trivial | refine ⟨rfl, ?_⟩ | fail)) <;> fail
    case hd => exact rfl
    case hg => exact (by exact True.intro)
    apply w_assign
    case hg => exact (by exact True.intro)
    case hx => conv => lhs; whnf
    case hd => exact rfl
    refine .done (by exact fun h => Bool.noConfusion h) ?_
    refine awp_seq ?_
    refine awp_region (by kernel_rfl) ?_
    apply w_move
    case hg => exact (by exact True.intro)
    case hx => conv => lhs; whnf
    case hd => exact rfl
    apply w_bin
    case hg => exact (by exact True.intro)
    case hx => exact rfl
    case hy => exact rfl
    case hr => exact rb_neq
    case h1 => exact rfl
    case hd => exact rfl
    refine .done (by exact fun h => Bool.noConfusion h) ?_
    refine awp_cond_f rfl (by (simp only [List.length_map, List.length_take, List.length_append, decide_eq_true_eq, decide_eq_false_iff_not, ne_eq, Classical.not_not]; omega)) ?_
    refine awp_skip ?_
    refine awp_seq ?_
    refine awp_region (by kernel_rfl) ?_
    apply w_assign
    case hg => exact (by exact True.intro)
    case hx => conv => lhs; whnf
    case hd => exact rfl
    refine .done (by exact fun h => Bool.noConfusion h) ?_
    refine awp_seq ?_
    refine awp_seq ?_
    refine awp_region (by kernel_rfl) ?_
    apply w_assign
    case hg => exact (by exact True.intro)
    case hx => conv => lhs; whnf
    case hd => exact rfl
    refine .done (by exact fun h => Bool.noConfusion h) ?_
    refine awp_block ?_
    refine awp_le (le_adopt 5 132 1 rfl rfl rfl) ?_
    refine awp_loopI (fun k : Nat => k ≤ d.pending.length) (fun k => ⟨26, [(1, .ptr 100 0), (2, .ptr 101 0), (5, .own 132 k), (6, ai k)], [(100, .box [.d (dSecs d.sectors), .d (dPend d.pending), ab d.on]), (101, .box [ani, ani, ab false]), (132, .row 1 ((List.replicate k 64).map cInt))]⟩) (fun k => d.pending.length - k) 0 (by omega)
      (le_mk rfl ⟨(by (first | ((exact AVal.le_refl _)) | ((exact AVal.le_nil _)) | ((refine AVal.le_agg ?_; ((repeat (first | exact trivial | refine ⟨(by (first | ((exact AVal.le_refl _)) | ((exact AVal.le_nil _)) | ((refine AVal.le_of_eq ?_; (conv => lhs; whnf); (first | ((rfl)) | ((simp <;> fail)) | fail))) | fail)), ?_⟩ | fail)) <;> fail))) | ((refine AVal.le_of_eq ?_; (conv => lhs; whnf); (first | ((rfl)) | ((simp <;> fail)) | fail))) | fail)), (by (first | ((exact AVal.le_refl _)) | ((exact AVal.le_nil _)) | ((refine AVal.le_agg ?_; ((repeat (first | exact trivial | refine ⟨(by (first | ((exact AVal.le_refl _)) | ((exact AVal.le_nil _)) | ((refine AVal.le_of_eq ?_; (conv => lhs; whnf); (first | ((rfl)) | ((simp <;> fail)) | fail))) | fail)), ?_⟩ | fail)) <;> fail))) | ((refine AVal.le_of_eq ?_; (conv => lhs; whnf); (first | ((rfl)) | ((simp <;> fail)) | fail))) | fail)), (by (first | ((exact AVal.le_refl _)) | ((exact AVal.le_nil _)) | ((refine AVal.le_agg ?_; ((repeat (first | exact trivial | refine ⟨(by (first | ((exact AVal.le_refl _)) | ((exact AVal.le_nil _)) | ((refine AVal.le_of_eq ?_; (conv => lhs; whnf); (first | ((rfl)) | ((simp <;> fail)) | fail))) | fail)), ?_⟩ | fail)) <;> fail))) | ((refine AVal.le_of_eq ?_; (conv => lhs; whnf); (first | ((rfl)) | ((simp <;> fail)) | fail))) | fail)), (by (first | ((exact AVal.le_refl _)) | ((exact AVal.le_nil _)) | ((refine AVal.le_agg ?_; ((repeat (first | exact trivial | refine ⟨(by (first | ((exact AVal.le_refl _)) | ((exact AVal.le_nil _)) | ((refine AVal.le_of_eq ?_; (conv => lhs; whnf); (first | ((rfl)) | ((simp <;> fail)) | fail))) | fail)), ?_⟩ | fail)) <;> fail))) | ((refine AVal.le_of_eq ?_; (conv => lhs; whnf); (first | ((rfl)) | ((simp <;> fail)) | fail))) | fail)), trivial⟩ ⟨rfl, rfl, rfl, trivial⟩) ?_
    intro k hk
    by_cases hlt : k < d.pending.length
    · refine awp_seq ?_
      refine awp_seq ?_
      refine awp_region (by kernel_rfl) ?_
      apply w_move
      case hg => exact (by exact True.intro)
      case hx => conv => lhs; whnf
      case hd => exact rfl
      apply w_field_box
      case hg => exact (by exact True.intro)
      case hx => exact rfl
      case hoff => conv => lhs; whnf
      case hf => exact rfl
      case hd => exact rfl
      apply w_load_box
      case hg => exact (by exact True.intro)
      case hx => exact rfl
      case hL => exact rfl
      case hy => conv => lhs; whnf
      case ht => exact rfl
      case hd => exact rfl
      apply w_len_data
      case hg => exact (by exact True.intro)
      case hx => exact rfl
      case hT => exact rfl
      case hd => exact rfl
      apply w_bin
      case hg => exact (by exact True.intro)
      case hx => exact rfl
      case hy => exact rfl
      case hr => exact rb_lss
      case h1 => exact rfl
      case hd => exact rfl
      refine .done (by exact fun h => Bool.noConfusion h) ?_
      refine awp_cond_t rfl (by (simp only [List.length_map, List.length_take, List.length_append, decide_eq_true_eq, decide_eq_false_iff_not, ne_eq, Classical.not_not]; omega)) ?_
      refine awp_skip ?_
      refine awp_seq ?_
      refine awp_block ?_
      refine awp_region (by kernel_rfl) ?_
      apply w_move
      case hg => exact (by exact True.intro)
      case hx => conv => lhs; whnf
      case hd => exact rfl
      apply w_lit
      case hg => exact (by exact True.intro)
      case hpl => exact rfl
      case hps => conv => lhs; whnf
      case hz => exact rfl
      case hS => conv => lhs; whnf
      case hT => exact rfl
      case hzl => exact rfl
      case hz1 => exact rfl
      case hsmall => exact rfl
      case hsl => exact rfl
      case hout => conv => lhs; whnf
      case hxs => conv => lhs; whnf
      case hd => exact rfl
      apply w_append
      case hg => exact (by exact True.intro)
      case hx => exact rfl
      case hL => exact rfl
      case hy => exact rfl
      case hn => (simp <;> fail)
      case hB => conv => lhs; whnf
      case hT => exact rfl
      case hT2 => exact rfl
      case hb0 => exact rfl
      case hroom => (simp only [List.length_map, List.length_take, List.length_append, List.length_cons, List.length_nil, List.length_replicate, List.length_set]; omega)
      case hd => exact rfl
      apply w_assign
      case hg => exact (by exact True.intro)
      case hx => conv => lhs; whnf
      case hd => exact rfl
      refine .done (by exact fun h => Bool.noConfusion h) ?_
      refine awp_region (by kernel_rfl) ?_
      apply w_move
      case hg => exact (by exact True.intro)
      case hx => conv => lhs; whnf
      case hd => exact rfl
      apply w_bin
      case hg => exact (by exact True.intro)
      case hx => exact rfl
      case hy => exact rfl
      case hr => (exact rb_add64 (by unfold in64; omega))
      case h1 => exact rfl
      case hd => exact rfl
      apply w_assign
      case hg => exact (by exact True.intro)
      case hx => conv => lhs; whnf
      case hd => exact rfl
      refine .done (by exact fun h => Bool.noConfusion h) ?_
      refine ⟨k + 1, by omega, by omega, le_mk rfl ⟨(by (first | ((exact AVal.le_refl _)) | ((exact AVal.le_nil _)) | ((refine AVal.le_agg ?_; ((repeat (first | exact trivial | refine ⟨(by (first | ((exact AVal.le_refl _)) | ((exact AVal.le_nil _)) | ((refine AVal.le_of_eq ?_; (conv => lhs; whnf); (first | ((rfl)) | ((simp <;> fail)) | fail))) | fail)), ?_⟩ | fail)) <;> fail))) | ((refine AVal.le_of_eq ?_; (conv => lhs; whnf); (first | ((rfl)) | ((simp <;> fail)) | fail))) | fail)), (by (first | ((exact AVal.le_refl _)) | ((exact AVal.le_nil _)) | ((refine AVal.le_agg ?_; ((repeat (first | exact trivial | refine ⟨(by (first | ((exact AVal.le_refl _)) | ((exact AVal.le_nil _)) | ((refine AVal.le_of_eq ?_; (conv => lhs; whnf); (first | ((rfl)) | ((simp <;> fail)) | fail))) | fail)), ?_⟩ | fail)) <;> fail))) | ((refine AVal.le_of_eq ?_; (conv => lhs; whnf); (first | ((rfl)) | ((simp <;> fail)) | fail))) | fail)), (by (first | ((exact AVal.le_refl _)) | ((exact AVal.le_nil _)) | ((refine AVal.le_agg ?_; ((repeat (first | exact trivial | refine ⟨(by (first | ((exact AVal.le_refl _)) | ((exact AVal.le_nil _)) | ((refine AVal.le_of_eq ?_; (conv => lhs; whnf); (first | ((rfl)) | ((simp <;> fail)) | fail))) | fail)), ?_⟩ | fail)) <;> fail))) | ((refine AVal.le_of_eq ?_; (conv => lhs; whnf); (first | ((rfl)) | ((simp <;> fail)) | fail))) | fail)), (by (first | ((exact AVal.le_refl _)) | ((exact AVal.le_nil _)) | ((refine AVal.le_agg ?_; ((repeat (first | exact trivial | refine ⟨(by (first | ((exact AVal.le_refl _)) | ((exact AVal.le_nil _)) | ((refine AVal.le_of_eq ?_; (conv => lhs; whnf); (first | ((rfl)) | ((simp <;> fail)) | fail))) | fail)), ?_⟩ | fail)) <;> fail))) | ((refine AVal.le_of_eq ?_; (conv => lhs; whnf); (first | ((rfl)) | ((simp <;> fail)) | fail))) | fail)), trivial⟩ ⟨rfl, rfl, ?_, trivial⟩⟩
      refine Eq.trans (b := AObj.row 1 (_ ++ [cInt 64])) rfl ?_
      rw [List.replicate_succ', List.map_append]; rfl
    obtain rfl : k = d.pending.length := by omega
    refine awp_le (le_freeze 132 rfl) ?_
    refine awp_le (le_data 5 132 rfl rfl (by simp)) ?_
    refine awp_seq ?_
    refine awp_seq ?_
    refine awp_region (by kernel_rfl) ?_
    apply w_move
    case hg => exact (by exact True.intro)
    case hx => conv => lhs; whnf
    case hd => exact rfl
    apply w_field_box
    case hg => exact (by exact True.intro)
    case hx => exact rfl
    case hoff => conv => lhs; whnf
    case hf => exact rfl
    case hd => exact rfl
    apply w_load_box
    case hg => exact (by exact True.intro)
    case hx => exact rfl
    case hL => exact rfl
    case hy => conv => lhs; whnf
    case ht => exact rfl
    case hd => exact rfl
    apply w_len_data
    case hg => exact (by exact True.intro)
    case hx => exact rfl
    case hT => exact rfl
    case hd => exact rfl
    apply w_bin
    case hg => exact (by exact True.intro)
    case hx => exact rfl
    case hy => exact rfl
    case hr => exact rb_lss
    case h1 => exact rfl
    case hd => exact rfl
    refine .done (by exact fun h => Bool.noConfusion h) ?_
    refine awp_cond_f rfl (by (simp only [List.length_map, List.length_take, List.length_append, decide_eq_true_eq, decide_eq_false_iff_not, ne_eq, Classical.not_not]; omega)) ?_
    refine awp_exit ?_
    refine awp_seq ?_
    refine awp_region (by kernel_rfl) ?_
    apply w_load_boxagg
    case hg => exact (by exact True.intro)
    case hx => exact rfl
    case hL => exact rfl
    case hsz => conv => lhs; whnf
    case ht => exact rfl
    case hy => conv => lhs; whnf
    case hlen => exact rfl
    case hd => exact rfl
    apply w_move
    case hg => exact (by exact True.intro)
    case hx => conv => lhs; whnf
    case hd => exact rfl
    apply w_call (hcon := rsettle_con d (List.replicate d.pending.length 64) hl hok)
    case hxs => exact rfl
    case hys => conv => lhs; whnf
    case hle => (refine ⟨(by exact AVal.le_refl _), ?_⟩; refine ⟨(by exact AVal.le_refl _), ?_⟩; exact trivial)
    case hf => exact rfl
    case hLi => (repeat (first | exact trivial | refine ⟨rfl, ?_⟩ | fail)) <;> fail
    case hin => exact rfl
    case hbox => exact rfl
    case hres => exact rfl
    case hnew => (repeat (first | exact trivial | refine ⟨rfl, ?_⟩ | fail)) <;> fail
    case hdead => (repeat (first | exact trivial | refine ⟨rfl, ?_⟩ | fail)) <;> fail
    case hd => exact rfl
    case hg => exact (by exact True.intro)
    apply w_store
    case hg => exact (by exact True.intro)
    case hx => exact rfl
    case hL => exact rfl
    case hv => conv => lhs; whnf
    case hc => exact rfl
    case ht => exact rfl
    case hb => exact rfl
    apply w_assign
    case hg => exact (by exact True.intro)
    case hx => conv => lhs; whnf
    case hd => exact rfl
    refine .done (by exact fun h => Bool.noConfusion h) ?_
    exact awp_ret ⟨_, St.le_refl _, ⟨⟨101, 0, _, rfl, rfl, .inr ⟨3, _, rfl, rfl, rfl, rfl⟩⟩, rfl, trivial⟩, subL_nil _⟩
  · rw [show syncS d = (emptyD, usableS d) by simp [syncS, hu]]
    refine awp_seq ?_
    refine awp_region (by kernel_rfl) ?_
    apply w_box (γ := 100)
    case hg => exact (by exact True.intro)
    case hx => conv => lhs; whnf
    case hc => exact rfl
    case hdead => exact rfl
    case hf => exact rfl
    case hm => exact rfl
    case hd => exact rfl
    apply w_alloc (γ := 101)
    case hg => exact (by exact True.intro)
    case hz => exact rfl
    case h1 => exact rfl
    case hdead => exact rfl
    case hf => exact rfl
    case hd => exact rfl
    apply w_assign
    case hg => exact (by exact True.intro)
    case hx => conv => lhs; whnf
    case hd => exact rfl
    refine .done (by exact fun h => Bool.noConfusion h) ?_
    refine awp_seq ?_
    refine awp_seq ?_
    refine awp_region (by kernel_rfl) ?_
    apply w_load_boxagg
    case hg => exact (by exact True.intro)
    case hx => exact rfl
    case hL => exact rfl
    case hsz => conv => lhs; whnf
    case ht => exact rfl
    case hy => conv => lhs; whnf
    case hlen => exact rfl
    case hd => exact rfl
    apply w_call (hcon := rusable_con d)
    case hxs => exact rfl
    case hys => conv => lhs; whnf
    case hle => (refine ⟨(by exact AVal.le_refl _), ?_⟩; exact trivial)
    case hf => exact rfl
    case hLi => (repeat (first | exact trivial | refine ⟨rfl, ?_⟩ | fail)) <;> fail
    case hin => exact rfl
    case hbox => exact rfl
    case hres => exact rfl
    case hnew => (repeat (first | exact trivial | refine ⟨rfl, ?_⟩ | fail)) <;> fail
    case hdead => (repeat (first | exact trivial | refine ⟨rfl, ?_⟩ | fail)) <;> fail
    case hd => exact rfl
    case hg => exact (by exact True.intro)
    apply w_assign
    case hg => exact (by exact True.intro)
    case hx => conv => lhs; whnf
    case hd => exact rfl
    refine .done (by exact fun h => Bool.noConfusion h) ?_
    refine awp_seq ?_
    refine awp_region (by kernel_rfl) ?_
    apply w_move
    case hg => exact (by exact True.intro)
    case hx => conv => lhs; whnf
    case hd => exact rfl
    apply w_bin
    case hg => exact (by exact True.intro)
    case hx => exact rfl
    case hy => exact rfl
    case hr => exact rb_neq
    case h1 => exact rfl
    case hd => exact rfl
    refine .done (by exact fun h => Bool.noConfusion h) ?_
    refine awp_cond_t rfl (by (simp only [List.length_map, List.length_take, List.length_append, decide_eq_true_eq, decide_eq_false_iff_not, ne_eq, Classical.not_not]; omega)) ?_
    refine awp_seq ?_
    refine awp_region (by kernel_rfl) ?_
    apply w_build
    case hg => exact (by exact True.intro)
    case hpl => exact rfl
    case hps => conv => lhs; whnf
    case hz => exact rfl
    case h1 => exact rfl
    case ht => exact rfl
    case hout => conv => lhs; whnf
    case hd => exact rfl
    apply w_move
    case hg => exact (by exact True.intro)
    case hx => conv => lhs; whnf
    case hd => exact rfl
    apply w_store
    case hg => exact (by exact True.intro)
    case hx => exact rfl
    case hL => exact rfl
    case hv => conv => lhs; whnf
    case hc => exact rfl
    case ht => exact rfl
    case hb => exact rfl
    apply w_assign
    case hg => exact (by exact True.intro)
    case hx => conv => lhs; whnf
    case hd => exact rfl
    refine .done (by exact fun h => Bool.noConfusion h) ?_
    exact awp_ret ⟨_, le_box 101 (cs := [ani, ani, ab false]) (cs' := [.d (dSecs []), .d (dPend []), ab false]) rfl ⟨AVal.le_nil 1, AVal.le_nil 2, AVal.le_refl _, trivial⟩ rfl, ⟨⟨101, 0, _, rfl, rfl, .inr ⟨3, _, rfl, rfl, rfl, rfl⟩⟩, rfl, trivial⟩, subL_nil _⟩
end Go.Fw

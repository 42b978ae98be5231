/- The reference's settle. -/
import Derived.Test.YtldiocpkgfpehaaW40t
namespace Go.Fw
open Go Go.Proofs
set_option linter.unusedVariables false
set_option linter.unusedSimpArgs false
theorem set_cut {α β : Type} (f : α → β) : ∀ {l : List α} {a : Nat} (y : α), a < l.length → (l.map f).take a ++ [f y] ++ (l.map f).drop (a + 1) = (l.set a y).map f
  | x :: l, 0, y, _ => by simp
  | x :: l, a + 1, y, h => by
    have := set_cut f (l := l) (a := a) y (by simpa using h)
    simpa using this
set_option maxHeartbeats 8000000 in
theorem rsettle_con (d : Disk) (keep : List Int) (hl : fewL d) (hok : okW d.sectors d.pending) : Con Try.prog 35 [] [aDisk d, .d (dInts keep)] [] (aDisk ⟨settleS d (keepS keep), [], d.on⟩) := by
  have hp := hl.2.1
  refine con_of (xs := [aDisk ⟨settleS d (keepS keep), [], d.on⟩]) Try.func35 rfl Try.ntmps35 rfl rfl rfl (fun E => ?_)
  refine awp_seq ?_
  refine awp_region (by kernel_rfl) ?_
  apply w_box (γ := 100)
  case hg => exact (by exact True.intro)
  case hx => conv => lhs; whnf
  case hc => exact rfl
  case hdead => exact rfl
  case hf => exact rfl
  case hm => exact rfl
  case hd => exact rfl
  apply w_alloc (γ := 101)
  case hg => exact (by exact True.intro)
  case hz => exact rfl
  case h1 => exact rfl
  case hdead => exact rfl
  case hf => exact rfl
  case hd => exact rfl
  refine .done (by exact fun h => Bool.noConfusion h) ?_
  refine awp_seq ?_
  refine awp_region (by kernel_rfl) ?_
  apply w_load_boxagg
  case hg => exact (by exact True.intro)
  case hx => exact rfl
  case hL => exact rfl
  case hsz => conv => lhs; whnf
  case ht => exact rfl
  case hy => conv => lhs; whnf
  case hlen => exact rfl
  case hd => exact rfl
  apply w_call (hcon := rcopy_con d hl)
  case hxs => exact rfl
  case hys => conv => lhs; whnf
  case hle => (refine ⟨(by exact AVal.le_refl _), ?_⟩; exact trivial)
  case hf => exact rfl
  case hLi => (repeat (first | exact trivial | refine ⟨rfl, ?_⟩ | fail)) <;> fail
  case hin => exact rfl
  case hbox => exact rfl
  case hres => exact rfl
  case hnew => (repeat (first | exact trivial | refine ⟨rfl, ?_⟩ | fail)) <;> fail
  case hdead => (repeat (first | exact trivial | refine ⟨rfl, ?_⟩ | fail)) <;> fail
  case hd => exact rfl
  case hg => exact (by exact True.intro)
  apply w_alloc (γ := 102)
  case hg => exact (by exact True.intro)
  case hz => exact rfl
  case h1 => exact rfl
  case hdead => exact rfl
  case hf => exact rfl
  case hd => exact rfl
  apply w_store
  case hg => exact (by exact True.intro)
  case hx => exact rfl
  case hL => exact rfl
  case hv => conv => lhs; whnf
  case hc => exact rfl
  case ht => exact rfl
  case hb => exact rfl
  refine .done (by exact fun h => Bool.noConfusion h) ?_
  refine awp_seq ?_
  refine awp_seq ?_
  refine awp_region (by kernel_rfl) ?_
  apply w_assign
  case hg => exact (by exact True.intro)
  case hx => conv => lhs; whnf
  case hd => exact rfl
  refine .done (by exact fun h => Bool.noConfusion h) ?_
  refine awp_block ?_
  refine awp_loopI (fun k : Nat => k ≤ d.pending.length) (fun k => ⟨50, [(1, .d (dInts keep)), (2, .ptr 100 0), (4, .ptr 101 0), (5, .ptr 102 0), (6, ai k)], [(100, .box [.d (dSecs d.sectors), .d (dPend d.pending), ab d.on]), (101, .box [ani, ani, ab false]), (102, .box [.own 130 d.sectors.length, .own 131 d.pending.length, ab d.on]), (130, .row 1 ((performK d.sectors d.pending (keepS keep) k).map cBytes)), (131, .row 2 (d.pending.map cWr))]⟩) (fun k => d.pending.length - k) 0 (by omega)
    (le_mk rfl ⟨(by (first | ((exact AVal.le_refl _)) | ((exact AVal.le_nil _)) | ((refine AVal.le_agg ?_; ((repeat (first | exact trivial | refine ⟨(by (first | ((exact AVal.le_refl _)) | ((exact AVal.le_nil _)) | ((refine AVal.le_of_eq ?_; (conv => lhs; whnf); (first | ((rfl)) | ((simp <;> fail)) | fail))) | fail)), ?_⟩ | fail)) <;> fail))) | ((refine AVal.le_of_eq ?_; (conv => lhs; whnf); (first | ((rfl)) | ((simp <;> fail)) | fail))) | fail)), (by (first | ((exact AVal.le_refl _)) | ((exact AVal.le_nil _)) | ((refine AVal.le_agg ?_; ((repeat (first | exact trivial | refine ⟨(by (first | ((exact AVal.le_refl _)) | ((exact AVal.le_nil _)) | ((refine AVal.le_of_eq ?_; (conv => lhs; whnf); (first | ((rfl)) | ((simp <;> fail)) | fail))) | fail)), ?_⟩ | fail)) <;> fail))) | ((refine AVal.le_of_eq ?_; (conv => lhs; whnf); (first | ((rfl)) | ((simp <;> fail)) | fail))) | fail)), (by (first | ((exact AVal.le_refl _)) | ((exact AVal.le_nil _)) | ((refine AVal.le_agg ?_; ((repeat (first | exact trivial | refine ⟨(by (first | ((exact AVal.le_refl _)) | ((exact AVal.le_nil _)) | ((refine AVal.le_of_eq ?_; (conv => lhs; whnf); (first | ((rfl)) | ((simp <;> fail)) | fail))) | fail)), ?_⟩ | fail)) <;> fail))) | ((refine AVal.le_of_eq ?_; (conv => lhs; whnf); (first | ((rfl)) | ((simp <;> fail)) | fail))) | fail)), (by (first | ((exact AVal.le_refl _)) | ((exact AVal.le_nil _)) | ((refine AVal.le_agg ?_; ((repeat (first | exact trivial | refine ⟨(by (first | ((exact AVal.le_refl _)) | ((exact AVal.le_nil _)) | ((refine AVal.le_of_eq ?_; (conv => lhs; whnf); (first | ((rfl)) | ((simp <;> fail)) | fail))) | fail)), ?_⟩ | fail)) <;> fail))) | ((refine AVal.le_of_eq ?_; (conv => lhs; whnf); (first | ((rfl)) | ((simp <;> fail)) | fail))) | fail)), (by (first | ((exact AVal.le_refl _)) | ((exact AVal.le_nil _)) | ((refine AVal.le_agg ?_; ((repeat (first | exact trivial | refine ⟨(by (first | ((exact AVal.le_refl _)) | ((exact AVal.le_nil _)) | ((refine AVal.le_of_eq ?_; (conv => lhs; whnf); (first | ((rfl)) | ((simp <;> fail)) | fail))) | fail)), ?_⟩ | fail)) <;> fail))) | ((refine AVal.le_of_eq ?_; (conv => lhs; whnf); (first | ((rfl)) | ((simp <;> fail)) | fail))) | fail)), trivial⟩ ⟨rfl, rfl, rfl, rfl, rfl, trivial⟩) ?_
  intro k hk
  by_cases hlt : k < d.pending.length
  · obtain ⟨⟨at_, b⟩, hw⟩ := get_of_lt (l := d.pending) (k := k) (by omega)
    obtain ⟨b1, b2, b3⟩ := hok.2 _ (List.mem_of_getElem? hw)
    simp only at b1 b2 b3
    obtain ⟨a, rfl⟩ : ∃ a : Nat, at_ = a := ⟨at_.toNat, by omega⟩
    have hpl := performK_length d.sectors d.pending (keepS keep) k
    obtain ⟨r, hr⟩ := get_of_lt (l := performK d.sectors d.pending (keepS keep) k) (k := a) (by omega)
    have hrl := performK_ok (keepS keep) hok k r (List.mem_of_getElem? hr)
    have hc := clampS_le (keepS keep k)
    have hst := perform_step hw hr
    by_cases hkk : k < keep.length
    · obtain ⟨x, hx⟩ := get_of_lt (l := keep) (k := k) hkk
      have hks : keepS keep k = x := by simp [keepS, hx]
      rw [hks] at hc hst
      refine awp_seq ?_
      refine awp_seq ?_
      refine awp_region (by kernel_rfl) ?_
      apply w_move
      case hg => exact (by exact True.intro)
      case hx => conv => lhs; whnf
      case hd => exact rfl
      apply w_field_box
      case hg => exact (by exact True.intro)
      case hx => exact rfl
      case hoff => conv => lhs; whnf
      case hf => exact rfl
      case hd => exact rfl
      apply w_load_box
      case hg => exact (by exact True.intro)
      case hx => exact rfl
      case hL => exact rfl
      case hy => conv => lhs; whnf
      case ht => exact rfl
      case hd => exact rfl
      apply w_len_data
      case hg => exact (by exact True.intro)
      case hx => exact rfl
      case hT => exact rfl
      case hd => exact rfl
      apply w_bin
      case hg => exact (by exact True.intro)
      case hx => exact rfl
      case hy => exact rfl
      case hr => exact rb_lss
      case h1 => exact rfl
      case hd => exact rfl
      refine .done (by exact fun h => Bool.noConfusion h) ?_
      refine awp_cond_t rfl (by (simp only [List.length_map, List.length_take, List.length_append, decide_eq_true_eq, decide_eq_false_iff_not, ne_eq, Classical.not_not]; omega)) ?_
      refine awp_skip ?_
      refine awp_seq ?_
      refine awp_block ?_
      refine awp_seq ?_
      refine awp_region (by kernel_rfl) ?_
      apply w_assign
      case hg => exact (by exact True.intro)
      case hx => conv => lhs; whnf
      case hd => exact rfl
      refine .done (by exact fun h => Bool.noConfusion h) ?_
      refine awp_seq ?_
      refine awp_seq ?_
      refine awp_region (by kernel_rfl) ?_
      apply w_move
      case hg => exact (by exact True.intro)
      case hx => conv => lhs; whnf
      case hd => exact rfl
      apply w_move
      case hg => exact (by exact True.intro)
      case hx => conv => lhs; whnf
      case hd => exact rfl
      apply w_len_data
      case hg => exact (by exact True.intro)
      case hx => exact rfl
      case hT => exact rfl
      case hd => exact rfl
      apply w_bin
      case hg => exact (by exact True.intro)
      case hx => exact rfl
      case hy => exact rfl
      case hr => exact rb_lss
      case h1 => exact rfl
      case hd => exact rfl
      refine .done (by exact fun h => Bool.noConfusion h) ?_
      refine awp_cond_t rfl (by (simp only [List.length_map, List.length_take, List.length_append, decide_eq_true_eq, decide_eq_false_iff_not, ne_eq, Classical.not_not]; omega)) ?_
      refine awp_region (by kernel_rfl) ?_
      apply w_move
      case hg => exact (by exact True.intro)
      case hx => conv => lhs; whnf
      case hd => exact rfl
      apply w_move
      case hg => exact (by exact True.intro)
      case hx => conv => lhs; whnf
      case hd => exact rfl
      apply w_index_data
      case hg => exact (by exact True.intro)
      case hx => exact rfl
      case hi => exact rfl
      case hk => exact rfl
      case hr => exact map_get (by assumption)
      case hT => exact rfl
      case hd => exact rfl
      apply w_load_d
      case hg => exact (by exact True.intro)
      case hx => exact rfl
      case ht => exact rfl
      case hd => exact rfl
      apply w_max
      case hg => exact (by exact True.intro)
      case hx => exact rfl
      case hy => exact rfl
      case hd => exact rfl
      refine w_min_to (clampS x) (clamp_eq x) rfl rfl rfl (by exact True.intro) ?_
      apply w_assign
      case hg => exact (by exact True.intro)
      case hx => conv => lhs; whnf
      case hd => exact rfl
      refine .done (by exact fun h => Bool.noConfusion h) ?_
      refine awp_seq ?_
      refine awp_region (by kernel_rfl) ?_
      apply w_field_box
      case hg => exact (by exact True.intro)
      case hx => exact rfl
      case hoff => conv => lhs; whnf
      case hf => exact rfl
      case hd => exact rfl
      apply w_load_box
      case hg => exact (by exact True.intro)
      case hx => exact rfl
      case hL => exact rfl
      case hy => conv => lhs; whnf
      case ht => exact rfl
      case hd => exact rfl
      apply w_move
      case hg => exact (by exact True.intro)
      case hx => conv => lhs; whnf
      case hd => exact rfl
      apply w_index_data
      case hg => exact (by exact True.intro)
      case hx => exact rfl
      case hi => exact rfl
      case hk => exact rfl
      case hr => exact map_get (by assumption)
      case hT => exact rfl
      case hd => exact rfl
      apply w_load_dagg
      case hg => exact (by exact True.intro)
      case hx => exact rfl
      case hsz => conv => lhs; whnf
      case ht => exact rfl
      case hy => conv => lhs; whnf
      case hlen => exact rfl
      case hd => exact rfl
      apply w_alloc (γ := 103)
      case hg => exact (by exact True.intro)
      case hz => exact rfl
      case h1 => exact rfl
      case hdead => exact rfl
      case hf => exact rfl
      case hd => exact rfl
      apply w_store
      case hg => exact (by exact True.intro)
      case hx => exact rfl
      case hL => exact rfl
      case hv => conv => lhs; whnf
      case hc => exact rfl
      case ht => exact rfl
      case hb => exact rfl
      refine .done (by exact fun h => Bool.noConfusion h) ?_
      refine awp_region (by kernel_rfl) ?_
      apply w_field_box
      case hg => exact (by exact True.intro)
      case hx => exact rfl
      case hoff => conv => lhs; whnf
      case hf => exact rfl
      case hd => exact rfl
      apply w_load_box
      case hg => exact (by exact True.intro)
      case hx => exact rfl
      case hL => exact rfl
      case hy => conv => lhs; whnf
      case ht => exact rfl
      case hd => exact rfl
      apply w_field_box
      case hg => exact (by exact True.intro)
      case hx => exact rfl
      case hoff => conv => lhs; whnf
      case hf => exact rfl
      case hd => exact rfl
      apply w_load_box
      case hg => exact (by exact True.intro)
      case hx => exact rfl
      case hL => exact rfl
      case hy => conv => lhs; whnf
      case ht => exact rfl
      case hd => exact rfl
      apply w_field_box
      case hg => exact (by exact True.intro)
      case hx => exact rfl
      case hoff => conv => lhs; whnf
      case hf => exact rfl
      case hd => exact rfl
      apply w_load_box
      case hg => exact (by exact True.intro)
      case hx => exact rfl
      case hL => exact rfl
      case hy => conv => lhs; whnf
      case ht => exact rfl
      case hd => exact rfl
      apply w_move
      case hg => exact (by exact True.intro)
      case hx => conv => lhs; whnf
      case hd => exact rfl
      apply w_field_box
      case hg => exact (by exact True.intro)
      case hx => exact rfl
      case hoff => conv => lhs; whnf
      case hf => exact rfl
      case hd => exact rfl
      apply w_load_box
      case hg => exact (by exact True.intro)
      case hx => exact rfl
      case hL => exact rfl
      case hy => conv => lhs; whnf
      case ht => exact rfl
      case hd => exact rfl
      apply w_field_box
      case hg => exact (by exact True.intro)
      case hx => exact rfl
      case hoff => conv => lhs; whnf
      case hf => exact rfl
      case hd => exact rfl
      apply w_load_box
      case hg => exact (by exact True.intro)
      case hx => exact rfl
      case hL => exact rfl
      case hy => conv => lhs; whnf
      case ht => exact rfl
      case hd => exact rfl
      apply w_index_own
      case hg => exact (by exact True.intro)
      case hx => exact rfl
      case hL => exact rfl
      case hi => exact rfl
      case hn => (simp only [List.length_map, List.length_take, List.length_append, List.length_cons, List.length_nil, List.length_replicate, List.length_set]; omega)
      case hk => exact rfl
      case hlt => (simp; omega)
      case hT => exact rfl
      case hd => exact rfl
      apply w_load_own
      case hg => exact (by exact True.intro)
      case hx => exact rfl
      case hL => exact rfl
      case hn => (simp only [List.length_map, List.length_take, List.length_append, List.length_cons, List.length_nil, List.length_replicate, List.length_set]; omega)
      case hy => exact map_get (by assumption)
      case ht => exact rfl
      case hd => exact rfl
      apply w_call (hcon := rpart_con b r (clampS x) (by omega) (by omega) (by omega) (by omega))
      case hxs => exact rfl
      case hys => conv => lhs; whnf
      case hle => (refine ⟨(by exact AVal.le_refl _), ?_⟩; refine ⟨(by exact AVal.le_refl _), ?_⟩; refine ⟨(by exact AVal.le_refl _), ?_⟩; exact trivial)
      case hf => exact rfl
      case hLi => (repeat (first | exact trivial | refine ⟨rfl, ?_⟩ | fail)) <;> fail
      case hin => exact rfl
      case hbox => exact rfl
      case hres => exact rfl
      case hnew => (repeat (first | exact trivial | refine ⟨rfl, ?_⟩ | fail)) <;> fail
      case hdead => (repeat (first | exact trivial | refine ⟨rfl, ?_⟩ | fail)) <;> fail
      case hd => exact rfl
      case hg => exact (by exact True.intro)
      apply w_index_own
      case hg => exact (by exact True.intro)
      case hx => exact rfl
      case hL => exact rfl
      case hi => exact rfl
      case hn => (simp only [List.length_map, List.length_take, List.length_append, List.length_cons, List.length_nil, List.length_replicate, List.length_set]; omega)
      case hk => exact rfl
      case hlt => (simp; omega)
      case hT => exact rfl
      case hd => exact rfl
      apply w_store_own
      case hg => exact (by exact True.intro)
      case hx => exact rfl
      case hL => exact rfl
      case hv => exact rfl
      case hn => (simp only [List.length_map, List.length_take, List.length_append, List.length_cons, List.length_nil, List.length_replicate, List.length_set]; omega)
      case hlt => (simp; omega)
      case ht => exact rfl
      refine .done (by exact fun _ => rfl) ?_
      refine awp_region (by kernel_rfl) ?_
      apply w_move
      case hg => exact (by exact True.intro)
      case hx => conv => lhs; whnf
      case hd => exact rfl
      apply w_bin
      case hg => exact (by exact True.intro)
      case hx => exact rfl
      case hy => exact rfl
      case hr => (exact rb_add64 (by unfold in64; omega))
      case h1 => exact rfl
      case hd => exact rfl
      apply w_assign
      case hg => exact (by exact True.intro)
      case hx => conv => lhs; whnf
      case hd => exact rfl
      refine .done (by exact fun h => Bool.noConfusion h) ?_
      refine ⟨k + 1, by omega, by omega, le_mk rfl ⟨(by (first | ((exact AVal.le_refl _)) | ((exact AVal.le_nil _)) | ((refine AVal.le_agg ?_; ((repeat (first | exact trivial | refine ⟨(by (first | ((exact AVal.le_refl _)) | ((exact AVal.le_nil _)) | ((refine AVal.le_of_eq ?_; (conv => lhs; whnf); (first | ((rfl)) | ((simp <;> fail)) | fail))) | fail)), ?_⟩ | fail)) <;> fail))) | ((refine AVal.le_of_eq ?_; (conv => lhs; whnf); (first | ((rfl)) | ((simp <;> fail)) | fail))) | fail)), (by (first | ((exact AVal.le_refl _)) | ((exact AVal.le_nil _)) | ((refine AVal.le_agg ?_; ((repeat (first | exact trivial | refine ⟨(by (first | ((exact AVal.le_refl _)) | ((exact AVal.le_nil _)) | ((refine AVal.le_of_eq ?_; (conv => lhs; whnf); (first | ((rfl)) | ((simp <;> fail)) | fail))) | fail)), ?_⟩ | fail)) <;> fail))) | ((refine AVal.le_of_eq ?_; (conv => lhs; whnf); (first | ((rfl)) | ((simp <;> fail)) | fail))) | fail)), (by (first | ((exact AVal.le_refl _)) | ((exact AVal.le_nil _)) | ((refine AVal.le_agg ?_; ((repeat (first | exact trivial | refine ⟨(by (first | ((exact AVal.le_refl _)) | ((exact AVal.le_nil _)) | ((refine AVal.le_of_eq ?_; (conv => lhs; whnf); (first | ((rfl)) | ((simp <;> fail)) | fail))) | fail)), ?_⟩ | fail)) <;> fail))) | ((refine AVal.le_of_eq ?_; (conv => lhs; whnf); (first | ((rfl)) | ((simp <;> fail)) | fail))) | fail)), (by (first | ((exact AVal.le_refl _)) | ((exact AVal.le_nil _)) | ((refine AVal.le_agg ?_; ((repeat (first | exact trivial | refine ⟨(by (first | ((exact AVal.le_refl _)) | ((exact AVal.le_nil _)) | ((refine AVal.le_of_eq ?_; (conv => lhs; whnf); (first | ((rfl)) | ((simp <;> fail)) | fail))) | fail)), ?_⟩ | fail)) <;> fail))) | ((refine AVal.le_of_eq ?_; (conv => lhs; whnf); (first | ((rfl)) | ((simp <;> fail)) | fail))) | fail)), (by (first | ((exact AVal.le_refl _)) | ((exact AVal.le_nil _)) | ((refine AVal.le_agg ?_; ((repeat (first | exact trivial | refine ⟨(by (first | ((exact AVal.le_refl _)) | ((exact AVal.le_nil _)) | ((refine AVal.le_of_eq ?_; (conv => lhs; whnf); (first | ((rfl)) | ((simp <;> fail)) | fail))) | fail)), ?_⟩ | fail)) <;> fail))) | ((refine AVal.le_of_eq ?_; (conv => lhs; whnf); (first | ((rfl)) | ((simp <;> fail)) | fail))) | fail)), trivial⟩ ⟨rfl, rfl, rfl, ?_, rfl, trivial⟩⟩
      refine Eq.trans (b := AObj.row 1 (List.take a _ ++ [cBytes _] ++ List.drop (a + 1) _)) rfl ?_
      rw [set_cut cBytes _ (by omega), hst]
    · have hks : keepS keep k = 0 := by simp [keepS, Nat.not_lt.1 hkk]
      rw [hks] at hc hst
      refine awp_seq ?_
      refine awp_seq ?_
      refine awp_region (by kernel_rfl) ?_
      apply w_move
      case hg => exact (by exact True.intro)
      case hx => conv => lhs; whnf
      case hd => exact rfl
      apply w_field_box
      case hg => exact (by exact True.intro)
      case hx => exact rfl
      case hoff => conv => lhs; whnf
      case hf => exact rfl
      case hd => exact rfl
      apply w_load_box
      case hg => exact (by exact True.intro)
      case hx => exact rfl
      case hL => exact rfl
      case hy => conv => lhs; whnf
      case ht => exact rfl
      case hd => exact rfl
      apply w_len_data
      case hg => exact (by exact True.intro)
      case hx => exact rfl
      case hT => exact rfl
      case hd => exact rfl
      apply w_bin
      case hg => exact (by exact True.intro)
      case hx => exact rfl
      case hy => exact rfl
      case hr => exact rb_lss
      case h1 => exact rfl
      case hd => exact rfl
      refine .done (by exact fun h => Bool.noConfusion h) ?_
      refine awp_cond_t rfl (by (simp only [List.length_map, List.length_take, List.length_append, decide_eq_true_eq, decide_eq_false_iff_not, ne_eq, Classical.not_not]; omega)) ?_
      refine awp_skip ?_
      refine awp_seq ?_
      refine awp_block ?_
      refine awp_seq ?_
      refine awp_region (by kernel_rfl) ?_
      apply w_assign
      case hg => exact (by exact True.intro)
      case hx => conv => lhs; whnf
      case hd => exact rfl
      refine .done (by exact fun h => Bool.noConfusion h) ?_
      refine awp_seq ?_
      refine awp_seq ?_
      refine awp_region (by kernel_rfl) ?_
      apply w_move
      case hg => exact (by exact True.intro)
      case hx => conv => lhs; whnf
      case hd => exact rfl
      apply w_move
      case hg => exact (by exact True.intro)
      case hx => conv => lhs; whnf
      case hd => exact rfl
      apply w_len_data
      case hg => exact (by exact True.intro)
      case hx => exact rfl
      case hT => exact rfl
      case hd => exact rfl
      apply w_bin
      case hg => exact (by exact True.intro)
      case hx => exact rfl
      case hy => exact rfl
      case hr => exact rb_lss
      case h1 => exact rfl
      case hd => exact rfl
      refine .done (by exact fun h => Bool.noConfusion h) ?_
      refine awp_cond_f rfl (by (simp only [List.length_map, List.length_take, List.length_append, decide_eq_true_eq, decide_eq_false_iff_not, ne_eq, Classical.not_not]; omega)) ?_
      refine awp_skip ?_
      refine awp_seq ?_
      refine awp_region (by kernel_rfl) ?_
      apply w_field_box
      case hg => exact (by exact True.intro)
      case hx => exact rfl
      case hoff => conv => lhs; whnf
      case hf => exact rfl
      case hd => exact rfl
      apply w_load_box
      case hg => exact (by exact True.intro)
      case hx => exact rfl
      case hL => exact rfl
      case hy => conv => lhs; whnf
      case ht => exact rfl
      case hd => exact rfl
      apply w_move
      case hg => exact (by exact True.intro)
      case hx => conv => lhs; whnf
      case hd => exact rfl
      apply w_index_data
      case hg => exact (by exact True.intro)
      case hx => exact rfl
      case hi => exact rfl
      case hk => exact rfl
      case hr => exact map_get (by assumption)
      case hT => exact rfl
      case hd => exact rfl
      apply w_load_dagg
      case hg => exact (by exact True.intro)
      case hx => exact rfl
      case hsz => conv => lhs; whnf
      case ht => exact rfl
      case hy => conv => lhs; whnf
      case hlen => exact rfl
      case hd => exact rfl
      apply w_alloc (γ := 103)
      case hg => exact (by exact True.intro)
      case hz => exact rfl
      case h1 => exact rfl
      case hdead => exact rfl
      case hf => exact rfl
      case hd => exact rfl
      apply w_store
      case hg => exact (by exact True.intro)
      case hx => exact rfl
      case hL => exact rfl
      case hv => conv => lhs; whnf
      case hc => exact rfl
      case ht => exact rfl
      case hb => exact rfl
      refine .done (by exact fun h => Bool.noConfusion h) ?_
      refine awp_region (by kernel_rfl) ?_
      apply w_field_box
      case hg => exact (by exact True.intro)
      case hx => exact rfl
      case hoff => conv => lhs; whnf
      case hf => exact rfl
      case hd => exact rfl
      apply w_load_box
      case hg => exact (by exact True.intro)
      case hx => exact rfl
      case hL => exact rfl
      case hy => conv => lhs; whnf
      case ht => exact rfl
      case hd => exact rfl
      apply w_field_box
      case hg => exact (by exact True.intro)
      case hx => exact rfl
      case hoff => conv => lhs; whnf
      case hf => exact rfl
      case hd => exact rfl
      apply w_load_box
      case hg => exact (by exact True.intro)
      case hx => exact rfl
      case hL => exact rfl
      case hy => conv => lhs; whnf
      case ht => exact rfl
      case hd => exact rfl
      apply w_field_box
      case hg => exact (by exact True.intro)
      case hx => exact rfl
      case hoff => conv => lhs; whnf
      case hf => exact rfl
      case hd => exact rfl
      apply w_load_box
      case hg => exact (by exact True.intro)
      case hx => exact rfl
      case hL => exact rfl
      case hy => conv => lhs; whnf
      case ht => exact rfl
      case hd => exact rfl
      apply w_move
      case hg => exact (by exact True.intro)
      case hx => conv => lhs; whnf
      case hd => exact rfl
      apply w_field_box
      case hg => exact (by exact True.intro)
      case hx => exact rfl
      case hoff => conv => lhs; whnf
      case hf => exact rfl
      case hd => exact rfl
      apply w_load_box
      case hg => exact (by exact True.intro)
      case hx => exact rfl
      case hL => exact rfl
      case hy => conv => lhs; whnf
      case ht => exact rfl
      case hd => exact rfl
      apply w_field_box
      case hg => exact (by exact True.intro)
      case hx => exact rfl
      case hoff => conv => lhs; whnf
      case hf => exact rfl
      case hd => exact rfl
      apply w_load_box
      case hg => exact (by exact True.intro)
      case hx => exact rfl
      case hL => exact rfl
      case hy => conv => lhs; whnf
      case ht => exact rfl
      case hd => exact rfl
      apply w_index_own
      case hg => exact (by exact True.intro)
      case hx => exact rfl
      case hL => exact rfl
      case hi => exact rfl
      case hn => (simp only [List.length_map, List.length_take, List.length_append, List.length_cons, List.length_nil, List.length_replicate, List.length_set]; omega)
      case hk => exact rfl
      case hlt => (simp; omega)
      case hT => exact rfl
      case hd => exact rfl
      apply w_load_own
      case hg => exact (by exact True.intro)
      case hx => exact rfl
      case hL => exact rfl
      case hn => (simp only [List.length_map, List.length_take, List.length_append, List.length_cons, List.length_nil, List.length_replicate, List.length_set]; omega)
      case hy => exact map_get (by assumption)
      case ht => exact rfl
      case hd => exact rfl
      apply w_call (hcon := rpart_con b r 0 (by omega) (by omega) (by omega) (by omega))
      case hxs => exact rfl
      case hys => conv => lhs; whnf
      case hle => (refine ⟨(by exact AVal.le_refl _), ?_⟩; refine ⟨(by exact AVal.le_refl _), ?_⟩; refine ⟨(by exact AVal.le_refl _), ?_⟩; exact trivial)
      case hf => exact rfl
      case hLi => (repeat (first | exact trivial | refine ⟨rfl, ?_⟩ | fail)) <;> fail
      case hin => exact rfl
      case hbox => exact rfl
      case hres => exact rfl
      case hnew => (repeat (first | exact trivial | refine ⟨rfl, ?_⟩ | fail)) <;> fail
      case hdead => (repeat (first | exact trivial | refine ⟨rfl, ?_⟩ | fail)) <;> fail
      case hd => exact rfl
      case hg => exact (by exact True.intro)
      apply w_index_own
      case hg => exact (by exact True.intro)
      case hx => exact rfl
      case hL => exact rfl
      case hi => exact rfl
      case hn => (simp only [List.length_map, List.length_take, List.length_append, List.length_cons, List.length_nil, List.length_replicate, List.length_set]; omega)
      case hk => exact rfl
      case hlt => (simp; omega)
      case hT => exact rfl
      case hd => exact rfl
      apply w_store_own
      case hg => exact (by exact True.intro)
      case hx => exact rfl
      case hL => exact rfl
      case hv => exact rfl
      case hn => (simp only [List.length_map, List.length_take, List.length_append, List.length_cons, List.length_nil, List.length_replicate, List.length_set]; omega)
      case hlt => (simp; omega)
      case ht => exact rfl
      refine .done (by exact fun _ => rfl) ?_
      refine awp_region (by kernel_rfl) ?_
      apply w_move
      case hg => exact (by exact True.intro)
      case hx => conv => lhs; whnf
      case hd => exact rfl
      apply w_bin
      case hg => exact (by exact True.intro)
      case hx => exact rfl
      case hy => exact rfl
      case hr => (exact rb_add64 (by unfold in64; omega))
      case h1 => exact rfl
      case hd => exact rfl
      apply w_assign
      case hg => exact (by exact True.intro)
      case hx => conv => lhs; whnf
      case hd => exact rfl
      refine .done (by exact fun h => Bool.noConfusion h) ?_
      refine ⟨k + 1, by omega, by omega, le_mk rfl ⟨(by (first | ((exact AVal.le_refl _)) | ((exact AVal.le_nil _)) | ((refine AVal.le_agg ?_; ((repeat (first | exact trivial | refine ⟨(by (first | ((exact AVal.le_refl _)) | ((exact AVal.le_nil _)) | ((refine AVal.le_of_eq ?_; (conv => lhs; whnf); (first | ((rfl)) | ((simp <;> fail)) | fail))) | fail)), ?_⟩ | fail)) <;> fail))) | ((refine AVal.le_of_eq ?_; (conv => lhs; whnf); (first | ((rfl)) | ((simp <;> fail)) | fail))) | fail)), (by (first | ((exact AVal.le_refl _)) | ((exact AVal.le_nil _)) | ((refine AVal.le_agg ?_; ((repeat (first | exact trivial | refine ⟨(by (first | ((exact AVal.le_refl _)) | ((exact AVal.le_nil _)) | ((refine AVal.le_of_eq ?_; (conv => lhs; whnf); (first | ((rfl)) | ((simp <;> fail)) | fail))) | fail)), ?_⟩ | fail)) <;> fail))) | ((refine AVal.le_of_eq ?_; (conv => lhs; whnf); (first | ((rfl)) | ((simp <;> fail)) | fail))) | fail)), (by (first | ((exact AVal.le_refl _)) | ((exact AVal.le_nil _)) | ((refine AVal.le_agg ?_; ((repeat (first | exact trivial | refine ⟨(by (first | ((exact AVal.le_refl _)) | ((exact AVal.le_nil _)) | ((refine AVal.le_of_eq ?_; (conv => lhs; whnf); (first | ((rfl)) | ((simp <;> fail)) | fail))) | fail)), ?_⟩ | fail)) <;> fail))) | ((refine AVal.le_of_eq ?_; (conv => lhs; whnf); (first | ((rfl)) | ((simp <;> fail)) | fail))) | fail)), (by (first | ((exact AVal.le_refl _)) | ((exact AVal.le_nil _)) | ((refine AVal.le_agg ?_; ((repeat (first | exact trivial | refine ⟨(by (first | ((exact AVal.le_refl _)) | ((exact AVal.le_nil _)) | ((refine AVal.le_of_eq ?_; (conv => lhs; whnf); (first | ((rfl)) | ((simp <;> fail)) | fail))) | fail)), ?_⟩ | fail)) <;> fail))) | ((refine AVal.le_of_eq ?_; (conv => lhs; whnf); (first | ((rfl)) | ((simp <;> fail)) | fail))) | fail)), (by (first | ((exact AVal.le_refl _)) | ((exact AVal.le_nil _)) | ((refine AVal.le_agg ?_; ((repeat (first | exact trivial | refine ⟨(by (first | ((exact AVal.le_refl _)) | ((exact AVal.le_nil _)) | ((refine AVal.le_of_eq ?_; (conv => lhs; whnf); (first | ((rfl)) | ((simp <;> fail)) | fail))) | fail)), ?_⟩ | fail)) <;> fail))) | ((refine AVal.le_of_eq ?_; (conv => lhs; whnf); (first | ((rfl)) | ((simp <;> fail)) | fail))) | fail)), trivial⟩ ⟨rfl, rfl, rfl, ?_, rfl, trivial⟩⟩
      refine Eq.trans (b := AObj.row 1 (List.take a _ ++ [cBytes _] ++ List.drop (a + 1) _)) rfl ?_
      rw [set_cut cBytes _ (by omega), hst]; rfl
  obtain rfl : k = d.pending.length := by omega
  refine awp_seq ?_
  refine awp_seq ?_
  refine awp_region (by kernel_rfl) ?_
  apply w_move
  case hg => exact (by exact True.intro)
  case hx => conv => lhs; whnf
  case hd => exact rfl
  apply w_field_box
  case hg => exact (by exact True.intro)
  case hx => exact rfl
  case hoff => conv => lhs; whnf
  case hf => exact rfl
  case hd => exact rfl
  apply w_load_box
  case hg => exact (by exact True.intro)
  case hx => exact rfl
  case hL => exact rfl
  case hy => conv => lhs; whnf
  case ht => exact rfl
  case hd => exact rfl
  apply w_len_data
  case hg => exact (by exact True.intro)
  case hx => exact rfl
  case hT => exact rfl
  case hd => exact rfl
  apply w_bin
  case hg => exact (by exact True.intro)
  case hx => exact rfl
  case hy => exact rfl
  case hr => exact rb_lss
  case h1 => exact rfl
  case hd => exact rfl
  refine .done (by exact fun h => Bool.noConfusion h) ?_
  refine awp_cond_f rfl (by (simp only [List.length_map, List.length_take, List.length_append, decide_eq_true_eq, decide_eq_false_iff_not, ne_eq, Classical.not_not]; omega)) ?_
  refine awp_exit ?_
  refine awp_seq ?_
  refine awp_region (by kernel_rfl) ?_
  apply w_field_box
  case hg => exact (by exact True.intro)
  case hx => exact rfl
  case hoff => conv => lhs; whnf
  case hf => exact rfl
  case hd => exact rfl
  apply w_store
  case hg => exact (by exact True.intro)
  case hx => exact rfl
  case hL => exact rfl
  case hv => conv => lhs; whnf
  case hc => exact rfl
  case ht => exact rfl
  case hb => exact rfl
  refine .done (by exact fun h => Bool.noConfusion h) ?_
  refine awp_seq ?_
  refine awp_region (by kernel_rfl) ?_
  apply w_load_boxagg
  case hg => exact (by exact True.intro)
  case hx => exact rfl
  case hL => exact rfl
  case hsz => conv => lhs; whnf
  case ht => exact rfl
  case hy => conv => lhs; whnf
  case hlen => exact rfl
  case hd => exact rfl
  apply w_store
  case hg => exact (by exact True.intro)
  case hx => exact rfl
  case hL => exact rfl
  case hv => conv => lhs; whnf
  case hc => exact rfl
  case ht => exact rfl
  case hb => exact rfl
  refine .done (by exact fun h => Bool.noConfusion h) ?_
  refine awp_le (le_freeze 130 rfl) ?_
  refine awp_le (le_data_box 101 0 130 (cs := [.own 130 d.sectors.length, ani, ab d.on]) (sz := 1) (xs := (settleS d (keepS keep)).map cBytes) rfl rfl rfl (by rw [List.length_map]; exact (performK_length _ _ _ _).symm)) ?_
  exact awp_ret ⟨_, le_box 101 (cs := [.d (dSecs (settleS d (keepS keep))), ani, ab d.on]) (cs' := [.d (dSecs (settleS d (keepS keep))), .d (dPend []), ab d.on]) rfl ⟨AVal.le_refl _, AVal.le_nil 2, AVal.le_refl _, trivial⟩ rfl, ⟨⟨101, 0, _, rfl, rfl, .inr ⟨3, _, rfl, rfl, rfl, rfl⟩⟩, trivial⟩, subL_nil _⟩
end Go.Fw

/- The reference's valid. -/
import Derived.Test.YtfejbhbfmhkndaaG3
import Derived.Test.YtfejbhbfmhkndaaK05l
import Derived.Test.YtfejbhbfmhkndaaG2
namespace Go.Fw
open Go Go.Proofs
set_option linter.unusedVariables false
set_option linter.unusedSimpArgs false
def RValidC (v : Val) : Prop := ∀ m : Nat, m ≤ 8 → Con Try.prog 53 [] [aVal v, ai m] [] (ab (validV m v))
theorem str_strV_at {s : List UInt8} {p : Nat} {c : UInt8} (hc : s[p]? = some c) (hb : okB c = false) : strV s = false := by
  cases hs : strV s with
  | false => rfl
  | true =>
    unfold strV at hs
    rw [List.all_eq_true] at hs
    have := hs c (List.mem_of_getElem? hc)
    unfold okB at hb
    rw [hb] at this; simp at this
set_option maxHeartbeats 8000000 in
theorem rstr_con4 (s : List UInt8) (hs : s.length ≤ 9223372036854775807) : Con Try.prog 68 [] [aStr' s] [] (ab (strV s && decide (s.length ≤ 100))) := by
  refine con_of (xs := [ab (strV s && decide (s.length ≤ 100))]) Try.func68 rfl Try.ntmps68 rfl rfl rfl (fun E => ?_)
  have hsz : (baOf s).size = s.length := rfl
  refine k_s ?_; refine k_4 ?_; refine k_d ?_; refine awp_seq ?_; refine k_s ?_; refine k_4 ?_; refine k_d ?_; refine awp_block ?_
  refine awp_loopI (fun p : Nat => p ≤ s.length ∧ ∀ j, j < p → ∃ b, s[j]? = some b ∧ okB b = true) (fun p => ⟨23, [(0, aStr' s), (3, ai p)], []⟩) (fun p => s.length - p) 0 ⟨by omega, fun j hj => by omega⟩
    (le_mk rfl ⟨(by (first | ((exact AVal.le_refl _)) | ((exact AVal.le_nil _)) | ((refine AVal.le_agg ?_; ((repeat (first | exact trivial | refine ⟨(by (first | ((exact AVal.le_refl _)) | ((exact AVal.le_nil _)) | ((refine AVal.le_of_eq ?_; (conv => lhs; whnf); (first | ((rfl)) | ((simp <;> fail)) | fail))) | fail)), ?_⟩ | fail)) <;> fail))) | ((refine AVal.le_of_eq ?_; (conv => lhs; whnf); (first | ((rfl)) | ((simp <;> fail)) | fail))) | fail)), (by (first | ((exact AVal.le_refl _)) | ((exact AVal.le_nil _)) | ((refine AVal.le_agg ?_; ((repeat (first | exact trivial | refine ⟨(by (first | ((exact AVal.le_refl _)) | ((exact AVal.le_nil _)) | ((refine AVal.le_of_eq ?_; (conv => lhs; whnf); (first | ((rfl)) | ((simp <;> fail)) | fail))) | fail)), ?_⟩ | fail)) <;> fail))) | ((refine AVal.le_of_eq ?_; (conv => lhs; whnf); (first | ((rfl)) | ((simp <;> fail)) | fail))) | fail)), trivial⟩ trivial) ?_
  rintro p ⟨hp, hall⟩
  by_cases hlt : p < s.length
  · obtain ⟨c, hc⟩ := get_of_lt (l := s) hlt
    have hlt' : p < (baOf s).size := hlt
    have hget := ba_get s hc hlt'
    by_cases h1 : c.toNat < 32
    · rw [str_strV_at hc (show okB c = false by unfold okB; exact decide_eq_false (by omega)), Bool.false_and]
      refine awp_seq ?_; refine k_s ?_; refine k_0 ?_; refine k_0 ?_; refine k_89 ?_; refine k_9 ?_; refine k_d ?_; refine k_ct ?_; refine awp_skip ?_; refine awp_seq ?_; refine awp_block ?_; refine k_s ?_; refine k_0 ?_; refine k_0 ?_; refine k_96 ?_; refine k_9 ?_; refine k_0 ?_; refine k_5 ?_; refine k_5 ?_; refine k_5 ?_; refine k_5 ?_; refine k_49 ?_; refine k_d ?_; refine k_rt ?_; refine k_s ?_; refine k_4 ?_; refine k_d ?_
      exact awp_ret ⟨_, St.le_refl _, ⟨rfl, trivial⟩, subL_nil _⟩
    by_cases h2 : 126 < c.toNat
    · rw [str_strV_at hc (show okB c = false by unfold okB; exact decide_eq_false (by omega)), Bool.false_and]
      refine awp_seq ?_; refine k_s ?_; refine k_0 ?_; refine k_0 ?_; refine k_89 ?_; refine k_9 ?_; refine k_d ?_; refine k_ct ?_; refine awp_skip ?_; refine awp_seq ?_; refine awp_block ?_; refine k_s ?_; refine k_0 ?_; refine k_0 ?_; refine k_96 ?_; refine k_9 ?_; refine k_0 ?_; refine k_1 ?_; refine k_1 ?_; refine k_96 ?_ (hg := by exact ⟨rfl, congrArg ab (by (simp only [List.length_map, List.length_take, List.length_append, decide_eq_true_eq, decide_eq_false_iff_not, ne_eq, Classical.not_not]; omega))⟩); refine k_16 ?_; refine k_39 ?_; refine k_d ?_; refine k_ct ?_; refine k_s ?_; refine k_4 ?_; refine k_d ?_
      exact awp_ret ⟨_, St.le_refl _, ⟨rfl, trivial⟩, subL_nil _⟩
    have hok : okB c = true := by unfold okB; exact decide_eq_true (by omega)
    refine awp_seq ?_; refine k_s ?_; refine k_0 ?_; refine k_0 ?_; refine k_89 ?_; refine k_9 ?_; refine k_d ?_; refine k_ct ?_; refine awp_skip ?_; refine awp_seq ?_; refine awp_block ?_; refine k_s ?_; refine k_0 ?_; refine k_0 ?_; refine k_96 ?_; refine k_9 ?_; refine k_0 ?_; refine k_1 ?_; refine k_1 ?_; refine k_96 ?_ (hg := by exact ⟨rfl, congrArg ab (by (simp only [List.length_map, List.length_take, List.length_append, decide_eq_true_eq, decide_eq_false_iff_not, ne_eq, Classical.not_not]; omega))⟩); refine k_16 ?_; refine k_39 ?_; refine k_d ?_; refine k_cf ?_; refine awp_skip ?_; refine k_r ?_; refine k_0 ?_; refine k_14 ?_; refine k_4 ?_; refine k_d ?_
    refine ⟨p + 1, ⟨by omega, fun j hj => ?_⟩, by omega, le_mk rfl ⟨(by (first | ((exact AVal.le_refl _)) | ((exact AVal.le_nil _)) | ((refine AVal.le_agg ?_; ((repeat (first | exact trivial | refine ⟨(by (first | ((exact AVal.le_refl _)) | ((exact AVal.le_nil _)) | ((refine AVal.le_of_eq ?_; (conv => lhs; whnf); (first | ((rfl)) | ((simp <;> fail)) | fail))) | fail)), ?_⟩ | fail)) <;> fail))) | ((refine AVal.le_of_eq ?_; (conv => lhs; whnf); (first | ((rfl)) | ((simp <;> fail)) | fail))) | fail)), (by (first | ((exact AVal.le_refl _)) | ((exact AVal.le_nil _)) | ((refine AVal.le_agg ?_; ((repeat (first | exact trivial | refine ⟨(by (first | ((exact AVal.le_refl _)) | ((exact AVal.le_nil _)) | ((refine AVal.le_of_eq ?_; (conv => lhs; whnf); (first | ((rfl)) | ((simp <;> fail)) | fail))) | fail)), ?_⟩ | fail)) <;> fail))) | ((refine AVal.le_of_eq ?_; (conv => lhs; whnf); (first | ((rfl)) | ((simp <;> fail)) | fail))) | fail)), trivial⟩ trivial⟩
    by_cases e : j = p
    · subst e; exact ⟨c, hc, hok⟩
    · exact hall j (by omega)
  obtain rfl : p = s.length := by omega
  rw [strV_at hall rfl, Bool.true_and]
  refine awp_seq ?_; refine k_s ?_; refine k_0 ?_; refine k_0 ?_; refine k_89 ?_; refine k_9 ?_; refine k_d ?_; refine k_cf ?_; refine awp_exit ?_; refine k_s ?_; refine k_0 ?_; refine k_89 ?_; refine k_7 ?_ (hr := by exact rb_leq); refine k_4 ?_; refine k_d ?_
  exact awp_ret ⟨_, le_slot 2 (y := ab (decide (s.length ≤ 100))) (AVal.le_of_eq (by refine Eq.trans (b := ab (decide (((baOf s).size : Int) ≤ 100))) rfl ?_; exact congrArg ab (decide_eq_decide.2 (by omega)))), ⟨rfl, trivial⟩, subL_nil _⟩
set_option maxHeartbeats 8000000 in
theorem rpath_of (l : List Val) (hl : l.length ≤ 9223372036854775807) (ih : ∀ x ∈ l, RValidC x) : Con Try.prog 69 [] [.d (.sl 5 (cVals l))] [] (ab (pathOk l)) := by
  refine con_of (xs := [ab (pathOk l)]) Try.func69 rfl Try.ntmps69 rfl rfl rfl (fun E => ?_)
  have hlen := cVals_len l
  by_cases h1 : l.length % 2 = 0
  · rw [show pathOk l = false by unfold pathOk; rw [decide_eq_false (by omega), Bool.false_and]]
    refine k_s ?_; refine k_4 ?_; refine k_d ?_; refine awp_seq ?_; refine k_s ?_; refine k_0 ?_; refine k_60 ?_; refine k_30 ?_; refine k_7 ?_; refine k_0 ?_; refine k_5 ?_; refine k_5 ?_; refine k_5 ?_; refine k_49 ?_; refine k_d ?_; refine k_rt ?_; refine k_s ?_; refine k_4 ?_; refine k_d ?_
    exact awp_ret ⟨_, St.le_refl _, ⟨rfl, trivial⟩, subL_nil _⟩
  by_cases h2 : 25 < l.length
  · rw [show pathOk l = false by unfold pathOk; rw [decide_eq_false (by omega), Bool.false_and]]
    refine k_s ?_; refine k_4 ?_; refine k_d ?_; refine awp_seq ?_; refine k_s ?_; refine k_0 ?_; refine k_60 ?_; refine k_30 ?_; refine k_7 ?_; refine k_0 ?_; refine k_1 ?_; refine k_62 ?_; refine k_16 ?_; refine k_39 ?_; refine k_d ?_; refine k_ct ?_; refine k_s ?_; refine k_4 ?_; refine k_d ?_
    exact awp_ret ⟨_, St.le_refl _, ⟨rfl, trivial⟩, subL_nil _⟩
  rw [show pathOk l = pathV 0 (l.drop 0) by unfold pathOk; rw [decide_eq_true (by omega), Bool.true_and]; rfl]
  refine k_s ?_; refine k_4 ?_; refine k_d ?_; refine awp_seq ?_; refine k_s ?_; refine k_0 ?_; refine k_60 ?_; refine k_30 ?_; refine k_7 ?_; refine k_0 ?_; refine k_1 ?_; refine k_62 ?_; refine k_16 ?_; refine k_39 ?_; refine k_d ?_; refine k_cf ?_; refine awp_skip ?_; refine awp_seq ?_; refine k_s ?_; refine k_4 ?_; refine k_d ?_; refine awp_block ?_
  refine awp_loopI (fun i : Nat => i ≤ l.length ∧ pathV 0 (l.drop 0) = pathV i (l.drop i)) (fun i => ⟨38, [(0, .d (.sl 5 (cVals l))), (3, ai i)], []⟩) (fun i => l.length - i) 0 ⟨by omega, rfl⟩
    (le_mk rfl ⟨(by (first | ((exact AVal.le_refl _)) | ((exact AVal.le_nil _)) | ((refine AVal.le_agg ?_; ((repeat (first | exact trivial | refine ⟨(by (first | ((exact AVal.le_refl _)) | ((exact AVal.le_nil _)) | ((refine AVal.le_of_eq ?_; (conv => lhs; whnf); (first | ((rfl)) | ((simp <;> fail)) | fail))) | fail)), ?_⟩ | fail)) <;> fail))) | ((refine AVal.le_of_eq ?_; (conv => lhs; whnf); (first | ((rfl)) | ((simp <;> fail)) | fail))) | fail)), (by (first | ((exact AVal.le_refl _)) | ((exact AVal.le_nil _)) | ((refine AVal.le_agg ?_; ((repeat (first | exact trivial | refine ⟨(by (first | ((exact AVal.le_refl _)) | ((exact AVal.le_nil _)) | ((refine AVal.le_of_eq ?_; (conv => lhs; whnf); (first | ((rfl)) | ((simp <;> fail)) | fail))) | fail)), ?_⟩ | fail)) <;> fail))) | ((refine AVal.le_of_eq ?_; (conv => lhs; whnf); (first | ((rfl)) | ((simp <;> fail)) | fail))) | fail)), trivial⟩ trivial) ?_
  rintro i ⟨hi, hpv⟩
  by_cases hlt : i < l.length
  · obtain ⟨x, hx⟩ := get_of_lt (l := l) hlt
    have hgx := cVals_get hx
    have hvx := ih x (List.mem_of_getElem? hx) 0 (by omega)
    obtain ⟨k, n, d, s, q⟩ := x
    simp only [aVal] at hvx
    rw [cVal] at hgx
    rw [hpv]
    by_cases hpar : i % 2 = 0
    case pos =>
      by_cases hk : k = 5
      case neg =>
        rw [pathV_bad hx (by rw [hpar]; show ¬ k = _; omega)]
        refine awp_seq ?_; refine k_s ?_; refine k_0 ?_; refine k_0 ?_; refine k_60 ?_; refine k_9 ?_; refine k_d ?_; refine k_ct ?_; refine awp_skip ?_; refine awp_seq ?_; refine awp_block ?_; refine k_s ?_; refine k_4 ?_; refine k_d ?_; refine awp_seq ?_; refine k_s ?_; refine k_0 ?_; refine k_76 (op := .rem) (r' := nj 0) (u := nj i) (v := nj 2) ?_ (hr' := by exact congrArg nj hpar); refine k_7 ?_; refine k_d ?_; refine k_rf ?_; refine awp_skip ?_; refine k_s ?_; refine k_0 ?_; refine k_0 ?_; refine k_71 ?_; refine k_91 ?_; refine k_65 ?_; refine k_0 ?_; refine k_8 ?_; refine k_0 ?_; refine k_5 ?_; refine k_5 ?_; refine k_5 ?_; refine k_5 ?_; refine k_5 ?_; refine k_5 ?_; refine k_49 ?_; refine k_d ?_; refine k_rt ?_; refine k_s ?_; refine k_4 ?_; refine k_d ?_
        exact awp_ret ⟨_, St.le_refl _, ⟨rfl, trivial⟩, subL_nil _⟩
      subst hk
      cases hvv : validV 0 (.mk 5 n d s q) with
      | true =>
        rw [hvv] at hvx
        have hgo := pathV_go hx (by rw [hpar]; rfl) hvv
        rw [← hpv]
        refine awp_seq ?_; refine k_s ?_; refine k_0 ?_; refine k_0 ?_; refine k_60 ?_; refine k_9 ?_; refine k_d ?_; refine k_ct ?_; refine awp_skip ?_; refine awp_seq ?_; refine awp_block ?_; refine k_s ?_; refine k_4 ?_; refine k_d ?_; refine awp_seq ?_; refine k_s ?_; refine k_0 ?_; refine k_76 (op := .rem) (r' := nj 0) (u := nj i) (v := nj 2) ?_ (hr' := by exact congrArg nj hpar); refine k_7 ?_; refine k_d ?_; refine k_rf ?_; refine awp_skip ?_; refine k_s ?_; refine k_0 ?_; refine k_0 ?_; refine k_71 ?_; refine k_91 ?_; refine k_65 ?_; refine k_0 ?_; refine k_8 ?_; refine k_0 ?_; refine k_2 ?_; refine k_2 ?_; refine k_71 ?_ (hg := by exact ⟨rfl, rfl⟩); refine k_88 ?_ (hg := by exact ⟨rfl, rfl⟩); refine k_56 (hcon := hvx) ?_ (hle := by refine ⟨(by exact AVal.le_refl _), ?_⟩; refine ⟨(by exact AVal.le_refl _), ?_⟩; exact trivial) (hLi := by (repeat (first | exact trivial | refine ⟨rfl, ?_⟩ | fail)) <;> fail) (hnew := by (repeat (first | exact trivial | refine ⟨rfl, ?_⟩ | fail)) <;> fail) (hdead := by (repeat (first | exact trivial | refine ⟨rfl, ?_⟩ | fail)) <;> fail) (hg := by exact ⟨rfl, rfl⟩)
        refine k_69 ?_; refine k_40 ?_; refine k_d ?_; refine k_rf ?_; refine awp_skip ?_; refine k_r ?_; refine k_0 ?_; refine k_14 ?_; refine k_4 ?_; refine k_d ?_
        exact ⟨i + 1, ⟨by omega, hpv.trans hgo⟩, by omega, le_mk rfl ⟨(by (first | ((exact AVal.le_refl _)) | ((exact AVal.le_nil _)) | ((refine AVal.le_agg ?_; ((repeat (first | exact trivial | refine ⟨(by (first | ((exact AVal.le_refl _)) | ((exact AVal.le_nil _)) | ((refine AVal.le_of_eq ?_; (conv => lhs; whnf); (first | ((rfl)) | ((simp <;> fail)) | fail))) | fail)), ?_⟩ | fail)) <;> fail))) | ((refine AVal.le_of_eq ?_; (conv => lhs; whnf); (first | ((rfl)) | ((simp <;> fail)) | fail))) | fail)), (by (first | ((exact AVal.le_refl _)) | ((exact AVal.le_nil _)) | ((refine AVal.le_agg ?_; ((repeat (first | exact trivial | refine ⟨(by (first | ((exact AVal.le_refl _)) | ((exact AVal.le_nil _)) | ((refine AVal.le_of_eq ?_; (conv => lhs; whnf); (first | ((rfl)) | ((simp <;> fail)) | fail))) | fail)), ?_⟩ | fail)) <;> fail))) | ((refine AVal.le_of_eq ?_; (conv => lhs; whnf); (first | ((rfl)) | ((simp <;> fail)) | fail))) | fail)), trivial⟩ trivial⟩
      | false =>
        rw [hvv] at hvx
        rw [pathV_inv hx hvv]
        refine awp_seq ?_; refine k_s ?_; refine k_0 ?_; refine k_0 ?_; refine k_60 ?_; refine k_9 ?_; refine k_d ?_; refine k_ct ?_; refine awp_skip ?_; refine awp_seq ?_; refine awp_block ?_; refine k_s ?_; refine k_4 ?_; refine k_d ?_; refine awp_seq ?_; refine k_s ?_; refine k_0 ?_; refine k_76 (op := .rem) (r' := nj 0) (u := nj i) (v := nj 2) ?_ (hr' := by exact congrArg nj hpar); refine k_7 ?_; refine k_d ?_; refine k_rf ?_; refine awp_skip ?_; refine k_s ?_; refine k_0 ?_; refine k_0 ?_; refine k_71 ?_; refine k_91 ?_; refine k_65 ?_; refine k_0 ?_; refine k_8 ?_; refine k_0 ?_; refine k_2 ?_; refine k_2 ?_; refine k_71 ?_ (hg := by exact ⟨rfl, rfl⟩); refine k_88 ?_ (hg := by exact ⟨rfl, rfl⟩); refine k_56 (hcon := hvx) ?_ (hle := by refine ⟨(by exact AVal.le_refl _), ?_⟩; refine ⟨(by exact AVal.le_refl _), ?_⟩; exact trivial) (hLi := by (repeat (first | exact trivial | refine ⟨rfl, ?_⟩ | fail)) <;> fail) (hnew := by (repeat (first | exact trivial | refine ⟨rfl, ?_⟩ | fail)) <;> fail) (hdead := by (repeat (first | exact trivial | refine ⟨rfl, ?_⟩ | fail)) <;> fail) (hg := by exact ⟨rfl, rfl⟩)
        refine k_69 ?_; refine k_40 ?_; refine k_d ?_; refine k_rt ?_; refine k_s ?_; refine k_4 ?_; refine k_d ?_
        exact awp_ret ⟨_, St.le_refl _, ⟨rfl, trivial⟩, subL_nil _⟩
    case neg =>
      have hpar : i % 2 = 1 := by omega
      by_cases hk : k = 6
      case neg =>
        rw [pathV_bad hx (by rw [hpar]; show ¬ k = _; omega)]
        refine awp_seq ?_; refine k_s ?_; refine k_0 ?_; refine k_0 ?_; refine k_60 ?_; refine k_9 ?_; refine k_d ?_; refine k_ct ?_; refine awp_skip ?_; refine awp_seq ?_; refine awp_block ?_; refine k_s ?_; refine k_4 ?_; refine k_d ?_; refine awp_seq ?_; refine k_s ?_; refine k_0 ?_; refine k_76 (op := .rem) (r' := nj 1) (u := nj i) (v := nj 2) ?_ (hr' := by exact congrArg nj hpar); refine k_7 ?_; refine k_d ?_; refine k_rt ?_; refine k_r ?_; refine k_4 ?_; refine k_d ?_; refine k_s ?_; refine k_0 ?_; refine k_0 ?_; refine k_71 ?_; refine k_91 ?_; refine k_65 ?_; refine k_0 ?_; refine k_8 ?_; refine k_0 ?_; refine k_5 ?_; refine k_5 ?_; refine k_5 ?_; refine k_5 ?_; refine k_5 ?_; refine k_5 ?_; refine k_49 ?_; refine k_d ?_; refine k_rt ?_; refine k_s ?_; refine k_4 ?_; refine k_d ?_
        exact awp_ret ⟨_, St.le_refl _, ⟨rfl, trivial⟩, subL_nil _⟩
      subst hk
      cases hvv : validV 0 (.mk 6 n d s q) with
      | true =>
        rw [hvv] at hvx
        have hgo := pathV_go hx (by rw [hpar]; rfl) hvv
        rw [← hpv]
        refine awp_seq ?_; refine k_s ?_; refine k_0 ?_; refine k_0 ?_; refine k_60 ?_; refine k_9 ?_; refine k_d ?_; refine k_ct ?_; refine awp_skip ?_; refine awp_seq ?_; refine awp_block ?_; refine k_s ?_; refine k_4 ?_; refine k_d ?_; refine awp_seq ?_; refine k_s ?_; refine k_0 ?_; refine k_76 (op := .rem) (r' := nj 1) (u := nj i) (v := nj 2) ?_ (hr' := by exact congrArg nj hpar); refine k_7 ?_; refine k_d ?_; refine k_rt ?_; refine k_r ?_; refine k_4 ?_; refine k_d ?_; refine k_s ?_; refine k_0 ?_; refine k_0 ?_; refine k_71 ?_; refine k_91 ?_; refine k_65 ?_; refine k_0 ?_; refine k_8 ?_; refine k_0 ?_; refine k_2 ?_; refine k_2 ?_; refine k_71 ?_ (hg := by exact ⟨rfl, rfl⟩); refine k_88 ?_ (hg := by exact ⟨rfl, rfl⟩); refine k_56 (hcon := hvx) ?_ (hle := by refine ⟨(by exact AVal.le_refl _), ?_⟩; refine ⟨(by exact AVal.le_refl _), ?_⟩; exact trivial) (hLi := by (repeat (first | exact trivial | refine ⟨rfl, ?_⟩ | fail)) <;> fail) (hnew := by (repeat (first | exact trivial | refine ⟨rfl, ?_⟩ | fail)) <;> fail) (hdead := by (repeat (first | exact trivial | refine ⟨rfl, ?_⟩ | fail)) <;> fail) (hg := by exact ⟨rfl, rfl⟩)
        refine k_69 ?_; refine k_40 ?_; refine k_d ?_; refine k_rf ?_; refine awp_skip ?_; refine k_r ?_; refine k_0 ?_; refine k_14 ?_; refine k_4 ?_; refine k_d ?_
        exact ⟨i + 1, ⟨by omega, hpv.trans hgo⟩, by omega, le_mk rfl ⟨(by (first | ((exact AVal.le_refl _)) | ((exact AVal.le_nil _)) | ((refine AVal.le_agg ?_; ((repeat (first | exact trivial | refine ⟨(by (first | ((exact AVal.le_refl _)) | ((exact AVal.le_nil _)) | ((refine AVal.le_of_eq ?_; (conv => lhs; whnf); (first | ((rfl)) | ((simp <;> fail)) | fail))) | fail)), ?_⟩ | fail)) <;> fail))) | ((refine AVal.le_of_eq ?_; (conv => lhs; whnf); (first | ((rfl)) | ((simp <;> fail)) | fail))) | fail)), (by (first | ((exact AVal.le_refl _)) | ((exact AVal.le_nil _)) | ((refine AVal.le_agg ?_; ((repeat (first | exact trivial | refine ⟨(by (first | ((exact AVal.le_refl _)) | ((exact AVal.le_nil _)) | ((refine AVal.le_of_eq ?_; (conv => lhs; whnf); (first | ((rfl)) | ((simp <;> fail)) | fail))) | fail)), ?_⟩ | fail)) <;> fail))) | ((refine AVal.le_of_eq ?_; (conv => lhs; whnf); (first | ((rfl)) | ((simp <;> fail)) | fail))) | fail)), trivial⟩ trivial⟩
      | false =>
        rw [hvv] at hvx
        rw [pathV_inv hx hvv]
        refine awp_seq ?_; refine k_s ?_; refine k_0 ?_; refine k_0 ?_; refine k_60 ?_; refine k_9 ?_; refine k_d ?_; refine k_ct ?_; refine awp_skip ?_; refine awp_seq ?_; refine awp_block ?_; refine k_s ?_; refine k_4 ?_; refine k_d ?_; refine awp_seq ?_; refine k_s ?_; refine k_0 ?_; refine k_76 (op := .rem) (r' := nj 1) (u := nj i) (v := nj 2) ?_ (hr' := by exact congrArg nj hpar); refine k_7 ?_; refine k_d ?_; refine k_rt ?_; refine k_r ?_; refine k_4 ?_; refine k_d ?_; refine k_s ?_; refine k_0 ?_; refine k_0 ?_; refine k_71 ?_; refine k_91 ?_; refine k_65 ?_; refine k_0 ?_; refine k_8 ?_; refine k_0 ?_; refine k_2 ?_; refine k_2 ?_; refine k_71 ?_ (hg := by exact ⟨rfl, rfl⟩); refine k_88 ?_ (hg := by exact ⟨rfl, rfl⟩); refine k_56 (hcon := hvx) ?_ (hle := by refine ⟨(by exact AVal.le_refl _), ?_⟩; refine ⟨(by exact AVal.le_refl _), ?_⟩; exact trivial) (hLi := by (repeat (first | exact trivial | refine ⟨rfl, ?_⟩ | fail)) <;> fail) (hnew := by (repeat (first | exact trivial | refine ⟨rfl, ?_⟩ | fail)) <;> fail) (hdead := by (repeat (first | exact trivial | refine ⟨rfl, ?_⟩ | fail)) <;> fail) (hg := by exact ⟨rfl, rfl⟩)
        refine k_69 ?_; refine k_40 ?_; refine k_d ?_; refine k_rt ?_; refine k_s ?_; refine k_4 ?_; refine k_d ?_
        exact awp_ret ⟨_, St.le_refl _, ⟨rfl, trivial⟩, subL_nil _⟩
  obtain rfl : i = l.length := by omega
  rw [hpv, List.drop_length, pathV]
  refine awp_seq ?_; refine k_s ?_; refine k_0 ?_; refine k_0 ?_; refine k_60 ?_; refine k_9 ?_; refine k_d ?_; refine k_cf ?_; refine awp_exit ?_; refine k_s ?_; refine k_4 ?_; refine k_d ?_
  exact awp_ret ⟨_, St.le_refl _, ⟨rfl, trivial⟩, subL_nil _⟩
set_option maxHeartbeats 8000000 in
theorem rlist_of (l : List Val) (m : Nat) (hm : m ≤ 8) (hl : l.length ≤ 9223372036854775807) (ih : ∀ x ∈ l, RValidC x) : Con Try.prog 70 [] [.d (.sl 5 (cVals l)), ai m] [] (ab (decide (1 ≤ m ∧ l.length ≤ 64) && listV (m - 1) l)) := by
  refine con_of (xs := [ab (decide (1 ≤ m ∧ l.length ≤ 64) && listV (m - 1) l)]) Try.func70 rfl Try.ntmps70 rfl rfl rfl (fun E => ?_)
  have hlen := cVals_len l
  by_cases h1 : m < 1
  · rw [decide_eq_false (by omega), Bool.false_and]
    refine k_s ?_; refine k_4 ?_; refine k_d ?_; refine awp_seq ?_; refine k_s ?_; refine k_0 ?_; refine k_9 ?_; refine k_0 ?_; refine k_5 ?_; refine k_5 ?_; refine k_5 ?_; refine k_49 ?_; refine k_d ?_; refine k_rt ?_; refine k_s ?_; refine k_4 ?_; refine k_d ?_
    exact awp_ret ⟨_, St.le_refl _, ⟨rfl, trivial⟩, subL_nil _⟩
  by_cases h2 : 64 < l.length
  · rw [decide_eq_false (by omega), Bool.false_and]
    refine k_s ?_; refine k_4 ?_; refine k_d ?_; refine awp_seq ?_; refine k_s ?_; refine k_0 ?_; refine k_9 ?_; refine k_0 ?_; refine k_1 ?_; refine k_62 ?_; refine k_16 ?_; refine k_39 ?_; refine k_d ?_; refine k_ct ?_; refine k_s ?_; refine k_4 ?_; refine k_d ?_
    exact awp_ret ⟨_, St.le_refl _, ⟨rfl, trivial⟩, subL_nil _⟩
  rw [show (decide (1 ≤ m ∧ l.length ≤ 64) && listV (m - 1) l) = listV (m - 1) (l.drop 0) by rw [decide_eq_true (by omega), Bool.true_and]; rfl]
  refine k_s ?_; refine k_4 ?_; refine k_d ?_; refine awp_seq ?_; refine k_s ?_; refine k_0 ?_; refine k_9 ?_; refine k_0 ?_; refine k_1 ?_; refine k_62 ?_; refine k_16 ?_; refine k_39 ?_; refine k_d ?_; refine k_cf ?_; refine awp_skip ?_; refine awp_seq ?_; refine k_s ?_; refine k_4 ?_; refine k_d ?_; refine awp_block ?_
  refine awp_loopI (fun i : Nat => i ≤ l.length ∧ listV (m - 1) (l.drop 0) = listV (m - 1) (l.drop i)) (fun i => ⟨27, [(0, .d (.sl 5 (cVals l))), (1, ai m), (5, ai i)], []⟩) (fun i => l.length - i) 0 ⟨by omega, rfl⟩
    (le_mk rfl ⟨(by (first | ((exact AVal.le_refl _)) | ((exact AVal.le_nil _)) | ((refine AVal.le_agg ?_; ((repeat (first | exact trivial | refine ⟨(by (first | ((exact AVal.le_refl _)) | ((exact AVal.le_nil _)) | ((refine AVal.le_of_eq ?_; (conv => lhs; whnf); (first | ((rfl)) | ((simp <;> fail)) | fail))) | fail)), ?_⟩ | fail)) <;> fail))) | ((refine AVal.le_of_eq ?_; (conv => lhs; whnf); (first | ((rfl)) | ((simp <;> fail)) | fail))) | fail)), (by (first | ((exact AVal.le_refl _)) | ((exact AVal.le_nil _)) | ((refine AVal.le_agg ?_; ((repeat (first | exact trivial | refine ⟨(by (first | ((exact AVal.le_refl _)) | ((exact AVal.le_nil _)) | ((refine AVal.le_of_eq ?_; (conv => lhs; whnf); (first | ((rfl)) | ((simp <;> fail)) | fail))) | fail)), ?_⟩ | fail)) <;> fail))) | ((refine AVal.le_of_eq ?_; (conv => lhs; whnf); (first | ((rfl)) | ((simp <;> fail)) | fail))) | fail)), (by (first | ((exact AVal.le_refl _)) | ((exact AVal.le_nil _)) | ((refine AVal.le_agg ?_; ((repeat (first | exact trivial | refine ⟨(by (first | ((exact AVal.le_refl _)) | ((exact AVal.le_nil _)) | ((refine AVal.le_of_eq ?_; (conv => lhs; whnf); (first | ((rfl)) | ((simp <;> fail)) | fail))) | fail)), ?_⟩ | fail)) <;> fail))) | ((refine AVal.le_of_eq ?_; (conv => lhs; whnf); (first | ((rfl)) | ((simp <;> fail)) | fail))) | fail)), trivial⟩ trivial) ?_
  rintro i ⟨hi, hpv⟩
  by_cases hlt : i < l.length
  · obtain ⟨x, hx⟩ := get_of_lt (l := l) hlt
    have hgx := cVals_get hx
    have hvx := ih x (List.mem_of_getElem? hx) (m - 1) (by omega)
    have hst := listV_step (m := m - 1) hx
    have e8 : Value.int .i64 ((m : Int) - 1) = nj (m - 1) := by show Value.int .i64 _ = Value.int .i64 _; congr 1; omega
    obtain ⟨k', n', d', s', q'⟩ := x
    simp only [aVal] at hvx
    rw [cVal] at hgx
    cases hvv : validV (m - 1) (.mk k' n' d' s' q') with
    | true =>
      rw [hvv] at hvx
      rw [hvv, Bool.true_and] at hst
      refine awp_seq ?_; refine k_s ?_; refine k_0 ?_; refine k_0 ?_; refine k_60 ?_; refine k_9 ?_; refine k_d ?_; refine k_ct ?_; refine awp_skip ?_; refine awp_seq ?_; refine awp_block ?_; refine k_s ?_; refine k_0 ?_; refine k_0 ?_; refine k_71 ?_; refine k_88 ?_; refine k_0 ?_; refine k_74 (op := .sub) (r' := nj (m - 1)) (u := nj m) (v := nj 1) ?_ (hr' := by exact e8) (hr := by exact rb_sub64 (by unfold in64; omega)); refine k_56 (hcon := hvx) ?_ (hle := by refine ⟨(by exact AVal.le_refl _), ?_⟩; refine ⟨(by exact AVal.le_refl _), ?_⟩; exact trivial) (hLi := by (repeat (first | exact trivial | refine ⟨rfl, ?_⟩ | fail)) <;> fail) (hnew := by (repeat (first | exact trivial | refine ⟨rfl, ?_⟩ | fail)) <;> fail) (hdead := by (repeat (first | exact trivial | refine ⟨rfl, ?_⟩ | fail)) <;> fail); refine k_67 ?_; refine k_d ?_; refine k_rf ?_; refine awp_skip ?_; refine k_r ?_; refine k_0 ?_
      refine k_14 ?_; refine k_4 ?_; refine k_d ?_
      exact ⟨i + 1, ⟨by omega, hpv.trans hst⟩, by omega, le_mk rfl ⟨(by (first | ((exact AVal.le_refl _)) | ((exact AVal.le_nil _)) | ((refine AVal.le_agg ?_; ((repeat (first | exact trivial | refine ⟨(by (first | ((exact AVal.le_refl _)) | ((exact AVal.le_nil _)) | ((refine AVal.le_of_eq ?_; (conv => lhs; whnf); (first | ((rfl)) | ((simp <;> fail)) | fail))) | fail)), ?_⟩ | fail)) <;> fail))) | ((refine AVal.le_of_eq ?_; (conv => lhs; whnf); (first | ((rfl)) | ((simp <;> fail)) | fail))) | fail)), (by (first | ((exact AVal.le_refl _)) | ((exact AVal.le_nil _)) | ((refine AVal.le_agg ?_; ((repeat (first | exact trivial | refine ⟨(by (first | ((exact AVal.le_refl _)) | ((exact AVal.le_nil _)) | ((refine AVal.le_of_eq ?_; (conv => lhs; whnf); (first | ((rfl)) | ((simp <;> fail)) | fail))) | fail)), ?_⟩ | fail)) <;> fail))) | ((refine AVal.le_of_eq ?_; (conv => lhs; whnf); (first | ((rfl)) | ((simp <;> fail)) | fail))) | fail)), (by (first | ((exact AVal.le_refl _)) | ((exact AVal.le_nil _)) | ((refine AVal.le_agg ?_; ((repeat (first | exact trivial | refine ⟨(by (first | ((exact AVal.le_refl _)) | ((exact AVal.le_nil _)) | ((refine AVal.le_of_eq ?_; (conv => lhs; whnf); (first | ((rfl)) | ((simp <;> fail)) | fail))) | fail)), ?_⟩ | fail)) <;> fail))) | ((refine AVal.le_of_eq ?_; (conv => lhs; whnf); (first | ((rfl)) | ((simp <;> fail)) | fail))) | fail)), trivial⟩ trivial⟩
    | false =>
      rw [hvv] at hvx
      rw [hvv, Bool.false_and] at hst
      rw [hpv, hst]
      refine awp_seq ?_; refine k_s ?_; refine k_0 ?_; refine k_0 ?_; refine k_60 ?_; refine k_9 ?_; refine k_d ?_; refine k_ct ?_; refine awp_skip ?_; refine awp_seq ?_; refine awp_block ?_; refine k_s ?_; refine k_0 ?_; refine k_0 ?_; refine k_71 ?_; refine k_88 ?_; refine k_0 ?_; refine k_74 (op := .sub) (r' := nj (m - 1)) (u := nj m) (v := nj 1) ?_ (hr' := by exact e8) (hr := by exact rb_sub64 (by unfold in64; omega)); refine k_56 (hcon := hvx) ?_ (hle := by refine ⟨(by exact AVal.le_refl _), ?_⟩; refine ⟨(by exact AVal.le_refl _), ?_⟩; exact trivial) (hLi := by (repeat (first | exact trivial | refine ⟨rfl, ?_⟩ | fail)) <;> fail) (hnew := by (repeat (first | exact trivial | refine ⟨rfl, ?_⟩ | fail)) <;> fail) (hdead := by (repeat (first | exact trivial | refine ⟨rfl, ?_⟩ | fail)) <;> fail); refine k_67 ?_; refine k_d ?_; refine k_rt ?_; refine k_s ?_; refine k_4 ?_; refine k_d ?_
      exact awp_ret ⟨_, St.le_refl _, ⟨rfl, trivial⟩, subL_nil _⟩
  obtain rfl : i = l.length := by omega
  rw [hpv, List.drop_length, listV]
  refine awp_seq ?_; refine k_s ?_; refine k_0 ?_; refine k_0 ?_; refine k_60 ?_; refine k_9 ?_; refine k_d ?_; refine k_cf ?_; refine awp_exit ?_; refine k_s ?_; refine k_4 ?_; refine k_d ?_
  exact awp_ret ⟨_, St.le_refl _, ⟨rfl, trivial⟩, subL_nil _⟩
end Go.Fw

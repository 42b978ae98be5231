/- Values with few elements: the law's test. -/
import Derived.Test.YtfejbhbfmhkndaaG3
import Derived.Test.YtfejbhbfmhkndaaG6
import Derived.Test.YtfejbhbfmhkndaaL05b
namespace Go.Fw
open Go Go.Proofs
set_option linter.unusedVariables false
set_option linter.unusedSimpArgs false
def SmallC (v : Val) : Prop := ∀ dp : Nat, dp ≤ 100 → Con Try.prog 26 [] [aVal v, ai dp] [] (ab (smallV dp v))
theorem smallL_drop {dp c i : Nat} {l : List Val} {x : Val} (h : l[i]? = some x) {m : Nat} (hm : x.l.length = m) : smallL dp c (l.drop i) = (decide (c + m ≤ 300) && smallV (dp + 1) x && smallL dp (c + m) (l.drop (i + 1))) := by
  subst hm
  rw [List.drop_eq_getElem_cons (List.getElem?_eq_some_iff.1 h).1, (List.getElem?_eq_some_iff.1 h).2, smallL]
set_option maxHeartbeats 8000000 in
theorem small_of (v : Val) (ih : ∀ x ∈ v.l, SmallC x) : SmallC v := by
  obtain ⟨k, n, d, s, l⟩ := v
  intro dp hdp
  simp only [Val.l] at ih
  have hlen := cVals_len l
  have hsz : (baOf s).size = s.length := rfl
  refine con_of (xs := [ab (smallV dp (.mk k n d s l))]) Try.func26 rfl Try.ntmps26 rfl rfl rfl (fun E => ?_)
  by_cases h1 : 300 < s.length
  · rw [show smallV dp (.mk k n d s l) = false by rw [smallV]; simp; omega]
    have h1' : (300 : Int) < (baOf s).size := by omega
    refine k_s ?_; refine k_45 (γ := 100) ?_; refine k_4 ?_; refine k_d ?_; refine awp_seq ?_; refine k_s ?_; refine k_31 ?_; refine k_34 ?_; refine k_89 ?_; refine k_11 ?_; refine k_0 ?_; refine k_5 ?_; refine k_5 ?_; refine k_5 ?_; refine k_5 ?_; refine k_49 ?_; refine k_0 ?_; refine k_6 ?_; refine k_6 ?_; refine k_50 ?_; refine k_d ?_; refine k_rt ?_; refine k_s ?_; refine k_4 ?_; refine k_d ?_
    exact awp_ret ⟨_, St.le_refl _, ⟨rfl, trivial⟩, subL_nil _⟩
  have h1' : ¬ (300 : Int) < (baOf s).size := by omega
  by_cases h2 : 100 < l.length
  · rw [show smallV dp (.mk k n d s l) = false by rw [smallV]; simp; omega]
    have h2' : (100 : Int) < (cVals l).length := by omega
    refine k_s ?_; refine k_45 (γ := 100) ?_; refine k_4 ?_; refine k_d ?_; refine awp_seq ?_; refine k_s ?_; refine k_31 ?_; refine k_34 ?_; refine k_89 ?_; refine k_11 ?_; refine k_0 ?_; refine k_33 ?_; refine k_36 ?_; refine k_62 ?_; refine k_16 ?_; refine k_39 ?_; refine k_0 ?_; refine k_5 ?_; refine k_5 ?_; refine k_49 ?_; refine k_d ?_; refine k_rt ?_; refine k_s ?_; refine k_4 ?_; refine k_d ?_
    exact awp_ret ⟨_, St.le_refl _, ⟨rfl, trivial⟩, subL_nil _⟩
  have h2' : ¬ (100 : Int) < (cVals l).length := by omega
  by_cases h3 : 20 < dp
  · rw [show smallV dp (.mk k n d s l) = false by rw [smallV]; simp; omega]
    refine k_s ?_; refine k_45 (γ := 100) ?_; refine k_4 ?_; refine k_d ?_; refine awp_seq ?_; refine k_s ?_; refine k_31 ?_; refine k_34 ?_; refine k_89 ?_; refine k_11 ?_; refine k_0 ?_; refine k_33 ?_; refine k_36 ?_; refine k_62 ?_; refine k_16 ?_; refine k_39 ?_; refine k_0 ?_; refine k_1 ?_; refine k_16 ?_; refine k_39 ?_; refine k_d ?_; refine k_ct ?_; refine k_s ?_; refine k_4 ?_; refine k_d ?_
    exact awp_ret ⟨_, St.le_refl _, ⟨rfl, trivial⟩, subL_nil _⟩
  rw [show smallV dp (.mk k n d s l) = smallL dp 0 l by rw [smallV]; simp; omega]
  refine k_s ?_; refine k_45 (γ := 100) ?_; refine k_4 ?_; refine k_d ?_; refine awp_seq ?_; refine k_s ?_; refine k_31 ?_; refine k_34 ?_; refine k_89 ?_; refine k_11 ?_; refine k_0 ?_; refine k_33 ?_; refine k_36 ?_; refine k_62 ?_; refine k_16 ?_; refine k_39 ?_; refine k_0 ?_; refine k_1 ?_; refine k_16 ?_; refine k_39 ?_; refine k_d ?_; refine k_cf ?_; refine awp_skip ?_; refine k_s ?_; refine k_4 ?_; refine k_d ?_; refine awp_seq ?_; refine k_s ?_; refine k_4 ?_; refine k_d ?_; refine awp_block ?_
  generalize hG : smallL dp 0 l = G
  refine awp_loopI (ι := Nat × Nat) (fun q => q.1 ≤ l.length ∧ q.2 ≤ 300 ∧ smallL dp q.2 (l.drop q.1) = G) (fun q => ⟨50, [(1, ai dp), (2, .ptr 100 0), (5, ai q.2), (6, ai q.1)], [(100, .box [ai k, ai n, ai d, .d (.v (.string (baOf s))), .d (.sl 5 (cVals l))])]⟩) (fun q => l.length - q.1) (0, 0) ⟨by omega, by omega, hG⟩
    (le_mk rfl ⟨(by (first | ((exact AVal.le_refl _)) | ((exact AVal.le_nil _)) | ((refine AVal.le_agg ?_; ((repeat (first | exact trivial | refine ⟨(by (first | ((exact AVal.le_refl _)) | ((exact AVal.le_nil _)) | ((refine AVal.le_of_eq ?_; (conv => lhs; whnf); (first | ((rfl)) | ((simp <;> fail)) | fail))) | fail)), ?_⟩ | fail)) <;> fail))) | ((refine AVal.le_of_eq ?_; (conv => lhs; whnf); (first | ((rfl)) | ((simp <;> fail)) | fail))) | fail)), (by (first | ((exact AVal.le_refl _)) | ((exact AVal.le_nil _)) | ((refine AVal.le_agg ?_; ((repeat (first | exact trivial | refine ⟨(by (first | ((exact AVal.le_refl _)) | ((exact AVal.le_nil _)) | ((refine AVal.le_of_eq ?_; (conv => lhs; whnf); (first | ((rfl)) | ((simp <;> fail)) | fail))) | fail)), ?_⟩ | fail)) <;> fail))) | ((refine AVal.le_of_eq ?_; (conv => lhs; whnf); (first | ((rfl)) | ((simp <;> fail)) | fail))) | fail)), (by (first | ((exact AVal.le_refl _)) | ((exact AVal.le_nil _)) | ((refine AVal.le_agg ?_; ((repeat (first | exact trivial | refine ⟨(by (first | ((exact AVal.le_refl _)) | ((exact AVal.le_nil _)) | ((refine AVal.le_of_eq ?_; (conv => lhs; whnf); (first | ((rfl)) | ((simp <;> fail)) | fail))) | fail)), ?_⟩ | fail)) <;> fail))) | ((refine AVal.le_of_eq ?_; (conv => lhs; whnf); (first | ((rfl)) | ((simp <;> fail)) | fail))) | fail)), (by (first | ((exact AVal.le_refl _)) | ((exact AVal.le_nil _)) | ((refine AVal.le_agg ?_; ((repeat (first | exact trivial | refine ⟨(by (first | ((exact AVal.le_refl _)) | ((exact AVal.le_nil _)) | ((refine AVal.le_of_eq ?_; (conv => lhs; whnf); (first | ((rfl)) | ((simp <;> fail)) | fail))) | fail)), ?_⟩ | fail)) <;> fail))) | ((refine AVal.le_of_eq ?_; (conv => lhs; whnf); (first | ((rfl)) | ((simp <;> fail)) | fail))) | fail)), trivial⟩ ⟨rfl, trivial⟩) ?_
  rintro ⟨i, c⟩ ⟨hi, hc, hg⟩
  simp only at hi hc hg
  by_cases hil : i < l.length
  case neg =>
    obtain rfl : i = l.length := by omega
    rw [List.drop_length, smallL] at hg
    subst hg
    have hn : ¬ ((l.length : Nat) : Int) < (cVals l).length := by omega
    refine awp_seq ?_; refine k_s ?_; refine k_0 ?_; refine k_31 ?_; refine k_34 ?_; refine k_60 ?_; refine k_9 ?_; refine k_d ?_; refine k_cf ?_; refine awp_exit ?_; refine k_s ?_; refine k_4 ?_; refine k_d ?_
    exact awp_ret ⟨_, St.le_refl _, ⟨rfl, trivial⟩, subL_nil _⟩
  have hn : (i : Int) < (cVals l).length := by omega
  obtain ⟨x, hx⟩ := get_of_lt (l := l) hil
  have hxc : (cVals l)[i]? = some (cVal x) := by rw [cVals_map]; exact map_get hx
  have hcall := ih x (List.mem_of_getElem? hx) (dp + 1) (by omega)
  obtain ⟨xk, xn, xd, xs, xl⟩ := x
  have hxlen := cVals_len xl
  rw [smallL_drop hx (m := xl.length) rfl] at hg
  simp only [aVal, cVal] at hcall hxc
  by_cases hbig : 100 < xl.length
  · have hfalse : smallV (dp + 1) (.mk xk xn xd xs xl) = false := by rw [smallV]; simp; omega
    rw [hfalse] at hcall hg
    simp at hg
    subst hg
    obtain ⟨W, hW⟩ : ∃ W, IntKind.i64.wrap ((c : Int) + (cVals xl).length) = W := ⟨_, rfl⟩
    by_cases hW3 : 300 < W
    · refine awp_seq ?_; refine k_s ?_; refine k_0 ?_; refine k_31 ?_; refine k_34 ?_; refine k_60 ?_; refine k_9 ?_; refine k_d ?_; refine k_ct ?_; refine awp_skip ?_; refine awp_seq ?_; refine awp_block ?_; refine k_s ?_; refine k_0 ?_; refine k_31 ?_; refine k_34 ?_; refine k_0 ?_; refine k_71 ?_; refine k_91 ?_; refine k_65 ?_; refine k_60 ?_; refine k_74 (op := .add) (r' := .int .i64 W) (u := .int .i64 c) (v := .int .i64 ((cVals xl).length : Nat)) ?_ (hr' := by exact congrArg (Value.int .i64) hW) (hr := by exact rb_add); refine k_4 ?_; refine k_d ?_; refine k_s ?_; refine k_0 ?_; refine k_11 ?_; refine k_0 ?_; refine k_5 ?_; refine k_5 ?_; refine k_5 ?_; refine k_5 ?_; refine k_5 ?_; refine k_5 ?_; refine k_5 ?_; refine k_5 ?_; refine k_5 ?_; refine k_49 ?_; refine k_d ?_; refine k_rt ?_; refine k_s ?_; refine k_4 ?_; refine k_d ?_
      exact awp_ret ⟨_, St.le_refl _, ⟨rfl, trivial⟩, subL_nil _⟩
    · refine awp_seq ?_; refine k_s ?_; refine k_0 ?_; refine k_31 ?_; refine k_34 ?_; refine k_60 ?_; refine k_9 ?_; refine k_d ?_; refine k_ct ?_; refine awp_skip ?_; refine awp_seq ?_; refine awp_block ?_; refine k_s ?_; refine k_0 ?_; refine k_31 ?_; refine k_34 ?_; refine k_0 ?_; refine k_71 ?_; refine k_91 ?_; refine k_65 ?_; refine k_60 ?_; refine k_74 (op := .add) (r' := .int .i64 W) (u := .int .i64 c) (v := .int .i64 ((cVals xl).length : Nat)) ?_ (hr' := by exact congrArg (Value.int .i64) hW) (hr := by exact rb_add); refine k_4 ?_; refine k_d ?_; refine k_s ?_; refine k_0 ?_; refine k_11 ?_; refine k_0 ?_; refine k_33 ?_; refine k_36 ?_; refine k_1 ?_; refine k_72 ?_ (hr := by assumption); refine k_88 ?_ (hg := by exact ⟨rfl, congrArg ab (by (simp only [List.length_map, List.length_take, List.length_append, decide_eq_true_eq, decide_eq_false_iff_not, ne_eq, Classical.not_not]; omega))⟩)
      refine k_1 ?_; refine k_12 ?_ (hr := by exact rb_add64 (by unfold in64; omega)); refine k_56 (hcon := hcall) ?_ (hle := by refine ⟨(by exact AVal.le_refl _), ?_⟩; refine ⟨(by exact AVal.le_refl _), ?_⟩; exact trivial) (hLi := by (repeat (first | exact trivial | refine ⟨rfl, ?_⟩ | fail)) <;> fail) (hnew := by (repeat (first | exact trivial | refine ⟨rfl, ?_⟩ | fail)) <;> fail) (hdead := by (repeat (first | exact trivial | refine ⟨rfl, ?_⟩ | fail)) <;> fail) (hg := by exact ⟨rfl, congrArg ab (by (simp only [List.length_map, List.length_take, List.length_append, decide_eq_true_eq, decide_eq_false_iff_not, ne_eq, Classical.not_not]; omega))⟩); refine k_68 ?_; refine k_39 ?_; refine k_d ?_; refine k_rt ?_; refine k_s ?_; refine k_4 ?_; refine k_d ?_
      exact awp_ret ⟨_, St.le_refl _, ⟨rfl, trivial⟩, subL_nil _⟩
  by_cases hsum : 300 < c + xl.length
  · rw [show decide (c + xl.length ≤ 300) = false by simp; omega] at hg
    simp at hg
    subst hg
    have hs3 : (300 : Int) < ((c + (cVals xl).length : Nat) : Int) := by omega
    refine awp_seq ?_; refine k_s ?_; refine k_0 ?_; refine k_31 ?_; refine k_34 ?_; refine k_60 ?_; refine k_9 ?_; refine k_d ?_; refine k_ct ?_; refine awp_skip ?_; refine awp_seq ?_; refine awp_block ?_; refine k_s ?_; refine k_0 ?_; refine k_31 ?_; refine k_34 ?_; refine k_0 ?_; refine k_71 ?_; refine k_91 ?_; refine k_65 ?_; refine k_60 ?_; refine k_74 (op := .add) (r' := nj (c + (cVals xl).length)) (u := nj c) (v := nj (cVals xl).length) ?_; refine k_4 ?_; refine k_d ?_; refine k_s ?_; refine k_0 ?_; refine k_11 ?_; refine k_0 ?_; refine k_5 ?_; refine k_5 ?_; refine k_5 ?_; refine k_5 ?_; refine k_5 ?_; refine k_5 ?_; refine k_5 ?_; refine k_5 ?_; refine k_5 ?_; refine k_49 ?_; refine k_d ?_; refine k_rt ?_; refine k_s ?_; refine k_4 ?_; refine k_d ?_
    exact awp_ret ⟨_, St.le_refl _, ⟨rfl, trivial⟩, subL_nil _⟩
  rw [show decide (c + xl.length ≤ 300) = true by simp; omega] at hg
  have hs3 : ¬ (300 : Int) < ((c + (cVals xl).length : Nat) : Int) := by omega
  cases hsx : smallV (dp + 1) (.mk xk xn xd xs xl) with
  | false =>
    rw [hsx] at hcall hg
    simp at hg
    subst hg
    refine awp_seq ?_; refine k_s ?_; refine k_0 ?_; refine k_31 ?_; refine k_34 ?_; refine k_60 ?_; refine k_9 ?_; refine k_d ?_; refine k_ct ?_; refine awp_skip ?_; refine awp_seq ?_; refine awp_block ?_; refine k_s ?_; refine k_0 ?_; refine k_31 ?_; refine k_34 ?_; refine k_0 ?_; refine k_71 ?_; refine k_91 ?_; refine k_65 ?_; refine k_60 ?_; refine k_74 (op := .add) (r' := nj (c + (cVals xl).length)) (u := nj c) (v := nj (cVals xl).length) ?_; refine k_4 ?_; refine k_d ?_; refine k_s ?_; refine k_0 ?_; refine k_11 ?_; refine k_0 ?_; refine k_33 ?_; refine k_36 ?_; refine k_1 ?_; refine k_72 ?_ (hr := by assumption); refine k_88 ?_ (hg := by exact ⟨rfl, congrArg ab (by (simp only [List.length_map, List.length_take, List.length_append, decide_eq_true_eq, decide_eq_false_iff_not, ne_eq, Classical.not_not]; omega))⟩); refine k_1 ?_; refine k_12 ?_ (hr := by exact rb_add64 (by unfold in64; omega))
    refine k_56 (hcon := hcall) ?_ (hle := by refine ⟨(by exact AVal.le_refl _), ?_⟩; refine ⟨(by exact AVal.le_refl _), ?_⟩; exact trivial) (hLi := by (repeat (first | exact trivial | refine ⟨rfl, ?_⟩ | fail)) <;> fail) (hnew := by (repeat (first | exact trivial | refine ⟨rfl, ?_⟩ | fail)) <;> fail) (hdead := by (repeat (first | exact trivial | refine ⟨rfl, ?_⟩ | fail)) <;> fail) (hg := by exact ⟨rfl, congrArg ab (by (simp only [List.length_map, List.length_take, List.length_append, decide_eq_true_eq, decide_eq_false_iff_not, ne_eq, Classical.not_not]; omega))⟩); refine k_68 ?_; refine k_39 ?_; refine k_d ?_; refine k_rt ?_; refine k_s ?_; refine k_4 ?_; refine k_d ?_
    exact awp_ret ⟨_, St.le_refl _, ⟨rfl, trivial⟩, subL_nil _⟩
  | true =>
    rw [hsx] at hcall hg
    simp only [Bool.true_and, Bool.and_true] at hg
    refine awp_seq ?_; refine k_s ?_; refine k_0 ?_; refine k_31 ?_; refine k_34 ?_; refine k_60 ?_; refine k_9 ?_; refine k_d ?_; refine k_ct ?_; refine awp_skip ?_; refine awp_seq ?_; refine awp_block ?_; refine k_s ?_; refine k_0 ?_; refine k_31 ?_; refine k_34 ?_; refine k_0 ?_; refine k_71 ?_; refine k_91 ?_; refine k_65 ?_; refine k_60 ?_; refine k_74 (op := .add) (r' := nj (c + (cVals xl).length)) (u := nj c) (v := nj (cVals xl).length) ?_; refine k_4 ?_; refine k_d ?_; refine k_s ?_; refine k_0 ?_; refine k_11 ?_; refine k_0 ?_; refine k_33 ?_; refine k_36 ?_; refine k_1 ?_; refine k_72 ?_ (hr := by assumption); refine k_88 ?_ (hg := by exact ⟨rfl, congrArg ab (by (simp only [List.length_map, List.length_take, List.length_append, decide_eq_true_eq, decide_eq_false_iff_not, ne_eq, Classical.not_not]; omega))⟩); refine k_1 ?_; refine k_12 ?_ (hr := by exact rb_add64 (by unfold in64; omega))
    refine k_56 (hcon := hcall) ?_ (hle := by refine ⟨(by exact AVal.le_refl _), ?_⟩; refine ⟨(by exact AVal.le_refl _), ?_⟩; exact trivial) (hLi := by (repeat (first | exact trivial | refine ⟨rfl, ?_⟩ | fail)) <;> fail) (hnew := by (repeat (first | exact trivial | refine ⟨rfl, ?_⟩ | fail)) <;> fail) (hdead := by (repeat (first | exact trivial | refine ⟨rfl, ?_⟩ | fail)) <;> fail) (hg := by exact ⟨rfl, congrArg ab (by (simp only [List.length_map, List.length_take, List.length_append, decide_eq_true_eq, decide_eq_false_iff_not, ne_eq, Classical.not_not]; omega))⟩); refine k_68 ?_; refine k_39 ?_; refine k_d ?_; refine k_rf ?_; refine awp_skip ?_; refine k_r ?_; refine k_0 ?_; refine k_14 ?_; refine k_4 ?_; refine k_d ?_
    exact ⟨(i + 1, c + (cVals xl).length), ⟨by show i + 1 ≤ l.length; omega, by show c + (cVals xl).length ≤ 300; omega, by show smallL dp (c + (cVals xl).length) (l.drop (i + 1)) = G; rw [hxlen]; exact hg⟩, by show l.length - (i + 1) < l.length - i; omega, le_mk rfl ⟨(by (first | ((exact AVal.le_refl _)) | ((exact AVal.le_nil _)) | ((refine AVal.le_agg ?_; ((repeat (first | exact trivial | refine ⟨(by (first | ((exact AVal.le_refl _)) | ((exact AVal.le_nil _)) | ((refine AVal.le_of_eq ?_; (conv => lhs; whnf); (first | ((rfl)) | ((simp <;> fail)) | fail))) | fail)), ?_⟩ | fail)) <;> fail))) | ((refine AVal.le_of_eq ?_; (conv => lhs; whnf); (first | ((rfl)) | ((simp <;> fail)) | fail))) | fail)), (by (first | ((exact AVal.le_refl _)) | ((exact AVal.le_nil _)) | ((refine AVal.le_agg ?_; ((repeat (first | exact trivial | refine ⟨(by (first | ((exact AVal.le_refl _)) | ((exact AVal.le_nil _)) | ((refine AVal.le_of_eq ?_; (conv => lhs; whnf); (first | ((rfl)) | ((simp <;> fail)) | fail))) | fail)), ?_⟩ | fail)) <;> fail))) | ((refine AVal.le_of_eq ?_; (conv => lhs; whnf); (first | ((rfl)) | ((simp <;> fail)) | fail))) | fail)), (by (first | ((exact AVal.le_refl _)) | ((exact AVal.le_nil _)) | ((refine AVal.le_agg ?_; ((repeat (first | exact trivial | refine ⟨(by (first | ((exact AVal.le_refl _)) | ((exact AVal.le_nil _)) | ((refine AVal.le_of_eq ?_; (conv => lhs; whnf); (first | ((rfl)) | ((simp <;> fail)) | fail))) | fail)), ?_⟩ | fail)) <;> fail))) | ((refine AVal.le_of_eq ?_; (conv => lhs; whnf); (first | ((rfl)) | ((simp <;> fail)) | fail))) | fail)), (by (first | ((exact AVal.le_refl _)) | ((exact AVal.le_nil _)) | ((refine AVal.le_agg ?_; ((repeat (first | exact trivial | refine ⟨(by (first | ((exact AVal.le_refl _)) | ((exact AVal.le_nil _)) | ((refine AVal.le_of_eq ?_; (conv => lhs; whnf); (first | ((rfl)) | ((simp <;> fail)) | fail))) | fail)), ?_⟩ | fail)) <;> fail))) | ((refine AVal.le_of_eq ?_; (conv => lhs; whnf); (first | ((rfl)) | ((simp <;> fail)) | fail))) | fail)), trivial⟩ ⟨rfl, trivial⟩⟩
theorem small_con : ∀ v : Val, SmallC v
  | .mk k n d s l => small_of (.mk k n d s l) fun x hx => small_con x
termination_by v => SizeOf.sizeOf v
decreasing_by
  have h1 := List.sizeOf_lt_of_mem (show x ∈ l from hx)
  simp only [Val.mk.sizeOf_spec]
  omega
end Go.Fw

/- Values that are valid. -/
import Derived.Test.YtfejbhbfmhkndaaG3
import Derived.Test.YtfejbhbfmhkndaaK05k
namespace Go.Fw
open Go Go.Proofs
set_option linter.unusedVariables false
set_option linter.unusedSimpArgs false
def aVal : Val → AVal
  | .mk k n d s l => .agg [ai k, ai n, ai d, aStr' s, .d (.sl 5 (cVals l))]
def pathOk (l : List Val) : Bool := decide (l.length % 2 = 1 ∧ l.length ≤ 25) && pathV 0 l
theorem validV_flat {v : Val} (h : v.kind = 5 ∨ v.kind = 6) (m m' : Nat) : validV m v = validV m' v := by
  obtain ⟨k, n, d, s, l⟩ := v
  have h : k = 5 ∨ k = 6 := h
  rw [validV, validV]
  rcases h with rfl | rfl <;> simp
theorem cVals_len (l : List Val) : (cVals l).length = l.length := by rw [cVals_map, List.length_map]
theorem cVals_get {l : List Val} {i : Nat} {x : Val} (h : l[i]? = some x) : (cVals l)[i]? = some (cVal x) := by rw [cVals_map]; exact map_get h
theorem pathV_step {i : Nat} {l : List Val} {x : Val} (h : l[i]? = some x) : pathV i (l.drop i) = (decide (x.kind = 5 + (i % 2 : Nat)) && validV 0 x && pathV (i + 1) (l.drop (i + 1))) := by
  rw [List.drop_eq_getElem_cons (List.getElem?_eq_some_iff.1 h).1, (List.getElem?_eq_some_iff.1 h).2, pathV]
theorem listV_step {m i : Nat} {l : List Val} {x : Val} (h : l[i]? = some x) : listV m (l.drop i) = (validV m x && listV m (l.drop (i + 1))) := by
  rw [List.drop_eq_getElem_cons (List.getElem?_eq_some_iff.1 h).1, (List.getElem?_eq_some_iff.1 h).2, listV]
theorem pathV_bad {i : Nat} {l : List Val} {x : Val} (h : l[i]? = some x) (hk : ¬ x.kind = 5 + (i % 2 : Nat)) : pathV i (l.drop i) = false := by
  rw [pathV_step h, decide_eq_false hk]; rfl
theorem pathV_inv {i : Nat} {l : List Val} {x : Val} (h : l[i]? = some x) (hv : validV 0 x = false) : pathV i (l.drop i) = false := by
  rw [pathV_step h, hv, Bool.and_false]; rfl
theorem pathV_go {i : Nat} {l : List Val} {x : Val} (h : l[i]? = some x) (hk : x.kind = 5 + (i % 2 : Nat)) (hv : validV 0 x = true) : pathV i (l.drop i) = pathV (i + 1) (l.drop (i + 1)) := by
  rw [pathV_step h, decide_eq_true hk, hv]; rfl
def ValidC (v : Val) : Prop := ∀ m : Nat, m ≤ 8 → Con Try.prog 65 [] [aVal v, ai (8 - m : Nat)] [] (ab (validV m v))
def PathC (l : List Val) : Prop := Con Try.prog 81 [] [.d (.sl 5 (cVals l))] [] (ab (pathOk l))
set_option maxHeartbeats 8000000 in
theorem path_of (l : List Val) (ih : ∀ x ∈ l, ValidC x) : PathC l := by
  refine con_of (xs := [ab (pathOk l)]) Try.func81 rfl Try.ntmps81 rfl rfl rfl (fun E => ?_)
  have hlen := cVals_len l
  by_cases h1 : l.length % 2 = 0
  · rw [show pathOk l = false by unfold pathOk; rw [decide_eq_false (by omega), Bool.false_and]]
    refine k_s ?_; refine k_4 ?_; refine k_d ?_; refine awp_seq ?_; refine k_s ?_; refine k_0 ?_; refine k_60 ?_; refine k_30 ?_; refine k_7 ?_; refine k_0 ?_; refine k_5 ?_; refine k_5 ?_; refine k_5 ?_; refine k_49 ?_; refine k_d ?_; refine k_rt ?_; refine k_s ?_; refine k_4 ?_; refine k_d ?_
    exact awp_ret ⟨_, St.le_refl _, ⟨rfl, trivial⟩, subL_nil _⟩
  by_cases h2 : 25 < l.length
  · rw [show pathOk l = false by unfold pathOk; rw [decide_eq_false (by omega), Bool.false_and]]
    refine k_s ?_; refine k_4 ?_; refine k_d ?_; refine awp_seq ?_; refine k_s ?_; refine k_0 ?_; refine k_60 ?_; refine k_30 ?_; refine k_7 ?_; refine k_0 ?_; refine k_1 ?_; refine k_62 ?_; refine k_16 ?_; refine k_39 ?_; refine k_d ?_; refine k_ct ?_; refine k_s ?_; refine k_4 ?_; refine k_d ?_
    exact awp_ret ⟨_, St.le_refl _, ⟨rfl, trivial⟩, subL_nil _⟩
  rw [show pathOk l = pathV 0 (l.drop 0) by unfold pathOk; rw [decide_eq_true (by omega), Bool.true_and]; rfl]
  refine k_s ?_; refine k_4 ?_; refine k_d ?_; refine awp_seq ?_; refine k_s ?_; refine k_0 ?_; refine k_60 ?_; refine k_30 ?_; refine k_7 ?_; refine k_0 ?_; refine k_1 ?_; refine k_62 ?_; refine k_16 ?_; refine k_39 ?_; refine k_d ?_; refine k_cf ?_; refine awp_skip ?_; refine awp_seq ?_; refine k_s ?_; refine k_0 ?_; refine k_60 ?_; refine k_0 ?_; refine k_d ?_; refine awp_block ?_
  refine awp_loopI (fun i : Nat => i ≤ l.length ∧ pathV 0 (l.drop 0) = pathV i (l.drop i)) (fun i => ⟨37, [(15, .d (.sl 5 (cVals l))), (16, ai l.length), (17, ai i)], []⟩) (fun i => l.length - i) 0 ⟨by omega, rfl⟩
    (le_mk rfl ⟨(by (first | ((exact AVal.le_refl _)) | ((exact AVal.le_nil _)) | ((refine AVal.le_agg ?_; ((repeat (first | exact trivial | refine ⟨(by (first | ((exact AVal.le_refl _)) | ((exact AVal.le_nil _)) | ((refine AVal.le_of_eq ?_; (conv => lhs; whnf); (first | ((rfl)) | ((simp <;> fail)) | fail))) | fail)), ?_⟩ | fail)) <;> fail))) | ((refine AVal.le_of_eq ?_; (conv => lhs; whnf); (first | ((rfl)) | ((simp <;> fail)) | fail))) | fail)), (by refine AVal.le_of_eq ?_; refine Eq.trans (b := ai ((cVals l).length : Nat)) rfl ?_; rw [hlen]), (by (first | ((exact AVal.le_refl _)) | ((exact AVal.le_nil _)) | ((refine AVal.le_agg ?_; ((repeat (first | exact trivial | refine ⟨(by (first | ((exact AVal.le_refl _)) | ((exact AVal.le_nil _)) | ((refine AVal.le_of_eq ?_; (conv => lhs; whnf); (first | ((rfl)) | ((simp <;> fail)) | fail))) | fail)), ?_⟩ | fail)) <;> fail))) | ((refine AVal.le_of_eq ?_; (conv => lhs; whnf); (first | ((rfl)) | ((simp <;> fail)) | fail))) | fail)), trivial⟩ trivial) ?_
  rintro i ⟨hi, hpv⟩
  by_cases hlt : i < l.length
  · obtain ⟨x, hx⟩ := get_of_lt (l := l) hlt
    have hgx := cVals_get hx
    have hixl : i < (cVals l).length := by rw [hlen]; exact hlt
    have hvx := ih x (List.mem_of_getElem? hx) 8 (by omega)
    obtain ⟨k, n, d, s, q⟩ := x
    simp only [aVal, Nat.sub_self] at hvx
    rw [cVal] at hgx
    rw [hpv]
    by_cases hpar : i % 2 = 0
    case pos =>
      by_cases hk : k = 5
      case neg =>
        rw [pathV_bad hx (by rw [hpar]; show ¬ k = _; omega)]
        refine k_s ?_; refine k_9 ?_; refine k_d ?_; refine awp_seq ?_; refine k_ct ?_; refine awp_skip ?_; refine awp_seq ?_; refine awp_block ?_; refine k_s ?_; refine k_0 ?_; refine k_71 ?_; refine k_88 ?_; refine k_64 (γ := 100) ?_; refine k_4 ?_; refine k_48 ?_; refine k_d ?_; refine k_s ?_; refine k_82 ?_; refine k_0 ?_; refine k_76 (op := .rem) (r' := nj 0) (u := nj i) (v := nj 2) ?_ (hr' := by exact congrArg nj hpar); refine k_73 ?_; refine k_65 ?_; refine k_4 ?_; refine k_d ?_; refine k_s ?_; refine k_31 ?_; refine k_34 ?_; refine k_0 ?_; refine k_8 ?_; refine k_0 ?_; refine k_5 ?_; refine k_5 ?_; refine k_5 ?_; refine k_49 ?_; refine k_d ?_; refine k_rt ?_; refine k_s ?_; refine k_4 ?_; refine k_d ?_
        exact awp_ret ⟨_, St.le_refl _, ⟨rfl, trivial⟩, subL_nil _⟩
      subst hk
      have hfl := validV_flat (v := .mk 5 n d s q) (.inl rfl) 8 0
      cases hvv : validV 8 (.mk 5 n d s q) with
      | true =>
        rw [hvv] at hvx hfl
        have hgo := pathV_go hx (by rw [hpar]; rfl) hfl.symm
        rw [hgo, ← hgo, ← hpv]
        refine k_s ?_; refine k_9 ?_; refine k_d ?_; refine awp_seq ?_; refine k_ct ?_; refine awp_skip ?_; refine awp_seq ?_; refine awp_block ?_; refine k_s ?_; refine k_0 ?_; refine k_71 ?_; refine k_88 ?_; refine k_64 (γ := 100) ?_; refine k_4 ?_; refine k_48 ?_; refine k_d ?_; refine k_s ?_; refine k_82 ?_; refine k_0 ?_; refine k_76 (op := .rem) (r' := nj 0) (u := nj i) (v := nj 2) ?_ (hr' := by exact congrArg nj hpar); refine k_73 ?_; refine k_65 ?_; refine k_4 ?_; refine k_d ?_; refine k_s ?_; refine k_31 ?_; refine k_34 ?_; refine k_0 ?_; refine k_8 ?_; refine k_0 ?_; refine k_58 ?_; refine k_56 (hcon := hvx) ?_ (hle := by refine ⟨(by exact AVal.le_refl _), ?_⟩; refine ⟨(by exact AVal.le_refl _), ?_⟩; exact trivial) (hLi := by (repeat (first | exact trivial | refine ⟨rfl, ?_⟩ | fail)) <;> fail) (hnew := by (repeat (first | exact trivial | refine ⟨rfl, ?_⟩ | fail)) <;> fail) (hdead := by (repeat (first | exact trivial | refine ⟨rfl, ?_⟩ | fail)) <;> fail) (hg := by exact ⟨rfl, rfl⟩)
        refine k_69 ?_; refine k_40 ?_; refine k_d ?_; refine k_rf ?_; refine awp_skip ?_; refine k_r ?_; refine k_14 ?_; refine k_0 ?_; refine k_d ?_
        exact ⟨i + 1, ⟨by omega, hpv.trans hgo⟩, by omega, le_mk rfl ⟨(by (first | ((exact AVal.le_refl _)) | ((exact AVal.le_nil _)) | ((refine AVal.le_agg ?_; ((repeat (first | exact trivial | refine ⟨(by (first | ((exact AVal.le_refl _)) | ((exact AVal.le_nil _)) | ((refine AVal.le_of_eq ?_; (conv => lhs; whnf); (first | ((rfl)) | ((simp <;> fail)) | fail))) | fail)), ?_⟩ | fail)) <;> fail))) | ((refine AVal.le_of_eq ?_; (conv => lhs; whnf); (first | ((rfl)) | ((simp <;> fail)) | fail))) | fail)), (by (first | ((exact AVal.le_refl _)) | ((exact AVal.le_nil _)) | ((refine AVal.le_agg ?_; ((repeat (first | exact trivial | refine ⟨(by (first | ((exact AVal.le_refl _)) | ((exact AVal.le_nil _)) | ((refine AVal.le_of_eq ?_; (conv => lhs; whnf); (first | ((rfl)) | ((simp <;> fail)) | fail))) | fail)), ?_⟩ | fail)) <;> fail))) | ((refine AVal.le_of_eq ?_; (conv => lhs; whnf); (first | ((rfl)) | ((simp <;> fail)) | fail))) | fail)), (by (first | ((exact AVal.le_refl _)) | ((exact AVal.le_nil _)) | ((refine AVal.le_agg ?_; ((repeat (first | exact trivial | refine ⟨(by (first | ((exact AVal.le_refl _)) | ((exact AVal.le_nil _)) | ((refine AVal.le_of_eq ?_; (conv => lhs; whnf); (first | ((rfl)) | ((simp <;> fail)) | fail))) | fail)), ?_⟩ | fail)) <;> fail))) | ((refine AVal.le_of_eq ?_; (conv => lhs; whnf); (first | ((rfl)) | ((simp <;> fail)) | fail))) | fail)), trivial⟩ trivial⟩
      | false =>
        rw [hvv] at hvx hfl
        rw [pathV_inv hx hfl.symm]
        refine k_s ?_; refine k_9 ?_; refine k_d ?_; refine awp_seq ?_; refine k_ct ?_; refine awp_skip ?_; refine awp_seq ?_; refine awp_block ?_; refine k_s ?_; refine k_0 ?_; refine k_71 ?_; refine k_88 ?_; refine k_64 (γ := 100) ?_; refine k_4 ?_; refine k_48 ?_; refine k_d ?_; refine k_s ?_; refine k_82 ?_; refine k_0 ?_; refine k_76 (op := .rem) (r' := nj 0) (u := nj i) (v := nj 2) ?_ (hr' := by exact congrArg nj hpar); refine k_73 ?_; refine k_65 ?_; refine k_4 ?_; refine k_d ?_; refine k_s ?_; refine k_31 ?_; refine k_34 ?_; refine k_0 ?_; refine k_8 ?_; refine k_0 ?_; refine k_58 ?_; refine k_56 (hcon := hvx) ?_ (hle := by refine ⟨(by exact AVal.le_refl _), ?_⟩; refine ⟨(by exact AVal.le_refl _), ?_⟩; exact trivial) (hLi := by (repeat (first | exact trivial | refine ⟨rfl, ?_⟩ | fail)) <;> fail) (hnew := by (repeat (first | exact trivial | refine ⟨rfl, ?_⟩ | fail)) <;> fail) (hdead := by (repeat (first | exact trivial | refine ⟨rfl, ?_⟩ | fail)) <;> fail) (hg := by exact ⟨rfl, rfl⟩)
        refine k_69 ?_; refine k_40 ?_; refine k_d ?_; refine k_rt ?_; refine k_s ?_; refine k_4 ?_; refine k_d ?_
        exact awp_ret ⟨_, St.le_refl _, ⟨rfl, trivial⟩, subL_nil _⟩
    case neg =>
      have hpar : i % 2 = 1 := by omega
      by_cases hk : k = 6
      case neg =>
        rw [pathV_bad hx (by rw [hpar]; show ¬ k = _; omega)]
        refine k_s ?_; refine k_9 ?_; refine k_d ?_; refine awp_seq ?_; refine k_ct ?_; refine awp_skip ?_; refine awp_seq ?_; refine awp_block ?_; refine k_s ?_; refine k_0 ?_; refine k_71 ?_; refine k_88 ?_; refine k_64 (γ := 100) ?_; refine k_4 ?_; refine k_48 ?_; refine k_d ?_; refine k_s ?_; refine k_82 ?_; refine k_0 ?_; refine k_76 (op := .rem) (r' := nj 1) (u := nj i) (v := nj 2) ?_ (hr' := by exact congrArg nj hpar); refine k_73 ?_; refine k_65 ?_; refine k_4 ?_; refine k_d ?_; refine k_s ?_; refine k_31 ?_; refine k_34 ?_; refine k_0 ?_; refine k_8 ?_; refine k_0 ?_; refine k_5 ?_; refine k_5 ?_; refine k_5 ?_; refine k_49 ?_; refine k_d ?_; refine k_rt ?_; refine k_s ?_; refine k_4 ?_; refine k_d ?_
        exact awp_ret ⟨_, St.le_refl _, ⟨rfl, trivial⟩, subL_nil _⟩
      subst hk
      have hfl := validV_flat (v := .mk 6 n d s q) (.inr rfl) 8 0
      cases hvv : validV 8 (.mk 6 n d s q) with
      | true =>
        rw [hvv] at hvx hfl
        have hgo := pathV_go hx (by rw [hpar]; rfl) hfl.symm
        rw [hgo, ← hgo, ← hpv]
        refine k_s ?_; refine k_9 ?_; refine k_d ?_; refine awp_seq ?_; refine k_ct ?_; refine awp_skip ?_; refine awp_seq ?_; refine awp_block ?_; refine k_s ?_; refine k_0 ?_; refine k_71 ?_; refine k_88 ?_; refine k_64 (γ := 100) ?_; refine k_4 ?_; refine k_48 ?_; refine k_d ?_; refine k_s ?_; refine k_82 ?_; refine k_0 ?_; refine k_76 (op := .rem) (r' := nj 1) (u := nj i) (v := nj 2) ?_ (hr' := by exact congrArg nj hpar); refine k_73 ?_; refine k_65 ?_; refine k_4 ?_; refine k_d ?_; refine k_s ?_; refine k_31 ?_; refine k_34 ?_; refine k_0 ?_; refine k_8 ?_; refine k_0 ?_; refine k_58 ?_; refine k_56 (hcon := hvx) ?_ (hle := by refine ⟨(by exact AVal.le_refl _), ?_⟩; refine ⟨(by exact AVal.le_refl _), ?_⟩; exact trivial) (hLi := by (repeat (first | exact trivial | refine ⟨rfl, ?_⟩ | fail)) <;> fail) (hnew := by (repeat (first | exact trivial | refine ⟨rfl, ?_⟩ | fail)) <;> fail) (hdead := by (repeat (first | exact trivial | refine ⟨rfl, ?_⟩ | fail)) <;> fail) (hg := by exact ⟨rfl, rfl⟩)
        refine k_69 ?_; refine k_40 ?_; refine k_d ?_; refine k_rf ?_; refine awp_skip ?_; refine k_r ?_; refine k_14 ?_; refine k_0 ?_; refine k_d ?_
        exact ⟨i + 1, ⟨by omega, hpv.trans hgo⟩, by omega, le_mk rfl ⟨(by (first | ((exact AVal.le_refl _)) | ((exact AVal.le_nil _)) | ((refine AVal.le_agg ?_; ((repeat (first | exact trivial | refine ⟨(by (first | ((exact AVal.le_refl _)) | ((exact AVal.le_nil _)) | ((refine AVal.le_of_eq ?_; (conv => lhs; whnf); (first | ((rfl)) | ((simp <;> fail)) | fail))) | fail)), ?_⟩ | fail)) <;> fail))) | ((refine AVal.le_of_eq ?_; (conv => lhs; whnf); (first | ((rfl)) | ((simp <;> fail)) | fail))) | fail)), (by (first | ((exact AVal.le_refl _)) | ((exact AVal.le_nil _)) | ((refine AVal.le_agg ?_; ((repeat (first | exact trivial | refine ⟨(by (first | ((exact AVal.le_refl _)) | ((exact AVal.le_nil _)) | ((refine AVal.le_of_eq ?_; (conv => lhs; whnf); (first | ((rfl)) | ((simp <;> fail)) | fail))) | fail)), ?_⟩ | fail)) <;> fail))) | ((refine AVal.le_of_eq ?_; (conv => lhs; whnf); (first | ((rfl)) | ((simp <;> fail)) | fail))) | fail)), (by (first | ((exact AVal.le_refl _)) | ((exact AVal.le_nil _)) | ((refine AVal.le_agg ?_; ((repeat (first | exact trivial | refine ⟨(by (first | ((exact AVal.le_refl _)) | ((exact AVal.le_nil _)) | ((refine AVal.le_of_eq ?_; (conv => lhs; whnf); (first | ((rfl)) | ((simp <;> fail)) | fail))) | fail)), ?_⟩ | fail)) <;> fail))) | ((refine AVal.le_of_eq ?_; (conv => lhs; whnf); (first | ((rfl)) | ((simp <;> fail)) | fail))) | fail)), trivial⟩ trivial⟩
      | false =>
        rw [hvv] at hvx hfl
        rw [pathV_inv hx hfl.symm]
        refine k_s ?_; refine k_9 ?_; refine k_d ?_; refine awp_seq ?_; refine k_ct ?_; refine awp_skip ?_; refine awp_seq ?_; refine awp_block ?_; refine k_s ?_; refine k_0 ?_; refine k_71 ?_; refine k_88 ?_; refine k_64 (γ := 100) ?_; refine k_4 ?_; refine k_48 ?_; refine k_d ?_; refine k_s ?_; refine k_82 ?_; refine k_0 ?_; refine k_76 (op := .rem) (r' := nj 1) (u := nj i) (v := nj 2) ?_ (hr' := by exact congrArg nj hpar); refine k_73 ?_; refine k_65 ?_; refine k_4 ?_; refine k_d ?_; refine k_s ?_; refine k_31 ?_; refine k_34 ?_; refine k_0 ?_; refine k_8 ?_; refine k_0 ?_; refine k_58 ?_; refine k_56 (hcon := hvx) ?_ (hle := by refine ⟨(by exact AVal.le_refl _), ?_⟩; refine ⟨(by exact AVal.le_refl _), ?_⟩; exact trivial) (hLi := by (repeat (first | exact trivial | refine ⟨rfl, ?_⟩ | fail)) <;> fail) (hnew := by (repeat (first | exact trivial | refine ⟨rfl, ?_⟩ | fail)) <;> fail) (hdead := by (repeat (first | exact trivial | refine ⟨rfl, ?_⟩ | fail)) <;> fail) (hg := by exact ⟨rfl, rfl⟩)
        refine k_69 ?_; refine k_40 ?_; refine k_d ?_; refine k_rt ?_; refine k_s ?_; refine k_4 ?_; refine k_d ?_
        exact awp_ret ⟨_, St.le_refl _, ⟨rfl, trivial⟩, subL_nil _⟩
  obtain rfl : i = l.length := by omega
  rw [hpv, List.drop_length, pathV]
  refine k_s ?_; refine k_9 ?_; refine k_d ?_; refine awp_seq ?_; refine k_cf ?_; refine awp_exit ?_; refine k_s ?_; refine k_4 ?_; refine k_d ?_
  exact awp_ret ⟨_, St.le_refl _, ⟨rfl, trivial⟩, subL_nil _⟩
end Go.Fw

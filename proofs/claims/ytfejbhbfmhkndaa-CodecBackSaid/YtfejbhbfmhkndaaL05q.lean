/- The law about the Put functions. -/
import Derived.Test.YtfejbhbfmhkndaaG3
import Derived.Test.YtfejbhbfmhkndaaK06i
namespace Go.Fw
open Go Go.Proofs
set_option linter.unusedVariables false
set_option linter.unusedSimpArgs false
theorem put_bad {v : Val} (h : validV 8 v = false) : putValueS v = [] := by unfold putValueS; rw [h]; rfl
set_option maxHeartbeats 8000000 in
theorem putValue_bad (v : Val) (hv : validV 8 v = false) : Con Try.prog 33 [] [aVal v] [] (.d (dBytes (putValueS v))) := by
  refine con_of (xs := [.d (dBytes (putValueS v))]) Try.func33 rfl Try.ntmps33 rfl rfl rfl (fun E => ?_)
  have hval := validTop_con v
  rw [hv] at hval
  rw [put_bad hv]
  obtain ⟨k, n, d, s, l⟩ := v
  simp only [aVal] at hval ⊢
  refine k_s ?_; refine k_45 (γ := 100) ?_; refine k_4 ?_; refine k_d ?_; refine awp_seq ?_; refine k_s ?_; refine k_57 ?_; refine k_56 (hcon := hval) ?_ (hle := by refine ⟨(by exact AVal.le_refl _), ?_⟩; exact trivial) (hLi := by (repeat (first | exact trivial | refine ⟨rfl, ?_⟩ | fail)) <;> fail) (hnew := by (repeat (first | exact trivial | refine ⟨rfl, ?_⟩ | fail)) <;> fail) (hdead := by (repeat (first | exact trivial | refine ⟨rfl, ?_⟩ | fail)) <;> fail); refine k_67 ?_; refine k_d ?_; refine k_rt ?_; refine k_s ?_; refine k_4 ?_; refine k_d ?_
  exact awp_ret ⟨_, le_slot 2 (y := .d (dBytes [])) (AVal.le_nil 1), ⟨rfl, trivial⟩, subL_nil _⟩
set_option maxHeartbeats 8000000 in
theorem rputValue_bad (v : Val) (hok : strOk v) (hv : validV 8 v = false) : RPutC v := by
  refine con_of (xs := [.d (dBytes (putValueS v))]) Try.func34 rfl Try.ntmps34 rfl rfl rfl (fun E => ?_)
  have hval := rvalidTop_con v hok
  rw [hv] at hval
  rw [put_bad hv]
  obtain ⟨k, n, d, s, l⟩ := v
  simp only [aVal] at hval ⊢
  refine k_s ?_; refine k_45 (γ := 100) ?_; refine k_4 ?_; refine k_d ?_; refine awp_seq ?_; refine k_s ?_; refine k_57 ?_; refine k_56 (hcon := hval) ?_ (hle := by refine ⟨(by exact AVal.le_refl _), ?_⟩; exact trivial) (hLi := by (repeat (first | exact trivial | refine ⟨rfl, ?_⟩ | fail)) <;> fail) (hnew := by (repeat (first | exact trivial | refine ⟨rfl, ?_⟩ | fail)) <;> fail) (hdead := by (repeat (first | exact trivial | refine ⟨rfl, ?_⟩ | fail)) <;> fail); refine k_67 ?_; refine k_d ?_; refine k_rt ?_; refine k_s ?_; refine k_4 ?_; refine k_d ?_
  exact awp_ret ⟨_, le_slot 2 (y := .d (dBytes [])) (AVal.le_nil 1), ⟨rfl, trivial⟩, subL_nil _⟩
theorem putValue_small (v : Val) (dp : Nat) (hs : smallV dp v = true) : Con Try.prog 33 [] [aVal v] [] (.d (dBytes (putValueS v))) := by
  cases hv : validV 8 v with
  | true => exact putValue_con v (put_small hv hs)
  | false => exact putValue_bad v hv
theorem rputValue_small (v : Val) (dp : Nat) (hs : smallV dp v = true) : RPutC v := by
  cases hv : validV 8 v with
  | true => exact rputValue_con v (small_strOk v dp hs) (put_small hv hs)
  | false => exact rputValue_bad v (small_strOk v dp hs) hv
set_option maxHeartbeats 8000000 in
theorem codecPuts_con (n : Int) (hn : -9223372036854775808 ≤ n ∧ n ≤ 9223372036854775807) (s : List UInt8) (v : Val) : Con Try.prog 7 [] [ai n, aStr s, aVal v] [] (ab true) := by
  refine con_of (xs := [ab true]) Try.func7 rfl Try.ntmps7 rfl rfl rfl (fun E => ?_)
  have hsz : (baOf s).size = s.length := rfl
  have hsm := small_con v 0 (by omega)
  by_cases h : 1000 < s.length
  · have h' : (1000 : Int) < (baOf s).size := by omega
    obtain ⟨k, m, d, q, l⟩ := v
    simp only [aVal]
    refine k_s ?_; refine k_45 (γ := 100) ?_; refine k_4 ?_; refine k_d ?_; refine awp_seq ?_; refine k_s ?_; refine k_0 ?_; refine k_89 ?_; refine k_11 ?_; refine k_0 ?_; refine k_5 ?_; refine k_5 ?_; refine k_5 ?_; refine k_49 ?_; refine k_d ?_; refine k_rt ?_; refine k_s ?_; refine k_56 (hcon := alive_con) ?_ (hle := by exact trivial) (hLi := by (repeat (first | exact trivial | refine ⟨rfl, ?_⟩ | fail)) <;> fail) (hnew := by (repeat (first | exact trivial | refine ⟨rfl, ?_⟩ | fail)) <;> fail) (hdead := by (repeat (first | exact trivial | refine ⟨rfl, ?_⟩ | fail)) <;> fail); refine k_4 ?_; refine k_d ?_
    exact awp_ret ⟨_, St.le_refl _, ⟨rfl, trivial⟩, subL_nil _⟩
  have h' : ¬ (1000 : Int) < (baOf s).size := by omega
  cases hs : smallV 0 v with
  | false =>
    rw [hs] at hsm
    obtain ⟨k, m, d, q, l⟩ := v
    simp only [aVal] at hsm ⊢
    refine k_s ?_; refine k_45 (γ := 100) ?_; refine k_4 ?_; refine k_d ?_; refine awp_seq ?_; refine k_s ?_; refine k_0 ?_; refine k_89 ?_; refine k_11 ?_; refine k_0 ?_; refine k_59 ?_; refine k_56 (hcon := hsm) ?_ (hle := by refine ⟨(by exact AVal.le_refl _), ?_⟩; refine ⟨(by exact AVal.le_refl _), ?_⟩; exact trivial) (hLi := by (repeat (first | exact trivial | refine ⟨rfl, ?_⟩ | fail)) <;> fail) (hnew := by (repeat (first | exact trivial | refine ⟨rfl, ?_⟩ | fail)) <;> fail) (hdead := by (repeat (first | exact trivial | refine ⟨rfl, ?_⟩ | fail)) <;> fail) (hg := by exact ⟨rfl, congrArg ab (by (simp only [List.length_map, List.length_take, List.length_append, decide_eq_true_eq, decide_eq_false_iff_not, ne_eq, Classical.not_not]; omega))⟩); refine k_68 ?_; refine k_39 ?_; refine k_d ?_; refine k_rt ?_; refine k_s ?_; refine k_56 (hcon := alive_con) ?_ (hle := by exact trivial) (hLi := by (repeat (first | exact trivial | refine ⟨rfl, ?_⟩ | fail)) <;> fail) (hnew := by (repeat (first | exact trivial | refine ⟨rfl, ?_⟩ | fail)) <;> fail) (hdead := by (repeat (first | exact trivial | refine ⟨rfl, ?_⟩ | fail)) <;> fail)
    refine k_4 ?_; refine k_d ?_
    exact awp_ret ⟨_, St.le_refl _, ⟨rfl, trivial⟩, subL_nil _⟩
  | true =>
    rw [hs] at hsm
    have p1 := putUint_con n hn.2
    have p2 := rputUint_con n hn.2
    have p3 := putInt_con n hn
    have p4 := rputInt_con n hn
    have p5 := putStr_con s (by omega)
    have p6 := rputStr_con s (by omega)
    have p7 := putValue_small v 0 hs
    have p8 := rputValue_small v 0 hs
    unfold RPutC at p8
    generalize putUintS n = u1 at *
    generalize putIntS n = u2 at *
    generalize putStrS s = u3 at *
    generalize putValueS v = u4 at *
    obtain ⟨k, m, d, q, l⟩ := v
    simp only [aVal] at hsm p7 p8 ⊢
    refine k_s ?_; refine k_45 (γ := 100) ?_; refine k_4 ?_; refine k_d ?_; refine awp_seq ?_; refine k_s ?_; refine k_0 ?_; refine k_89 ?_; refine k_11 ?_; refine k_0 ?_; refine k_59 ?_; refine k_56 (hcon := hsm) ?_ (hle := by refine ⟨(by exact AVal.le_refl _), ?_⟩; refine ⟨(by exact AVal.le_refl _), ?_⟩; exact trivial) (hLi := by (repeat (first | exact trivial | refine ⟨rfl, ?_⟩ | fail)) <;> fail) (hnew := by (repeat (first | exact trivial | refine ⟨rfl, ?_⟩ | fail)) <;> fail) (hdead := by (repeat (first | exact trivial | refine ⟨rfl, ?_⟩ | fail)) <;> fail) (hg := by exact ⟨rfl, congrArg ab (by (simp only [List.length_map, List.length_take, List.length_append, decide_eq_true_eq, decide_eq_false_iff_not, ne_eq, Classical.not_not]; omega))⟩); refine k_68 ?_; refine k_39 ?_; refine k_d ?_; refine k_rf ?_; refine awp_skip ?_; refine k_s ?_; refine k_0 ?_; refine k_56 (hcon := p1) ?_ (hle := by refine ⟨(by exact AVal.le_refl _), ?_⟩; exact trivial) (hLi := by (repeat (first | exact trivial | refine ⟨rfl, ?_⟩ | fail)) <;> fail) (hnew := by (repeat (first | exact trivial | refine ⟨rfl, ?_⟩ | fail)) <;> fail) (hdead := by (repeat (first | exact trivial | refine ⟨rfl, ?_⟩ | fail)) <;> fail)
    refine k_86 ?_; refine k_0 ?_; refine k_56 (hcon := p2) ?_ (hle := by refine ⟨(by exact AVal.le_refl _), ?_⟩; exact trivial) (hLi := by (repeat (first | exact trivial | refine ⟨rfl, ?_⟩ | fail)) <;> fail) (hnew := by (repeat (first | exact trivial | refine ⟨rfl, ?_⟩ | fail)) <;> fail) (hdead := by (repeat (first | exact trivial | refine ⟨rfl, ?_⟩ | fail)) <;> fail); refine k_86 ?_; refine k_7 ?_ (hr := by exact rb_eqls); refine k_0 ?_; refine k_3 ?_; refine k_56 (hcon := p3) ?_ (hle := by refine ⟨(by exact AVal.le_refl _), ?_⟩; exact trivial) (hLi := by (repeat (first | exact trivial | refine ⟨rfl, ?_⟩ | fail)) <;> fail) (hnew := by (repeat (first | exact trivial | refine ⟨rfl, ?_⟩ | fail)) <;> fail) (hdead := by (repeat (first | exact trivial | refine ⟨rfl, ?_⟩ | fail)) <;> fail) (hg := by exact ⟨rfl, congrArg ab (by (simp <;> fail))⟩); refine k_87 ?_; refine k_3 ?_; refine k_56 (hcon := p4) ?_ (hle := by refine ⟨(by exact AVal.le_refl _), ?_⟩; exact trivial) (hLi := by (repeat (first | exact trivial | refine ⟨rfl, ?_⟩ | fail)) <;> fail) (hnew := by (repeat (first | exact trivial | refine ⟨rfl, ?_⟩ | fail)) <;> fail) (hdead := by (repeat (first | exact trivial | refine ⟨rfl, ?_⟩ | fail)) <;> fail) (hg := by exact ⟨rfl, congrArg ab (by (simp <;> fail))⟩)
    refine k_87 ?_; refine k_19 ?_ (hr := by exact rb_eqls); refine k_55 ?_; refine k_0 ?_; refine k_3 ?_; refine k_56 (hcon := p5) ?_ (hle := by refine ⟨(by exact AVal.le_refl _), ?_⟩; exact trivial) (hLi := by (repeat (first | exact trivial | refine ⟨rfl, ?_⟩ | fail)) <;> fail) (hnew := by (repeat (first | exact trivial | refine ⟨rfl, ?_⟩ | fail)) <;> fail) (hdead := by (repeat (first | exact trivial | refine ⟨rfl, ?_⟩ | fail)) <;> fail) (hg := by exact ⟨rfl, congrArg ab (by (simp <;> fail))⟩); refine k_87 ?_; refine k_3 ?_; refine k_56 (hcon := p6) ?_ (hle := by refine ⟨(by exact AVal.le_refl _), ?_⟩; exact trivial) (hLi := by (repeat (first | exact trivial | refine ⟨rfl, ?_⟩ | fail)) <;> fail) (hnew := by (repeat (first | exact trivial | refine ⟨rfl, ?_⟩ | fail)) <;> fail) (hdead := by (repeat (first | exact trivial | refine ⟨rfl, ?_⟩ | fail)) <;> fail) (hg := by exact ⟨rfl, congrArg ab (by (simp <;> fail))⟩)
    refine k_87 ?_; refine k_19 ?_ (hr := by exact rb_eqls); refine k_55 ?_; refine k_0 ?_; refine k_57 ?_ (hg := by exact ⟨rfl, congrArg ab (by (simp <;> fail))⟩); refine k_56 (hcon := p7) ?_ (hle := by refine ⟨(by exact AVal.le_refl _), ?_⟩; exact trivial) (hLi := by (repeat (first | exact trivial | refine ⟨rfl, ?_⟩ | fail)) <;> fail) (hnew := by (repeat (first | exact trivial | refine ⟨rfl, ?_⟩ | fail)) <;> fail) (hdead := by (repeat (first | exact trivial | refine ⟨rfl, ?_⟩ | fail)) <;> fail) (hg := by exact ⟨rfl, congrArg ab (by (simp <;> fail))⟩); refine k_87 ?_; refine k_57 ?_ (hg := by exact ⟨rfl, congrArg ab (by (simp <;> fail))⟩); refine k_56 (hcon := p8) ?_ (hle := by refine ⟨(by exact AVal.le_refl _), ?_⟩; exact trivial) (hLi := by (repeat (first | exact trivial | refine ⟨rfl, ?_⟩ | fail)) <;> fail) (hnew := by (repeat (first | exact trivial | refine ⟨rfl, ?_⟩ | fail)) <;> fail) (hdead := by (repeat (first | exact trivial | refine ⟨rfl, ?_⟩ | fail)) <;> fail) (hg := by exact ⟨rfl, congrArg ab (by (simp <;> fail))⟩)
    refine k_87 ?_; refine k_19 ?_ (hr := by exact rb_eqls); refine k_55 ?_; refine k_0 ?_; refine k_56 (hcon := alive_con) ?_ (hle := by exact trivial) (hLi := by (repeat (first | exact trivial | refine ⟨rfl, ?_⟩ | fail)) <;> fail) (hnew := by (repeat (first | exact trivial | refine ⟨rfl, ?_⟩ | fail)) <;> fail) (hdead := by (repeat (first | exact trivial | refine ⟨rfl, ?_⟩ | fail)) <;> fail) (hg := by exact ⟨rfl, congrArg ab (by (simp <;> fail))⟩); refine k_55 ?_; refine k_4 ?_; refine k_e ?_
    exact awp_ret ⟨_, St.le_refl _, ⟨rfl, trivial⟩, subL_nil _⟩
end Go.Fw

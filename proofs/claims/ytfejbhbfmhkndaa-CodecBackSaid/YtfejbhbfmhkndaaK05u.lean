/- Reading values: the reader's parts. -/
import Derived.Test.YtfejbhbfmhkndaaG3
import Derived.Test.YtfejbhbfmhkndaaK05n
import Derived.Test.YtfejbhbfmhkndaaK05i
import Derived.Test.YtfejbhbfmhkndaaG2
namespace Go.Fw
open Go Go.Proofs
set_option linter.unusedVariables false
set_option linter.unusedSimpArgs false
/-- The reader: bytes, offset, error. -/
abbrev oRd (b : List UInt8) (a e : Int) : AObj := .box [.d (dBytes b), ai a, ai e]
set_option maxHeartbeats 8000000 in
theorem fail_con (b : List UInt8) (a e x : Int) : Con Try.prog 71 [(0, oRd b a e)] [.ptr 0 0, ai x] [(0, oRd b a (if e = 0 then x else e))] (.tup []) := by
  refine con_of (xs := []) Try.func71 rfl Try.ntmps71 rfl rfl rfl (fun E => ?_)
  by_cases h : e = 0
  · rw [if_pos h]
    refine k_s ?_; refine k_0 ?_; refine k_46 ?_; refine k_31 ?_; refine k_34 ?_; refine k_7 ?_; refine k_d ?_; refine k_ct ?_; refine k_r ?_; refine k_0 ?_; refine k_0 ?_; refine k_46 ?_; refine k_31 ?_; refine k_48 ?_; refine k_d ?_
    exact (show Ends _ _ _ _ _ from ⟨_, St.le_refl _, trivial, subL_of ⟨rfl, trivial⟩⟩)
  · rw [if_neg h]
    refine k_s ?_; refine k_0 ?_; refine k_46 ?_; refine k_31 ?_; refine k_34 ?_; refine k_7 ?_; refine k_d ?_; refine k_cf ?_; refine awp_skip ?_
    exact (show Ends _ _ _ _ _ from ⟨_, St.le_refl _, trivial, subL_of ⟨rfl, trivial⟩⟩)
set_option maxHeartbeats 8000000 in
theorem num_con (b : List UInt8) (a e : Int) (hb : b.length ≤ 281474976710656) : Con Try.prog 55 [(0, oRd b a e)] [.ptr 0 0] [(0, if e = 0 then oRd b (intS b a).2.1 (intS b a).2.2 else oRd b a e)] (ai (if e = 0 then (intS b a).1 else 0)) := by
  refine con_of (xs := [ai (if e = 0 then (intS b a).1 else 0)]) Try.func55 rfl Try.ntmps55 rfl rfl rfl (fun E => ?_)
  by_cases h : e = 0
  · rw [if_pos h, if_pos h]
    refine k_s ?_; refine k_4 ?_; refine k_d ?_; refine awp_seq ?_; refine k_s ?_; refine k_0 ?_; refine k_46 ?_; refine k_31 ?_; refine k_34 ?_; refine k_8 ?_; refine k_d ?_; refine k_cf ?_; refine awp_skip ?_; refine k_s ?_; refine k_0 ?_; refine k_46 ?_; refine k_31 ?_; refine k_34 ?_; refine k_0 ?_; refine k_46 ?_; refine k_31 ?_; refine k_34 ?_; refine k_56 (hcon := int_con b a hb) ?_ (hle := by refine ⟨(by exact AVal.le_refl _), ?_⟩; refine ⟨(by exact AVal.le_refl _), ?_⟩; exact trivial) (hLi := by (repeat (first | exact trivial | refine ⟨rfl, ?_⟩ | fail)) <;> fail) (hnew := by (repeat (first | exact trivial | refine ⟨rfl, ?_⟩ | fail)) <;> fail) (hdead := by (repeat (first | exact trivial | refine ⟨rfl, ?_⟩ | fail)) <;> fail); refine k_0 ?_; refine k_37 ?_; refine k_37 ?_; refine k_37 ?_; refine k_4 ?_; refine k_4 ?_; refine k_4 ?_; refine k_e ?_; refine k_s ?_; refine k_0 ?_; refine k_0 ?_
    refine k_0 ?_; refine k_0 ?_; refine k_46 ?_; refine k_31 ?_; refine k_48 ?_; refine k_46 ?_; refine k_31 ?_; refine k_48 ?_; refine k_d ?_; refine k_s ?_; refine k_0 ?_; refine k_4 ?_; refine k_d ?_
    exact awp_ret ⟨_, St.le_refl _, ⟨rfl, trivial⟩, subL_of ⟨rfl, trivial⟩⟩
  · rw [if_neg h, if_neg h]
    refine k_s ?_; refine k_4 ?_; refine k_d ?_; refine awp_seq ?_; refine k_s ?_; refine k_0 ?_; refine k_46 ?_; refine k_31 ?_; refine k_34 ?_; refine k_8 ?_; refine k_d ?_; refine k_ct ?_; refine k_s ?_; refine k_4 ?_; refine k_d ?_
    exact awp_ret ⟨_, St.le_refl _, ⟨rfl, trivial⟩, subL_of ⟨rfl, trivial⟩⟩
end Go.Fw

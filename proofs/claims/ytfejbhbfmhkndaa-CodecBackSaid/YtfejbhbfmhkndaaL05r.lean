/- The law about reading back. -/
import Derived.Test.YtfejbhbfmhkndaaG3
import Derived.Test.YtfejbhbfmhkndaaL05q
import Derived.Test.YtfejbhbfmhkndaaK06h
import Derived.Test.YtfejbhbfmhkndaaG6
namespace Go.Fw
open Go Go.Proofs
set_option linter.unusedVariables false
set_option linter.unusedSimpArgs false
set_option maxHeartbeats 8000000 in
theorem around_con (f b k : List UInt8) (hf : f.length ≤ 1000) (hb : b.length ≤ 35184372088832) (hk : k.length ≤ 1000) : Con Try.prog 35 [] [.d (dBytes f), .d (dBytes b), .d (dBytes k)] [] (.d (dBytes (f ++ b ++ k))) := by
  have own : Con Try.prog 35 [] [.d (dBytes f), .d (dBytes b), .d (dBytes k)] [(130, .row 1 ((f ++ b ++ k).map cByte))] (.own 130 ((f ++ b ++ k).map cByte).length) := by
    refine con_of (xs := [.own 130 ((f ++ b ++ k).map cByte).length]) Try.func35 rfl Try.ntmps35 rfl rfl rfl (fun E => ?_)
    refine k_s ?_; refine k_4 ?_; refine k_d ?_; refine k_s ?_; refine k_90 (γ := 130) ?_; refine k_0 ?_; refine k_81 ?_; refine k_4 ?_; refine k_d ?_; refine k_s ?_; refine k_0 ?_; refine k_0 ?_; refine k_80 ?_; refine k_4 ?_; refine k_d ?_; refine k_s ?_; refine k_0 ?_; refine k_0 ?_; refine k_80 ?_; refine k_4 ?_; refine k_d ?_
    refine awp_ret ⟨_, le_slot 6 (y := .own 130 ((f ++ b ++ k).map cByte).length) (AVal.le_of_eq ?_), ⟨rfl, trivial⟩, subL_of ⟨?_, trivial⟩⟩
    · refine Eq.trans (b := AVal.own 130 (_ + _)) rfl ?_
      congr 1
      simp only [List.length_append, List.length_map, List.length_cons, List.length_nil] <;> omega
    · refine Eq.trans (b := AObj.row 1 (_ ++ _)) rfl ?_
      simp only [List.map_append, List.map_cons, List.map_nil, List.append_assoc, List.cons_append, List.nil_append]
  exact own.data (by simp)
end Go.Fw

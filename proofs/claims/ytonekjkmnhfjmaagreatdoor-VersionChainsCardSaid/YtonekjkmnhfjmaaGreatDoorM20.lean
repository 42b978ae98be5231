/- The order of rules, valid schemas; the program's and the reference's. -/
import Derived.Test.YtonekjkmnhfjmaaGreatDoorM19
set_option maxHeartbeats 8000000
namespace Go.Fw
open Go Go.Proofs
set_option maxRecDepth 100000
set_option linter.unusedVariables false
set_option linter.unusedSimpArgs false
theorem Xc2 (s t : List UInt8) : Con Tryz.prog 255 [] [.d (.v (.string (X5 s))), .d (.v (.string (X5 t)))] [] (ai (Vf s t)) := by
 refine Xc (xs := [ai (Vf s t)]) Tryz.func255 rfl Tryz.ntmps255 rfl rfl rfl (fun E => ?_)
 have n1 := X2X s
 have n2 := X2X t
 unfold Vf
 cases h1 : Op.bytesLess s t with
 | true =>
  rw [if_pos rfl]
  refine QFd ?_; exact QA
 | false =>
  rw [if_neg (by simp)]
  by_cases h2 : s = t
  ·rw [if_pos h2]
   have h3 : (!(Op.bytesLess s t || decide (s = t))) = false := by simp [h2]
   refine QFd ?_; refine QPc ?_; refine Z02 ?_; exact QQc
  ·rw [if_neg h2]
   have h3 : (!(Op.bytesLess s t || decide (s = t))) = true := by simp [h1, h2]
   refine QFd ?_; refine QPc ?_; refine Z02 ?_; exact QA
end Go.Fw

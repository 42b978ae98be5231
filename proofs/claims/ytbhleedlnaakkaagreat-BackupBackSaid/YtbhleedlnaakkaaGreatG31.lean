/- Bytes, rules, strings and properties compared with themselves. -/
import Derived.Test.YtbhleedlnaakkaaGreatG26
set_option maxHeartbeats 8000000
namespace Go.Fw
open Go Go.Proofs
set_option maxRecDepth 100000
set_option linter.unusedVariables false
set_option linter.unusedSimpArgs false
theorem X9W (x y : List UInt8) : Con Tryz.prog 15 [] [.d (Xa x), .d (Xa y)] [] (ab (decide (x = y))) := by
 refine X9 (xs := [ab (decide (x = y))]) Tryz.func15 rfl Tryz.ntmps15 rfl rfl rfl (fun E => ?_)
 refine X0 ?_; refine JR ?_; refine Z0 ?_; refine JD ?_; refine X0 ?_; refine JR ?_; refine Z1 ?_; refine ZW ?_; refine Z1 ?_; refine ZW ?_; refine Zr ?_; refine Z0 ?_; refine JD ?_
 exact X1 ⟨_, St.le_refl _, ⟨rfl, trivial⟩, X3 _⟩
end Go.Fw

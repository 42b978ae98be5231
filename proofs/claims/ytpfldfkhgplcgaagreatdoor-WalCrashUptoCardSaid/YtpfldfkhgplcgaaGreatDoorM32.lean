/- The disk: W40g. -/
import Derived.Test.YtpfldfkhgplcgaaGreatDoorM26
namespace Go.Fw
open Go Go.Proofs
set_option maxRecDepth 100000
set_option linter.unusedVariables false
set_option linter.unusedSimpArgs false
def Y7 (keep : List Int) (i : Nat) : Int := (keep[i]?).getD 0
end Go.Fw

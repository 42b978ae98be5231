/- Steps of a walk with the usual proofs of their side goals. -/
import Derived.Test.YtpbgjcbkhgfmkaaGreatDoorM46
import Derived.Test.YtpbgjcbkhgfmkaaGreatDoorM61
namespace Go.Fw
open Go List
set_option linter.unusedVariables false
theorem JSm {p:Prop} (h:p:=by exact XqX):p:=h
end Go.Fw

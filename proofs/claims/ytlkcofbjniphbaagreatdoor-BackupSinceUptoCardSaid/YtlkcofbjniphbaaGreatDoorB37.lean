/- Steps of a walk with the usual proofs of their side goals. -/
import Derived.Test.YtlkcofbjniphbaaGreatDoorB11
import Derived.Test.YtlkcofbjniphbaaGreatDoorB36
namespace Go.Fw
open Go
set_option linter.unusedVariables false
theorem JSx {p:Prop} (h:p:=by exact Xop):p:=h
end Go.Fw

/- Steps of a walk with the usual proofs of their side goals. -/
import Derived.Test.YtlkcofbjniphbaaGreatDoorB37
import Derived.Test.YtlkcofbjniphbaaGreatDoorB47
namespace Go.Fw
open Go
set_option linter.unusedVariables false
section
variable {p q:Prop}
theorem XrX (k:q) (h:Yk q→p:=by intro k;(iterate 29 (refine W1_ ?_));exact k.1):p:=h ⟨k⟩
theorem Xh6 (k:q) (h:Yk q→p:=by intro k;(iterate 36 (refine W1_ ?_));exact k.1):p:=h ⟨k⟩
end
end Go.Fw

/- Strings compared: at least. -/
import Derived.Test.YtlkcofbjniphbaaGreatDoorB07
namespace Go.Fw
open Go
set_option linter.unusedVariables false
section
variable {P:Program}{t:TypeId}{x y:Operand}{a b:List UInt8}
theorem Xop (w:World):(do eqGuard .geq t x y (.string (Xb a)) (.string (Xb b));binOp .geq t (.string (Xb a)) (.string (Xb b)):Sem Value).run P w= .ok (.bool (!(Op.bytesLess a b))) w:=by
 simp[go_sem,binOp,Op.stringOp,X2Z]
end
end Go.Fw

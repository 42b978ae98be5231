/- Strings compared: at least. -/
import Derived.Test.YtpbgjcbkhgfmkaaGreatDoorM02
namespace Go.Fw
open Go List
set_option linter.unusedVariables false
section
variable {P:Program}{t:TypeId}{x y:Operand}{a b:List UInt8}
theorem XqX (w:World):(do eqGuard .geq t x y (.string (X6 a)) (.string (X6 b));binOp .geq t (.string (X6 a)) (.string (X6 b)):Sem Value).run P w= .ok (.bool (!(Op.bytesLess a b))) w:=by
 simp[go_sem,binOp,Op.stringOp,X4y]
end
end Go.Fw

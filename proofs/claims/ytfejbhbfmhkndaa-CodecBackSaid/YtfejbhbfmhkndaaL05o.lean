/- The arguments of the codec's laws, opened. -/
import Derived.Test.YtfejbhbfmhkndaaL05b
import Derived.Test.YtfejbhbfmhkndaaG2
import Derived.KernelRfl
namespace Go.Fw
open Go Go.Proofs
set_option linter.unusedVariables false
theorem cells5 : Try.prog.cellsOf 5 = 1 := by kernel_rfl
section
variable {H : Type} {enc : TypeId × Value → H} {W : World}
theorem opens_bytes : Opens enc Try.prog W 22 (fun _ : List UInt8 => True) (fun l => [dBytes l]) :=
  (opens_slice Try.underlying22 cells5 (by decide) (opens_u8 Try.underlying5)).to id fun _ _ => ⟨trivial, rfl⟩
end
end Go.Fw

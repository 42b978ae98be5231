/- The operations of the law about sequences, opened. -/
import Derived.Test.YtldiocpkgfpehaaW41c
import Derived.Test.YtldiocpkgfpehaaW41o
namespace Go.Fw
open Go Go.Proofs
set_option linter.unusedVariables false
theorem cells49 : Try.prog.cellsOf 49 = 4 := by kernel_rfl
section
variable {H : Type} {enc : TypeId × Value → H} {W : World}
theorem opens_act : Opens enc Try.prog W 49 (fun a : Act40 => True) cAct :=
  (opens_struct Try.underlying49 cells49 (opensF_cons rfl cells3 (opens_i64 Try.underlying3) (opensF_cons rfl cells3 (opens_i64 Try.underlying3) (opensF_cons rfl cells5 (opens_u8 Try.underlying5) (opensF_cons rfl cells27 opens_ints opensF_nil))))).to (fun r => ⟨r.1, r.2.1, r.2.2.1, r.2.2.2.1⟩) fun r h => ⟨trivial, rfl⟩
theorem opens_acts : Opens enc Try.prog W 47 (fun l : List Act40 => True) (fun l => [dActs l]) :=
  (opens_slice Try.underlying47 cells49 (by decide) opens_act).to id fun _ _ => ⟨trivial, rfl⟩
end
end Go.Fw

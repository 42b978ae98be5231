/- The arguments of the disk's laws, opened. -/
import Derived.Test.YtldiocpkgfpehaaW40i
import Derived.Test.YtldiocpkgfpehaaFwS
import Derived.KernelRfl
namespace Go.Fw
open Go Go.Proofs
set_option linter.unusedVariables false
theorem cells5 : Try.prog.cellsOf 5 = 1 := by kernel_rfl
theorem cells3 : Try.prog.cellsOf 3 = 1 := by kernel_rfl
theorem cells4 : Try.prog.cellsOf 4 = 1 := by kernel_rfl
theorem cells26 : Try.prog.cellsOf 26 = 1 := by kernel_rfl
theorem cells27 : Try.prog.cellsOf 27 = 1 := by kernel_rfl
theorem cells22 : Try.prog.cellsOf 22 = 1 := by kernel_rfl
theorem cells23 : Try.prog.cellsOf 23 = 1 := by kernel_rfl
theorem cells41 : Try.prog.cellsOf 41 = 2 := by kernel_rfl
theorem cells25 : Try.prog.cellsOf 25 = 3 := by kernel_rfl
section
variable {H : Type} {enc : TypeId × Value → H} {W : World}
def I64 (n : Int) : Prop := -9223372036854775808 ≤ n ∧ n ≤ 9223372036854775807
theorem opens_bytes : Opens enc Try.prog W 26 (fun _ : List UInt8 => True) (fun l => [dBytes l]) :=
  (opens_slice Try.underlying26 cells5 (by decide) (opens_u8 Try.underlying5)).to id fun _ _ => ⟨trivial, rfl⟩
theorem opens_ints : Opens enc Try.prog W 27 (fun l : List Int => ∀ n ∈ l, I64 n) (fun l => [dInts l]) :=
  (opens_slice Try.underlying27 cells3 (by decide) (opens_i64 Try.underlying3)).to id fun _ h => ⟨h, rfl⟩
theorem opens_secs : Opens enc Try.prog W 22 (fun _ : List (List UInt8) => True) (fun l => [dSecs l]) :=
  (opens_slice Try.underlying22 cells26 (by decide) opens_bytes).to id fun _ _ => ⟨trivial, rfl⟩
theorem opens_wr : Opens enc Try.prog W 41 (fun w : Wr => I64 w.at_) cWr :=
  (opens_struct Try.underlying41 cells41 (opensF_cons rfl cells3 (opens_i64 Try.underlying3) (opensF_cons rfl cells26 opens_bytes opensF_nil))).to (fun r => ⟨r.1, r.2.1⟩) fun r h => ⟨h.1, rfl⟩
theorem opens_pend : Opens enc Try.prog W 23 (fun l : List Wr => ∀ w ∈ l, I64 w.at_) (fun l => [dPend l]) :=
  (opens_slice Try.underlying23 cells41 (by decide) opens_wr).to id fun _ h => ⟨h, rfl⟩
theorem opens_disk : Opens enc Try.prog W 25 (fun d : Disk => ∀ w ∈ d.pending, I64 w.at_) (fun d => [dSecs d.sectors, dPend d.pending, .v (.bool d.on)]) :=
  (opens_struct Try.underlying25 cells25 (opensF_cons rfl cells22 opens_secs (opensF_cons rfl cells23 opens_pend (opensF_cons rfl cells4 (opens_bool Try.underlying4) opensF_nil)))).to (fun r => ⟨r.1, r.2.1, r.2.2.1⟩) fun r h => ⟨h.2.1, rfl⟩
end
end Go.Fw

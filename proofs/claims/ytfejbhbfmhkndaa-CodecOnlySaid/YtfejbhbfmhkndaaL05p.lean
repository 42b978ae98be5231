/- Values and strings as arguments, opened. -/
import Derived.Test.YtfejbhbfmhkndaaL05o
import Derived.Test.YtfejbhbfmhkndaaG2
namespace Go.Fw
open Go Go.Proofs
set_option linter.unusedVariables false
theorem cells3 : Try.prog.cellsOf 3 = 1 := by kernel_rfl
theorem cells9 : Try.prog.cellsOf 9 = 1 := by kernel_rfl
theorem cells30 : Try.prog.cellsOf 30 = 1 := by kernel_rfl
theorem cells32 : Try.prog.cellsOf 32 = 5 := by kernel_rfl
theorem aVal_open (v : Val) : aVal v = .agg ((cVal v).map .d) := by cases v; rw [cVal]; rfl
section
variable {H : Type} {enc : TypeId × Value → H} {W : World}
theorem opens_valN : ∀ n, OpensN enc Try.prog W n 32 (fun _ : Val => True) cVal
  | 0 => ⟨fun cs x hx => by simp [DataW.trod] at hx⟩
  | n + 1 =>
    (opensN_struct Try.underlying32 cells32 (fun m hm =>
      opensFN_cons rfl cells3 ((opens_i64 Try.underlying3).at m) (opensFN_cons rfl cells3 ((opens_i64 Try.underlying3).at m) (opensFN_cons rfl cells3 ((opens_i64 Try.underlying3).at m)
        (opensFN_cons rfl cells9 ((opens_string Try.underlying9).at m)
          (opensFN_cons rfl cells30 (opensN_slice (p := fun _ : Val => True) (f := cVal) Try.underlying30 cells32 (by decide) (fun m' hm' => opens_valN m')) opensFN_nil)))))).to
      (fun r => .mk r.1 r.2.1 r.2.2.1 r.2.2.2.1 r.2.2.2.2.1) fun r h => ⟨trivial, by rw [cVal, cVals_map]; rfl⟩
termination_by n => n
decreasing_by omega
theorem opens_val : Opens enc Try.prog W 32 (fun _ : Val => True) cVal := opens_all opens_valN
end
end Go.Fw

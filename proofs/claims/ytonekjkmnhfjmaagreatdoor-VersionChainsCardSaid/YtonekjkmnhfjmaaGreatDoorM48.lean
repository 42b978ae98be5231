/- Histories, in plain Lean: what pruning and a commit leave aZ it was. -/
import Derived.Test.YtonekjkmnhfjmaaGreatDoorM41
namespace Go.Fw
open Go
set_option linter.unusedVariables false
set_option linter.unusedSimpArgs false
theorem VU {h : Hist} {ts : Int} (e : XI h ts = 0) : atS h ts = atG h ts := by unfold atS; rw [if_neg (by simp [e])]
theorem X2H {h : Hist} (v : HV h) : UQ h = XB h := by unfold UQ; rw [if_neg (by simp [U6.2 v])]
end Go.Fw

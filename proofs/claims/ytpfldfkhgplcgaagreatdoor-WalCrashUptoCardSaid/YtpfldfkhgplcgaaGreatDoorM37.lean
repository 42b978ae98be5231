/- More that the laws about a ready log need; plain Lean. -/
import Derived.Test.YtpfldfkhgplcgaaGreatDoorM31
namespace Go.Fw
open Go
set_option linter.unusedVariables false
set_option linter.unusedSimpArgs false
theorem X9e {ep : Int} {l : List Rcd} (h0 : 0 ≤ ep) (h1 : ep ≤ 1000000000000000) (h : Y2 l = 0) : VC ep l = ((Xg ep l).length : Nat) := by
 unfold VC UY
 rw [if_neg (by omega), if_neg (by rw [h]; simp)]
end Go.Fw

/- What the laws about a ready log say of it; plain Lean. -/
import Derived.Test.YtpfldfkhgplcgaaGreatDoorM31
namespace Go.Fw
open Go
set_option linter.unusedVariables false
set_option linter.unusedSimpArgs false
theorem Xed (c : Chg) : YM c ≠ 22 ∧ YM c ≠ 20 := by
 unfold YM
 repeat' split
 all_goals omega
theorem Xbg : ∀ l : List Chg, UD l ≠ 22 ∧ UD l ≠ 20
 | [] => by rw [UD]; omega
 | c :: l => by
  rw [UD]
  split
  ·exact Xed c
  ·exact Xbg l
theorem XeF (r : Rcd) : Yy r ≠ 22 ∧ Yy r ≠ 20 := by
 have h1 := Xbg r.changes
 have h2 : V2 r.rule ≠ 22 ∧ V2 r.rule ≠ 20 := by
  unfold V2
  repeat' split
  all_goals omega
 unfold Yy
 repeat' split
 all_goals first | omega | exact h1 | exact h2
theorem X77 : ∀ l : List Rcd, Y2 l ≠ 22 ∧ Y2 l ≠ 20
 | [] => by rw [Y2]; omega
 | r :: l => by
  rw [Y2]
  split
  ·exact XeF r
  ·exact X77 l
end Go.Fw

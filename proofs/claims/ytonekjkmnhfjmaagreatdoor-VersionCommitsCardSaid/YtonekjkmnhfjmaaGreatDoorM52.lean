/- Histories, in plain Lean. -/
import Derived.Test.YtonekjkmnhfjmaaGreatDoorM47
import Derived.Test.YtonekjkmnhfjmaaGreatDoorM48
namespace Go.Fw
open Go
set_option linter.unusedVariables false
set_option linter.unusedSimpArgs false
theorem X9Q {l : List Cmt} {g : Gra} (h : (XJ g l).2 = 0) (n : Nat) : XJ (XJ g (l.take n)).1 (l.drop n) = XJ g l := by
 have e := X2E (l.take n) (l.drop n) g
 rw [List.take_append_drop, if_neg (by simp [X1u h n])] at e
 exact e.symm
theorem X3b {h : Hist} {ts : Int} (e : XI h ts = 0) : GV (atG h ts) := by
 have v := (Ux e).1
 exact X10 _ _ v.g (X1u v.ok _)
end Go.Fw

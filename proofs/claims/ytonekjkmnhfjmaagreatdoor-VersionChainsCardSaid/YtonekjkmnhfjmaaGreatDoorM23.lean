/- What is read is valid and small, in plain Lean. -/
import Derived.Test.YtonekjkmnhfjmaaGreatDoorM17
namespace Go.Fw
open Go
set_option linter.unusedVariables false
set_option linter.unusedSimpArgs false
theorem X7t : ∀ {l : List Val}, (∀ x ∈ l, Y3 x) → VN l
 | [], _ => by rw [VN]; trivial
 | v :: r, h => by
  rw [VN]
  exact ⟨h v (List.mem_cons_self ..), X7t fun x hx => h x (List.mem_cons_of_mem _ hx)⟩
end Go.Fw

/- Valid. -/
import Derived.Test.YtfejbhbfmhkndaaG3
import Derived.Test.YtfejbhbfmhkndaaK05m
namespace Go.Fw
open Go Go.Proofs
set_option linter.unusedVariables false
set_option linter.unusedSimpArgs false
theorem valid_con : ∀ v : Val, ValidC v
  | .mk k n d s l => valid_of (.mk k n d s l) fun x hx => valid_con x
termination_by v => SizeOf.sizeOf v
decreasing_by
  have h1 := List.sizeOf_lt_of_mem (show x ∈ l from hx)
  simp only [Val.mk.sizeOf_spec]
  omega
theorem validTop_con (v : Val) : Con Try.prog 51 [] [aVal v] [] (ab (validV 8 v)) := by
  refine con_of (xs := [ab (validV 8 v)]) Try.func51 rfl Try.ntmps51 rfl rfl rfl (fun E => ?_)
  have h := valid_con v 8 (by omega)
  obtain ⟨k, n, d, s, l⟩ := v
  simp only [aVal, Nat.sub_self] at h
  refine k_s ?_; refine k_45 (γ := 100) ?_; refine k_4 ?_; refine k_d ?_; refine k_s ?_; refine k_57 ?_; refine k_56 (hcon := h) ?_ (hle := by refine ⟨(by exact AVal.le_refl _), ?_⟩; refine ⟨(by exact AVal.le_refl _), ?_⟩; exact trivial) (hLi := by (repeat (first | exact trivial | refine ⟨rfl, ?_⟩ | fail)) <;> fail) (hnew := by (repeat (first | exact trivial | refine ⟨rfl, ?_⟩ | fail)) <;> fail) (hdead := by (repeat (first | exact trivial | refine ⟨rfl, ?_⟩ | fail)) <;> fail); refine k_4 ?_; refine k_d ?_
  exact awp_ret ⟨_, St.le_refl _, ⟨rfl, trivial⟩, subL_nil _⟩
end Go.Fw

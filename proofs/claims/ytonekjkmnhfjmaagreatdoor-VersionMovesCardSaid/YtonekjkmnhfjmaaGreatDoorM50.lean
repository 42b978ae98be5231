/- Steps of a walk with the usual proofs of their side goals. -/
import Derived.Test.YtonekjkmnhfjmaaGreatDoorM11
import Derived.Test.YtonekjkmnhfjmaaGreatDoorM49
namespace Go.Fw
open Go
set_option linter.unusedVariables false
section
variable {P : Program} {ops : Array Oper} {draw : Bool} {K : Xy → St → Prop} {rest : List Oper} {l : Xy} {S : St}
variable {d : Nat} {ty : TypeId} {pos : String} {aft : Array Edge} {gd : Option (Nat × Bool)}
theorem Z0I {x y : Operand} {T T2 : TypeId} {γ n sz bytes : Nat} {xs ys : List (List D)} (h : Walk P ops draw K rest ((l.length, ⟨some d, .call ⟨.builtin .append, #[x, y], #[T, T2]⟩, ty, pos, aft, gd⟩, ⟨Xg ops gd ++ [(x, .own γ n), (y, .d (.sl sz ys))], some (d, .d (.sl sz (xs ++ ys))), [(γ, .row sz xs)], [(γ, .froz sz (xs ++ ys))], []⟩) :: l)
   ((S.set d (.d (.sl sz (xs ++ ys)))).own γ (.froz sz (xs ++ ys)))) (hg : Xj ops S gd := by exact (by (first | ((exact True.intro)) | ((exact ⟨rfl, rfl⟩)) | ((exact ⟨rfl, congrArg ab (by (first | ((rfl)) | ((assumption)) | ((simp only [List.length_map, List.length_take, List.length_append, decide_eq_true_eq, decide_eq_false_iff_not, ne_eq, Classical.not_not]; omega)) | ((simp <;> fail)) | ((simp [*] <;> fail)) | ((simp; omega)) | fail))⟩)) | fail))) (hx : S.ev x = .own γ n := by exact rfl) (hL : S.obj γ = .row sz xs := by exact rfl) (hy : S.ev y = .d (.sl sz ys) := by exact rfl) (hn : n = xs.length := by (first | ((exact rfl)) | ((simp <;> fail)) | ((simp only [List.length_map, List.length_take, List.length_drop, List.length_append, List.length_cons, List.length_nil, List.length_replicate, List.length_set] <;> omega)) | ((assumption)) | fail)) (hB : elB P T = bytes := by conv => lhs; whnf) (hT : UE P T sz bytes = true := by exact rfl) (hT2 : X0P P T2 = true := by exact rfl) (hb0 : Nat.beq bytes 0 = false := by exact rfl) (hroom : (xs.length + ys.length) * bytes ≤ 140737488355328 := by (first | ((omega)) | ((simp only [List.length_map, List.length_take, List.length_drop, List.length_append, List.length_cons, List.length_nil, List.length_replicate, List.length_set] <;> omega)) | ((simp; omega)) | ((simp at *; omega)) | fail)) (hd : Nat.blt d S.n = true := by exact rfl) : Walk P ops draw K (⟨some d, .call ⟨.builtin .append, #[x, y], #[T, T2]⟩, ty, pos, aft, gd⟩ :: rest) l S := Xe6 (hx := hx) (hL := hL) (hy := hy) (hn := hn) (hB := hB) (hT := hT) (hT2 := hT2) (hb0 := hb0) (hroom := hroom) (hd := hd) (hg := hg) (h := h)
end
end Go.Fw

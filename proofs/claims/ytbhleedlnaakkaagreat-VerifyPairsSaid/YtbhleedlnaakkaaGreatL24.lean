/- Steps of a walk with the usual proofs of their side goals. -/
import Derived.Test.YtbhleedlnaakkaaGreatL08
import Derived.Test.YtbhleedlnaakkaaGreatL23
namespace Go.Fw
open Go
set_option linter.unusedVariables false
section
variable {P : Program} {ops : Array Oper} {draw : Bool} {K : St → Prop} {rest : List Oper} {l : XJ} {S : St}
variable {d : Nat} {ty : TypeId} {pos : String} {aft : Array Edge} {gd : Option (Nat × Bool)}
theorem Z0l {x i : Operand} {T : TypeId} {n sz k : Nat} {row : List D} {kd : IntKind} {m : Int} (h : Walk P ops draw K rest ((l.length, ⟨some d, .indexAddr T x i, ty, pos, aft, gd⟩, ⟨Xa ops gd ++ [(x, .dptr row), (i, .d (.v (.int kd m)))], some (d, .dptr (row.drop (k * sz))), [], [], []⟩) :: l) (S.set d (.dptr (row.drop (k * sz))))) (hg : Xb ops S gd := by exact (by (first | ((exact True.intro)) | ((exact ⟨rfl, rfl⟩)) | ((exact ⟨rfl, congrArg ab (by (first | ((rfl)) | ((assumption)) | ((simp only [List.length_map, List.length_take, List.length_append, decide_eq_true_eq, decide_eq_false_iff_not, ne_eq, Classical.not_not]; omega)) | ((simp <;> fail)) | ((simp [*] <;> fail)) | ((simp; omega)) | fail))⟩)) | fail))) (hx : S.ev x = .dptr row := by exact rfl) (hi : S.ev i = .d (.v (.int kd m)) := by exact rfl) (hT : X0f P T n sz = true := by exact rfl) (hk : m = (k : Nat) := by exact rfl) (hlt : k < n := by decide) (hd : Nat.blt d S.n = true := by exact rfl) : Walk P ops draw K (⟨some d, .indexAddr T x i, ty, pos, aft, gd⟩ :: rest) l S := Xaf (hx := hx) (hi := hi) (hT := hT) (hk := hk) (hlt := hlt) (hd := hd) (hg := hg) (h := h)
end
end Go.Fw

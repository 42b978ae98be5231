/- Steps of a walk with the usual proofs of their side goals. -/
import Derived.Test.YtpfldfkhgplcgaaGreatDoorM35
import Derived.Test.YtpfldfkhgplcgaaGreatDoorM52
namespace Go.Fw
open Go
set_option linter.unusedVariables false
section
variable {P : Program} {ops : Array Oper} {draw : Bool} {K : St → Prop} {rest : List Oper} {l : Yb} {S : St}
variable {d : Nat} {ty : TypeId} {pos : String} {aft : Array Edge} {gd : Option (Nat × Bool)}
theorem Z0d {f : FuncId} {caps : Array Operand} {xs : List Operand} {ys : List AVal} (h : Walk P ops draw K rest ((l.length, ⟨some d, .makeFunc (.func f) #[] caps, ty, pos, aft, gd⟩, ⟨Xd ops gd ++ X08 xs ys, some (d, .fn f ys), [], [], []⟩) :: l) (S.set d (.fn f ys))) (hg : Xe ops S gd := by exact (by (first | ((exact True.intro)) | ((exact ⟨rfl, rfl⟩)) | ((exact ⟨rfl, congrArg ab (by (first | ((rfl)) | ((assumption)) | ((simp only [List.length_map, List.length_take, List.length_append, decide_eq_true_eq, decide_eq_false_iff_not, ne_eq, Classical.not_not]; omega)) | ((simp <;> fail)) | ((simp [*] <;> fail)) | ((simp; omega)) | fail))⟩)) | fail))) (hxs : caps.toList = xs := by exact rfl) (hys : evA S xs = ys := by conv => lhs; whnf) (hd : Nat.blt d S.n = true := by exact rfl) : Walk P ops draw K (⟨some d, .makeFunc (.func f) #[] caps, ty, pos, aft, gd⟩ :: rest) l S := Xc2 (hxs := hxs) (hys := hys) (hd := hd) (hg := hg) (h := h)
end
end Go.Fw

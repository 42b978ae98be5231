/- Steps of a walk with the usual proofs of their side goals. -/
import Derived.Test.YtbhleedlnaakkaaGreatG08
import Derived.Test.YtbhleedlnaakkaaGreatG32
namespace Go.Fw
open Go
set_option linter.unusedVariables false
section
variable {P : Program} {ops : Array Oper} {draw : Bool} {K : St → Prop} {rest : List Oper} {l : Yc} {S : St}
variable {d : Nat} {ty : TypeId} {pos : String} {aft : Array Edge} {gd : Option (Nat × Bool)}
theorem Z0b {xt yt : TypeId} {x y : Operand} {us vs : List Value} {r : Bool} {ks : List SK} {cs es : List AVal} (hk : X2j P xt = some ks) (hr : VQ us vs = r) (h : Walk P ops draw K rest ((l.length, ⟨some d, .binOp .neq xt x y yt, ty, pos, aft, gd⟩, ⟨Xf ops gd ++ [(x, .agg cs), (y, .agg es)], some (d, ab (!r)), [], [], []⟩) :: l) (S.set d (ab (!r)))) (hg : Xg ops S gd := by exact (by (first | ((exact True.intro)) | ((exact ⟨rfl, rfl⟩)) | ((exact ⟨rfl, congrArg ab (by (first | ((rfl)) | ((assumption)) | ((simp only [List.length_map, List.length_take, List.length_append, decide_eq_true_eq, decide_eq_false_iff_not, ne_eq, Classical.not_not]; omega)) | ((simp <;> fail)) | ((simp [*] <;> fail)) | ((simp; omega)) | fail))⟩)) | fail))) (hx : S.ev x = .agg cs := by exact rfl) (hy : S.ev y = .agg es := by exact rfl) (hcs : cs = dvL us := by exact rfl) (hes : es = dvL vs := by exact rfl) (hu : us.map Uv = ks.map some := by exact rfl) (hv : vs.map Uv = ks.map some := by exact rfl) (hd : Nat.blt d S.n = true := by exact rfl) : Walk P ops draw K (⟨some d, .binOp .neq xt x y yt, ty, pos, aft, gd⟩ :: rest) l S := XbI (hk := hk) (hx := hx) (hy := hy) (hcs := hcs) (hes := hes) (hu := hu) (hv := hv) (hr := hr) (hd := hd) (hg := hg) (h := h)
end
end Go.Fw

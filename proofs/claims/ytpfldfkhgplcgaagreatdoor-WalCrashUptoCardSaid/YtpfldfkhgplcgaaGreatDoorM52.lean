/- Thirteenth part: contracts under other keys; calls of function values. -/
import Derived.Test.YtpfldfkhgplcgaaGreatDoorM06
namespace Go.Fw
open Go
set_option linter.unusedVariables false
set_option linter.unusedSimpArgs false
section
variable {P : Program} {ops : Array Oper} {draw : Bool} {K : St → Prop} {rest : List Oper} {l : Yb} {S : St}
variable {d : Nat} {ty : TypeId} {pos : String} {aft : Array Edge} {gd : Option (Nat × Bool)}
theorem Xc2 {f : FuncId} {caps : Array Operand} {xs : List Operand} {ys : List AVal} (hxs : caps.toList = xs) (hys : evA S xs = ys) (hd : Nat.blt d S.n = true) (hg : Xe ops S gd)
  (h : Walk P ops draw K rest ((l.length, ⟨some d, .makeFunc (.func f) #[] caps, ty, pos, aft, gd⟩, ⟨Xd ops gd ++ X08 xs ys, some (d, .fn f ys), [], [], []⟩) :: l) (S.set d (.fn f ys))) :
  Walk P ops draw K (⟨some d, .makeFunc (.func f) #[] caps, ty, pos, aft, gd⟩ :: rest) l S := by
 have hlen : ys.length = xs.length := by
  rw [← hys]; clear hys hxs h
  induction xs with
  | nil => rfl
  | cons x r ih => simp [evA, ih]
 refine XG ⟨X08 xs ys, some (d, .fn f ys), [], [], []⟩ (Yo rfl fun E S g a w hs hq hl => ?_) hg ⟨by rw [← hys]; exact X46 S xs, trivial, trivial, hd⟩ h
 refine ⟨.func (.func f) #[] (caps.map a.eval), by simp [execOp, Instr.makeFunc], ?_⟩
 simp only [AVal.sat]
 refine ⟨_, rfl, ?_⟩
 have := X4p hlen hq
 rw [show (caps.map a.eval).toList = xs.map a.eval by simp [← hxs]]
 exact this
end
end Go.Fw

/- The address of an element of an array that is data. -/
import Derived.OpenShut
import Derived.Deep.Slices
import Derived.Deep.Strs
import Derived.Test.YtbhleedlnaakkaaGreatK06
import Derived.Test.YtbhleedlnaakkaaGreatK07
namespace Go.Fw
open Go
set_option linter.unusedVariables false
set_option linter.unusedSimpArgs false
section
variable {P : Program} {ops : Array Oper} {draw : Bool} {K : St → Prop} {rest : List Oper} {l : XI} {S : St}
variable {d : Nat} {ty : TypeId} {pos : String} {aft : Array Edge} {gd : Option (Nat × Bool)}
theorem X9L {x i : Operand} {T : TypeId} {n sz k : Nat} {row : List D} {kd : IntKind} {m : Int} (hx : S.ev x = .dptr row) (hi : S.ev i = .d (.v (.int kd m))) (hT : X0c P T n sz = true) (hk : m = (k : Nat)) (hlt : k < n)
  (hd : Nat.blt d S.n = true) (hg : Xb ops S gd)
  (h : Walk P ops draw K rest ((l.length, ⟨some d, .indexAddr T x i, ty, pos, aft, gd⟩, ⟨X9 ops gd ++ [(x, .dptr row), (i, .d (.v (.int kd m)))], some (d, .dptr (row.drop (k * sz))), [], [], []⟩) :: l) (S.set d (.dptr (row.drop (k * sz))))) :
  Walk P ops draw K (⟨some d, .indexAddr T x i, ty, pos, aft, gd⟩ :: rest) l S :=
 Xz ⟨[(x, .dptr row), (i, .d (.v (.int kd m)))], some (d, .dptr (row.drop (k * sz))), [], [], []⟩ (XQ rfl fun E S g a w hs hq hl => by
  obtain ⟨h1, h2, h3⟩ := X3G hT
  have := hq.1
  simp only [AVal.sat] at this
  obtain ⟨b, o, hp, hr⟩ := this
  refine ⟨.pointer (some ⟨b, o + k * sz, none⟩), ?_, by simp only [AVal.sat]; exact ⟨b, o + k * sz, rfl, X5X hr _⟩⟩
  have hb : (0 : Int) ≤ m ∧ m < (P.arrayLen T : Int) := by rw [h2]; omega
  have hm : m.toNat = k := by omega
  have := run_indexAt_array (P := P) (w := w) T ⟨b, o, none⟩ kd m h1
  rw [if_pos hb, h3 w, Result.andThen_ok, Yt, hm] at this
  simp only [execOp, hp, Y2 hq.2.1, Sem.run_bind, this]; rfl) hg ⟨⟨hx, hi, trivial⟩, trivial, trivial, hd⟩ h
end
end Go.Fw
namespace Go.Fw
open Go Go.ChangeShapes Go.WideShapes Go.Deep
set_option linter.unusedVariables false
section
variable {H : Type} {enc : TypeId × Value → H} {P : Program} {W : World}
theorem X92 {α : Type} {t e : TypeId} {r : Reach} {b0 : Nat} {v : Value} {d : DataW H} {ps : List MemPlace} {p : α → Prop} {f : α → D} (ht : P.underlying t = some (.slice e))
  (hval : Value.okWide P W r b0 t v) (hd : DataW.Trod enc P W 0 (fun _ => true) true t v d ps) (ho : Opens enc P W t p (fun x => [f x])) : ∃ x, p x ∧ (AVal.d (f x)).sat (g0 W.cell?) v := by
 obtain ⟨a, n, c, rfl⟩ := okWide_slice ht hval
 obtain ⟨n, hn⟩ := hd
 obtain ⟨x, h1, h2⟩ := ho.op _ _ _ hn
 refine ⟨x, h1, ?_⟩
 have := X1V (g := g0 W.cell?) rfl h2
 simp only [List.map_cons, List.map_nil, Value.cells, Xe] at this
 exact this.1
end
end Go.Fw

/- The address of an element of an array that is data. -/
import Derived.Test.YtbhleedlnaakkaaGreatL06
import Derived.Test.YtbhleedlnaakkaaGreatL07
namespace Go.Fw
open Go
set_option linter.unusedVariables false
set_option linter.unusedSimpArgs false
section
variable {P : Program} {ops : Array Oper} {draw : Bool} {K : St → Prop} {rest : List Oper} {l : XJ} {S : St}
variable {d : Nat} {ty : TypeId} {pos : String} {aft : Array Edge} {gd : Option (Nat × Bool)}
theorem Xaf {x i : Operand} {T : TypeId} {n sz k : Nat} {row : List D} {kd : IntKind} {m : Int} (hx : S.ev x = .dptr row) (hi : S.ev i = .d (.v (.int kd m))) (hT : X0f P T n sz = true) (hk : m = (k : Nat)) (hlt : k < n)
  (hd : Nat.blt d S.n = true) (hg : Xb ops S gd)
  (h : Walk P ops draw K rest ((l.length, ⟨some d, .indexAddr T x i, ty, pos, aft, gd⟩, ⟨Xa ops gd ++ [(x, .dptr row), (i, .d (.v (.int kd m)))], some (d, .dptr (row.drop (k * sz))), [], [], []⟩) :: l) (S.set d (.dptr (row.drop (k * sz))))) :
  Walk P ops draw K (⟨some d, .indexAddr T x i, ty, pos, aft, gd⟩ :: rest) l S :=
 Xw ⟨[(x, .dptr row), (i, .d (.v (.int kd m)))], some (d, .dptr (row.drop (k * sz))), [], [], []⟩ (XS rfl fun E S g a w hs hq hl => by
  obtain ⟨h1, h2, h3⟩ := X5T hT
  have := hq.1
  simp only [AVal.sat] at this
  obtain ⟨b, o, hp, hr⟩ := this
  refine ⟨.pointer (some ⟨b, o + k * sz, none⟩), ?_, by simp only [AVal.sat]; exact ⟨b, o + k * sz, rfl, X6F hr _⟩⟩
  have hb : (0 : Int) ≤ m ∧ m < (P.arrayLen T : Int) := by rw [h2]; omega
  have hm : m.toNat = k := by omega
  have := run_indexAt_array (P := P) (w := w) T ⟨b, o, none⟩ kd m h1
  rw [if_pos hb, h3 w, Result.andThen_ok, Yx, hm] at this
  simp only [execOp, hp, Y6 hq.2.1, Sem.run_bind, this]; rfl) hg ⟨⟨hx, hi, trivial⟩, trivial, trivial, hd⟩ h
end
end Go.Fw
namespace Go.Fw
open Go Go.ChangeShapes Go.WideShapes Go.Deep
set_option linter.unusedVariables false
section
variable {H : Type} {enc : TypeId × Value → H} {P : Program} {W : World}
theorem X60 {t : TypeId} {r : Reach} {b0 : Nat} {v : Value} {d : DataW H} {ps : List MemPlace} (ht : P.underlying t = some .string)
  (hval : Value.okWide P W r b0 t v) (hd : DataW.Trod enc P W 0 (fun _ => true) true t v d ps) : ∃ s : List UInt8, s.length ≤ 9223372036854775807 ∧ (AVal.d (.v (.string (X6 s)))).sat (g0 W.cell?) v := by
 obtain ⟨n, hn⟩ := hd
 obtain ⟨s, hl, h2⟩ := (V5 (enc := enc) (W := W) ht).op _ _ _ hn
 refine ⟨s, hl, ?_⟩
 have hs : ∃ u, v = .string u := by
  cases v <;> simp [Value.okWide, Cell.okWide, Cell.ok, ht] at hval
  exact ⟨_, rfl⟩
 obtain ⟨u, rfl⟩ := hs
 have h3 := X1W (g := g0 W.cell?) rfl h2
 simp only [List.map_cons, List.map_nil, Value.cells, Xc] at h3
 exact h3.1
end
end Go.Fw

/- More operators: truth values compared, division, remainders. -/
import Derived.Laws.StructEq
import Derived.OpenShut
import Derived.Deep.Slices
import Derived.Deep.Strs
import Derived.Test.YtbhleedlnaakkaaGreatL06
import Derived.Test.YtbhleedlnaakkaaGreatL07
namespace Go.Fw
open Go
set_option linter.unusedVariables false
section
variable {P : Program}
theorem X9J {t : TypeId} {x y : Operand} {a b : Bool} (ht : X1D P t = true) (w : World) : (do eqGuard .neq t x y (.bool a) (.bool b); binOp .neq t (.bool a) (.bool b) : Sem Value).run P w = .ok (.bool (decide (a ≠ b))) w := by
 have h := run_equalIn_bool' (P := P) w 9999 t a b (X56 ht)
 have h2 : (Op.equal t (.bool a) (.bool b)).run P w = .ok (a == b) w := h
 simp [eqGuard, binOp, h2, Bool.beq_eq_decide_eq]
end
end Go.Fw
namespace Go.Fw
open Go
set_option linter.unusedVariables false
section
variable {P : Program}
theorem X75 {t : TypeId} {x y : Operand} {ks : List SK} {us vs : List Value} {r : Bool} (hk : UF P t = some ks) (hu : us.map Y7 = ks.map some) (hv : vs.map Y7 = ks.map some) (hr : Yv us vs = r) (w : World) :
  (do eqGuard .neq t x y (.agg us.toArray) (.agg vs.toArray); binOp .neq t (.agg us.toArray) (.agg vs.toArray) : Sem Value).run P w = .ok (.bool (!r)) w := by
 have h := X5D hk hu hv w
 rw [Sem.run_bind, run_eqGuard_agg w _ _ _ _ _ _ h.2, Result.andThen_ok, run_neq_struct, h.1, Result.andThen_ok, hr]
end
section
variable {P : Program} {ops : Array Oper} {draw : Bool} {K : St → Prop} {rest : List Oper} {l : XJ} {S : St} {ty : TypeId} {pos : String} {aft : Array Edge} {gd : Option (Nat × Bool)} {d : Nat}
theorem X9g {xt yt : TypeId} {x y : Operand} {us vs : List Value} {r : Bool} {ks : List SK} {cs es : List AVal} (hk : UF P xt = some ks) (hx : S.ev x = .agg cs) (hy : S.ev y = .agg es) (hcs : cs = dvL us) (hes : es = dvL vs) (hu : us.map Y7 = ks.map some) (hv : vs.map Y7 = ks.map some)
  (hr : Yv us vs = r) (hd : Nat.blt d S.n = true) (hg : Xb ops S gd)
  (h : Walk P ops draw K rest ((l.length, ⟨some d, .binOp .neq xt x y yt, ty, pos, aft, gd⟩, ⟨Xa ops gd ++ [(x, .agg cs), (y, .agg es)], some (d, ab (!r)), [], [], []⟩) :: l) (S.set d (ab (!r)))) :
  Walk P ops draw K (⟨some d, .binOp .neq xt x y yt, ty, pos, aft, gd⟩ :: rest) l S := by
 subst hcs; subst hes
 exact Xw ⟨[(x, .agg (dvL us)), (y, .agg (dvL vs))], some (d, ab (!r)), [], [], []⟩ (XS rfl fun E S g a w hs hq _ => by
  refine ⟨.bool (!r), ?_, UI rfl⟩
  have := X75 (x := x) (y := y) hk hu hv hr w
  simp only [execOp, X29 hq.1, X29 hq.2.1, Sem.run_bind, Sem.run_pure] at this ⊢
  rw [this]; rfl) hg ⟨⟨hx, hy, trivial⟩, trivial, trivial, hd⟩ h
end
end Go.Fw
namespace Go.Fw
open Go Go.ChangeShapes Go.WideShapes Go.Deep
set_option linter.unusedVariables false
section
variable {H : Type} {enc : TypeId × Value → H} {P : Program} {W : World}
theorem Xbp {α : Type} {t e : TypeId} {r : Reach} {b0 : Nat} {v : Value} {d : DataW H} {ps : List MemPlace} {p : α → Prop} {f : α → D} (ht : P.underlying t = some (.slice e))
  (hval : Value.okWide P W r b0 t v) (hd : DataW.Trod enc P W 0 (fun _ => true) true t v d ps) (ho : Opens enc P W t p (fun x => [f x])) : ∃ x, p x ∧ (AVal.d (f x)).sat (g0 W.cell?) v := by
 obtain ⟨a, n, c, rfl⟩ := okWide_slice ht hval
 obtain ⟨n, hn⟩ := hd
 obtain ⟨x, h1, h2⟩ := ho.op _ _ _ hn
 refine ⟨x, h1, ?_⟩
 have := X1W (g := g0 W.cell?) rfl h2
 simp only [List.map_cons, List.map_nil, Value.cells, Xc] at this
 exact this.1
end
end Go.Fw

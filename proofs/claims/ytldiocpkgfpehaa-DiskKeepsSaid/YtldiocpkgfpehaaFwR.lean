/- More operators: truth values compared, division, remainders. -/
import Derived.Test.YtldiocpkgfpehaaFwQ
import Derived.Laws.StructEq
namespace Go.Fw
open Go
set_option linter.unusedVariables false
section
variable {P : Program}
def isBool (P : Program) (t : TypeId) : Bool := match P.underlying t with | some .bool => true | _ => false
theorem isBool_spec {t : TypeId} (h : isBool P t = true) : P.underlying t = some .bool := by
  unfold isBool at h
  cases hu : P.underlying t with
  | none => rw [hu] at h; simp at h
  | some u => cases u <;> rw [hu] at h <;> simp at h ⊢
theorem rb_eqb {t : TypeId} {x y : Operand} {a b : Bool} (ht : isBool P t = true) (w : World) : (do eqGuard .eql t x y (.bool a) (.bool b); binOp .eql t (.bool a) (.bool b) : Sem Value).run P w = .ok (.bool (decide (a = b))) w := by
  have h := run_equalIn_bool' (P := P) w 9999 t a b (isBool_spec ht)
  have h2 : (Op.equal t (.bool a) (.bool b)).run P w = .ok (a == b) w := h
  simp [eqGuard, binOp, h2]
  exact Bool.beq_eq_decide_eq a b
theorem rb_neqb {t : TypeId} {x y : Operand} {a b : Bool} (ht : isBool P t = true) (w : World) : (do eqGuard .neq t x y (.bool a) (.bool b); binOp .neq t (.bool a) (.bool b) : Sem Value).run P w = .ok (.bool (decide (a ≠ b))) w := by
  have h := run_equalIn_bool' (P := P) w 9999 t a b (isBool_spec ht)
  have h2 : (Op.equal t (.bool a) (.bool b)).run P w = .ok (a == b) w := h
  simp [eqGuard, binOp, h2, Bool.beq_eq_decide_eq]
theorem rb_rem {t : TypeId} {x y : Operand} {k : IntKind} {a b : Int} (ha : 0 ≤ a) (hb : b ≠ 0) (w : World) : (do eqGuard .rem t x y (.int k a) (.int k b); binOp .rem t (.int k a) (.int k b) : Sem Value).run P w = .ok (.int k (a % b)) w := by
  simp [eqGuard, binOp, Op.intDiv, hb, go_sem, Int.tmod_eq_emod_of_nonneg ha]
theorem rc_b64 {src dst : TypeId} {b : UInt8} (hs : (P.underlying src).isSome = true) (hd : isInt P dst .i64 = true) (w : World) :
    (convert src dst (.int .u8 (b.toNat : Int))).run P w = .ok (.int .i64 (b.toNat : Int)) w := by
  have h := rc_int (P := P) (n := (b.toNat : Int)) (k := .u8) hs hd w
  have := b.toNat_lt
  rwa [IntWalk.i64_in _ ⟨by omega, by omega⟩] at h
/-- A number that the new type has too. -/
theorem rc_in64 {src dst : TypeId} {k : IntKind} {n : Int} (hs : (P.underlying src).isSome = true) (hd : isInt P dst .i64 = true) (hn : -9223372036854775808 ≤ n ∧ n ≤ 9223372036854775807) (w : World) :
    (convert src dst (.int k n)).run P w = .ok (.int .i64 n) w := by
  have h := rc_int (P := P) (n := n) (k := k) hs hd w
  rwa [IntWalk.i64_in _ hn] at h
end
section
variable {P : Program} {ops : Array Oper} {draw : Bool} {K : St → Prop} {rest : List Oper} {l : Line} {S : St}
variable {d : Nat} {ty : TypeId} {pos : String} {aft : Array Edge} {gd : Option (Nat × Bool)}
/-- An operator whose outcome is written otherwise. -/
theorem w_bin_to {op : BinOp} {xt yt : TypeId} {x y : Operand} {u v r : Value} (r' : Value) (hr' : r = r') (hx : S.ev x = .d (.v u)) (hy : S.ev y = .d (.v v))
    (hr : ∀ w, (do eqGuard op xt x y u v; binOp op xt u v : Sem Value).run P w = .ok r w) (h1 : r'.oneCell' = true) (hd : Nat.blt d S.n = true) (hg : guardOk ops S gd)
    (h : Walk P ops draw K rest ((l.length, ⟨some d, .binOp op xt x y yt, ty, pos, aft, gd⟩, ⟨guardReads ops gd ++ [(x, .d (.v u)), (y, .d (.v v))], some (d, .d (.v r')), [], [], []⟩) :: l) (S.set d (.d (.v r')))) :
    Walk P ops draw K (⟨some d, .binOp op xt x y yt, ty, pos, aft, gd⟩ :: rest) l S := by
  subst hr'
  exact w_bin hx hy hr h1 hd hg h
end
end Go.Fw

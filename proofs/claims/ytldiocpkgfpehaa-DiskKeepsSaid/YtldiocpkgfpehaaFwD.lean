/- Fourth part: rules for operations on numbers, data and boxes. -/
import Derived.Test.YtldiocpkgfpehaaFwC
import Derived.IntWalk
import Derived.Laws.Slices
namespace Go.Fw
open Go
set_option linter.unusedVariables false

abbrev ab (b : Bool) : AVal := .d (.v (.bool b))
abbrev ai (n : Int) : AVal := .d (.v (.int .i64 n))
abbrev au8 (n : Int) : AVal := .d (.v (.int .u8 n))
abbrev as (s : ByteArray) : AVal := .d (.v (.string s))
abbrev ani : AVal := .d (.v (.slice none 0 0))

def satR (g : Gh) (a : Act) : List (Operand × AVal) → Prop
  | [] => True
  | p :: r => p.2.sat g (a.eval p.1) ∧ satR g a r

theorem satR_of {E : Env} {S : St} {g : Gh} {a : Act} {w : World} (h : holdsG E S g a w) : ∀ l, readsOk S l → satR g a l
  | [], _ => trivial
  | p :: r, hr => ⟨by have := sat_ev h p.1; rw [hr.1] at this; exact this, satR_of h r hr.2⟩

def Valid' (P : Program) (o : Oper) (c : Cert) : Prop :=
  ∀ E S a w g, holdsG E S g a w → c.ok S → ∀ (Q : Exit → Act → World → Prop) (K : Act → World → Prop), (∀ a' w', holds E (c.app S) a' w' → K a' w') → o.wp P a w K Q

def dstOf (ops : Array Oper) (j : Nat) : Nat := ((ops[j]?).bind (·.dst)).getD 0
def guardReads (ops : Array Oper) : Option (Nat × Bool) → List (Operand × AVal)
  | none => []
  | some (j, b) => [(.tmp (dstOf ops j), ab b)]
def guardOk (ops : Array Oper) (S : St) : Option (Nat × Bool) → Prop
  | none => True
  | some (j, b) => ((ops[j]?).bind (·.dst)).isSome = true ∧ S.get (dstOf ops j) = ab b
def guardNot (ops : Array Oper) (S : St) : Option (Nat × Bool) → Prop
  | none => False
  | some (j, true) => ((ops[j]?).bind (·.dst)).isSome = true ∧ S.get (dstOf ops j) = ab false
  | some (j, false) => ((ops[j]?).bind (·.dst)).isSome = true ∧ S.get (dstOf ops j) = ab true
theorem guardNot_spec {ops : Array Oper} {S : St} {j : Nat} {b : Bool} (h : guardNot ops S (some (j, b))) : ((ops[j]?).bind (·.dst)).isSome = true ∧ S.get (dstOf ops j) = ab (!b) := by
  cases b <;> exact h

theorem yielded_of {E : Env} {ops : Array Oper} {S : St} {g : Gh} {a : Act} {w : World} {j : Nat} {b : Bool} (h : holdsG E S g a w)
    (hd : ((ops[j]?).bind (·.dst)).isSome = true) (hb : S.get (dstOf ops j) = ab b) : yielded ops a.tmps j = some b := by
  obtain ⟨t, ht⟩ := Option.isSome_iff_exists.1 hd
  have hdst : dstOf ops j = t := by simp [dstOf, ht]
  have hs := h.2.2.2 t
  rw [← hdst, hb, hdst] at hs
  simp only [AVal.sat, D.rep] at hs
  have hs := hs.1
  unfold yielded
  rw [ht]
  simp only [Option.bind_some]
  cases hq : a.tmps[t]? with
  | none => simp [hq, undef] at hs
  | some v => simp [hq] at hs; subst hs; rfl

section
variable {P : Program} {ops : Array Oper} {draw : Bool} {K : St → Prop} {rest : List Oper} {l : Line} {S : St}

theorem walk_op {o : Oper} (c : Cert) (hv : Valid' P o c) (hg : guardOk ops S o.guard) (hc : c.ok S)
    (h : Walk P ops draw K rest ((l.length, o, { c with reads := guardReads ops o.guard ++ c.reads }) :: l) (c.app S)) : Walk P ops draw K (o :: rest) l S := by
  refine .step { c with reads := guardReads ops o.guard ++ c.reads } (fun E S' a w hs hok Q K' hK => ?_) ?_ h
  · obtain ⟨g, hs⟩ := hs
    have hok' : c.ok S' := by
      refine ⟨?_, hok.2⟩
      have := hok.1
      rw [readsOk_iff] at this ⊢
      exact fun p hp => this p (by simp [hp])
    have hw : Region.wanted o (yielded ops a.tmps) = true := by
      unfold Region.wanted
      cases hgd : o.guard with
      | none => rfl
      | some jb =>
        obtain ⟨j, b⟩ := jb
        rw [hgd] at hg
        have h1 := hok.1
        rw [hgd] at h1
        simp [yielded_of hs hg.1 h1.1]
    rw [if_pos hw]
    exact hv E S' a w g hs hok' Q K' hK
  · refine ⟨?_, hc.2⟩
    have := hc.1
    rw [readsOk_iff] at this ⊢
    intro p hp
    rcases List.mem_append.1 hp with h' | h'
    · cases hgd : o.guard with
      | none => rw [hgd] at h'; simp [guardReads] at h'
      | some jb =>
        rw [hgd] at h' hg
        simp [guardReads] at h'
        subst h'
        exact hg.2
    · exact this p h'

theorem holds_put {E : Env} {L' : List (Nat × AObj)} {g' : Gh} {w' : World} {a : Act} {x : AVal} {v : Value} {d : Nat}
    (hi : Inv E (look .dead L') g' w') (hd : a.defers = []) (hn : a.tmps.size = S.n) (hs : ∀ t, (S.get t).sat g' (a.tmps.getD t undef)) (hx : x.sat g' v)
    (hlt : Nat.blt d S.n = true) : holds E ⟨S.n, (d, x) :: S.τ, L'⟩ (a.put (some d) v) w' := by
  have hlt' : d < a.tmps.size := by rw [hn]; simpa using hlt
  refine ⟨g', hi, hd, by simp [Act.put, hn], fun t => ?_⟩
  by_cases h : t = d
  · subst h
    show AVal.sat g' (look _ _ _) _
    rw [look_same]
    simpa [Act.put, hlt'] using hx
  · show AVal.sat g' (look _ _ _) _
    rw [look_ne _ _ _ (Ne.symm h)]
    have : (a.put (some d) v).tmps.getD t undef = a.tmps.getD t undef := by
      simp [Act.put, Array.getElem?_setIfInBounds_ne (Ne.symm h)]
    rw [this]; exact hs t

theorem undef_sat {g : Gh} : (AVal.tup []).sat g undef := by
  simp only [AVal.sat]
  exact ⟨#[], rfl, by simp only [satL]⟩
/-- An operation that is not wanted. -/
theorem w_skip {d : Option Nat} {op : Op} {ty : TypeId} {pos : String} {aft : Array Edge} {gd : Option (Nat × Bool)}
    (hg : guardNot ops S gd) (hd : dstOk S (d.map fun t => (t, AVal.tup [])))
    (h : Walk P ops draw K rest ((l.length, ⟨d, op, ty, pos, aft, gd⟩, ⟨guardReads ops (gd.map fun p => (p.1, !p.2)), d.map fun t => (t, .tup []), [], [], []⟩) :: l)
      (S.skip d)) :
    Walk P ops draw K (⟨d, op, ty, pos, aft, gd⟩ :: rest) l S := by
  cases gd with
  | none => exact hg.elim
  | some jb =>
    obtain ⟨j, b⟩ := jb
    have hg := guardNot_spec hg
    refine .step ⟨guardReads ops (some (j, !b)), d.map fun t => (t, .tup []), [], [], []⟩ (fun E S' a w hs hok Q K' hK => ?_) ⟨⟨hg.2, trivial⟩, trivial, trivial, hd⟩ h
    obtain ⟨g, hs⟩ := hs
    have hy := yielded_of (b := !b) hs hg.1 hok.1.1
    have hw : Region.wanted ⟨d, op, ty, pos, aft, some (j, b)⟩ (yielded ops a.tmps) = false := by
      simp only [Region.wanted, hy]
      cases b <;> rfl
    rw [hw]
    simp only [Bool.false_eq_true, if_false]
    refine hK _ _ ?_
    cases d with
    | none => exact ⟨g, hs⟩
    | some d => exact holds_put hs.1 hs.2.1 hs.2.2.1 hs.2.2.2 undef_sat hok.2.2.2

/-- An operation whose guard was not run either. -/
theorem w_skip_u {d : Option Nat} {op : Op} {ty : TypeId} {pos : String} {aft : Array Edge} {gd : Option (Nat × Bool)} {t : Nat} {j : Nat} {b : Bool} (hgd : gd = some (j, b))
    (hj : (ops[j]?).bind (·.dst) = some t) (ht : S.get t = .tup []) (hd : dstOk S (d.map fun t => (t, AVal.tup [])))
    (h : Walk P ops draw K rest ((l.length, ⟨d, op, ty, pos, aft, gd⟩, ⟨[(.tmp t, .tup [])], d.map fun t => (t, .tup []), [], [], []⟩) :: l) (S.skip d)) :
    Walk P ops draw K (⟨d, op, ty, pos, aft, gd⟩ :: rest) l S := by
  subst hgd
  refine .step ⟨[(.tmp t, .tup [])], d.map fun t => (t, .tup []), [], [], []⟩ (fun E S' a w hs hok Q K' hK => ?_) ⟨⟨ht, trivial⟩, trivial, trivial, hd⟩ h
  obtain ⟨g, hs⟩ := hs
  have hv := hs.2.2.2 t
  have h1 : S'.get t = .tup [] := hok.1.1
  rw [h1] at hv
  simp only [AVal.sat] at hv
  obtain ⟨vs, hv, _⟩ := hv
  have hw : Region.wanted ⟨d, op, ty, pos, aft, some (j, b)⟩ (yielded ops a.tmps) = false := by
    simp only [Region.wanted, yielded, hj, Option.bind_some]
    cases hq : a.tmps[t]? with
    | none => rfl
    | some v => simp [hq] at hv; subst hv; rfl
  rw [hw]
  simp only [Bool.false_eq_true, if_false]
  refine hK _ _ ?_
  cases d with
  | none => exact ⟨g, hs⟩
  | some d => exact holds_put hs.1 hs.2.1 hs.2.2.1 hs.2.2.2 undef_sat hok.2.2.2

theorem valid_val {o : Oper} {reads : List (Operand × AVal)} {d : Nat} {x : AVal} {lrd : List (Nat × AObj)} (hdst : o.dst = some d)
    (h : ∀ E S g a w, holdsG E S g a w → satR g a reads → lrdOk S lrd → ∃ v, (execOp a.eval o).run P w = .ok (.value v) w ∧ x.sat g v) :
    Valid' P o ⟨reads, some (d, x), lrd, [], []⟩ := by
  intro E S a w g hs hok Q K hK
  obtain ⟨v, h1, h2⟩ := h E S g a w hs (satR_of hs _ hok.1) hok.2.1
  unfold Oper.wp
  rw [h1, Oper.upon_value, hdst]
  exact hK _ _ (holds_put hs.1 hs.2.1 hs.2.2.1 hs.2.2.2 h2 hok.2.2.2)

variable {d : Nat} {ty : TypeId} {pos : String} {aft : Array Edge} {gd : Option (Nat × Bool)}

theorem w_move {x : Operand} {y : AVal} (hx : S.ev x = y) (hd : Nat.blt d S.n = true) (hg : guardOk ops S gd)
    (h : Walk P ops draw K rest ((l.length, ⟨some d, .move x, ty, pos, aft, gd⟩, ⟨guardReads ops gd ++ [(x, y)], some (d, y), [], [], []⟩) :: l) (S.set d (y))) :
    Walk P ops draw K (⟨some d, .move x, ty, pos, aft, gd⟩ :: rest) l S :=
  walk_op ⟨[(x, y)], some (d, y), [], [], []⟩ (valid_val rfl fun E S g a w hs hr _ => ⟨_, rfl, hr.1⟩) hg ⟨⟨hx, trivial⟩, trivial, trivial, hd⟩ h
theorem w_assign {x : Operand} {y : AVal} (hx : S.ev x = y) (hd : Nat.blt d S.n = true) (hg : guardOk ops S gd)
    (h : Walk P ops draw K rest ((l.length, ⟨some d, .assign x, ty, pos, aft, gd⟩, ⟨guardReads ops gd ++ [(x, y)], some (d, y), [], [], []⟩) :: l) (S.set d (y))) :
    Walk P ops draw K (⟨some d, .assign x, ty, pos, aft, gd⟩ :: rest) l S :=
  walk_op ⟨[(x, y)], some (d, y), [], [], []⟩ (valid_val rfl fun E S g a w hs hr _ => ⟨_, rfl, hr.1⟩) hg ⟨⟨hx, trivial⟩, trivial, trivial, hd⟩ h

theorem sat_bool {g : Gh} {b : Bool} {v : Value} (h : (ab b).sat g v) : v = .bool b := by simp only [AVal.sat, D.rep] at h; exact h.1
theorem sat_v {g : Gh} {x v : Value} (h : (AVal.d (.v x)).sat g v) : v = x := by simp only [AVal.sat, D.rep] at h; exact h.1
theorem sat_mk {g : Gh} {x : Value} (h : x.oneCell' = true) : (AVal.d (.v x)).sat g x := by simpa [AVal.sat, D.rep] using h

theorem w_pick_t {c x z : Operand} {b : Bool} {y : AVal} (hc : S.ev c = ab b) (hb : b = true) (hx : S.ev x = y) (hd : Nat.blt d S.n = true) (hg : guardOk ops S gd)
    (h : Walk P ops draw K rest ((l.length, ⟨some d, .pick c x z, ty, pos, aft, gd⟩, ⟨guardReads ops gd ++ [(c, ab true), (x, y)], some (d, y), [], [], []⟩) :: l) (S.set d (y))) :
    Walk P ops draw K (⟨some d, .pick c x z, ty, pos, aft, gd⟩ :: rest) l S :=
  walk_op ⟨[(c, ab true), (x, y)], some (d, y), [], [], []⟩ (valid_val rfl fun E S g a w hs hr _ => by
    refine ⟨a.eval x, ?_, hr.2.1⟩
    simp [execOp, sat_bool hr.1, asBool]) hg ⟨⟨hb ▸ hc, hx, trivial⟩, trivial, trivial, hd⟩ h
theorem w_pick_f {c x z : Operand} {b : Bool} {y : AVal} (hc : S.ev c = ab b) (hb : b = false) (hx : S.ev z = y) (hd : Nat.blt d S.n = true) (hg : guardOk ops S gd)
    (h : Walk P ops draw K rest ((l.length, ⟨some d, .pick c x z, ty, pos, aft, gd⟩, ⟨guardReads ops gd ++ [(c, ab false), (z, y)], some (d, y), [], [], []⟩) :: l) (S.set d (y))) :
    Walk P ops draw K (⟨some d, .pick c x z, ty, pos, aft, gd⟩ :: rest) l S :=
  walk_op ⟨[(c, ab false), (z, y)], some (d, y), [], [], []⟩ (valid_val rfl fun E S g a w hs hr _ => by
    refine ⟨a.eval z, ?_, hr.2.1⟩
    simp [execOp, sat_bool hr.1, asBool]) hg ⟨⟨hb ▸ hc, hx, trivial⟩, trivial, trivial, hd⟩ h

/-- A binary operation on two known scalars, by its run. -/
theorem w_bin {op : BinOp} {xt yt : TypeId} {x y : Operand} {u v r : Value} (hx : S.ev x = .d (.v u)) (hy : S.ev y = .d (.v v))
    (hr : ∀ w, (do eqGuard op xt x y u v; binOp op xt u v : Sem Value).run P w = .ok r w) (h1 : r.oneCell' = true) (hd : Nat.blt d S.n = true) (hg : guardOk ops S gd)
    (h : Walk P ops draw K rest ((l.length, ⟨some d, .binOp op xt x y yt, ty, pos, aft, gd⟩, ⟨guardReads ops gd ++ [(x, .d (.v u)), (y, .d (.v v))], some (d, .d (.v r)), [], [], []⟩) :: l) (S.set d (.d (.v r)))) :
    Walk P ops draw K (⟨some d, .binOp op xt x y yt, ty, pos, aft, gd⟩ :: rest) l S :=
  walk_op ⟨[(x, .d (.v u)), (y, .d (.v v))], some (d, .d (.v r)), [], [], []⟩ (valid_val rfl fun E S g a w hs hq _ => by
    refine ⟨r, ?_, sat_mk h1⟩
    have := hr w
    simp only [execOp, sat_v hq.1, sat_v hq.2.1, Sem.run_bind, Sem.run_pure] at this ⊢
    rw [this]; rfl) hg ⟨⟨hx, hy, trivial⟩, trivial, trivial, hd⟩ h

theorem rb_lss {t : TypeId} {x y : Operand} {k : IntKind} {a b : Int} (w : World) : (do eqGuard .lss t x y (.int k a) (.int k b); binOp .lss t (.int k a) (.int k b) : Sem Value).run P w = .ok (.bool (decide (a < b))) w := by simp [go_sem]
theorem rb_leq {t : TypeId} {x y : Operand} {k : IntKind} {a b : Int} (w : World) : (do eqGuard .leq t x y (.int k a) (.int k b); binOp .leq t (.int k a) (.int k b) : Sem Value).run P w = .ok (.bool (decide (a ≤ b))) w := by simp [go_sem]
theorem rb_gtr {t : TypeId} {x y : Operand} {k : IntKind} {a b : Int} (w : World) : (do eqGuard .gtr t x y (.int k a) (.int k b); binOp .gtr t (.int k a) (.int k b) : Sem Value).run P w = .ok (.bool (decide (b < a))) w := by simp [go_sem]
theorem rb_geq {t : TypeId} {x y : Operand} {k : IntKind} {a b : Int} (w : World) : (do eqGuard .geq t x y (.int k a) (.int k b); binOp .geq t (.int k a) (.int k b) : Sem Value).run P w = .ok (.bool (decide (b ≤ a))) w := by simp [go_sem]
theorem rb_eql {t : TypeId} {x y : Operand} {k : IntKind} {a b : Int} (w : World) : (do eqGuard .eql t x y (.int k a) (.int k b); binOp .eql t (.int k a) (.int k b) : Sem Value).run P w = .ok (.bool (decide (a = b))) w := by
  simp [go_sem]; exact Bool.beq_eq_decide_eq a b
theorem rb_neq {t : TypeId} {x y : Operand} {k : IntKind} {a b : Int} (w : World) : (do eqGuard .neq t x y (.int k a) (.int k b); binOp .neq t (.int k a) (.int k b) : Sem Value).run P w = .ok (.bool (decide (a ≠ b))) w := by
  simp [go_sem, bne, Bool.beq_eq_decide_eq]
theorem rb_add {t : TypeId} {x y : Operand} {k : IntKind} {a b : Int} (w : World) : (do eqGuard .add t x y (.int k a) (.int k b); binOp .add t (.int k a) (.int k b) : Sem Value).run P w = .ok (.int k (k.wrap (a + b))) w := by simp [go_sem]
theorem rb_sub {t : TypeId} {x y : Operand} {k : IntKind} {a b : Int} (w : World) : (do eqGuard .sub t x y (.int k a) (.int k b); binOp .sub t (.int k a) (.int k b) : Sem Value).run P w = .ok (.int k (k.wrap (a - b))) w := by simp [go_sem]
theorem rb_mul {t : TypeId} {x y : Operand} {k : IntKind} {a b : Int} (w : World) : (do eqGuard .mul t x y (.int k a) (.int k b); binOp .mul t (.int k a) (.int k b) : Sem Value).run P w = .ok (.int k (k.wrap (a * b))) w := by simp [go_sem]
/-- The three again, where nothing wraps. -/
def in64 (n : Int) : Prop := -9223372036854775808 ≤ n ∧ n ≤ 9223372036854775807
theorem rb_add64 {t : TypeId} {x y : Operand} {a b : Int} (h : in64 (a + b)) (w : World) : (do eqGuard .add t x y (.int .i64 a) (.int .i64 b); binOp .add t (.int .i64 a) (.int .i64 b) : Sem Value).run P w = .ok (.int .i64 (a + b)) w := by
  rw [rb_add, IntWalk.i64_in _ h]
theorem rb_sub64 {t : TypeId} {x y : Operand} {a b : Int} (h : in64 (a - b)) (w : World) : (do eqGuard .sub t x y (.int .i64 a) (.int .i64 b); binOp .sub t (.int .i64 a) (.int .i64 b) : Sem Value).run P w = .ok (.int .i64 (a - b)) w := by
  rw [rb_sub, IntWalk.i64_in _ h]
theorem rb_mul64 {t : TypeId} {x y : Operand} {a b : Int} (h : in64 (a * b)) (w : World) : (do eqGuard .mul t x y (.int .i64 a) (.int .i64 b); binOp .mul t (.int .i64 a) (.int .i64 b) : Sem Value).run P w = .ok (.int .i64 (a * b)) w := by
  rw [rb_mul, IntWalk.i64_in _ h]

theorem w_un {op : UnOp} {xt : TypeId} {x : Operand} {u r : Value} (hx : S.ev x = .d (.v u))
    (hr : ∀ w, (Op.unary op u).run P w = .ok r w) (h1 : r.oneCell' = true) (hd : Nat.blt d S.n = true) (hg : guardOk ops S gd)
    (h : Walk P ops draw K rest ((l.length, ⟨some d, .unOp op xt x, ty, pos, aft, gd⟩, ⟨guardReads ops gd ++ [(x, .d (.v u))], some (d, .d (.v r)), [], [], []⟩) :: l) (S.set d (.d (.v r)))) :
    Walk P ops draw K (⟨some d, .unOp op xt x, ty, pos, aft, gd⟩ :: rest) l S :=
  walk_op ⟨[(x, .d (.v u))], some (d, .d (.v r)), [], [], []⟩ (valid_val rfl fun E S g a w hs hq _ => by
    refine ⟨r, ?_, sat_mk h1⟩
    simp only [execOp, sat_v hq.1, Sem.run_bind, hr w]; rfl) hg ⟨⟨hx, trivial⟩, trivial, trivial, hd⟩ h
theorem ru_not {b : Bool} (w : World) : (Op.unary .not (.bool b)).run P w = .ok (.bool (!b)) w := rfl

theorem w_conv {src dst : TypeId} {x : Operand} {u r : Value} (hx : S.ev x = .d (.v u))
    (hr : ∀ w, (convert src dst u).run P w = .ok r w) (h1 : r.oneCell' = true) (hd : Nat.blt d S.n = true) (hg : guardOk ops S gd)
    (h : Walk P ops draw K rest ((l.length, ⟨some d, .convert src dst x, ty, pos, aft, gd⟩, ⟨guardReads ops gd ++ [(x, .d (.v u))], some (d, .d (.v r)), [], [], []⟩) :: l) (S.set d (.d (.v r)))) :
    Walk P ops draw K (⟨some d, .convert src dst x, ty, pos, aft, gd⟩ :: rest) l S :=
  walk_op ⟨[(x, .d (.v u))], some (d, .d (.v r)), [], [], []⟩ (valid_val rfl fun E S g a w hs hq _ => by
    refine ⟨r, ?_, sat_mk h1⟩
    simp only [execOp, sat_v hq.1, Sem.run_bind, hr w]; rfl) hg ⟨⟨hx, trivial⟩, trivial, trivial, hd⟩ h
def isInt (P : Program) (t : TypeId) (k : IntKind) : Bool := match P.underlying t with | some (.int q) => decide (q = k) | _ => false
theorem rc_int {src dst : TypeId} {k q : IntKind} {n : Int} (hs : (P.underlying src).isSome = true) (hd : isInt P dst q = true) (w : World) :
    (convert src dst (.int k n)).run P w = .ok (.int q (q.wrap n)) w := by
  have h1 : P.underlying dst = some (.int q) := by
    unfold isInt at hd
    cases hu : P.underlying dst with
    | none => rw [hu] at hd; simp at hd
    | some t => cases t <;> rw [hu] at hd <;> simp at hd; subst hd; rfl
  have h2 : P.intKind dst = q := by simp [Program.intKind, h1]
  have := run_convert_int (P := P) w src dst k n hs (by rw [h2]; exact h1)
  rwa [h2] at this

/-! Types. -/
def tyIs (P : Program) (t : TypeId) (agg : Bool) (sz : Nat) : Bool :=
  match P.underlying t, P.info? t with
  | some d, some i => ((match d with | .struct _ => agg | .array _ _ => agg | _ => !agg) && Nat.beq i.size sz)
  | _, _ => false
def tySz (P : Program) (t : TypeId) : Nat := match P.info? t with | some i => i.size | none => 0
def fldOff (P : Program) (s : TypeId) (f : Nat) : Nat :=
  match P.underlying s with
  | some (.struct fs) => (match fs[f]? with | some q => q.offset | none => 0)
  | _ => 0
def fldSz (P : Program) (s : TypeId) (f : Nat) : Nat :=
  match P.underlying s with
  | some (.struct fs) => (match fs[f]? with | some q => tySz P q.type | none => 0)
  | _ => 0
def isSl (P : Program) (t : TypeId) : Bool := match P.underlying t with | some (.slice _) => true | _ => false
theorem isSl_spec {t : TypeId} (h : isSl P t = true) : ∃ e, P.underlying t = some (.slice e) := by
  unfold isSl at h
  cases hu : P.underlying t with
  | none => simp [hu] at h
  | some de => rw [hu] at h; cases de <;> simp at h; exact ⟨_, rfl⟩
def slIs (P : Program) (t : TypeId) (sz : Nat) : Bool :=
  match P.underlying t with
  | some (.slice e) => (match P.info? e with | some i => Nat.beq i.size sz | none => false)
  | _ => false
def fldIs (P : Program) (s : TypeId) (f off : Nat) : Bool :=
  match P.underlying s with
  | some (.struct fs) => (match fs[f]? with | some q => Nat.beq q.offset off && (match P.info? q.type with | some i => !Nat.beq i.size 0 | none => false) | none => false)
  | _ => false
def fldTy (P : Program) (s : TypeId) (f off : Nat) (agg : Bool) (sz : Nat) : Bool :=
  match P.underlying s with
  | some (.struct fs) => (match fs[f]? with | some q => Nat.beq q.offset off && tyIs P q.type agg sz | none => false)
  | _ => false

theorem tyIs_spec {t : TypeId} {agg : Bool} {sz : Nat} (h : tyIs P t agg sz = true) :
    (∀ w, (isAgg t).run P w = .ok agg w) ∧ (∀ w, (sizeOf t).run P w = .ok sz w) := by
  unfold tyIs at h
  cases hu : P.underlying t with
  | none => simp [hu] at h
  | some de =>
    cases hq : P.info? t with
    | none => simp [hq] at h
    | some i =>
      rw [hu, hq] at h
      simp only [Bool.and_eq_true] at h
      have h2 : i.size = sz := Nat.eq_of_beq_eq_true h.2
      refine ⟨fun w => ?_, fun w => by simp [sizeOf, typeInfo, hq, h2]⟩
      unfold isAgg
      rw [Sem.run_bind, run_underlying hu w]
      have h1 := h.1
      cases de <;> cases agg <;> simp_all
theorem slIs_spec {t : TypeId} {sz : Nat} (h : slIs P t sz = true) : ∃ e, P.underlying t = some (.slice e) ∧ (∀ w, (sizeOf e).run P w = .ok sz w) ∧ P.elem t = e := by
  unfold slIs at h
  cases hu : P.underlying t with
  | none => simp [hu] at h
  | some de =>
    cases de <;> rw [hu] at h <;> simp at h
    rename_i e
    cases hq : P.info? e with
    | none => simp [hq] at h
    | some i =>
      rw [hq] at h
      have h2 : i.size = sz := by simpa using h
      exact ⟨e, rfl, fun w => by simp [sizeOf, typeInfo, hq, h2], by simp [Program.elem, hu]⟩

theorem run_loadVar_one {t : TypeId} {p : Addr} {v : Value} {w : World} (ht : tyIs P t false 1 = true) (h : w.cell? p = some v) : (loadVar t p).run P w = .ok v w := by
  have := (tyIs_spec ht).1 w
  simp [loadVar, this, h]
theorem run_loadVar_agg {t : TypeId} {p : Addr} {vs : List Value} {w : World} (ht : tyIs P t true vs.length = true) (h : ∀ j v, vs[j]? = some v → w.cell? (p.add j) = some v) :
    (loadVar t p).run P w = .ok (.agg vs.toArray) w := by
  have h1 := (tyIs_spec ht).1 w
  have h2 := (tyIs_spec ht).2 w
  have h3 := run_loadCells_list (P := P) w p vs h
  simp [loadVar, h1, h2, h3]

theorem add_at (b o j : Nat) : (⟨b, o, none⟩ : Addr).add j = ⟨b, o + j, none⟩ := Addr.add_lit b o j

theorem w_load_box {t : TypeId} {x : Operand} {γ o : Nat} {cs : List AVal} {y : AVal} (hx : S.ev x = .ptr γ o) (hL : S.obj γ = .box cs) (hy : cs[o]? = some y)
    (ht : tyIs P t false 1 = true) (hd : Nat.blt d S.n = true) (hg : guardOk ops S gd)
    (h : Walk P ops draw K rest ((l.length, ⟨some d, .load t x, ty, pos, aft, gd⟩, ⟨guardReads ops gd ++ [(x, .ptr γ o)], some (d, y), [(γ, .box cs)], [], []⟩) :: l) (S.set d (y))) :
    Walk P ops draw K (⟨some d, .load t x, ty, pos, aft, gd⟩ :: rest) l S :=
  walk_op ⟨[(x, .ptr γ o)], some (d, y), [(γ, .box cs)], [], []⟩ (valid_val rfl fun E S g a w hs hq hl => by
    have ho := hs.1.obj γ
    rw [hl.1] at ho
    obtain ⟨vs, e, fr, h1, h2, h3, h4⟩ := ho
    obtain ⟨u, hu, hsu⟩ := satL_get h3 o y hy
    refine ⟨u, ?_, hsu⟩
    have hp : a.eval x = .pointer (some ⟨g.blk γ, o, none⟩) := by have := hq.1; simpa only [AVal.sat] using this
    have hc : w.cell? ⟨g.blk γ, o, none⟩ = some u := by rw [cell_of_row w _ o vs e fr h1]; simpa using hu
    simp [execOp, hp, Instr.loadAt, Instr.sureAddr, run_loadVar_one ht hc]) hg ⟨⟨hx, trivial⟩, ⟨hL, trivial⟩, trivial, hd⟩ h
theorem w_load_boxagg {t : TypeId} {x : Operand} {γ o sz : Nat} {cs ys : List AVal} (hx : S.ev x = .ptr γ o) (hL : S.obj γ = .box cs)
    (hsz : tySz P t = sz) (ht : tyIs P t true sz = true) (hy : (cs.drop o).take sz = ys) (hlen : Nat.beq ys.length sz = true) (hd : Nat.blt d S.n = true) (hg : guardOk ops S gd)
    (h : Walk P ops draw K rest ((l.length, ⟨some d, .load t x, ty, pos, aft, gd⟩, ⟨guardReads ops gd ++ [(x, .ptr γ o)], some (d, .agg ys), [(γ, .box cs)], [], []⟩) :: l) (S.set d (.agg ys))) :
    Walk P ops draw K (⟨some d, .load t x, ty, pos, aft, gd⟩ :: rest) l S :=
  walk_op ⟨[(x, .ptr γ o)], some (d, .agg ys), [(γ, .box cs)], [], []⟩ (valid_val rfl fun E S g a w hs hq hl => by
    have ho := hs.1.obj γ
    rw [hl.1] at ho
    obtain ⟨vs, e, fr, h1, h2, h3, h4⟩ := ho
    have hsub := satL_take (satL_drop h3 o) sz
    rw [hy] at hsub
    have hl1 := satL_length hsub
    have hl2 : ys.length = sz := Nat.eq_of_beq_eq_true hlen
    refine ⟨.agg ((vs.toList.drop o).take sz).toArray, ?_, by simp only [AVal.sat]; exact ⟨_, rfl, hsub⟩⟩
    have hp : a.eval x = .pointer (some ⟨g.blk γ, o, none⟩) := by have := hq.1; simpa only [AVal.sat] using this
    have := run_loadVar_agg (P := P) (p := ⟨g.blk γ, o, none⟩) (w := w) (vs := (vs.toList.drop o).take sz) (t := t) (by rw [hl1, hl2]; exact ht) (fun j v hv => by
      rw [add_at, cell_of_row w _ _ vs e fr h1]
      rw [List.getElem?_take] at hv
      split at hv
      · rw [List.getElem?_drop] at hv; simpa using hv
      · simp at hv)
    simp [execOp, hp, Instr.loadAt, Instr.sureAddr, this]) hg ⟨⟨hx, trivial⟩, ⟨hL, trivial⟩, trivial, hd⟩ h
theorem w_load_d {t : TypeId} {x : Operand} {y : D} {r : List D} (hx : S.ev x = .dptr (y :: r))
    (ht : tyIs P t false 1 = true) (hd : Nat.blt d S.n = true) (hg : guardOk ops S gd)
    (h : Walk P ops draw K rest ((l.length, ⟨some d, .load t x, ty, pos, aft, gd⟩, ⟨guardReads ops gd ++ [(x, .dptr (y :: r))], some (d, .d y), [], [], []⟩) :: l) (S.set d (.d y))) :
    Walk P ops draw K (⟨some d, .load t x, ty, pos, aft, gd⟩ :: rest) l S :=
  walk_op ⟨[(x, .dptr (y :: r))], some (d, .d y), [], [], []⟩ (valid_val rfl fun E S g a w hs hq hl => by
    have := hq.1
    simp only [AVal.sat] at this
    obtain ⟨b, o, hp, hr⟩ := this
    simp only [repCells] at hr
    obtain ⟨⟨u, hu, hsu⟩, _⟩ := hr
    refine ⟨u, ?_, by simp only [AVal.sat]; exact hsu⟩
    have hc := hs.1.mem _ _ hu
    simp [execOp, hp, Instr.loadAt, Instr.sureAddr, run_loadVar_one ht hc]) hg ⟨⟨hx, trivial⟩, trivial, trivial, hd⟩ h

theorem rep_values {M : Mem} {w : World} (hm : ∀ a v, M a = some v → w.cell? a = some v) : ∀ (ds : List D) (b o : Nat), repCells M ds b o →
    ∃ vs : List Value, vs.length = ds.length ∧ (∀ (j : Nat) (v : Value), vs[j]? = some v → w.cell? ⟨b, o + j, none⟩ = some v) ∧ (∀ (j : Nat) (d : D) (v : Value), ds[j]? = some d → vs[j]? = some v → d.rep M v)
  | [], _, _, _ => ⟨[], rfl, by simp, by simp⟩
  | d :: ds, b, o, h => by
    simp only [repCells] at h
    obtain ⟨⟨u, h1, h2⟩, h3⟩ := h
    obtain ⟨vs, k1, k2, k3⟩ := rep_values hm ds b (o + 1) h3
    refine ⟨u :: vs, by simp [k1], fun j v hv => ?_, fun j d' v hd' hv => ?_⟩
    · cases j with
      | zero => simp at hv; subst hv; exact hm _ _ h1
      | succ j => have := k2 j v (by simpa using hv); rwa [show o + 1 + j = o + (j + 1) by omega] at this
    · cases j with
      | zero => simp at hv hd'; subst hv hd'; exact h2
      | succ j => exact k3 j d' v (by simpa using hd') (by simpa using hv)

theorem w_load_dagg {t : TypeId} {x : Operand} {row : List D} {sz : Nat} {ys : List AVal} (hx : S.ev x = .dptr row)
    (hsz : tySz P t = sz) (ht : tyIs P t true sz = true) (hy : (row.take sz).map .d = ys) (hlen : Nat.beq ys.length sz = true) (hd : Nat.blt d S.n = true) (hg : guardOk ops S gd)
    (h : Walk P ops draw K rest ((l.length, ⟨some d, .load t x, ty, pos, aft, gd⟩, ⟨guardReads ops gd ++ [(x, .dptr row)], some (d, .agg ys), [], [], []⟩) :: l) (S.set d (.agg ys))) :
    Walk P ops draw K (⟨some d, .load t x, ty, pos, aft, gd⟩ :: rest) l S :=
  walk_op ⟨[(x, .dptr row)], some (d, .agg ys), [], [], []⟩ (valid_val rfl fun E S g a w hs hq hl => by
    have := hq.1
    simp only [AVal.sat] at this
    obtain ⟨b, o, hp, hr⟩ := this
    obtain ⟨vs, k1, k2, k3⟩ := rep_values hs.1.mem _ _ _ (repCells_take hr sz)
    have hl2 : ys.length = sz := Nat.eq_of_beq_eq_true hlen
    have hl3 : vs.length = sz := by rw [k1, ← hl2, ← hy]; simp
    refine ⟨.agg vs.toArray, ?_, ?_⟩
    · have := run_loadVar_agg (P := P) (p := ⟨b, o, none⟩) (w := w) (vs := vs) (t := t) (by rw [hl3]; exact ht) (fun j v hv => by rw [add_at]; exact k2 j v hv)
      simp [execOp, hp, Instr.loadAt, Instr.sureAddr, this]
    · simp only [AVal.sat]
      refine ⟨_, rfl, satL_of (by simp [hl2, hl3]) fun i z u hz hu => ?_⟩
      rw [← hy] at hz
      simp only [List.getElem?_map, Option.map_eq_some_iff] at hz
      obtain ⟨d', hd', rfl⟩ := hz
      simp only [AVal.sat]
      exact k3 i d' u hd' (by simpa using hu)) hg ⟨⟨hx, trivial⟩, trivial, trivial, hd⟩ h

theorem fldIs_spec {s : TypeId} {f off : Nat} (h : fldIs P s f off = true) : ∃ fs q i, P.underlying s = some (.struct fs) ∧ fs[f]? = some q ∧ q.offset = off ∧ P.info? q.type = some i ∧ i.size ≠ 0 := by
  unfold fldIs at h
  cases hu : P.underlying s with
  | none => simp [hu] at h
  | some de =>
    cases de <;> rw [hu] at h <;> simp at h
    rename_i fs
    cases hq : fs[f]? with
    | none => simp [hq] at h
    | some q =>
      rw [hq] at h
      cases hi : P.info? q.type with
      | none => simp [hi] at h
      | some i => simp [hi] at h; exact ⟨fs, q, i, rfl, hq, h.1, hi, ne_of_beq h.2⟩

theorem run_fieldAt {s : TypeId} {f off b o : Nat} (h : fldIs P s f off = true) (w : World) : (Instr.fieldAt s (.pointer (some ⟨b, o, none⟩)) f).run P w = .ok (.pointer (some ⟨b, o + off, none⟩)) w := by
  obtain ⟨fs, q, i, h1, h2, h3, h4, h5⟩ := fldIs_spec h
  simp [Instr.fieldAt, run_underlying h1, h2, Instr.sureAddr, fieldPlace, h3, add_at, sizeOf, typeInfo, h4, h5]

theorem w_field_box {s : TypeId} {x : Operand} {f γ o off : Nat} (hx : S.ev x = .ptr γ o) (hoff : fldOff P s f = off) (hf : fldIs P s f off = true) (hd : Nat.blt d S.n = true) (hg : guardOk ops S gd)
    (h : Walk P ops draw K rest ((l.length, ⟨some d, .fieldAddr s x f, ty, pos, aft, gd⟩, ⟨guardReads ops gd ++ [(x, .ptr γ o)], some (d, .ptr γ (o + off)), [], [], []⟩) :: l) (S.set d (.ptr γ (o + off)))) :
    Walk P ops draw K (⟨some d, .fieldAddr s x f, ty, pos, aft, gd⟩ :: rest) l S :=
  walk_op ⟨[(x, .ptr γ o)], some (d, .ptr γ (o + off)), [], [], []⟩ (valid_val rfl fun E S g a w hs hq hl => by
    have hp : a.eval x = .pointer (some ⟨g.blk γ, o, none⟩) := by have := hq.1; simpa only [AVal.sat] using this
    exact ⟨.pointer (some ⟨g.blk γ, o + off, none⟩), by simp [execOp, hp, run_fieldAt hf], by simp only [AVal.sat]⟩) hg ⟨⟨hx, trivial⟩, trivial, trivial, hd⟩ h
theorem w_field_d {s : TypeId} {x : Operand} {f off : Nat} {row : List D} (hx : S.ev x = .dptr row) (hoff : fldOff P s f = off) (hf : fldIs P s f off = true) (hd : Nat.blt d S.n = true) (hg : guardOk ops S gd)
    (h : Walk P ops draw K rest ((l.length, ⟨some d, .fieldAddr s x f, ty, pos, aft, gd⟩, ⟨guardReads ops gd ++ [(x, .dptr row)], some (d, .dptr (row.drop off)), [], [], []⟩) :: l) (S.set d (.dptr (row.drop off)))) :
    Walk P ops draw K (⟨some d, .fieldAddr s x f, ty, pos, aft, gd⟩ :: rest) l S :=
  walk_op ⟨[(x, .dptr row)], some (d, .dptr (row.drop off)), [], [], []⟩ (valid_val rfl fun E S g a w hs hq hl => by
    have := hq.1
    simp only [AVal.sat] at this
    obtain ⟨b, o, hp, hr⟩ := this
    exact ⟨.pointer (some ⟨b, o + off, none⟩), by simp [execOp, hp, run_fieldAt hf], by simp only [AVal.sat]; exact ⟨b, o + off, rfl, repCells_drop hr off⟩⟩) hg ⟨⟨hx, trivial⟩, trivial, trivial, hd⟩ h

theorem run_part {t : TypeId} {agg : Bool} {sz : Nat} (ht : tyIs P t agg sz = true) (vs : Array Value) (off : Nat) (w : World) :
    (part t vs off).run P w = if agg then .ok (.agg (vs.extract off (off + sz))) w else match vs[off]? with | some v => .ok v w | none => .halt (.stuck "part: no such cell") w := by
  have h1 := (tyIs_spec ht).1 w
  have h2 := (tyIs_spec ht).2 w
  cases agg with
  | true => simp [part, h1, h2]
  | false =>
    simp only [part, Sem.run_bind, h1, Result.andThen_ok, Bool.false_eq_true, if_false]
    cases vs[off]? <;> rfl
theorem fldTy_spec {s : TypeId} {f off : Nat} {agg : Bool} {sz : Nat} (h : fldTy P s f off agg sz = true) : ∃ fs q, P.underlying s = some (.struct fs) ∧ fs[f]? = some q ∧ q.offset = off ∧ tyIs P q.type agg sz = true := by
  unfold fldTy at h
  cases hu : P.underlying s with
  | none => simp [hu] at h
  | some de =>
    cases de <;> rw [hu] at h <;> simp at h
    rename_i fs
    cases hq : fs[f]? with
    | none => simp [hq] at h
    | some q => rw [hq] at h; simp at h; exact ⟨fs, q, rfl, hq, h.1, h.2⟩
theorem w_fieldv {s : TypeId} {x : Operand} {f off sz : Nat} {cs : List AVal} {y : AVal} (hx : S.ev x = .agg cs) (hoff : fldOff P s f = off) (hsz : fldSz P s f = sz) (hf : fldTy P s f off false sz = true) (hy : cs[off]? = some y)
    (hd : Nat.blt d S.n = true) (hg : guardOk ops S gd)
    (h : Walk P ops draw K rest ((l.length, ⟨some d, .field s x f, ty, pos, aft, gd⟩, ⟨guardReads ops gd ++ [(x, .agg cs)], some (d, y), [], [], []⟩) :: l) (S.set d (y))) :
    Walk P ops draw K (⟨some d, .field s x f, ty, pos, aft, gd⟩ :: rest) l S :=
  walk_op ⟨[(x, .agg cs)], some (d, y), [], [], []⟩ (valid_val rfl fun E S g a w hs hq hl => by
    have := hq.1
    simp only [AVal.sat] at this
    obtain ⟨vs, hp, hr⟩ := this
    obtain ⟨fs, q, h1, h2, h3, h4⟩ := fldTy_spec hf
    obtain ⟨u, hu, hsu⟩ := satL_get hr off y hy
    have hu' : vs[off]? = some u := by simpa using hu
    exact ⟨u, by simp [execOp, hp, Instr.field, run_underlying h1, h2, asAgg, run_part h4, h3, hu'], hsu⟩) hg ⟨⟨hx, trivial⟩, trivial, trivial, hd⟩ h
theorem w_fieldv_agg {s : TypeId} {x : Operand} {f off sz : Nat} {cs ys : List AVal} (hx : S.ev x = .agg cs) (hoff : fldOff P s f = off) (hsz : fldSz P s f = sz) (hf : fldTy P s f off true sz = true) (hy : (cs.drop off).take sz = ys)
    (hd : Nat.blt d S.n = true) (hg : guardOk ops S gd)
    (h : Walk P ops draw K rest ((l.length, ⟨some d, .field s x f, ty, pos, aft, gd⟩, ⟨guardReads ops gd ++ [(x, .agg cs)], some (d, .agg ys), [], [], []⟩) :: l) (S.set d (.agg ys))) :
    Walk P ops draw K (⟨some d, .field s x f, ty, pos, aft, gd⟩ :: rest) l S :=
  walk_op ⟨[(x, .agg cs)], some (d, .agg ys), [], [], []⟩ (valid_val rfl fun E S g a w hs hq hl => by
    have := hq.1
    simp only [AVal.sat] at this
    obtain ⟨vs, hp, hr⟩ := this
    obtain ⟨fs, q, h1, h2, h3, h4⟩ := fldTy_spec hf
    have hsub := satL_take (satL_drop hr off) sz
    rw [hy] at hsub
    refine ⟨.agg (vs.extract off (off + sz)), by simp [execOp, hp, Instr.field, run_underlying h1, h2, asAgg, run_part h4, h3], ?_⟩
    simp only [AVal.sat]
    refine ⟨_, rfl, ?_⟩
    have e : (vs.extract off (off + sz)).toList = (vs.toList.drop off).take sz := by simp [List.extract_eq_take_drop]
    rw [e]; exact hsub) hg ⟨⟨hx, trivial⟩, trivial, trivial, hd⟩ h
theorem w_extract {x : Operand} {i : Nat} {vs : List AVal} {y : AVal} (hx : S.ev x = .tup vs) (hy : vs[i]? = some y) (hd : Nat.blt d S.n = true) (hg : guardOk ops S gd)
    (h : Walk P ops draw K rest ((l.length, ⟨some d, .extract x i, ty, pos, aft, gd⟩, ⟨guardReads ops gd ++ [(x, .tup vs)], some (d, y), [], [], []⟩) :: l) (S.set d (y))) :
    Walk P ops draw K (⟨some d, .extract x i, ty, pos, aft, gd⟩ :: rest) l S :=
  walk_op ⟨[(x, .tup vs)], some (d, y), [], [], []⟩ (valid_val rfl fun E S g a w hs hq hl => by
    have := hq.1
    simp only [AVal.sat] at this
    obtain ⟨us, hp, hr⟩ := this
    obtain ⟨u, hu, hsu⟩ := satL_get hr i y hy
    have hu' : us[i]? = some u := by simpa using hu
    exact ⟨u, by simp [execOp, hp, Instr.extract, hu'], hsu⟩) hg ⟨⟨hx, trivial⟩, trivial, trivial, hd⟩ h
end
end Go.Fw

/- Fifth part: rules for operations that make or write memory. -/
import Derived.Test.YtldiocpkgfpehaaFwD
import Derived.Laws.AppendOwn
namespace Go.Fw
open Go
set_option linter.unusedVariables false
set_option linter.unusedSimpArgs false

theorem look_mem {α : Type} (z : α) (l : List (Nat × α)) (t : Nat) : look z l t = z ∨ ∃ p ∈ l, p.2 = look z l t := by
  induction l with
  | nil => exact .inl rfl
  | cons p r ih =>
    obtain ⟨k, x⟩ := p
    simp only [look]
    cases hb : Nat.beq k t with
    | true => exact .inr ⟨(k, x), by simp, rfl⟩
    | false =>
      simp only [cond_false]
      rcases ih with h | ⟨q, hq, he⟩
      · exact .inl h
      · exact .inr ⟨q, by simp [hq], he⟩
theorem get_free {S : St} {γ : Nat} (h : S.free γ = true) (t : Nat) : (S.get t).ment γ = false := by
  simp only [St.free, Bool.and_eq_true, freeT_iff, freeL_iff] at h
  have h := h.2
  rcases look_mem AVal.any S.τ t with e | ⟨p, hp, e⟩
  · show AVal.ment γ (look _ _ _) = false
    rw [e]; rfl
  · show AVal.ment γ (look _ _ _) = false
    rw [← e]; exact h.1 p hp
theorem obj_free {S : St} {γ : Nat} (h : S.free γ = true) (k : Nat) : (S.obj k).ment γ = false := by
  simp only [St.free, Bool.and_eq_true, freeT_iff, freeL_iff] at h
  have h := h.2
  rcases look_mem AObj.dead S.L k with e | ⟨p, hp, e⟩
  · show AObj.ment γ (look _ _ _) = false
    rw [e]; rfl
  · show AObj.ment γ (look _ _ _) = false
    rw [← e]; exact h.2 p hp

def Gh.put (g : Gh) (γ : Nat) (b : Nat) (hv : Value) : Gh :=
  { blk := fun k => if k = γ then b else g.blk k, hd := fun k => if k = γ then hv else g.hd k, ihd := g.ihd, M := g.M }
theorem put_keeps {g : Gh} {γ b : Nat} {hv : Value} {k : Nat} (h : k ≠ γ) : g.keeps (g.put γ b hv) k := by
  exact Gh.keeps_of (by simp [Gh.put, h]) (by simp [Gh.put, h]) rfl
theorem sat_put {g : Gh} {γ b : Nat} {hv : Value} {x : AVal} {u : Value} (hm : x.ment γ = false) (h : x.sat g u) : x.sat (g.put γ b hv) u :=
  AVal.sat_mono (g := g) (g' := g.put γ b hv) (MemLe.refl _) x u (fun k hk => put_keeps (fun e => by rw [e, hm] at hk; simp at hk)) h
theorem satL_put {g : Gh} {γ b : Nat} {hv : Value} {xs : List AVal} {us : List Value} (hm : mentL γ xs = false) (h : satL g xs us) : satL (g.put γ b hv) xs us :=
  satL_mono (g := g) (g' := g.put γ b hv) (MemLe.refl _) xs us (fun k hk => put_keeps (fun e => by rw [e, hm] at hk; simp at hk)) h

/-- A new object under a key that is not spoken of. -/
theorem inv_new {E : Env} {S : St} {g : Gh} {w : World} (hi : Inv E S.obj g w) (γ : Nat) (hf : S.free γ = true) (hdead : S.obj γ = .dead)
    (obj : AObj) (b : Nat) (hv : Value) {w' : World} (hheap : ∀ b, b < w.heap.size → w'.heap[b]? = w.heap[b]?) (hsize : w.heap.size ≤ w'.heap.size)
    (hos : w'.os = w.os) (hout : w'.output = w.output) (hobj : objSat (g.put γ b hv) w' γ obj)
    (hlive : ∀ k, lives (g.put γ b hv) obj γ k → w.heap.size ≤ k) :
    Inv E (look .dead ((γ, obj) :: S.L)) (g.put γ b hv) w' := by
  refine Inv.upd hi γ obj (look_same _ _ _ _) (fun k hk => look_ne _ _ _ (Ne.symm hk)) (fun b hb _ => hheap b hb) hsize hos hout rfl
    (fun k hk => ⟨by simp [Gh.put, hk], by simp [Gh.put, hk], rfl⟩) (fun k cs us hk hL hs => satL_put ?_ hs) hobj (fun k hk => .inr (hlive k hk)) (fun hlt => by simp only [St.free, Bool.and_eq_true, Nat.ble_eq] at hf; omega)
  have := obj_free hf k
  rw [hL] at this
  exact this

theorem tmps_put {S : St} {γ : Nat} (hf : S.free γ = true) {g : Gh} {a : Act} {b : Nat} {hv : Value} (hs : ∀ t, (S.get t).sat g (a.tmps.getD t undef)) :
    ∀ t, (S.get t).sat (g.put γ b hv) (a.tmps.getD t undef) := fun t => sat_put (get_free hf t) (hs t)

theorem world_push (w : World) (o : Obj) : ∀ b, b < w.heap.size → (w.alloc o).heap[b]? = w.heap[b]? := fun b hb => heap_alloc_old w o b hb
theorem world_push_size (w : World) (o : Obj) : w.heap.size ≤ (w.alloc o).heap.size := by simp

def newGh (g : Gh) (w : World) (γ : Nat) : Gh := g.put γ w.heap.size undef

theorem thaw00 (n : Nat) : thaw (0, 0) n := fun i hi => by simp

/-- A new box. -/
theorem inv_box {E : Env} {S : St} {g : Gh} {w : World} (hi : Inv E S.obj g w) (γ : Nat) (hf : S.free γ = true) (hdead : S.obj γ = .dead) (e : TypeId)
    {cs : List AVal} {vs : Array Value} (hs : satL g cs vs.toList) (hm : mentL γ cs = false) (hc : ∀ c ∈ cs, c.cellish = true) :
    Inv E (look .dead ((γ, .box cs) :: S.L)) (newGh g w γ) (w.alloc (.cells vs e)) := by
  refine inv_new hi γ hf hdead _ _ _ (world_push _ _) (world_push_size _ _) rfl rfl ?_ (fun k hk => ?_)
  · refine ⟨vs, e, (0, 0), ?_, thaw00 _, satL_put hm hs, hc⟩
    simp only [newGh, Gh.put, if_true]
    exact heap_alloc_new w _
  · simp only [lives, Gh.put, if_true] at hk; omega

def cellishL : List AVal → Bool
  | [] => true
  | c :: r => c.cellish && cellishL r
theorem cellishL_iff : ∀ l, cellishL l = true ↔ ∀ c ∈ l, c.cellish = true
  | [] => by simp [cellishL]
  | c :: r => by simp [cellishL, cellishL_iff r]

/-- The cells of what is put into memory. -/
def AVal.parts : AVal → List AVal
  | .agg cs => cs
  | x => [x]
theorem parts_sat {g : Gh} {x : AVal} {v : Value} (h : x.sat g v) (hc : cellishL x.parts = true) : satL g x.parts v.cells.toList := by
  rw [cellishL_iff] at hc
  cases x with
  | agg cs => simp only [AVal.sat] at h; obtain ⟨vs, rfl, h⟩ := h; exact h
  | any => have := hc .any (by simp [AVal.parts]); simp [AVal.cellish] at this
  | tup vs => have := hc (.tup vs) (by simp [AVal.parts]); simp [AVal.cellish] at this
  | _ =>
    all_goals
      have h1 := AVal.sat_one (by exact hc _ (by simp [AVal.parts])) h
      have e : v.cells = #[v] := by cases v <;> simp [Value.oneCell'] at h1 <;> rfl
      rw [e]
      simp only [AVal.parts]
      exact ⟨h, by simp only [satL]⟩
theorem parts_one {g : Gh} {x : AVal} {v : Value} (h : x.sat g v) (hc : cellishL x.parts = true) : ∀ (i : Nat) (c : AVal) (u : Value), x.parts[i]? = some c → v.cells.toList[i]? = some u → u.oneCell' = true := by
  intro i c u hci hui
  obtain ⟨u', h1, h2⟩ := satL_get (parts_sat h hc) i c hci
  rw [h1] at hui; cases hui
  exact AVal.sat_one ((cellishL_iff _).1 hc c (List.mem_of_getElem? hci)) h2

section
variable {P : Program} {ops : Array Oper} {draw : Bool} {K : St → Prop} {rest : List Oper} {l : Line} {S : St}
variable {d : Nat} {ty : TypeId} {pos : String} {aft : Array Edge} {gd : Option (Nat × Bool)}

theorem valid_new {o : Oper} {reads : List (Operand × AVal)} {d : Nat} {x : AVal} {lrd : List (Nat × AObj)} {γ : Nat} {obj : AObj} {new : List Nat} (hdst : o.dst = some d)
    (h : ∀ E S g a w, holdsG E S g a w → satR g a reads → lrdOk S lrd → newOk S new → ∃ v g' w', (execOp a.eval o).run P w = .ok (.value v) w' ∧ x.sat g' v ∧
      Inv E (look .dead ((γ, obj) :: S.L)) g' w' ∧ ∀ t, (S.get t).sat g' (a.tmps.getD t undef)) :
    Valid' P o ⟨reads, some (d, x), lrd, [(γ, obj)], new⟩ := by
  intro E S a w g hs hok Q K hK
  obtain ⟨v, g', w', h1, h2, h3, h4⟩ := h E S g a w hs (satR_of hs _ hok.1) hok.2.1 hok.2.2.1
  unfold Oper.wp
  rw [h1, Oper.upon_value, hdst]
  exact hK _ _ (holds_put h3 hs.2.1 hs.2.2.1 h4 h2 hok.2.2.2)
theorem valid_unit {o : Oper} {reads : List (Operand × AVal)} {lrd : List (Nat × AObj)} {γ : Nat} {obj : AObj} {new : List Nat} (hdst : o.dst = none)
    (h : ∀ E S g a w, holdsG E S g a w → satR g a reads → lrdOk S lrd → newOk S new → ∃ g' w', (execOp a.eval o).run P w = .ok .skip w' ∧
      Inv E (look .dead ((γ, obj) :: S.L)) g' w' ∧ ∀ t, (S.get t).sat g' (a.tmps.getD t undef)) :
    Valid' P o ⟨reads, none, lrd, [(γ, obj)], new⟩ := by
  intro E S a w g hs hok Q K hK
  obtain ⟨g', w', h1, h3, h4⟩ := h E S g a w hs (satR_of hs _ hok.1) hok.2.1 hok.2.2.1
  unfold Oper.wp
  rw [h1, Oper.upon_skip, hdst]
  exact hK _ _ ⟨g', h3, hs.2.1, hs.2.2.1, h4⟩

/-- A key that is not yet in use. -/
def St.next (S : St) : Nat := S.L.foldl (fun m p => bif Nat.ble m p.1 then p.1 + 1 else m) 100

def zerosOf (P : Program) (t : TypeId) : Option (List Value) :=
  match P.info? t with
  | some i => (match i.zero with | some z => some z.cells.toList | none => none)
  | none => none
def onesL : List Value → Bool
  | [] => true
  | v :: r => v.oneCell' && onesL r
theorem onesL_iff : ∀ l, onesL l = true ↔ ∀ v ∈ l, v.oneCell' = true
  | [] => by simp [onesL]
  | v :: r => by simp [onesL, onesL_iff r]
def dvL : List Value → List AVal
  | [] => []
  | v :: r => .d (.v v) :: dvL r
theorem dvL_sat {g : Gh} : ∀ {vs : List Value}, onesL vs = true → satL g (dvL vs) vs
  | [], _ => by simp only [dvL, satL]
  | v :: r, h => by
    simp only [onesL, Bool.and_eq_true] at h
    simp only [dvL, satL]
    exact ⟨sat_mk h.1, dvL_sat h.2⟩
theorem dvL_ment (γ : Nat) : ∀ vs : List Value, mentL γ (dvL vs) = false
  | [] => rfl
  | v :: r => by simp [dvL, mentL, AVal.ment, dvL_ment γ r]
theorem dvL_cellish : ∀ vs : List Value, ∀ c ∈ dvL vs, c.cellish = true
  | [], _, h => by simp [dvL] at h
  | v :: r, c, h => by
    simp only [dvL, List.mem_cons] at h
    rcases h with rfl | h
    · rfl
    · exact dvL_cellish r c h

theorem zerosOf_spec {t : TypeId} {zs : List Value} (h : zerosOf P t = some zs) : ∃ z : Value, z.cells.toList = zs ∧ ∀ w, (zeroValue t).run P w = .ok z w := by
  unfold zerosOf at h
  cases hi : P.info? t with
  | none => rw [hi] at h; simp at h
  | some i =>
    rw [hi] at h
    cases hz : i.zero with
    | none => simp [hz] at h
    | some z => simp [hz] at h; exact ⟨z, h, fun w => by simp [zeroValue, typeInfo, hi, hz]⟩

theorem w_alloc {t : TypeId} {γ : Nat} {zs : List Value} (hz : zerosOf P t = some zs) (h1 : onesL zs = true) (hdead : S.obj γ = .dead) (hf : S.free γ = true)
    (hd : Nat.blt d S.n = true) (hg : guardOk ops S gd)
    (h : Walk P ops draw K rest ((l.length, ⟨some d, .alloc t, ty, pos, aft, gd⟩, ⟨guardReads ops gd ++ [], some (d, .ptr γ 0), [(γ, .dead)], [(γ, .box (dvL zs))], [γ]⟩) :: l)
      ((S.set d (.ptr γ 0)).own γ (.box (dvL zs)))) :
    Walk P ops draw K (⟨some d, .alloc t, ty, pos, aft, gd⟩ :: rest) l S :=
  walk_op ⟨[], some (d, .ptr γ 0), [(γ, .dead)], [(γ, .box (dvL zs))], [γ]⟩ (valid_new rfl fun E S g a w hs hq hl hn => by
    obtain ⟨z, hzc, hzr⟩ := zerosOf_spec hz
    refine ⟨.pointer (some ⟨w.heap.size, 0, none⟩), newGh g w γ, w.alloc (.cells z.cells t), ?_, ?_, ?_, tmps_put hn.1 hs.2.2.2⟩
    · simp [execOp, Instr.alloc, hzr, newVar, newRow]
    · simp [AVal.sat, newGh, Gh.put]
    · exact inv_box hs.1 γ hn.1 hl.1 t (by rw [hzc]; exact dvL_sat h1) (dvL_ment _ _) (dvL_cellish _)) hg ⟨trivial, ⟨hdead, trivial⟩, ⟨hf, trivial⟩, hd⟩ h

theorem w_box {t : TypeId} {γ : Nat} {x : Operand} {y : AVal} (hx : S.ev x = y) (hc : cellishL y.parts = true) (hdead : S.obj γ = .dead) (hf : S.free γ = true) (hm : mentL γ y.parts = false)
    (hd : Nat.blt d S.n = true) (hg : guardOk ops S gd)
    (h : Walk P ops draw K rest ((l.length, ⟨some d, .box t x, ty, pos, aft, gd⟩, ⟨guardReads ops gd ++ [(x, y)], some (d, .ptr γ 0), [(γ, .dead)], [(γ, .box y.parts)], [γ]⟩) :: l)
      ((S.set d (.ptr γ 0)).own γ (.box y.parts))) :
    Walk P ops draw K (⟨some d, .box t x, ty, pos, aft, gd⟩ :: rest) l S :=
  walk_op ⟨[(x, y)], some (d, .ptr γ 0), [(γ, .dead)], [(γ, .box y.parts)], [γ]⟩ (valid_new rfl fun E S g a w hs hq hl hn => by
    refine ⟨.pointer (some ⟨w.heap.size, 0, none⟩), newGh g w γ, w.alloc (.cells (a.eval x).cells t), ?_, ?_, ?_, tmps_put hn.1 hs.2.2.2⟩
    · simp [execOp, Instr.box, newVar, newRow]
    · simp [AVal.sat, newGh, Gh.put]
    · exact inv_box hs.1 γ hn.1 hl.1 t (parts_sat hq.1 hc) hm ((cellishL_iff _).1 hc)) hg ⟨⟨hx, trivial⟩, ⟨hdead, trivial⟩, ⟨hf, trivial⟩, hd⟩ h

/-! Stores. -/
theorem run_storeCells_row (b : Nat) (e : TypeId) (fr : Nat × Nat) (n : Nat) (hfr : thaw fr n) : ∀ (us : List Value) (o i : Nat) (vs : Array Value) (w : World), w.heap[b]? = some (.cells vs e fr) → vs.size = n →
    o + i + us.length ≤ vs.size → (∀ u ∈ us, u.oneCell' = true) →
    ∃ vs' : Array Value, (storeCells ⟨b, o, none⟩ us i).run P w = .ok () (w.setRow b vs') ∧ vs'.toList = vs.toList.take (o + i) ++ us ++ vs.toList.drop (o + i + us.length)
  | [], o, i, vs, w, h, hn, hl, h1 => ⟨vs, by
      have : w.setRow b vs = w := by
        cases w with
        | mk heap tape drawn os output =>
          simp only [World.setRow]
          congr 1
          apply Array.ext_getElem?
          intro k
          simp only [Array.getElem?_modify]
          split
          · rename_i hk; subst hk; simp at h; simp [h]
          · rfl
      simp [storeCells, this], by simp⟩
  | u :: us, o, i, vs, w, h, hn, hl, h1 => by
    have hlt : o + i < vs.size := by simp at hl; omega
    have hc : w.cell? ⟨b, o + i, none⟩ = some vs[o + i] := by rw [cell_of_row w _ _ vs e fr h]; simp [hlt]
    have hf : w.frozen? ⟨b, o + i, none⟩ = false := by
      simp only [World.frozen?, h]
      have := hfr (o + i) (by omega)
      simpa using this
    have hset := setCell_eq_setRow w b (o + i) vs e fr u h
    have hw' : (w.setRow b (vs.setIfInBounds (o + i) u)).heap[b]? = some (.cells (vs.setIfInBounds (o + i) u) e fr) := setRow_heap w b vs _ e fr h
    obtain ⟨vs', k1, k2⟩ := run_storeCells_row b e fr n hfr us o (i + 1) (vs.setIfInBounds (o + i) u) _ hw' (by simp [hn]) (by simp at hl ⊢; omega) (fun x hx => h1 x (by simp [hx]))
    refine ⟨vs', ?_, ?_⟩
    · simp only [storeCells, Sem.run_bind, add_at, run_store P w _ u .plain (h1 u (by simp)), hc, hf, hset, Bool.false_eq_true, if_false, Result.andThen_ok, k1, setRow_setRow]
    · rw [k2]
      apply List.ext_getElem?
      intro k
      simp only [List.getElem?_append, List.length_append, List.length_take, List.length_drop, Array.length_toList, Array.size_setIfInBounds, List.length_cons, List.getElem?_take, List.getElem?_drop, Array.getElem?_toList, Array.getElem?_setIfInBounds, List.getElem?_cons]
      have hm1 : min (o + (i + 1)) vs.size = o + i + 1 := by simp at hl; omega
      have hm2 : min (o + i) vs.size = o + i := by omega
      rw [hm1, hm2]
      by_cases c1 : k < o + i
      · simp [c1, show k < o + i + 1 by omega, show k < o + i + 1 + us.length by omega, show k < o + i + (us.length + 1) by omega, show k < o + (i + 1) by omega, show o + i ≠ k by omega]
      · by_cases c2 : k = o + i
        · subst c2
          simp [show o + i < o + (i + 1) by omega, hlt]
          omega
        · by_cases c3 : k < o + i + (us.length + 1)
          · simp [c1, c3, show ¬ k < o + i + 1 by omega, show k < o + i + 1 + us.length by omega, show k - (o + i) ≠ 0 by omega, show k - (o + i + 1) = k - (o + i) - 1 by omega]
          · simp [c3, show ¬ k < o + i + 1 + us.length by omega,
              show o + (i + 1) + us.length + (k - (o + i + 1 + us.length)) = o + i + (us.length + 1) + (k - (o + i + (us.length + 1))) by omega]
            intro hh; exfalso; omega

def tySize (P : Program) (t : TypeId) (sz : Nat) : Bool := match P.info? t with | some i => Nat.beq i.size sz | none => false
theorem tySize_spec {t : TypeId} {sz : Nat} (h : tySize P t sz = true) (w : World) : (sizeOf t).run P w = .ok sz w := by
  unfold tySize at h
  cases hi : P.info? t with
  | none => simp [hi] at h
  | some i => rw [hi] at h; have : i.size = sz := by simpa using h
              simp [sizeOf, typeInfo, hi, this]

theorem w_store {t : TypeId} {x v : Operand} {γ o : Nat} {cs : List AVal} {y : AVal} (hx : S.ev x = .ptr γ o) (hL : S.obj γ = .box cs) (hv : S.ev v = y) (hc : cellishL y.parts = true)
    (ht : tySize P t y.parts.length = true) (hb : Nat.ble (o + y.parts.length) cs.length = true) (hg : guardOk ops S gd)
    (h : Walk P ops draw K rest ((l.length, ⟨none, .store t x v, ty, pos, aft, gd⟩, ⟨guardReads ops gd ++ [(x, .ptr γ o), (v, y)], none, [(γ, .box cs)], [(γ, .box (cs.take o ++ y.parts ++ cs.drop (o + y.parts.length)))], []⟩) :: l)
      (S.own γ (.box (cs.take o ++ y.parts ++ cs.drop (o + y.parts.length))))) :
    Walk P ops draw K (⟨none, .store t x v, ty, pos, aft, gd⟩ :: rest) l S :=
  walk_op ⟨[(x, .ptr γ o), (v, y)], none, [(γ, .box cs)], [(γ, .box (cs.take o ++ y.parts ++ cs.drop (o + y.parts.length)))], []⟩ (valid_unit rfl fun E S g a w hs hq hl hn => by
    have ho := hs.1.obj γ
    rw [hl.1] at ho
    obtain ⟨vs, e, fr, h1, h2, h3, h4⟩ := ho
    have hp : a.eval x = .pointer (some ⟨g.blk γ, o, none⟩) := by have := hq.1; simpa only [AVal.sat] using this
    have hps := parts_sat hq.2.1 hc
    have hlen : (a.eval v).cells.toList.length = y.parts.length := satL_length hps
    have hvl : vs.size = cs.length := by have := satL_length h3; simpa using this
    have hb' : o + y.parts.length ≤ cs.length := by simpa using hb
    obtain ⟨vs', k1, k2⟩ := run_storeCells_row (P := P) (g.blk γ) e fr vs.size h2 (a.eval v).cells.toList o 0 vs w h1 rfl (by rw [hlen]; omega) (fun u hu => by
      obtain ⟨i, hi, rfl⟩ := List.getElem_of_mem hu
      have hi' : i < y.parts.length := by rw [← hlen]; exact hi
      exact parts_one hq.2.1 hc i _ _ (List.getElem?_eq_getElem hi') (List.getElem?_eq_getElem hi))
    simp only [Nat.add_zero, hlen] at k2
    refine ⟨g, w.setRow (g.blk γ) vs', ?_, ?_, hs.2.2.2⟩
    · have hsz := tySize_spec ht w
      simp only [Array.length_toList] at hlen
      simp [execOp, hp, Instr.storeAt, Instr.sureAddr, storeVar, hsz, hlen, k1]
    · have hsz' : vs'.size = vs.size := by
        have := congrArg List.length k2
        simp [hlen] at this
        simp at hlen
        omega
      refine Inv.upd hs.1 γ _ (look_same _ _ _ _) (fun k hk => look_ne _ _ _ (Ne.symm hk)) (fun b hb hnl => ?_) (by simp) rfl rfl rfl (fun k hk => ⟨rfl, rfl, rfl⟩) (fun k cs us _ _ h => h) ?_ (fun b hb => .inl (by rw [hl.1]; exact hb)) (fun _ => Gh.keeps_refl _ _)
      · refine setRow_other w _ b vs' (fun e => hnl ?_)
        rw [hl.1, e]; rfl
      · refine ⟨vs', e, fr, setRow_heap w _ vs _ e fr h1, by rw [hsz']; exact h2, ?_, fun c hcm => ?_⟩
        · rw [k2]
          exact satL_append (satL_append (satL_take h3 o) hps) (satL_drop h3 _)
        · simp only [List.mem_append] at hcm
          rcases hcm with (h' | h') | h'
          · exact h4 c (List.mem_of_mem_take h')
          · exact (cellishL_iff _).1 hc c h'
          · exact h4 c (List.mem_of_mem_drop h')) hg ⟨⟨hx, hv, trivial⟩, ⟨hL, trivial⟩, trivial, trivial⟩ h

/-! Aggregates. -/
def setAt (cs ys : List AVal) (o : Nat) : List AVal := cs.take o ++ ys ++ cs.drop (o + ys.length)
def fillA (place : Nat → Option (Nat × Nat)) (cs : List AVal) : List (Nat × AVal) → Option (List AVal)
  | [] => some cs
  | (i, x) :: r =>
    match place i with
    | none => none
    | some (off, sz) => bif Nat.beq x.parts.length sz && Nat.ble (off + sz) cs.length && cellishL x.parts then fillA place (setAt cs x.parts off) r else none

theorem foldl_set (xs : List Value) : ∀ (k : Nat) (cs : Array Value) (off : Nat), off + k + xs.length ≤ cs.size →
    ((xs.zipIdx k).foldl (fun cs (p : Value × Nat) => cs.setIfInBounds (off + p.2) p.1) cs).toList = cs.toList.take (off + k) ++ xs ++ cs.toList.drop (off + k + xs.length) := by
  induction xs with
  | nil => intro k cs off h; simp
  | cons x xs ih =>
    intro k cs off h
    simp only [List.zipIdx_cons, List.foldl_cons]
    rw [ih (k + 1) _ off (by simp at h ⊢; omega)]
    apply List.ext_getElem?
    intro j
    simp only [List.length_cons] at h
    simp only [List.getElem?_append, List.length_append, List.length_take, Array.length_toList, Array.size_setIfInBounds, List.length_cons, List.getElem?_take, List.getElem?_drop, Array.getElem?_toList, Array.getElem?_setIfInBounds, List.getElem?_cons]
    have hm1 : min (off + (k + 1)) cs.size = off + k + 1 := by omega
    have hm2 : min (off + k) cs.size = off + k := by omega
    rw [hm1, hm2]
    by_cases c1 : j < off + k
    · simp [c1, show j < off + k + 1 by omega, show j < off + k + 1 + xs.length by omega, show j < off + k + (xs.length + 1) by omega, show j < off + (k + 1) by omega, show off + k ≠ j by omega]
    · by_cases c2 : j = off + k
      · subst c2
        simp [show off + k < off + (k + 1) by omega, show off + k < cs.size by omega]
        omega
      · by_cases c3 : j < off + k + (xs.length + 1)
        · simp [c1, c3, show ¬ j < off + k + 1 by omega, show j < off + k + 1 + xs.length by omega, show j - (off + k) ≠ 0 by omega, show j - (off + k + 1) = j - (off + k) - 1 by omega]
        · simp [c3, show ¬ j < off + k + 1 + xs.length by omega,
            show off + (k + 1) + xs.length + (j - (off + k + 1 + xs.length)) = off + k + (xs.length + 1) + (j - (off + k + (xs.length + 1))) by omega]
          intro hh; exfalso; omega

def evL (S : St) : List (Nat × Operand) → List (Nat × AVal)
  | [] => []
  | p :: r => (p.1, S.ev p.2) :: evL S r
def readsL : List (Nat × Operand) → List (Nat × AVal) → List (Operand × AVal)
  | p :: r, q :: s => (p.2, q.2) :: readsL r s
  | _, _ => []

theorem fill_sat {g : Gh} {a : Act} {place : Nat → Option (Nat × Nat)} : ∀ {parts : List (Nat × Operand)} {ps : List (Nat × AVal)} {cs out : List AVal} {vs : Array Value},
    ps.map (·.1) = parts.map (·.1) → satR g a (readsL parts ps) → satL g cs vs.toList → fillA place cs ps = some out →
    ∃ us : Array Value, Instr.fill place vs (parts.map fun p => (p.1, a.eval p.2)) = some us ∧ satL g out us.toList
  | [], [], cs, out, vs, _, _, hs, hf => by
    simp only [fillA, Option.some.injEq] at hf; subst hf
    exact ⟨vs, rfl, hs⟩
  | [], _ :: _, _, _, _, hm, _, _, _ => by simp at hm
  | _ :: _, [], _, _, _, hm, _, _, _ => by simp at hm
  | p :: parts, (i, x) :: ps, cs, out, vs, hm, hr, hs, hf => by
    simp only [List.map_cons, List.cons.injEq] at hm
    obtain ⟨hm1, hm2⟩ := hm
    simp only [fillA] at hf
    cases hp : place i with
    | none => rw [hp] at hf; simp at hf
    | some os =>
      obtain ⟨off, sz⟩ := os
      rw [hp] at hf
      simp only at hf
      cases hb : (Nat.beq x.parts.length sz && Nat.ble (off + sz) cs.length && cellishL x.parts) with
      | false => rw [hb] at hf; simp at hf
      | true =>
        rw [hb] at hf
        simp only [Bool.and_eq_true] at hb
        obtain ⟨⟨b1, b2⟩, b3⟩ := hb
        have b1' : x.parts.length = sz := by simpa using b1
        have b2' : off + sz ≤ cs.length := by simpa using b2
        obtain ⟨hr1, hr2⟩ := hr
        have hps := parts_sat hr1 b3
        have hl1 := satL_length hps
        have hl2 := satL_length hs
        simp only [Array.length_toList] at hl1 hl2
        have hfold := foldl_set (a.eval p.2).cells.toList 0 vs off (by simp; omega)
        simp only [Nat.add_zero, Array.length_toList, hl1] at hfold
        let vs' : Array Value := (a.eval p.2).cells.zipIdx.foldl (fun cs (p : Value × Nat) => cs.setIfInBounds (off + p.2) p.1) vs
        have hvs' : vs'.toList = vs.toList.take off ++ (a.eval p.2).cells.toList ++ vs.toList.drop (off + x.parts.length) := by
          rw [← hfold]
          simp only [vs']
          rw [← Array.foldl_toList, Array.toList_zipIdx]
        have hsat' : satL g (setAt cs x.parts off) vs'.toList := by
          rw [hvs']
          exact satL_append (satL_append (satL_take hs off) hps) (satL_drop hs _)
        obtain ⟨us, k1, k2⟩ := fill_sat (vs := vs') hm2 hr2 hsat' hf
        refine ⟨us, ?_, k2⟩
        simp only [List.map_cons, Instr.fill, ← hm1, hp]
        rw [if_neg (by simp [hl1, b1']; omega)]
        exact k1

/-- The places of a struct's fields. -/
def placeOf (P : Program) (t : TypeId) (i : Nat) : Option (Nat × Nat) :=
  match P.underlying t with
  | some (.struct fs) => (match fs[i]? with | some q => (match P.info? q.type with | some y => some (q.offset, y.size) | none => none) | none => none)
  | some (.array _ e) => (match P.info? e with | some y => some (i * y.size, y.size) | none => none)
  | _ => none
def aggOk (P : Program) (t : TypeId) : Bool :=
  match P.underlying t with
  | some (.struct fs) => fs.toList.all fun f => (P.info? f.type).isSome
  | some (.array _ e) => (P.info? e).isSome
  | _ => false

theorem run_places (fs : List Field) (w : World) (h : ∀ f ∈ fs, (P.info? f.type).isSome = true) :
    (fs.mapM fun f => do pure (f.offset, ← sizeOf f.type) : Sem (List (Nat × Nat))).run P w = .ok (fs.map fun f => (f.offset, P.cellsOf f.type)) w := by
  induction fs with
  | nil => simp
  | cons f fs ih =>
    obtain ⟨i, hi⟩ := Option.isSome_iff_exists.1 (h f (by simp))
    have ih := ih (fun x hx => h x (by simp [hx]))
    have hsz : (sizeOf f.type).run P w = .ok i.size w := by simp [sizeOf, typeInfo, hi]
    rw [List.mapM_cons]
    simp only [Sem.run_bind, hsz, Result.andThen_ok, Sem.run_pure, ih, List.map_cons]
    simp [Program.cellsOf, hi]

theorem fill_congr {f f' : Nat → Option (Nat × Nat)} (h : ∀ i, f i = f' i) (cs : Array Value) (l : List (Nat × Value)) : Instr.fill f cs l = Instr.fill f' cs l := by
  have : f = f' := funext h
  rw [this]

theorem w_build {t : TypeId} {parts : Array (Nat × Operand)} {pl : List (Nat × Operand)} {zs : List Value} {ps : List (Nat × AVal)} {out : List AVal} (hpl : parts.toList = pl) (hps : evL S pl = ps)
    (hz : zerosOf P t = some zs) (h1 : onesL zs = true) (ht : aggOk P t = true) (hout : fillA (placeOf P t) (dvL zs) ps = some out)
    (hd : Nat.blt d S.n = true) (hg : guardOk ops S gd)
    (h : Walk P ops draw K rest ((l.length, ⟨some d, .build t parts, ty, pos, aft, gd⟩, ⟨guardReads ops gd ++ readsL pl ps, some (d, .agg out), [], [], []⟩) :: l) (S.set d (.agg out))) :
    Walk P ops draw K (⟨some d, .build t parts, ty, pos, aft, gd⟩ :: rest) l S := by
  have hkeys : ps.map (·.1) = pl.map (·.1) := by
    rw [← hps]; clear hps hpl h; induction pl with
    | nil => rfl
    | cons p r ih => simp [evL, ih]
  refine walk_op ⟨readsL pl ps, some (d, .agg out), [], [], []⟩ (valid_val rfl fun E S g a w hs hq hl => ?_) hg ⟨?_, trivial, trivial, hd⟩ h
  · obtain ⟨z, hzc, hzr⟩ := zerosOf_spec hz
    obtain ⟨us, k1, k2⟩ := fill_sat (vs := z.cells) hkeys hq (by rw [hzc]; exact dvL_sat h1) hout
    refine ⟨.agg us, ?_, by simp only [AVal.sat]; exact ⟨us, rfl, k2⟩⟩
    have hparts : (parts.map fun p => (p.1, a.eval p.2)).toList = pl.map fun p => (p.1, a.eval p.2) := by simp [hpl]
    unfold aggOk at ht
    cases hu : P.underlying t with
    | none => rw [hu] at ht; simp at ht
    | some de =>
      rw [hu] at ht
      cases de with
      | struct fs =>
        simp only [List.all_eq_true] at ht
        have hrp := run_places (P := P) fs.toList w ht
        have hpm : (fs.mapM fun f => do pure (f.offset, ← sizeOf f.type) : Sem (Array (Nat × Nat))).run P w = .ok (fs.map fun f => (f.offset, P.cellsOf f.type)) w := by
          have e : (fs.mapM fun f => do pure (f.offset, ← sizeOf f.type) : Sem (Array (Nat × Nat))) = (List.toArray <$> (fs.toList.mapM fun f => do pure (f.offset, ← sizeOf f.type))) := by
            rw [Array.mapM_eq_mapM_toList]
          rw [e, Sem.run_map, hrp, Result.andThen_ok]
          congr 1
          apply Array.ext'
          simp
        have hf : Instr.fill (fun x => (fs.map fun f => (f.offset, P.cellsOf f.type))[x]?) z.cells (parts.map fun p => (p.1, a.eval p.2)).toList = some us := by
          rw [hparts, ← k1]
          refine fill_congr (fun i => ?_) _ _
          simp only [placeOf, hu, Array.getElem?_map]
          cases hfi : fs[i]? with
          | none => rfl
          | some q =>
            obtain ⟨y, hy⟩ := Option.isSome_iff_exists.1 (ht q (by simpa using Array.mem_of_getElem? hfi))
            simp [hy, Program.cellsOf]
        simp only [execOp, Instr.build, Sem.run_bind, hzr, Result.andThen_ok, run_underlying hu, hpm, hf, Sem.run_pure]
      | array n e =>
        simp only at ht
        obtain ⟨y, hy⟩ := Option.isSome_iff_exists.1 ht
        have hf : Instr.fill (fun i => some (i * y.size, y.size)) z.cells (parts.map fun p => (p.1, a.eval p.2)).toList = some us := by
          rw [hparts, ← k1]
          refine fill_congr (fun i => ?_) _ _
          simp only [placeOf, hu, hy]
        simp only [execOp, Instr.build, Sem.run_bind, hzr, Result.andThen_ok, run_underlying hu, sizeOf, typeInfo, run_program, hy, hf, Sem.run_pure]
      | _ => simp at ht
  · rw [readsOk_iff]
    rw [← hps]
    clear hkeys hps hpl hout h
    induction pl with
    | nil => simp [readsL, evL]
    | cons p r ih => simp only [evL, readsL, List.mem_cons]; exact fun q hq => hq.elim (fun e => by rw [e]) (ih q)
end
end Go.Fw

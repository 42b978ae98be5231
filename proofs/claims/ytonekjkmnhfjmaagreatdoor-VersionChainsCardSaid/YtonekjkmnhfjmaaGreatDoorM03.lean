/- Fifth part: rules for operations that make or write memory. -/
import Derived.Laws.AppendOwn
import Derived.Test.YtonekjkmnhfjmaaGreatDoorM02
namespace Go.Fw
open Go
set_option linter.unusedVariables false
set_option linter.unusedSimpArgs false
theorem X6h {α : Type} (z : α) (l : List (Nat × α)) (t : Nat) : Xa z l t = z ∨ ∃ p ∈ l, p.2 = Xa z l t := by
 induction l with
 | nil => exact .inl rfl
 | cons p r ih =>
  obtain ⟨k, x⟩ := p
  simp only [Xa]
  cases hb : Nat.beq k t with
  | true => exact .inr ⟨(k, x), by simp, rfl⟩
  | false =>
   simp only [cond_false]
   rcases ih with h | ⟨q, hq, he⟩
   ·exact .inl h
   ·exact .inr ⟨q, by simp [hq], he⟩
theorem X8h {S : St} {γ : Nat} (h : S.free γ = true) (t : Nat) : (S.get t).ment γ = false := by
 simp only [St.free, Bool.and_eq_true, X1A, X25] at h
 have h := h.2
 rcases X6h AVal.any S.τ t with e | ⟨p, hp, e⟩
 ·show AVal.ment γ (Xa _ _ _) = false
  rw [e]; rfl
 ·show AVal.ment γ (Xa _ _ _) = false
  rw [← e]; exact h.1 p hp
theorem X5G {S : St} {γ : Nat} (h : S.free γ = true) (k : Nat) : (S.obj k).ment γ = false := by
 simp only [St.free, Bool.and_eq_true, X1A, X25] at h
 have h := h.2
 rcases X6h AObj.dead S.L k with e | ⟨p, hp, e⟩
 ·show AObj.ment γ (Xa _ _ _) = false
  rw [e]; rfl
 ·show AObj.ment γ (Xa _ _ _) = false
  rw [← e]; exact h.2 p hp
def Gh.put (g : Gh) (γ : Nat) (b : Nat) (hv : Value) : Gh :=
 { blk := fun k => if k = γ then b else g.blk k, hd := fun k => if k = γ then hv else g.hd k, ihd := g.ihd, M := g.M }
theorem Xao {g : Gh} {γ b : Nat} {hv : Value} {k : Nat} (h : k ≠ γ) : g.keeps (g.put γ b hv) k := by
 exact Gh.keeps_of (by simp [Gh.put, h]) (by simp [Gh.put, h]) rfl
theorem Xfn {g : Gh} {γ b : Nat} {hv : Value} {x : AVal} {u : Value} (hm : x.ment γ = false) (h : x.sat g u) : x.sat (g.put γ b hv) u :=
 AVal.sat_mono (g := g) (g' := g.put γ b hv) (XQ.refl _) x u (fun k hk => Xao (fun e => by rw [e, hm] at hk; simp at hk)) h
theorem X3K {g : Gh} {γ b : Nat} {hv : Value} {xs : List AVal} {us : List Value} (hm : YT γ xs = false) (h : Xk g xs us) : Xk (g.put γ b hv) xs us :=
 Vo (g := g) (g' := g.put γ b hv) (XQ.refl _) xs us (fun k hk => Xao (fun e => by rw [e, hm] at hk; simp at hk)) h
theorem X26 {E : Env} {S : St} {g : Gh} {w : World} (hi : Inv E S.obj g w) (γ : Nat) (hf : S.free γ = true) (hdead : S.obj γ = .dead)
  (obj : AObj) (b : Nat) (hv : Value) {w' : World} (hheap : ∀ b, b < w.heap.size → w'.heap[b]? = w.heap[b]?) (hsize : w.heap.size ≤ w'.heap.size)
  (hos : w'.os = w.os) (hout : w'.output = w.output) (hobj : Y7 (g.put γ b hv) w' γ obj)
  (hlive : ∀ k, Xr (g.put γ b hv) obj γ k → w.heap.size ≤ k) :
  Inv E (Xa .dead ((γ, obj) :: S.L)) (g.put γ b hv) w' := by
 refine Inv.upd hi γ obj (XT _ _ _ _) (fun k hk => XK _ _ _ (Ne.symm hk)) (fun b hb _ => hheap b hb) hsize hos hout rfl
  (fun k hk => ⟨by simp [Gh.put, hk], by simp [Gh.put, hk], rfl⟩) (fun k cs us hk hL hs => X3K ?_ hs) hobj (fun k hk => .inr (hlive k hk)) (fun hlt => by simp only [St.free, Bool.and_eq_true, Nat.ble_eq] at hf; omega)
 have := X5G hf k
 rw [AObj.ment, hL] at this
 exact this
theorem X0Y {S : St} {γ : Nat} (hf : S.free γ = true) {g : Gh} {a : Act} {b : Nat} {hv : Value} (hs : ∀ t, (S.get t).sat g (a.tmps.getD t undef)) :
  ∀ t, (S.get t).sat (g.put γ b hv) (a.tmps.getD t undef) := fun t => Xfn (X8h hf t) (hs t)
theorem X0G (w : World) (o : Obj) : ∀ b, b < w.heap.size → (w.alloc o).heap[b]? = w.heap[b]? := fun b hb => heap_alloc_old w o b hb
theorem X1P (w : World) (o : Obj) : w.heap.size ≤ (w.alloc o).heap.size := by simp
def X0w (g : Gh) (w : World) (γ : Nat) : Gh := g.put γ w.heap.size undef
theorem X2e (n : Nat) : X17 (0, 0) n := fun i hi => by simp
theorem XbA {E : Env} {S : St} {g : Gh} {w : World} (hi : Inv E S.obj g w) (γ : Nat) (hf : S.free γ = true) (hdead : S.obj γ = .dead) (e : TypeId)
  {cs : List AVal} {vs : Array Value} (hs : Xk g cs vs.toList) (hm : YT γ cs = false) (hc : ∀ c ∈ cs, c.cellish = true) :
  Inv E (Xa .dead ((γ, .box cs) :: S.L)) (X0w g w γ) (w.alloc (.cells vs e)) := by
 refine X26 hi γ hf hdead _ _ _ (X0G _ _) (X1P _ _) rfl rfl ?_ (fun k hk => ?_)
 ·refine ⟨vs, e, (0, 0), ?_, X2e _, X3K hm hs, hc⟩
  simp only [X0w, Gh.put, if_true]
  exact heap_alloc_new w _
 ·simp only [Xr, Gh.put, if_true] at hk; omega
def UX : List AVal → Bool
 | [] => true
 | c :: r => c.cellish && UX r
theorem X0U : ∀ l, UX l = true ↔ ∀ c ∈ l, c.cellish = true
 | [] => by simp [UX]
 | c :: r => by simp [UX, X0U r]
def AVal.parts : AVal → List AVal
 | .agg cs => cs
 | x => [x]
theorem X3h {g : Gh} {x : AVal} {v : Value} (h : x.sat g v) (hc : UX x.parts = true) : Xk g x.parts v.cells.toList := by
 rw [X0U] at hc
 cases x with
 | agg cs => simp only [AVal.sat] at h; obtain ⟨vs, rfl, h⟩ := h; exact h
 | any => have := hc .any (by simp [AVal.parts]); simp [AVal.cellish] at this
 | tup vs => have := hc (.tup vs) (by simp [AVal.parts]); simp [AVal.cellish] at this
 | _ =>
  all_goals
   have h1 := AVal.sat_one (by exact hc _ (by simp [AVal.parts])) h
   have e : v.cells = #[v] := by cases v <;> simp [Value.oneCell'] at h1 <;> rfl
   rw [e]
   simp only [AVal.parts]
   exact ⟨h, by simp only [Xk]⟩
theorem XeH {g : Gh} {x : AVal} {v : Value} (h : x.sat g v) (hc : UX x.parts = true) : ∀ (i : Nat) (c : AVal) (u : Value), x.parts[i]? = some c → v.cells.toList[i]? = some u → u.oneCell' = true := by
 intro i c u hci hui
 obtain ⟨u', h1, h2⟩ := YG (X3h h hc) i c hci
 rw [h1] at hui; cases hui
 exact AVal.sat_one ((X0U _).1 hc c (List.mem_of_getElem? hci)) h2
section
variable {P : Program} {ops : Array Oper} {draw : Bool} {K : Xy → St → Prop} {rest : List Oper} {l : Xy} {S : St}
variable {d : Nat} {ty : TypeId} {pos : String} {aft : Array Edge} {gd : Option (Nat × Bool)}
theorem X0e {o : Oper} {reads : List (Operand × AVal)} {d : Nat} {x : AVal} {lrd : List (Nat × AObj)} {γ : Nat} {obj : AObj} {new : List Nat} (hdst : o.dst = some d)
  (h : ∀ E S g a w, Ub E S g a w → V7 g a reads → Yu S lrd → VG S new → ∃ v g' w', (execOp a.eval o).run P w = .ok (.value v) w' ∧ x.sat g' v ∧
   Inv E (Xa .dead ((γ, obj) :: S.L)) g' w' ∧ ∀ t, (S.get t).sat g' (a.tmps.getD t undef)) :
  X4R P o ⟨reads, some (d, x), lrd, [(γ, obj)], new⟩ := by
 intro E S a w g hs hok Q K hK
 obtain ⟨v, g', w', h1, h2, h3, h4⟩ := h E S g a w hs (Vr hs _ hok.1) hok.2.1 hok.2.2.1
 unfold Oper.wp
 rw [h1, Oper.upon_value, hdst]
 exact hK _ _ (X00 h3 hs.2.1 hs.2.2.1 h4 h2 hok.2.2.2)
theorem X45 {o : Oper} {reads : List (Operand × AVal)} {lrd : List (Nat × AObj)} {γ : Nat} {obj : AObj} {new : List Nat} (hdst : o.dst = none)
  (h : ∀ E S g a w, Ub E S g a w → V7 g a reads → Yu S lrd → VG S new → ∃ g' w', (execOp a.eval o).run P w = .ok .skip w' ∧
   Inv E (Xa .dead ((γ, obj) :: S.L)) g' w' ∧ ∀ t, (S.get t).sat g' (a.tmps.getD t undef)) :
  X4R P o ⟨reads, none, lrd, [(γ, obj)], new⟩ := by
 intro E S a w g hs hok Q K hK
 obtain ⟨g', w', h1, h3, h4⟩ := h E S g a w hs (Vr hs _ hok.1) hok.2.1 hok.2.2.1
 unfold Oper.wp
 rw [h1, Oper.upon_skip, hdst]
 exact hK _ _ ⟨g', h3, hs.2.1, hs.2.2.1, h4⟩
def St.next (S : St) : Nat := S.L.foldl (fun m p => bif Nat.ble m p.1 then p.1 + 1 else m) 100
def VL (P : Program) (t : TypeId) : Option (List Value) :=
 match P.info? t with
 | some i => (match i.zero with | some z => some z.cells.toList | none => none)
 | none => none
def YV : List Value → Bool
 | [] => true
 | v :: r => v.oneCell' && YV r
theorem Xav : ∀ l, YV l = true ↔ ∀ v ∈ l, v.oneCell' = true
 | [] => by simp [YV]
 | v :: r => by simp [YV, Xav r]
def dvL : List Value → List AVal
 | [] => []
 | v :: r => .d (.v v) :: dvL r
theorem X2Z {g : Gh} : ∀ {vs : List Value}, YV vs = true → Xk g (dvL vs) vs
 | [], _ => by simp only [dvL, Xk]
 | v :: r, h => by
  simp only [YV, Bool.and_eq_true] at h
  simp only [dvL, Xk]
  exact ⟨Ui h.1, X2Z h.2⟩
theorem X9m (γ : Nat) : ∀ vs : List Value, YT γ (dvL vs) = false
 | [] => rfl
 | v :: r => by simp [dvL, YT, AVal.ment, X9m γ r]
theorem X9z : ∀ vs : List Value, ∀ c ∈ dvL vs, c.cellish = true
 | [], _, h => by simp [dvL] at h
 | v :: r, c, h => by
  simp only [dvL, List.mem_cons] at h
  rcases h with rfl | h
  ·rfl
  ·exact X9z r c h
theorem X73 {t : TypeId} {zs : List Value} (h : VL P t = some zs) : ∃ z : Value, z.cells.toList = zs ∧ ∀ w, (zeroValue t).run P w = .ok z w := by
 unfold VL at h
 cases hi : P.info? t with
 | none => rw [hi] at h; simp at h
 | some i =>
  rw [hi] at h
  cases hz : i.zero with
  | none => simp [hz] at h
  | some z => simp [hz] at h; exact ⟨z, h, fun w => by simp [zeroValue, typeInfo, hi, hz]⟩
theorem XeA {t : TypeId} {γ : Nat} {zs : List Value} (hz : VL P t = some zs) (h1 : YV zs = true) (hdead : S.obj γ = .dead) (hf : S.free γ = true)
  (hd : Nat.blt d S.n = true) (hg : Xj ops S gd)
  (h : Walk P ops draw K rest ((l.length, ⟨some d, .alloc t, ty, pos, aft, gd⟩, ⟨Xg ops gd ++ [], some (d, .ptr γ 0), [(γ, .dead)], [(γ, .box (dvL zs))], [γ]⟩) :: l)
   ((S.set d (.ptr γ 0)).own γ (.box (dvL zs)))) :
  Walk P ops draw K (⟨some d, .alloc t, ty, pos, aft, gd⟩ :: rest) l S :=
 XO ⟨[], some (d, .ptr γ 0), [(γ, .dead)], [(γ, .box (dvL zs))], [γ]⟩ (X0e rfl fun E S g a w hs hq hl hn => by
  obtain ⟨z, hzc, hzr⟩ := X73 hz
  refine ⟨.pointer (some ⟨w.heap.size, 0, none⟩), X0w g w γ, w.alloc (.cells z.cells t), ?_, ?_, ?_, X0Y hn.1 hs.2.2.2⟩
  ·simp [execOp, Instr.alloc, hzr, newVar, newRow]
  ·simp [AVal.sat, X0w, Gh.put]
  ·exact XbA hs.1 γ hn.1 hl.1 t (by rw [hzc]; exact X2Z h1) (X9m _ _) (X9z _)) hg ⟨trivial, ⟨hdead, trivial⟩, ⟨hf, trivial⟩, hd⟩ h
theorem XcA {t : TypeId} {γ : Nat} {x : Operand} {y : AVal} (hx : S.ev x = y) (hc : UX y.parts = true) (hdead : S.obj γ = .dead) (hf : S.free γ = true) (hm : YT γ y.parts = false)
  (hd : Nat.blt d S.n = true) (hg : Xj ops S gd)
  (h : Walk P ops draw K rest ((l.length, ⟨some d, .box t x, ty, pos, aft, gd⟩, ⟨Xg ops gd ++ [(x, y)], some (d, .ptr γ 0), [(γ, .dead)], [(γ, .box y.parts)], [γ]⟩) :: l)
   ((S.set d (.ptr γ 0)).own γ (.box y.parts))) :
  Walk P ops draw K (⟨some d, .box t x, ty, pos, aft, gd⟩ :: rest) l S :=
 XO ⟨[(x, y)], some (d, .ptr γ 0), [(γ, .dead)], [(γ, .box y.parts)], [γ]⟩ (X0e rfl fun E S g a w hs hq hl hn => by
  refine ⟨.pointer (some ⟨w.heap.size, 0, none⟩), X0w g w γ, w.alloc (.cells (a.eval x).cells t), ?_, ?_, ?_, X0Y hn.1 hs.2.2.2⟩
  ·simp [execOp, Instr.box, newVar, newRow]
  ·simp [AVal.sat, X0w, Gh.put]
  ·exact XbA hs.1 γ hn.1 hl.1 t (X3h hq.1 hc) hm ((X0U _).1 hc)) hg ⟨⟨hx, trivial⟩, ⟨hdead, trivial⟩, ⟨hf, trivial⟩, hd⟩ h
theorem X2n (b : Nat) (e : TypeId) (fr : Nat × Nat) (n : Nat) (hfr : X17 fr n) : ∀ (us : List Value) (o i : Nat) (vs : Array Value) (w : World), w.heap[b]? = some (.cells vs e fr) → vs.size = n →
  o + i + us.length ≤ vs.size → (∀ u ∈ us, u.oneCell' = true) →
  ∃ vs' : Array Value, (storeCells ⟨b, o, none⟩ us i).run P w = .ok () (w.setRow b vs') ∧ vs'.toList = vs.toList.take (o + i) ++ us ++ vs.toList.drop (o + i + us.length)
 | [], o, i, vs, w, h, hn, hl, h1 => ⟨vs, by
   have : w.setRow b vs = w := by
    cases w with
    | mk heap tape drawn os output =>
     simp only [World.setRow]
     congr 1
     apply Array.ext_getElem?
     intro k
     simp only [Array.getElem?_modify]
     split
     ·rename_i hk; subst hk; simp at h; simp [h]
     ·rfl
   simp [storeCells, this], by simp⟩
 | u :: us, o, i, vs, w, h, hn, hl, h1 => by
  have hlt : o + i < vs.size := by simp at hl; omega
  have hc : w.cell? ⟨b, o + i, none⟩ = some vs[o + i] := by rw [cell_of_row w _ _ vs e fr h]; simp [hlt]
  have hf : w.frozen? ⟨b, o + i, none⟩ = false := by
   simp only [World.frozen?, h]
   have := hfr (o + i) (by omega)
   simpa using this
  have hset := setCell_eq_setRow w b (o + i) vs e fr u h
  have hw' : (w.setRow b (vs.setIfInBounds (o + i) u)).heap[b]? = some (.cells (vs.setIfInBounds (o + i) u) e fr) := setRow_heap w b vs _ e fr h
  obtain ⟨vs', k1, k2⟩ := X2n b e fr n hfr us o (i + 1) (vs.setIfInBounds (o + i) u) _ hw' (by simp [hn]) (by simp at hl ⊢; omega) (fun x hx => h1 x (by simp [hx]))
  refine ⟨vs', ?_, ?_⟩
  ·simp only [storeCells, Sem.run_bind, YQ, run_store P w _ u .plain (h1 u (by simp)), hc, hf, hset, Bool.false_eq_true, if_false, Result.andThen_ok, k1, setRow_setRow]
  ·rw [k2]
   apply List.ext_getElem?
   intro k
   simp only [List.getElem?_append, List.length_append, List.length_take, List.length_drop, Array.length_toList, Array.size_setIfInBounds, List.length_cons, List.getElem?_take, List.getElem?_drop, Array.getElem?_toList, Array.getElem?_setIfInBounds, List.getElem?_cons]
   have hm1 : min (o + (i + 1)) vs.size = o + i + 1 := by simp at hl; omega
   have hm2 : min (o + i) vs.size = o + i := by omega
   rw [hm1, hm2]
   by_cases c1 : k < o + i
   ·simp [c1, show k < o + i + 1 by omega, show k < o + i + 1 + us.length by omega, show k < o + i + (us.length + 1) by omega, show k < o + (i + 1) by omega, show o + i ≠ k by omega]
   ·by_cases c2 : k = o + i
    ·subst c2
     simp [show o + i < o + (i + 1) by omega, hlt]
     omega
    ·by_cases c3 : k < o + i + (us.length + 1)
     ·simp [c1, c3, show ¬ k < o + i + 1 by omega, show k < o + i + 1 + us.length by omega, show k - (o + i) ≠ 0 by omega, show k - (o + i + 1) = k - (o + i) - 1 by omega]
     ·simp [c3, show ¬ k < o + i + 1 + us.length by omega,
       show o + (i + 1) + us.length + (k - (o + i + 1 + us.length)) = o + i + (us.length + 1) + (k - (o + i + (us.length + 1))) by omega]
      intro hh; exfalso; omega
def X0b (P : Program) (t : TypeId) (sz : Nat) : Bool := match P.info? t with | some i => Nat.beq i.size sz | none => false
theorem X4X {t : TypeId} {sz : Nat} (h : X0b P t sz = true) (w : World) : (sizeOf t).run P w = .ok sz w := by
 unfold X0b at h
 cases hi : P.info? t with
 | none => simp [hi] at h
 | some i => rw [hi] at h; have : i.size = sz := by simpa using h
             simp [sizeOf, typeInfo, hi, this]
theorem XhB {t : TypeId} {x v : Operand} {γ o : Nat} {cs : List AVal} {y : AVal} (hx : S.ev x = .ptr γ o) (hL : S.obj γ = .box cs) (hv : S.ev v = y) (hc : UX y.parts = true)
  (ht : X0b P t y.parts.length = true) (hb : Nat.ble (o + y.parts.length) cs.length = true) (hg : Xj ops S gd)
  (h : Walk P ops draw K rest ((l.length, ⟨none, .store t x v, ty, pos, aft, gd⟩, ⟨Xg ops gd ++ [(x, .ptr γ o), (v, y)], none, [(γ, .box cs)], [(γ, .box (cs.take o ++ y.parts ++ cs.drop (o + y.parts.length)))], []⟩) :: l)
   (S.own γ (.box (cs.take o ++ y.parts ++ cs.drop (o + y.parts.length))))) :
  Walk P ops draw K (⟨none, .store t x v, ty, pos, aft, gd⟩ :: rest) l S :=
 XO ⟨[(x, .ptr γ o), (v, y)], none, [(γ, .box cs)], [(γ, .box (cs.take o ++ y.parts ++ cs.drop (o + y.parts.length)))], []⟩ (X45 rfl fun E S g a w hs hq hl hn => by
  have ho := hs.1.obj γ
  rw [hl.1] at ho
  obtain ⟨vs, e, fr, h1, h2, h3, h4⟩ := ho
  have hp : a.eval x = .pointer (some ⟨g.blk γ, o, none⟩) := by have := hq.1; simpa only [AVal.sat] using this
  have hps := X3h hq.2.1 hc
  have hlen : (a.eval v).cells.toList.length = y.parts.length := Y6 hps
  have hvl : vs.size = cs.length := by have := Y6 h3; simpa using this
  have hb' : o + y.parts.length ≤ cs.length := by simpa using hb
  obtain ⟨vs', k1, k2⟩ := X2n (P := P) (g.blk γ) e fr vs.size h2 (a.eval v).cells.toList o 0 vs w h1 rfl (by rw [hlen]; omega) (fun u hu => by
   obtain ⟨i, hi, rfl⟩ := List.getElem_of_mem hu
   have hi' : i < y.parts.length := by rw [← hlen]; exact hi
   exact XeH hq.2.1 hc i _ _ (List.getElem?_eq_getElem hi') (List.getElem?_eq_getElem hi))
  simp only [Nat.add_zero, hlen] at k2
  refine ⟨g, w.setRow (g.blk γ) vs', ?_, ?_, hs.2.2.2⟩
  ·have hsz := X4X ht w
   simp only [Array.length_toList] at hlen
   simp [execOp, hp, Instr.storeAt, Instr.sureAddr, storeVar, hsz, hlen, k1]
  ·have hsz' : vs'.size = vs.size := by
    have := congrArg List.length k2
    simp [hlen] at this
    simp at hlen
    omega
   refine Inv.upd hs.1 γ _ (XT _ _ _ _) (fun k hk => XK _ _ _ (Ne.symm hk)) (fun b hb hnl => ?_) (by simp) rfl rfl rfl (fun k hk => ⟨rfl, rfl, rfl⟩) (fun k cs us _ _ h => h) ?_ (fun b hb => .inl (by rw [hl.1]; exact hb)) (fun _ => Gh.keeps_refl _ _)
   ·refine setRow_other w _ b vs' (fun e => hnl ?_)
    rw [hl.1, e]; rfl
   ·refine ⟨vs', e, fr, setRow_heap w _ vs _ e fr h1, by rw [hsz']; exact h2, ?_, fun c hcm => ?_⟩
    ·rw [k2]
     exact Vm (Vm (VO h3 o) hps) (X09 h3 _)
    ·simp only [List.mem_append] at hcm
     rcases hcm with (h' | h') | h'
     ·exact h4 c (List.mem_of_mem_take h')
     ·exact (X0U _).1 hc c h'
     ·exact h4 c (List.mem_of_mem_drop h')) hg ⟨⟨hx, hv, trivial⟩, ⟨hL, trivial⟩, trivial, trivial⟩ h
def Xbu (cs ys : List AVal) (o : Nat) : List AVal := cs.take o ++ ys ++ cs.drop (o + ys.length)
def VQ (place : Nat → Option (Nat × Nat)) (cs : List AVal) : List (Nat × AVal) → Option (List AVal)
 | [] => some cs
 | (i, x) :: r =>
  match place i with
  | none => none
  | some (off, sz) => bif Nat.beq x.parts.length sz && Nat.ble (off + sz) cs.length && UX x.parts then VQ place (Xbu cs x.parts off) r else none
theorem XhO (xs : List Value) : ∀ (k : Nat) (cs : Array Value) (off : Nat), off + k + xs.length ≤ cs.size →
  ((xs.zipIdx k).foldl (fun cs (p : Value × Nat) => cs.setIfInBounds (off + p.2) p.1) cs).toList = cs.toList.take (off + k) ++ xs ++ cs.toList.drop (off + k + xs.length) := by
 induction xs with
 | nil => intro k cs off h; simp
 | cons x xs ih =>
  intro k cs off h
  simp only [List.zipIdx_cons, List.foldl_cons]
  rw [ih (k + 1) _ off (by simp at h ⊢; omega)]
  apply List.ext_getElem?
  intro j
  simp only [List.length_cons] at h
  simp only [List.getElem?_append, List.length_append, List.length_take, Array.length_toList, Array.size_setIfInBounds, List.length_cons, List.getElem?_take, List.getElem?_drop, Array.getElem?_toList, Array.getElem?_setIfInBounds, List.getElem?_cons]
  have hm1 : min (off + (k + 1)) cs.size = off + k + 1 := by omega
  have hm2 : min (off + k) cs.size = off + k := by omega
  rw [hm1, hm2]
  by_cases c1 : j < off + k
  ·simp [c1, show j < off + k + 1 by omega, show j < off + k + 1 + xs.length by omega, show j < off + k + (xs.length + 1) by omega, show j < off + (k + 1) by omega, show off + k ≠ j by omega]
  ·by_cases c2 : j = off + k
   ·subst c2
    simp [show off + k < off + (k + 1) by omega, show off + k < cs.size by omega]
    omega
   ·by_cases c3 : j < off + k + (xs.length + 1)
    ·simp [c1, c3, show ¬ j < off + k + 1 by omega, show j < off + k + 1 + xs.length by omega, show j - (off + k) ≠ 0 by omega, show j - (off + k + 1) = j - (off + k) - 1 by omega]
    ·simp [c3, show ¬ j < off + k + 1 + xs.length by omega,
      show off + (k + 1) + xs.length + (j - (off + k + 1 + xs.length)) = off + k + (xs.length + 1) + (j - (off + k + (xs.length + 1))) by omega]
     intro hh; exfalso; omega
def evL (S : St) : List (Nat × Operand) → List (Nat × AVal)
 | [] => []
 | p :: r => (p.1, S.ev p.2) :: evL S r
def UO : List (Nat × Operand) → List (Nat × AVal) → List (Operand × AVal)
 | p :: r, q :: s => (p.2, q.2) :: UO r s
 | _, _ => []
theorem X5R {g : Gh} {a : Act} {place : Nat → Option (Nat × Nat)} : ∀ {parts : List (Nat × Operand)} {ps : List (Nat × AVal)} {cs out : List AVal} {vs : Array Value},
  ps.map (·.1) = parts.map (·.1) → V7 g a (UO parts ps) → Xk g cs vs.toList → VQ place cs ps = some out →
  ∃ us : Array Value, Instr.fill place vs (parts.map fun p => (p.1, a.eval p.2)) = some us ∧ Xk g out us.toList
 | [], [], cs, out, vs, _, _, hs, hf => by
  simp only [VQ, Option.some.injEq] at hf; subst hf
  exact ⟨vs, rfl, hs⟩
 | [], _ :: _, _, _, _, hm, _, _, _ => by simp at hm
 | _ :: _, [], _, _, _, hm, _, _, _ => by simp at hm
 | p :: parts, (i, x) :: ps, cs, out, vs, hm, hr, hs, hf => by
  simp only [List.map_cons, List.cons.injEq] at hm
  obtain ⟨hm1, hm2⟩ := hm
  simp only [VQ] at hf
  cases hp : place i with
  | none => rw [hp] at hf; simp at hf
  | some os =>
   obtain ⟨off, sz⟩ := os
   rw [hp] at hf
   simp only at hf
   cases hb : (Nat.beq x.parts.length sz && Nat.ble (off + sz) cs.length && UX x.parts) with
   | false => rw [hb] at hf; simp at hf
   | true =>
    rw [hb] at hf
    simp only [Bool.and_eq_true] at hb
    obtain ⟨⟨b1, b2⟩, b3⟩ := hb
    have b1' : x.parts.length = sz := by simpa using b1
    have b2' : off + sz ≤ cs.length := by simpa using b2
    obtain ⟨hr1, hr2⟩ := hr
    have hps := X3h hr1 b3
    have hl1 := Y6 hps
    have hl2 := Y6 hs
    simp only [Array.length_toList] at hl1 hl2
    have hfold := XhO (a.eval p.2).cells.toList 0 vs off (by simp; omega)
    simp only [Nat.add_zero, Array.length_toList, hl1] at hfold
    let vs' : Array Value := (a.eval p.2).cells.zipIdx.foldl (fun cs (p : Value × Nat) => cs.setIfInBounds (off + p.2) p.1) vs
    have hvs' : vs'.toList = vs.toList.take off ++ (a.eval p.2).cells.toList ++ vs.toList.drop (off + x.parts.length) := by
     rw [← hfold]
     simp only [vs']
     rw [← Array.foldl_toList, Array.toList_zipIdx]
    have hsat' : Xk g (Xbu cs x.parts off) vs'.toList := by
     rw [hvs']
     exact Vm (Vm (VO hs off) hps) (X09 hs _)
    obtain ⟨us, k1, k2⟩ := X5R (vs := vs') hm2 hr2 hsat' hf
    refine ⟨us, ?_, k2⟩
    simp only [List.map_cons, Instr.fill, ← hm1, hp]
    rw [if_neg (by simp [hl1, b1']; omega)]
    exact k1
def X3O (P : Program) (t : TypeId) (i : Nat) : Option (Nat × Nat) :=
 match P.underlying t with
 | some (.struct fs) => (match fs[i]? with | some q => (match P.info? q.type with | some y => some (q.offset, y.size) | none => none) | none => none)
 | some (.array _ e) => (match P.info? e with | some y => some (i * y.size, y.size) | none => none)
 | _ => none
def X79 (P : Program) (t : TypeId) : Bool :=
 match P.underlying t with
 | some (.struct fs) => fs.toList.all fun f => (P.info? f.type).isSome
 | some (.array _ e) => (P.info? e).isSome
 | _ => false
theorem Xfu (fs : List Field) (w : World) (h : ∀ f ∈ fs, (P.info? f.type).isSome = true) :
  (fs.mapM fun f => do pure (f.offset, ← sizeOf f.type) : Sem (List (Nat × Nat))).run P w = .ok (fs.map fun f => (f.offset, P.cellsOf f.type)) w := by
 induction fs with
 | nil => simp
 | cons f fs ih =>
  obtain ⟨i, hi⟩ := Option.isSome_iff_exists.1 (h f (by simp))
  have ih := ih (fun x hx => h x (by simp [hx]))
  have hsz : (sizeOf f.type).run P w = .ok i.size w := by simp [sizeOf, typeInfo, hi]
  rw [List.mapM_cons]
  simp only [Sem.run_bind, hsz, Result.andThen_ok, Sem.run_pure, ih, List.map_cons]
  simp [Program.cellsOf, hi]
theorem Xbk {f f' : Nat → Option (Nat × Nat)} (h : ∀ i, f i = f' i) (cs : Array Value) (l : List (Nat × Value)) : Instr.fill f cs l = Instr.fill f' cs l := by
 have : f = f' := funext h
 rw [this]
theorem XhS {t : TypeId} {parts : Array (Nat × Operand)} {pl : List (Nat × Operand)} {zs : List Value} {ps : List (Nat × AVal)} {out : List AVal} (hpl : parts.toList = pl) (hps : evL S pl = ps)
  (hz : VL P t = some zs) (h1 : YV zs = true) (ht : X79 P t = true) (hout : VQ (X3O P t) (dvL zs) ps = some out)
  (hd : Nat.blt d S.n = true) (hg : Xj ops S gd)
  (h : Walk P ops draw K rest ((l.length, ⟨some d, .build t parts, ty, pos, aft, gd⟩, ⟨Xg ops gd ++ UO pl ps, some (d, .agg out), [], [], []⟩) :: l) (S.set d (.agg out))) :
  Walk P ops draw K (⟨some d, .build t parts, ty, pos, aft, gd⟩ :: rest) l S := by
 have hkeys : ps.map (·.1) = pl.map (·.1) := by
  rw [← hps]; clear hps hpl h; induction pl with
  | nil => rfl
  | cons p r ih => simp [evL, ih]
 refine XO ⟨UO pl ps, some (d, .agg out), [], [], []⟩ (Y2 rfl fun E S g a w hs hq hl => ?_) hg ⟨?_, trivial, trivial, hd⟩ h
 ·obtain ⟨z, hzc, hzr⟩ := X73 hz
  obtain ⟨us, k1, k2⟩ := X5R (vs := z.cells) hkeys hq (by rw [hzc]; exact X2Z h1) hout
  refine ⟨.agg us, ?_, by simp only [AVal.sat]; exact ⟨us, rfl, k2⟩⟩
  have hparts : (parts.map fun p => (p.1, a.eval p.2)).toList = pl.map fun p => (p.1, a.eval p.2) := by simp [hpl]
  unfold X79 at ht
  cases hu : P.underlying t with
  | none => rw [hu] at ht; simp at ht
  | some de =>
   rw [hu] at ht
   cases de with
   | struct fs =>
    simp only [List.all_eq_true] at ht
    have hrp := Xfu (P := P) fs.toList w ht
    have hpm : (fs.mapM fun f => do pure (f.offset, ← sizeOf f.type) : Sem (Array (Nat × Nat))).run P w = .ok (fs.map fun f => (f.offset, P.cellsOf f.type)) w := by
     have e : (fs.mapM fun f => do pure (f.offset, ← sizeOf f.type) : Sem (Array (Nat × Nat))) = (List.toArray <$> (fs.toList.mapM fun f => do pure (f.offset, ← sizeOf f.type))) := by
      rw [Array.mapM_eq_mapM_toList]
     rw [e, Sem.run_map, hrp, Result.andThen_ok]
     congr 1
     apply Array.ext'
     simp
    have hf : Instr.fill (fun x => (fs.map fun f => (f.offset, P.cellsOf f.type))[x]?) z.cells (parts.map fun p => (p.1, a.eval p.2)).toList = some us := by
     rw [hparts, ← k1]
     refine Xbk (fun i => ?_) _ _
     simp only [X3O, hu, Array.getElem?_map]
     cases hfi : fs[i]? with
     | none => rfl
     | some q =>
      obtain ⟨y, hy⟩ := Option.isSome_iff_exists.1 (ht q (by simpa using Array.mem_of_getElem? hfi))
      simp [hy, Program.cellsOf]
    simp only [execOp, Instr.build, Sem.run_bind, hzr, Result.andThen_ok, run_underlying hu, hpm, hf, Sem.run_pure]
   | array n e =>
    simp only at ht
    obtain ⟨y, hy⟩ := Option.isSome_iff_exists.1 ht
    have hf : Instr.fill (fun i => some (i * y.size, y.size)) z.cells (parts.map fun p => (p.1, a.eval p.2)).toList = some us := by
     rw [hparts, ← k1]
     refine Xbk (fun i => ?_) _ _
     simp only [X3O, hu, hy]
    simp only [execOp, Instr.build, Sem.run_bind, hzr, Result.andThen_ok, run_underlying hu, sizeOf, typeInfo, run_program, hy, hf, Sem.run_pure]
   | _ => simp at ht
 ·rw [X0t]
  rw [← hps]
  clear hkeys hps hpl hout h
  induction pl with
  | nil => simp [UO, evL]
  | cons p r ih => simp only [evL, UO, List.mem_cons]; exact fun q hq => hq.elim (fun e => by rw [e]) (ih q)
end
theorem X5D (γ : Nat) : ∀ l : List D, YT γ (l.map .d) = false
 | [] => rfl
 | x :: l => by simp [YT, AVal.ment, X5D γ l]
theorem X1G {g : Gh} : ∀ {ds : List D} {vs : List Value}, Xk g (ds.map .d) vs → vs.length = ds.length ∧ ∀ (i : Nat) (d : D), ds[i]? = some d → ∃ u, vs[i]? = some u ∧ d.rep g.M u := by
 intro ds vs h
 refine ⟨by simpa using Y6 h, fun i d hd => ?_⟩
 obtain ⟨u, h1, h2⟩ := YG h i (.d d) (by simp [hd])
 exact ⟨u, h1, by simpa only [AVal.sat] using h2⟩
theorem X2t {M : Mem} {sz b : Nat} : ∀ (xs : List (List D)) (o : Nat), (∀ x ∈ xs, x.length = sz) →
  (∀ (i : Nat) (d : D), xs.flatten[i]? = some d → ∃ u, M ⟨b, o + i, none⟩ = some u ∧ d.rep M u) → Ud M sz xs b o
 | [], _, _, _ => by simp only [Ud]
 | r :: rs, o, hl, h => by
  have hr := hl r (by simp)
  simp only [Ud]
  refine ⟨hr, X24 _ _ _ fun i d hd => ?_, X2t rs (o + sz) (fun x hx => hl x (by simp [hx])) fun i d hd => ?_⟩
  ·refine h i d ?_
   have hi : i < r.length := (List.getElem?_eq_some_iff.1 hd).1
   simp [List.getElem?_append, hi]; simpa [hi] using hd
  ·have := h (sz + i) d (by simp [List.getElem?_append, ← hr]; exact hd)
   rwa [show o + (sz + i) = o + sz + i by omega] at this
theorem UN {sz : Nat} : ∀ (xs : List (List D)), (∀ x ∈ xs, x.length = sz) → xs.flatten.length = xs.length * sz
 | [], _ => by simp
 | r :: rs, h => by
  have := UN rs (fun x hx => h x (by simp [hx]))
  simp [this, h r (by simp), Nat.add_mul]; omega
theorem X8G {M : Mem} {w : World} (hm : ∀ a v, M a = some v → w.cell? a = some v) {sz : Nat} : ∀ (xs : List (List D)) (b o : Nat), Ud M sz xs b o →
  ∃ vs : List Value, vs.length = xs.length * sz ∧ (∀ (j : Nat) (v : Value), vs[j]? = some v → w.cell? ⟨b, o + j, none⟩ = some v) ∧
   (∀ (j : Nat) (d : D) (v : Value), xs.flatten[j]? = some d → vs[j]? = some v → d.rep M v) := by
 intro xs b o h
 have hl : ∀ x ∈ xs, x.length = sz := fun x hx => by
  obtain ⟨i, hi⟩ := List.getElem?_of_mem hx
  exact (X1f xs b o i x h hi).1
 have hcells : YH M xs.flatten b o := by
  clear hl
  induction xs generalizing o with
  | nil => simp [YH]
  | cons r rs ih =>
   simp only [Ud] at h
   simp only [List.flatten_cons]
   exact Xf5 h.2.1 (by rw [h.1]; exact ih _ h.2.2)
 obtain ⟨vs, k1, k2, k3⟩ := X6V hm _ _ _ hcells
 exact ⟨vs, by rw [k1, UN xs hl], k2, k3⟩
def Gh.lay (g : Gh) (b : Nat) (vs : Array Value) : Gh :=
 { blk := g.blk, hd := g.hd, ihd := g.ihd, M := fun p => if p.block = b ∧ p.spot = none then vs[p.off]? else g.M p }
theorem X5g {E : Env} {L : Nat → AObj} {g : Gh} {w : World} (hi : Inv E L g w) (vs : Array Value) : XQ g.M (g.lay w.heap.size vs).M := by
 intro p v h
 have := block_lt_of_cell (hi.mem p v h)
 show (if _ then _ else _) = _
 rw [if_neg (by omega)]; exact h
theorem X1N {g g' : Gh} (hM : XQ g.M g'.M) (hb : g'.blk = g.blk) (hh : g'.hd = g.hd) (hih : g'.ihd = g.ihd) {x : AVal} {u : Value} (h : x.sat g u) : x.sat g' u :=
 AVal.sat_mono hM x u (fun k _ => Gh.keeps_of (by rw [hb]) (by rw [hh]) (by rw [hih])) h
theorem Xg6 {g g' : Gh} (hM : XQ g.M g'.M) (hb : g'.blk = g.blk) (hh : g'.hd = g.hd) (hih : g'.ihd = g.ihd) {xs : List AVal} {us : List Value} (h : Xk g xs us) : Xk g' xs us :=
 Vo hM xs us (fun k _ => Gh.keeps_of (by rw [hb]) (by rw [hh]) (by rw [hih])) h
theorem X5v {g g' : Gh} (hM : XQ g.M g'.M) (hb : g'.blk = g.blk) (hh : g'.hd = g.hd) (hih : g'.ihd = g.ihd) {w w' : World} {γ : Nat} {x : AObj} (hheap : ∀ b, Xr g x γ b → w'.heap[b]? = w.heap[b]?)
  (h : Y7 g w γ x) : Y7 g' w' γ x :=
 X2f hM (by rw [hb]) (by rw [hh]) (by rw [hih]) hheap (fun cs us _ h => Xg6 hM hb hh hih h) h
theorem X88 {E : Env} {L : Nat → AObj} {g : Gh} {w : World} (hi : Inv E L g w) (vs : Array Value) (e : TypeId) (fr : Nat × Nat) :
  Inv E L (g.lay w.heap.size vs) (w.alloc (.cells vs e fr)) := by
 have hle := X5g hi vs
 refine ⟨fun γ => X5v (g' := g.lay w.heap.size vs) hle rfl rfl rfl (fun b hb => X0G w _ b (X0d hi hb)) (hi.obj γ), fun γ γ' b h h' => ?_, fun a v h => ?_, fun γ b h a v ha => ?_, fun γ b h => ?_, hi.ext.trans hle, fun a v h => ?_, fun b hb hA => ?_, ?_, hi.os, hi.out, fun k hk => (hi.kp k hk).trans' (Gh.keeps_of rfl rfl rfl)⟩
 ·rw [X0K (g := g) (g' := g.lay w.heap.size vs) rfl rfl rfl] at h h'
  exact hi.inj γ γ' b h h'
 ·have h' : (if a.block = w.heap.size ∧ a.spot = none then vs[a.off]? else g.M a) = some v := h
  split at h'
  ·rename_i hc
   obtain ⟨b, o, s⟩ := a
   simp only at hc
   obtain ⟨rfl, rfl⟩ := hc
   rw [cell_of_row _ _ _ vs e fr (heap_alloc_new w _)]; exact h'
  ·have hc := hi.mem a v h'
   simp only [World.cell?] at hc ⊢
   rw [X0G w _ _ (block_lt_of_cell (hi.mem a v h'))]; exact hc
 ·rw [X0K (g := g) (g' := g.lay w.heap.size vs) rfl rfl rfl] at h
  have h' : (if a.block = w.heap.size ∧ a.spot = none then vs[a.off]? else g.M a) = some v := ha
  split at h'
  ·rename_i hc; have := X0d hi h; omega
  ·exact hi.sep γ b h a v h'
 ·rw [X0K (g := g) (g' := g.lay w.heap.size vs) rfl rfl rfl] at h
  exact hi.new γ b h
 ·have h' : (if a.block = w.heap.size ∧ a.spot = none then vs[a.off]? else g.M a) = some v := h
  split at h'
  ·rename_i hc; have := hi.size; exact .inr (.inl (by omega))
  ·exact hi.lim a v h'
 ·have := hi.size
  rw [X0G w _ b (by omega)]; exact hi.frame b hb hA
 ·have := hi.size; simp; omega
def X1C : List AVal → Option (List D)
 | [] => some []
 | .d x :: r => (match X1C r with | some y => some (x :: y) | none => none)
 | _ => none
def VP (sz : Nat) : Nat → List AVal → Option (List (List D))
 | 0, [] => some []
 | n + 1, l => (match X1C (l.take sz), VP sz n (l.drop sz) with | some r, some q => bif Nat.beq r.length sz then some (r :: q) else none | _, _ => none)
 | 0, _ :: _ => none
theorem X8R : ∀ {l : List AVal} {r : List D}, X1C l = some r → r.map .d = l
 | [], r, h => by simp [X1C] at h; subst h; rfl
 | x :: l, r, h => by
  cases x <;> simp only [X1C] at h <;> try (simp at h; done)
  rename_i y
  cases hu : X1C l with
  | none => simp [hu] at h
  | some q => simp [hu] at h; subst h; simp [X8R hu]
theorem XaY {sz : Nat} : ∀ {n : Nat} {l : List AVal} {xs : List (List D)}, VP sz n l = some xs → xs.flatten.map .d = l ∧ xs.length = n ∧ ∀ x ∈ xs, x.length = sz
 | 0, [], xs, h => by simp [VP] at h; subst h; simp
 | 0, _ :: _, xs, h => by simp [VP] at h
 | n + 1, l, xs, h => by
  simp only [VP] at h
  cases hu : X1C (l.take sz) with
  | none => simp [hu] at h
  | some r =>
   cases hq : VP sz n (l.drop sz) with
   | none => simp [hu, hq] at h
   | some q =>
    rw [hu, hq] at h
    simp only at h
    cases hb : Nat.beq r.length sz with
    | false => simp [hb] at h
    | true =>
     simp [hb] at h
     subst h
     obtain ⟨k1, k2, k3⟩ := XaY hq
     refine ⟨?_, by simp [k2], ?_⟩
     ·simp only [List.flatten_cons, List.map_append, X8R hu, k1, List.take_append_drop]
     ·intro x hx
      rcases List.mem_cons.1 hx with rfl | hx
      ·simpa using hb
      ·exact k3 x hx
def UE (P : Program) (t : TypeId) (sz bytes : Nat) : Bool :=
 match P.underlying t with
 | some (.slice e) => (match P.info? e with | some i => Nat.beq i.size sz && Nat.beq i.bytes bytes && (match i.zero with | some z => Nat.beq z.cells.size sz && YV z.cells.toList | none => false) | none => false)
 | _ => false
def elB (P : Program) (t : TypeId) : Nat :=
 match P.underlying t with
 | some (.slice e) => (match P.info? e with | some i => i.bytes | none => 0)
 | _ => 0
theorem X2J {P : Program} {t : TypeId} {sz bytes : Nat} (h : UE P t sz bytes = true) :
  ∃ e i z, P.underlying t = some (.slice e) ∧ P.info? e = some i ∧ i.size = sz ∧ i.bytes = bytes ∧ i.zero = some z ∧ z.cells.size = sz ∧ YV z.cells.toList = true := by
 unfold UE at h
 cases hu : P.underlying t with
 | none => simp [hu] at h
 | some de =>
  rw [hu] at h
  cases de with
  | slice e =>
   simp only at h
   cases hi : P.info? e with
   | none => simp [hi] at h
   | some i =>
    rw [hi] at h
    simp only [Bool.and_eq_true] at h
    obtain ⟨⟨h1, h2⟩, h3⟩ := h
    cases hz : i.zero with
    | none => simp [hz] at h3
    | some z =>
     rw [hz] at h3
     simp only [Bool.and_eq_true] at h3
     exact ⟨e, i, z, rfl, hi, Nat.eq_of_beq_eq_true h1, Nat.eq_of_beq_eq_true h2, hz, Nat.eq_of_beq_eq_true h3.1, h3.2⟩
  | _ => simp at h
def X0P (P : Program) (t : TypeId) : Bool := match P.underlying t with | some (.slice _) => true | some .string => true | _ => false
theorem XaE {P : Program} {t : TypeId} (h : X0P P t = true) : (∃ e, P.underlying t = some (.slice e)) ∨ P.underlying t = some .string := by
 unfold X0P at h
 cases hu : P.underlying t with
 | none => simp [hu] at h
 | some u => rw [hu] at h; cases u <;> simp_all
theorem X6D (need old : Nat) (e : TypeId) (t : Nat) (h : need < 2 ^ 63) : need ≤ (Question.appendCap need old e).cut t ∧ (Question.appendCap need old e).cut t ≤ maxLen := by
 simp only [Question.cut, maxLen]
 have : t % (2 ^ 63 - need) < 2 ^ 63 - need := Nat.mod_lt _ (by omega)
 omega
def Src (P : Program) (w : World) (sz : Nat) (x : Value) (m : Nat) (news : Array Value) : Prop :=
 (∀ w' : World, w'.heap = w.heap → (Builtin.lenOf x).run P w' = .ok m w' ∧ (Builtin.firstCells sz m x).run P w' = .ok news w') ∧ news.size = m * sz
theorem X6B {P : Program} {w : World} {T T2 ty e : TypeId} {i : TypeInfo} {base : Option Addr} {n cap m : Nat} {x : Value} {news : Array Value}
  (hT : P.underlying T = some (.slice e)) (hi : P.info? e = some i) (h2 : (∃ e, P.underlying T2 = some (.slice e)) ∨ P.underlying T2 = some .string)
  (hsrc : Src P w i.size x m news) (hroom : n + m ≤ cap) :
  (Builtin.append_ #[T, T2] ty #[.slice base n cap, x]).run P w =
   match base with
   | some a => ((storeCells (a.add (n * i.size)) news.toList).run P w).andThen fun _ w => .ok (.slice base (n + m) cap) w
   | none => .ok (.slice base (n + m) cap) w := by
 have hs := hsrc.1 w rfl
 rcases h2 with ⟨e2, h2⟩ | h2 <;> cases base <;>
 simp [Builtin.append_, run_underlying hT, sizeOf, typeInfo, hi, run_underlying h2, hs.1, hs.2, hroom]
theorem Xah {P : Program} {w : World} {T T2 ty e : TypeId} {i : TypeInfo} {z : Value} {base : Option Addr} {n cap m : Nat} {x : Value} {olds news : Array Value}
  (hT : P.underlying T = some (.slice e)) (hi : P.info? e = some i) (hz : i.zero = some z) (h2 : (∃ e, P.underlying T2 = some (.slice e)) ∨ P.underlying T2 = some .string)
  (hbytes : i.bytes ≠ 0)
  (hsrc : Src P w i.size x m news) (hold : ∀ w' : World, w'.heap = w.heap → (Builtin.firstCells i.size n (.slice base n cap)).run P w' = .ok olds w') (hroom : ¬ n + m ≤ cap)
  (hcap : Builtin.nextslicecap (n + m) cap * i.bytes ≤ 2 ^ 48) :
  let newCap := (Question.appendCap (n + m) cap e).cut (w.tape w.drawn (.appendCap (n + m) cap e))
  (Builtin.append_ #[T, T2] ty #[.slice base n cap, x]).run P w =
   .ok (.slice (some ⟨w.heap.size, 0, none⟩) (n + m) newCap) (w.drew.alloc (.cells (olds ++ news ++ Builtin.zeroCells z.cells (newCap - (n + m))) e)) := by
 have hs := hsrc.1 w rfl
 have hs' := hsrc.1 w.drew rfl
 have ho := hold w.drew rfl
 rcases h2 with ⟨e2, h2⟩ | h2 <;>
 simp [Builtin.append_, run_underlying hT, sizeOf, typeInfo, hi, run_underlying h2, hs.1, hroom, hbytes, Nat.not_lt.2 hcap, Question.forced, ho, hs'.2, zeroValue, hz, newRow]
end Go.Fw

/- Rows of one's own whose elements have several cells: a part of an element read, or set to what it is. -/
import Derived.Test.YtpfldfkhgplcgaaGreatDoorRows
import Derived.Test.YtpfldfkhgplcgaaGreatDoorM08
namespace Go.Fw
open Go
set_option linter.unusedVariables false
set_option linter.unusedSimpArgs false
theorem X9r {sz : Nat} : ∀ {xs : List (List D)} (h : ∀ x ∈ xs, x.length = sz) {k : Nat} {r : List D}, xs[k]? = some r → ∀ {o q : Nat}, o + q ≤ sz → (xs.flatten.drop (k * sz + o)).take q = (r.drop o).take q
 | [], _, k, r, hk, _, _, _ => by simp at hk
 | x :: xs, h, 0, r, hk, o, q, hq => by
  simp only [List.getElem?_cons_zero, Option.some.injEq] at hk
  subst hk
  have hx := h x (by simp)
  rw [Nat.zero_mul, Nat.zero_add, List.flatten_cons, List.drop_append_of_le_length (by omega), List.take_append_of_le_length (by rw [List.length_drop]; omega)]
 | x :: xs, h, k + 1, r, hk, o, q, hq => by
  have hx := h x (by simp)
  have := X9r (fun y hy => h y (by simp [hy])) (xs := xs) (k := k) (r := r) (by simpa using hk) hq
  rw [List.flatten_cons, show (k + 1) * sz + o = x.length + (k * sz + o) by rw [hx, Nat.succ_mul]; omega, ← List.drop_drop, List.drop_left]
  exact this
theorem XfI {P : Program} {g : Gh} {w : World} {h : Value} {sz o q : Nat} {xs : List (List D)} {ys : List D} (hr : UQ g w h sz xs) (hb : o + q ≤ xs.length * sz) (hys : (xs.flatten.drop o).take q = ys) {news : Array Value} (hns : news.size = q) (hsat : Xm g (ys.map .d) news.toList) :
  ∃ w', (match h with | .slice (some a) _ _ => (storeCells (a.add o) news.toList).run P w | _ => .ok () w) = .ok () w' ∧ UQ g w' h sz xs ∧
   (∀ b, ¬ UK h b → w'.heap[b]? = w.heap[b]?) ∧ w'.heap.size = w.heap.size ∧ w'.os = w.os ∧ w'.output = w.output := by
 rcases hr.2 with ⟨rfl, rfl⟩ | ⟨b, cap, vs, e, fr, rfl, h2, h3, h4, h5, h6, h7⟩
 ·exact ⟨w, rfl, hr, fun _ _ => rfl, rfl, rfl, rfl⟩
 ·have hfx := VD xs hr.1
  have hyl : ys.length = q := by have := YX hsat; simp only [List.length_map, Array.length_toList] at this; omega
  have hbnd : o + q ≤ vs.size := Nat.le_trans hb (Nat.le_trans (Nat.mul_le_mul_right _ h2) h6)
  obtain ⟨vs', k1, k2⟩ := X2A (P := P) b e fr vs.size h5 news.toList o 0 vs w h4 rfl (by simp [hns]; omega) (fun u hu => by
   obtain ⟨j, hj, rfl⟩ := List.getElem_of_mem hu
   have hjl : j < ys.length := by rw [hyl, ← hns]; simpa using hj
   obtain ⟨_, hrep⟩ := X2D hsat
   obtain ⟨u, hu1, hu2⟩ := hrep j _ (List.getElem?_eq_getElem hjl)
   rw [List.getElem?_eq_getElem hj] at hu1; cases hu1
   exact D.rep_one hu2)
  simp only [Nat.add_zero, Array.length_toList, hns] at k2
  have hvs' : vs'.size = vs.size := by
   have := congrArg List.length k2
   simp [hns] at this; omega
  refine ⟨w.setRow b vs', ?_, ⟨hr.1, .inr ⟨b, cap, vs', e, fr, rfl, h2, h3, setRow_heap w b vs _ e fr h4, by rw [hvs']; exact h5, by rw [hvs']; exact h6, ?_⟩⟩, fun c hc => setRow_other w b c vs' (fun e => hc (by rw [e]; exact ⟨_, _, _, rfl, rfl⟩)), by simp, rfl, rfl⟩
  ·simp only [YH, Nat.zero_add]; exact k1
  ·have hxt : (vs.toList.take (xs.length * sz)).length = xs.length * sz := by have := YX h7; simp only [List.length_map, hfx] at this; exact this
   have e1 : vs'.toList.take (xs.length * sz) = (vs.toList.take (xs.length * sz)).take o ++ news.toList ++ (vs.toList.take (xs.length * sz)).drop (o + q) := by
    rw [k2]
    exact X7K (by simp [hns]) hb (by simp at hxt ⊢; omega)
   rw [e1]
   have e2 : xs.flatten = xs.flatten.take o ++ ys ++ xs.flatten.drop (o + q) := by
    rw [← hys, ← List.drop_drop, List.append_assoc, List.take_append_drop, List.take_append_drop]
   rw [e2, List.map_append, List.map_append, List.map_take, List.map_drop]
   exact X0p (X0p (X1c h7 _) hsat) (X2b h7 _)
section
variable {P : Program} {ops : Array Oper} {draw : Bool} {K : St → Prop} {rest : List Oper} {l : Yb} {S : St}
variable {d : Nat} {ty : TypeId} {pos : String} {aft : Array Edge} {gd : Option (Nat × Bool)}
theorem Xc7 {x i : Operand} {T : TypeId} {γ n k sz : Nat} {kd : IntKind} {m : Int} {xs : List (List D)} (hx : S.ev x = .own γ n) (hL : S.obj γ = .row sz xs) (hi : S.ev i = .d (.v (.int kd m))) (hn : n = xs.length) (hk : m = (k : Nat)) (hlt : k < xs.length)
  (hT : Yh P T sz = true) (hd : Nat.blt d S.n = true) (hg : Xe ops S gd)
  (h : Walk P ops draw K rest ((l.length, ⟨some d, .indexAddr T x i, ty, pos, aft, gd⟩, ⟨Xd ops gd ++ [(x, .own γ n), (i, .d (.v (.int kd m)))], some (d, .rptr γ n (k * sz)), [(γ, .row sz xs)], [], []⟩) :: l) (S.set d (.rptr γ n (k * sz)))) :
  Walk P ops draw K (⟨some d, .indexAddr T x i, ty, pos, aft, gd⟩ :: rest) l S :=
 XG ⟨[(x, .own γ n), (i, .d (.v (.int kd m)))], some (d, .rptr γ n (k * sz)), [(γ, .row sz xs)], [], []⟩ (Yo rfl fun E S g a w hs hq hl => by
  obtain ⟨e, h1, h2, h3⟩ := VY hT
  have ho := hs.1.obj γ
  rw [hl.1] at ho
  have hv := X15 hq.1 ho hn
  rcases ho.2 with ⟨e, rfl⟩ | ⟨b, cap, vs, e', fr, hh, _⟩
  ·simp at hlt
  ·rw [hh] at hv
   refine ⟨.pointer (some ⟨b, k * sz, none⟩), ?_, ?_⟩
   ·have hb : (0 : Int) ≤ m ∧ m < (xs.length : Int) := by omega
    have hm : m.toNat = k := by omega
    have := run_indexAt_slice (P := P) w T ⟨b, 0, none⟩ xs.length cap kd m (by rw [h3]; exact h1)
    rw [if_pos hb, h3, h2 w, Result.andThen_ok, YH, hm, Nat.zero_add] at this
    simp only [execOp, hv, Yt hq.2.1, Sem.run_bind, this]; rfl
   ·simp only [AVal.sat]
    exact ⟨rfl, _, _, _, hh, by omega, fun _ => ⟨_, rfl, rfl⟩⟩) hg ⟨⟨hx, hi, trivial⟩, ⟨hL, trivial⟩, trivial, hd⟩ h
theorem XaJ {g : Gh} {w : World} {γ n o sz : Nat} {xs : List (List D)} {u : Value} (hs : (AVal.rptr γ n o).sat g u) (ho : UQ g w (g.hd γ) sz xs) (hn : n = xs.length) (h0 : 0 < xs.length) :
  ∃ b cap vs e fr, u = .pointer (some ⟨b, o, none⟩) ∧ g.hd γ = .slice (some ⟨b, 0, none⟩) xs.length cap ∧ w.heap[b]? = some (.cells vs e fr) ∧ Xm g (xs.flatten.map .d) (vs.toList.take (xs.length * sz)) := by
 simp only [AVal.sat] at hs
 obtain ⟨_, a', m, c, q1, q2, q3⟩ := hs
 rcases ho.2 with ⟨e, rfl⟩ | ⟨b, cap, vs, e', fr, hh, k2, k3, k4, k5, k6, k7⟩
 ·simp at h0
 ·rw [hh] at q1; cases q1
  obtain ⟨b', e1, e2⟩ := q3 hn
  cases e1
  exact ⟨b, _, vs, e', fr, e2, hh, k4, k7⟩
theorem Xda {t : TypeId} {x : Operand} {γ n o q sz : Nat} {xs : List (List D)} {ys : List D} (hx : S.ev x = .rptr γ n o) (hL : S.obj γ = .row sz xs) (hn : n = xs.length) (h0 : 0 < xs.length) (hb : o + q ≤ xs.length * sz) (hys : (xs.flatten.drop o).take q = ys)
  (ht : Up P t true q = true) (hd : Nat.blt d S.n = true) (hg : Xe ops S gd)
  (h : Walk P ops draw K rest ((l.length, ⟨some d, .load t x, ty, pos, aft, gd⟩, ⟨Xd ops gd ++ [(x, .rptr γ n o)], some (d, .agg (ys.map .d)), [(γ, .row sz xs)], [], []⟩) :: l) (S.set d (.agg (ys.map .d)))) :
  Walk P ops draw K (⟨some d, .load t x, ty, pos, aft, gd⟩ :: rest) l S :=
 XG ⟨[(x, .rptr γ n o)], some (d, .agg (ys.map .d)), [(γ, .row sz xs)], [], []⟩ (Yo rfl fun E S g a w hs hq hl => by
  have ho := hs.1.obj γ
  rw [hl.1] at ho
  obtain ⟨b, cap, vs, e, fr, e1, e2, e3, e4⟩ := XaJ hq.1 ho hn h0
  have hsub := X1c (X2b e4 o) q
  rw [← List.map_drop, ← List.map_take, hys] at hsub
  have hl1 := YX hsub
  have hfx := VD xs ho.1
  have hyl : ys.length = q := by rw [← hys, List.length_take, List.length_drop, hfx]; omega
  rw [List.length_map] at hl1
  refine ⟨.agg (((vs.toList.take (xs.length * sz)).drop o).take q).toArray, ?_, by simp only [AVal.sat]; exact ⟨_, rfl, hsub⟩⟩
  have := X4X (P := P) (p := ⟨b, o, none⟩) (w := w) (vs := ((vs.toList.take (xs.length * sz)).drop o).take q) (t := t) (by rw [hl1, hyl]; exact ht) (fun j v hv => by
   rw [YH, cell_of_row w _ _ vs e fr e3]
   rw [List.getElem?_take] at hv
   split at hv
   ·rw [List.getElem?_drop, List.getElem?_take] at hv
    split at hv
    ·simpa using hv
    ·simp at hv
   ·simp at hv)
  simp [execOp, e1, Instr.loadAt, Instr.sureAddr, this]) hg ⟨⟨hx, trivial⟩, ⟨hL, trivial⟩, trivial, hd⟩ h
theorem Xi1 {t : TypeId} {x v : Operand} {γ n o q sz : Nat} {xs : List (List D)} {ys : List D} (hx : S.ev x = .rptr γ n o) (hL : S.obj γ = .row sz xs) (hv : S.ev v = .agg (ys.map .d)) (hn : n = xs.length) (h0 : 0 < xs.length) (hb : o + q ≤ xs.length * sz) (hys : (xs.flatten.drop o).take q = ys)
  (ht : X1i P t q = true) (hg : Xe ops S gd)
  (h : Walk P ops draw K rest ((l.length, ⟨none, .store t x v, ty, pos, aft, gd⟩, ⟨Xd ops gd ++ [(x, .rptr γ n o), (v, .agg (ys.map .d))], none, [(γ, .row sz xs)], [(γ, .row sz xs)], []⟩) :: l)
   (S.own γ (.row sz xs))) :
  Walk P ops draw K (⟨none, .store t x v, ty, pos, aft, gd⟩ :: rest) l S :=
 XG ⟨[(x, .rptr γ n o), (v, .agg (ys.map .d))], none, [(γ, .row sz xs)], [(γ, .row sz xs)], []⟩ (X5s rfl fun E S g a w hs hq hl hnn => by
  have ho := hs.1.obj γ
  rw [hl.1] at ho
  have hrow : UQ g w (g.hd γ) sz xs := ho
  obtain ⟨b, cap, vs, e, fr, e1, e2, e3, e4⟩ := XaJ hq.1 ho hn h0
  have hqv := hq.2.1
  simp only [AVal.sat] at hqv
  obtain ⟨us, hu, hus⟩ := hqv
  have hfx := VD xs hrow.1
  have hyl : ys.length = q := by rw [← hys, List.length_take, List.length_drop, hfx]; omega
  have hul : us.size = q := by have := YX hus; simp only [List.length_map, Array.length_toList] at this; omega
  obtain ⟨w', s1, s2, s3, s4, s5, s6⟩ := XfI (P := P) hrow hb hys hul hus
  rw [e2] at s1
  simp only [YH, Nat.zero_add] at s1
  refine ⟨g, w', ?_, ?_, hs.2.2.2⟩
  ·have hsz := X6N ht w
   simp [execOp, e1, hu, Instr.storeAt, Instr.sureAddr, storeVar, hsz, Value.cells, hul, s1]
  ·refine Inv.upd hs.1 γ _ (Ys _ _ _ _) (fun j hj => Yq _ _ _ (Ne.symm hj)) (fun b hb hnl => s3 b fun hc => hnl (by rw [hl.1]; exact hc)) (by omega) s5 s6 rfl (fun _ _ => ⟨rfl, rfl, rfl⟩) (fun _ _ _ _ _ h => h) s2 (fun b hb => .inl (by rw [hl.1]; exact hb)) (fun _ => Gh.keeps_refl _ _)) hg ⟨⟨hx, hv, trivial⟩, ⟨hL, trivial⟩, trivial, trivial⟩ h
end
open Go Go.ChangeShapes Go.WideShapes Go.Deep Go.Proofs.YtpfldfkhgplcgaaGreatDoor.Rows
section
variable {H : Type} {enc : TypeId × Value → H} {P : Program} {W : World}
theorem Xa0 (d : DataW H) : 1 ≤ uptoBulk d := by
 cases d with
 | lit l => cases l <;> simp [uptoBulk]
 | nil => simp [uptoBulk]
 | ptr d => simp [uptoBulk]
 | slice elems spare => simp [uptoBulk]
 | agg parts => simp [uptoBulk]
 | iface t d => simp [uptoBulk]
 | map entries => simp [uptoBulk]
 | held h => simp [uptoBulk]
structure OpensM {α : Type} (enc : TypeId × Value → H) (P : Program) (W : World) (t : TypeId) (p : α → Prop) (μ : α → Nat) (f : α → List D) : Prop where
 op : ∀ n cs x, DataW.trod enc P W 0 (fun _ => true) true n t cs = some x → ∃ r, p r ∧ μ r ≤ uptoBulk x.1 ∧ YG W.cell? (f r) cs
theorem Opens.one {α : Type} {t : TypeId} {p : α → Prop} {f : α → List D} (h : Opens enc P W t p f) : OpensM enc P W t p (fun _ => 1) f := by
 refine ⟨fun n cs x hx => ?_⟩
 obtain ⟨r, h1, h2⟩ := h.op n cs x hx
 exact ⟨r, h1, Xa0 _, h2⟩
theorem OpensM.to {α β : Type} {t : TypeId} {p : α → Prop} {μ : α → Nat} {f : α → List D} (h : OpensM enc P W t p μ f) {q : β → Prop} {ν : β → Nat} {g : β → List D} (φ : α → β) (hφ : ∀ a, p a → q (φ a) ∧ ν (φ a) ≤ μ a ∧ f a = g (φ a)) : OpensM enc P W t q ν g := by
 refine ⟨fun n cs x hx => ?_⟩
 obtain ⟨r, h1, h2, h3⟩ := h.op n cs x hx
 obtain ⟨k1, k2, k3⟩ := hφ r h1
 exact ⟨φ r, k1, Nat.le_trans k2 h2, k3 ▸ h3⟩
def X1v {α : Type} (μ : α → Nat) : List α → Nat
 | [] => 0
 | x :: l => μ x + X1v μ l
theorem XaS {α : Type} {μ : α → Nat} : ∀ (l : List α) (ds : List (DataW H)), ds.length = l.length → (∀ (i : Nat) (x : α) (d : DataW H), l[i]? = some x → ds[i]? = some d → μ x ≤ uptoBulk d) → X1v μ l ≤ uptoBulkAll ds
 | [], ds, _, _ => Nat.zero_le _
 | x :: l, [], h, _ => by simp at h
 | x :: l, d :: ds, h, hi => by
  have h1 := hi 0 x d (by simp) (by simp)
  have h2 := XaS l ds (by simpa using h) fun i y e hy he => hi (i + 1) y e (by simpa using hy) (by simpa using he)
  rw [X1v, uptoBulkAll]
  omega
theorem X8i {α : Type} {t e : TypeId} {sz : Nat} {p : α → Prop} {μ : α → Nat} {f : α → List D} (ht : P.underlying t = some (.slice e)) (hz : P.cellsOf e = sz) (h0 : 0 < sz) (ho : OpensM enc P W e p μ f) :
  OpensM enc P W t (fun l : List α => (∀ r ∈ l, p r) ∧ l.length ≤ 9223372036854775807) (fun l => X1v μ l + 1) (fun l => [.sl sz (l.map f)]) := by
 refine ⟨fun n cs x hx => ?_⟩
 rcases DataW.trod_slice ht hx with ⟨rfl, hx⟩ | ⟨a, len, cap, elems, rest, n', hn, rfl, hx, _, hl, hm, hlen, hel, _, _⟩
 ·refine ⟨[], ⟨by simp, by simp⟩, Xa0 _, ?_⟩
  simp only [YG, D.rep, List.map_nil]
  exact ⟨⟨Option.none, 0, rfl, Nat.le_refl _, Nat.zero_le _, .inl trivial⟩, trivial⟩
 have hel' : ∀ i, i < len → ∃ r, (p r ∧ ∀ d, (elems.map (·.1))[i]? = some d → μ r ≤ uptoBulk d) ∧ (f r).length = sz ∧ ∀ j d, (f r)[j]? = some d → ∃ u, W.cell? ((a.add (i * sz)).add j) = some u ∧ d.rep W.cell? u := by
  intro i hi
  have h0 := hel i hi
  rw [List.getElem?_eq_getElem (by omega)] at h0
  obtain ⟨cs', h1, h2⟩ := Option.bind_eq_some_iff.1 h0
  obtain ⟨r, h3, h3b, h4⟩ := ho.op _ _ _ h2
  obtain ⟨_, h5, h6⟩ := World.cells?_some h1
  rw [hz] at h5 h6
  refine ⟨r, ⟨h3, fun d hd => ?_⟩, by rw [← X4l h4, h5], fun j d hd => ?_⟩
  ·rw [List.getElem?_map, List.getElem?_eq_getElem (by omega)] at hd
   simp only [Option.map_some, Option.some.injEq] at hd
   subst hd
   exact h3b
  obtain ⟨u, h7, h8⟩ := X47 h4 j d hd
  have hj : j < sz := by
   have := (List.getElem?_eq_some_iff.1 h7).1
   omega
  exact ⟨u, (h6 j hj).trans h7, h8⟩
 obtain ⟨l, h1, h2⟩ := X4I len hel'
 refine ⟨l, ⟨fun r hr => ?_, by rw [h1]; have hm' : cap ≤ 9223372036854775807 := hm; omega⟩, ?_, ?_⟩
 ·obtain ⟨i, hi⟩ := List.getElem?_of_mem hr
  exact (h2 i r hi).1.1
 ·have := XaS (μ := μ) l (elems.map (·.1)) (by rw [List.length_map, h1]; omega) fun i r d hr hd => (h2 i r hr).1.2 d hd
  subst hx
  simp only [uptoBulk]
  omega
 simp only [YG, D.rep]
 refine ⟨⟨some a, cap, by rw [List.length_map, h1], by rw [List.length_map, h1]; exact hl, hm, ?_⟩, trivial⟩
 by_cases h00 : len = 0
 ·exact .inl (by rw [List.eq_nil_of_length_eq_zero (h1.trans h00)]; rfl)
 right
 obtain ⟨b, o, sp⟩ := a
 have hsp : sp = Option.none := by
  obtain ⟨r, hr⟩ : ∃ r, l[0]? = some r := ⟨_, List.getElem?_eq_getElem (by omega)⟩
  obtain ⟨_, hlen, hcell⟩ := h2 0 r hr
  obtain ⟨d, hd⟩ : ∃ d, (f r)[0]? = some d := ⟨_, List.getElem?_eq_getElem (by omega)⟩
  obtain ⟨u, hu, _⟩ := hcell 0 d hd
  simpa [Addr.add] using World.cell?_spot hu
 subst hsp
 refine ⟨b, o, rfl, X2R _ _ _ fun i r hr => ?_⟩
 obtain ⟨x, hx, rfl⟩ : ∃ x, l[i]? = some x ∧ f x = r := by simpa using hr
 obtain ⟨_, hlen, hcell⟩ := h2 i x hx
 refine ⟨hlen, X1j _ _ _ fun j d hd => ?_⟩
 obtain ⟨u, hu, hd⟩ := hcell j d hd
 rw [YH, YH] at hu
 exact ⟨u, hu, hd⟩
structure OpensFM {α : Type} (enc : TypeId × Value → H) (P : Program) (W : World) (N : Nat) (fs : List Field) (off : Nat) (p : α → Prop) (μ : α → Nat) (f : α → List D) : Prop where
 op : ∀ (cs : List Value) (n : Nat) (xs : List (DataW H × List MemPlace)), cs.length = N → xs.length = fs.length → (∀ (i : Nat) (q : Field) (x : DataW H × List MemPlace), fs[i]? = some q → xs[i]? = some x → DataW.trod enc P W 0 (fun _ => true) true n q.type ((cs.drop q.offset).take (P.cellsOf q.type)) = some x) →
  ∃ r, p r ∧ μ r ≤ uptoBulkAll (xs.map (·.1)) ∧ YG W.cell? (f r) (cs.drop off)
theorem X8U {N : Nat} : OpensFM enc P W N [] N (fun _ : Unit => True) (fun _ => 0) (fun _ => []) := by
 refine ⟨fun cs n xs hN _ _ => ⟨(), trivial, Nat.zero_le _, ?_⟩⟩
 rw [List.drop_of_length_le (by omega)]; trivial
theorem VF {α β : Type} {N : Nat} {q : Field} {fs : List Field} {off s : Nat} {p : α → Prop} {μ : α → Nat} {f : α → List D} {p' : β → Prop} {μ' : β → Nat} {f' : β → List D} (hoff : q.offset = off) (hs : P.cellsOf q.type = s)
  (h : OpensM enc P W q.type p μ f) (k : OpensFM enc P W N fs (off + s) p' μ' f') : OpensFM enc P W N (q :: fs) off (fun r : α × β => p r.1 ∧ p' r.2) (fun r => μ r.1 + μ' r.2) (fun r => f r.1 ++ f' r.2) := by
 refine ⟨fun cs n xs hN hl hall => ?_⟩
 cases xs with
 | nil => simp at hl
 | cons x xs =>
  have hx := hall 0 q x (by simp) (by simp)
  rw [hoff, hs] at hx
  obtain ⟨r, h1, h1b, h2⟩ := h.op _ _ _ hx
  obtain ⟨r', h3, h3b, h4⟩ := k.op cs n xs hN (by simpa using hl) fun i q' x' hq' hx' => hall (i + 1) q' x' (by simpa using hq') (by simpa using hx')
  refine ⟨(r, r'), ⟨h1, h3⟩, ?_, ?_⟩
  ·simp only [List.map_cons, uptoBulkAll]
   omega
  ·have := X4G h2 h4
   rwa [← List.drop_drop, List.take_append_drop] at this
theorem X9R {α : Type} {t : TypeId} {fs : Array Field} {N : Nat} {p : α → Prop} {μ : α → Nat} {f : α → List D} (ht : P.underlying t = some (.struct fs)) (hN : P.cellsOf t = N) (h : OpensFM enc P W N fs.toList 0 p μ f) : OpensM enc P W t p μ f := by
 refine ⟨fun n cs x hx => ?_⟩
 obtain ⟨xs, n', _, hx', hl, hlen, hf⟩ := DataW.trod_struct ht hx
 obtain ⟨r, h1, h2, h3⟩ := h.op cs n' xs (hl.trans hN) (by simpa using hlen) fun i q y hq hy => by
  have h1 := hf i q (by simpa using hq)
  exact h1.trans hy
 refine ⟨r, h1, ?_, by simpa using h3⟩
 subst hx'
 simp only [uptoBulk]
 omega
theorem X59 {α : Type} {t : TypeId} {fs : Array Field} {r : Reach} {b0 : Nat} {v : Value} {d : DataW H} {ps : List MemPlace} {p : α → Prop} {μ : α → Nat} {f : α → List D} (ht : P.underlying t = some (.struct fs))
  (hval : Value.okWide P W r b0 t v) (hd : DataW.Trod enc P W 0 (fun _ => true) true t v d ps) (ho : OpensM enc P W t p μ f) : ∃ x, (p x ∧ μ x ≤ uptoBulk d) ∧ (AVal.agg ((f x).map .d)).sat (g0 W.cell?) v := by
 simp only [Value.okWide, ht] at hval
 obtain ⟨cs, rfl, _, _⟩ := hval
 obtain ⟨n, hn⟩ := hd
 obtain ⟨x, h1, h2, h3⟩ := ho.op _ _ _ hn
 refine ⟨x, ⟨h1, h2⟩, ?_⟩
 simp only [AVal.sat]
 exact ⟨cs, rfl, X5U rfl h3⟩
end
end Go.Fw

/- Rows of one's own whose elements have several cells: a part of an element read, or set to what it is. -/
import Derived.Test.YtpfldfkhgplcgaaGreatDoorK08
namespace Go.Fw
open Go
set_option linter.unusedVariables false
set_option linter.unusedSimpArgs false
theorem X93 {sz : Nat} : ∀ {xs : List (List D)} (h : ∀ x ∈ xs, x.length = sz) {k : Nat} {r : List D}, xs[k]? = some r → ∀ {o q : Nat}, o + q ≤ sz → (xs.flatten.drop (k * sz + o)).take q = (r.drop o).take q
 | [], _, k, r, hk, _, _, _ => by simp at hk
 | x :: xs, h, 0, r, hk, o, q, hq => by
  simp only [List.getElem?_cons_zero, Option.some.injEq] at hk
  subst hk
  have hx := h x (by simp)
  rw [Nat.zero_mul, Nat.zero_add, List.flatten_cons, List.drop_append_of_le_length (by omega), List.take_append_of_le_length (by rw [List.length_drop]; omega)]
 | x :: xs, h, k + 1, r, hk, o, q, hq => by
  have hx := h x (by simp)
  have := X93 (fun y hy => h y (by simp [hy])) (xs := xs) (k := k) (r := r) (by simpa using hk) hq
  rw [List.flatten_cons, show (k + 1) * sz + o = x.length + (k * sz + o) by rw [hx, Nat.succ_mul]; omega, ← List.drop_drop, List.drop_left]
  exact this
theorem Xgz {P : Program} {g : Gh} {w : World} {h : Value} {sz o q : Nat} {xs : List (List D)} {ys : List D} (hr : UI g w h sz xs) (hb : o + q ≤ xs.length * sz) (hys : (xs.flatten.drop o).take q = ys) {news : Array Value} (hns : news.size = q) (hsat : Xk g (ys.map .d) news.toList) :
  ∃ w', (match h with | .slice (some a) _ _ => (storeCells (a.add o) news.toList).run P w | _ => .ok () w) = .ok () w' ∧ UI g w' h sz xs ∧
   (∀ b, ¬ Uy h b → w'.heap[b]? = w.heap[b]?) ∧ w'.heap.size = w.heap.size ∧ w'.os = w.os ∧ w'.output = w.output := by
 rcases hr.2 with ⟨rfl, rfl⟩ | ⟨b, cap, vs, e, fr, rfl, h2, h3, h4, h5, h6, h7⟩
 ·exact ⟨w, rfl, hr, fun _ _ => rfl, rfl, rfl, rfl⟩
 ·have hfx := VA xs hr.1
  have hyl : ys.length = q := by have := YV hsat; simp only [List.length_map, Array.length_toList] at this; omega
  have hbnd : o + q ≤ vs.size := Nat.le_trans hb (Nat.le_trans (Nat.mul_le_mul_right _ h2) h6)
  obtain ⟨vs', k1, k2⟩ := X1X (P := P) b e fr vs.size h5 news.toList o 0 vs w h4 rfl (by simp [hns]; omega) (fun u hu => by
   obtain ⟨j, hj, rfl⟩ := List.getElem_of_mem hu
   have hjl : j < ys.length := by rw [hyl, ← hns]; simpa using hj
   obtain ⟨_, hrep⟩ := X26 hsat
   obtain ⟨u, hu1, hu2⟩ := hrep j _ (List.getElem?_eq_getElem hjl)
   rw [List.getElem?_eq_getElem hj] at hu1; cases hu1
   exact D.rep_one hu2)
  simp only [Nat.add_zero, Array.length_toList, hns] at k2
  have hvs' : vs'.size = vs.size := by
   have := congrArg List.length k2
   simp [hns] at this; omega
  refine ⟨w.setRow b vs', ?_, ⟨hr.1, .inr ⟨b, cap, vs', e, fr, rfl, h2, h3, setRow_heap w b vs _ e fr h4, by rw [hvs']; exact h5, by rw [hvs']; exact h6, ?_⟩⟩, fun c hc => setRow_other w b c vs' (fun e => hc (by rw [e]; exact ⟨_, _, _, rfl, rfl⟩)), by simp, rfl, rfl⟩
  ·simp only [Yx, Nat.zero_add]; exact k1
  ·have hxt : (vs.toList.take (xs.length * sz)).length = xs.length * sz := by have := YV h7; simp only [List.length_map, hfx] at this; exact this
   have e1 : vs'.toList.take (xs.length * sz) = (vs.toList.take (xs.length * sz)).take o ++ news.toList ++ (vs.toList.take (xs.length * sz)).drop (o + q) := by
    rw [k2]
    exact Xap (by simp [hns]) hb (by simp at hxt ⊢; omega)
   rw [e1]
   have e2 : xs.flatten = xs.flatten.take o ++ ys ++ xs.flatten.drop (o + q) := by
    rw [← hys, ← List.drop_drop, List.append_assoc, List.take_append_drop, List.take_append_drop]
   rw [e2, List.map_append, List.map_append, List.map_take, List.map_drop]
   exact X0a (X0a (X1I h7 _) hsat) (X1G h7 _)
section
variable {P : Program} {ops : Array Oper} {draw : Bool} {K : St → Prop} {rest : List Oper} {l : Ya} {S : St}
variable {d : Nat} {ty : TypeId} {pos : String} {aft : Array Edge} {gd : Option (Nat × Bool)}
theorem Xgv {x i : Operand} {T : TypeId} {γ n k sz : Nat} {kd : IntKind} {m : Int} {xs : List (List D)} (hx : S.ev x = .own γ n) (hL : S.obj γ = .row sz xs) (hi : S.ev i = .d (.v (.int kd m))) (hn : n = xs.length) (hk : m = (k : Nat)) (hlt : k < xs.length)
  (hT : Y1 P T sz = true) (hd : Nat.blt d S.n = true) (hg : Xe ops S gd)
  (h : Walk P ops draw K rest ((l.length, ⟨some d, .indexAddr T x i, ty, pos, aft, gd⟩, ⟨Xd ops gd ++ [(x, .own γ n), (i, .d (.v (.int kd m)))], some (d, .rptr γ n (k * sz)), [(γ, .row sz xs)], [], []⟩) :: l) (S.set d (.rptr γ n (k * sz)))) :
  Walk P ops draw K (⟨some d, .indexAddr T x i, ty, pos, aft, gd⟩ :: rest) l S :=
 XD ⟨[(x, .own γ n), (i, .d (.v (.int kd m)))], some (d, .rptr γ n (k * sz)), [(γ, .row sz xs)], [], []⟩ (Y9 rfl fun E S g a w hs hq hl => by
  obtain ⟨e, h1, h2, h3⟩ := VP hT
  have ho := hs.1.obj γ
  rw [hl.1] at ho
  have hv := X13 hq.1 ho hn
  rcases ho.2 with ⟨e, rfl⟩ | ⟨b, cap, vs, e', fr, hh, _⟩
  ·simp at hlt
  ·rw [hh] at hv
   refine ⟨.pointer (some ⟨b, k * sz, none⟩), ?_, ?_⟩
   ·have hb : (0 : Int) ≤ m ∧ m < (xs.length : Int) := by omega
    have hm : m.toNat = k := by omega
    have := run_indexAt_slice (P := P) w T ⟨b, 0, none⟩ xs.length cap kd m (by rw [h3]; exact h1)
    rw [if_pos hb, h3, h2 w, Result.andThen_ok, Yx, hm, Nat.zero_add] at this
    simp only [execOp, hv, Yj hq.2.1, Sem.run_bind, this]; rfl
   ·simp only [AVal.sat]
    exact ⟨rfl, _, _, _, hh, by omega, fun _ => ⟨_, rfl, rfl⟩⟩) hg ⟨⟨hx, hi, trivial⟩, ⟨hL, trivial⟩, trivial, hd⟩ h
theorem X7v {g : Gh} {w : World} {γ n o sz : Nat} {xs : List (List D)} {u : Value} (hs : (AVal.rptr γ n o).sat g u) (ho : UI g w (g.hd γ) sz xs) (hn : n = xs.length) (h0 : 0 < xs.length) :
  ∃ b cap vs e fr, u = .pointer (some ⟨b, o, none⟩) ∧ g.hd γ = .slice (some ⟨b, 0, none⟩) xs.length cap ∧ w.heap[b]? = some (.cells vs e fr) ∧ Xk g (xs.flatten.map .d) (vs.toList.take (xs.length * sz)) := by
 simp only [AVal.sat] at hs
 obtain ⟨_, a', m, c, q1, q2, q3⟩ := hs
 rcases ho.2 with ⟨e, rfl⟩ | ⟨b, cap, vs, e', fr, hh, k2, k3, k4, k5, k6, k7⟩
 ·simp at h0
 ·rw [hh] at q1; cases q1
  obtain ⟨b', e1, e2⟩ := q3 hn
  cases e1
  exact ⟨b, _, vs, e', fr, e2, hh, k4, k7⟩
theorem Xf6 {t : TypeId} {x : Operand} {γ n o q sz : Nat} {xs : List (List D)} {ys : List D} (hx : S.ev x = .rptr γ n o) (hL : S.obj γ = .row sz xs) (hn : n = xs.length) (h0 : 0 < xs.length) (hb : o + q ≤ xs.length * sz) (hys : (xs.flatten.drop o).take q = ys)
  (ht : Uc P t true q = true) (hd : Nat.blt d S.n = true) (hg : Xe ops S gd)
  (h : Walk P ops draw K rest ((l.length, ⟨some d, .load t x, ty, pos, aft, gd⟩, ⟨Xd ops gd ++ [(x, .rptr γ n o)], some (d, .agg (ys.map .d)), [(γ, .row sz xs)], [], []⟩) :: l) (S.set d (.agg (ys.map .d)))) :
  Walk P ops draw K (⟨some d, .load t x, ty, pos, aft, gd⟩ :: rest) l S :=
 XD ⟨[(x, .rptr γ n o)], some (d, .agg (ys.map .d)), [(γ, .row sz xs)], [], []⟩ (Y9 rfl fun E S g a w hs hq hl => by
  have ho := hs.1.obj γ
  rw [hl.1] at ho
  obtain ⟨b, cap, vs, e, fr, e1, e2, e3, e4⟩ := X7v hq.1 ho hn h0
  have hsub := X1I (X1G e4 o) q
  rw [← List.map_drop, ← List.map_take, hys] at hsub
  have hl1 := YV hsub
  have hfx := VA xs ho.1
  have hyl : ys.length = q := by rw [← hys, List.length_take, List.length_drop, hfx]; omega
  rw [List.length_map] at hl1
  refine ⟨.agg (((vs.toList.take (xs.length * sz)).drop o).take q).toArray, ?_, by simp only [AVal.sat]; exact ⟨_, rfl, hsub⟩⟩
  have := X4I (P := P) (p := ⟨b, o, none⟩) (w := w) (vs := ((vs.toList.take (xs.length * sz)).drop o).take q) (t := t) (by rw [hl1, hyl]; exact ht) (fun j v hv => by
   rw [Yx, cell_of_row w _ _ vs e fr e3]
   rw [List.getElem?_take] at hv
   split at hv
   ·rw [List.getElem?_drop, List.getElem?_take] at hv
    split at hv
    ·simpa using hv
    ·simp at hv
   ·simp at hv)
  simp [execOp, e1, Instr.loadAt, Instr.sureAddr, this]) hg ⟨⟨hx, trivial⟩, ⟨hL, trivial⟩, trivial, hd⟩ h
theorem Xbc {t : TypeId} {x v : Operand} {γ n o q sz : Nat} {xs : List (List D)} {ys : List D} (hx : S.ev x = .rptr γ n o) (hL : S.obj γ = .row sz xs) (hv : S.ev v = .agg (ys.map .d)) (hn : n = xs.length) (h0 : 0 < xs.length) (hb : o + q ≤ xs.length * sz) (hys : (xs.flatten.drop o).take q = ys)
  (ht : X16 P t q = true) (hg : Xe ops S gd)
  (h : Walk P ops draw K rest ((l.length, ⟨none, .store t x v, ty, pos, aft, gd⟩, ⟨Xd ops gd ++ [(x, .rptr γ n o), (v, .agg (ys.map .d))], none, [(γ, .row sz xs)], [(γ, .row sz xs)], []⟩) :: l)
   (S.own γ (.row sz xs))) :
  Walk P ops draw K (⟨none, .store t x v, ty, pos, aft, gd⟩ :: rest) l S :=
 XD ⟨[(x, .rptr γ n o), (v, .agg (ys.map .d))], none, [(γ, .row sz xs)], [(γ, .row sz xs)], []⟩ (X52 rfl fun E S g a w hs hq hl hnn => by
  have ho := hs.1.obj γ
  rw [hl.1] at ho
  have hrow : UI g w (g.hd γ) sz xs := ho
  obtain ⟨b, cap, vs, e, fr, e1, e2, e3, e4⟩ := X7v hq.1 ho hn h0
  have hqv := hq.2.1
  simp only [AVal.sat] at hqv
  obtain ⟨us, hu, hus⟩ := hqv
  have hfx := VA xs hrow.1
  have hyl : ys.length = q := by rw [← hys, List.length_take, List.length_drop, hfx]; omega
  have hul : us.size = q := by have := YV hus; simp only [List.length_map, Array.length_toList] at this; omega
  obtain ⟨w', s1, s2, s3, s4, s5, s6⟩ := Xgz (P := P) hrow hb hys hul hus
  rw [e2] at s1
  simp only [Yx, Nat.zero_add] at s1
  refine ⟨g, w', ?_, ?_, hs.2.2.2⟩
  ·have hsz := X4U ht w
   simp [execOp, e1, hu, Instr.storeAt, Instr.sureAddr, storeVar, hsz, Value.cells, hul, s1]
  ·refine Inv.upd hs.1 γ _ (Ym _ _ _ _) (fun j hj => Yl _ _ _ (Ne.symm hj)) (fun b hb hnl => s3 b fun hc => hnl (by rw [hl.1]; exact hc)) (by omega) s5 s6 rfl (fun _ _ => ⟨rfl, rfl, rfl⟩) (fun _ _ _ _ _ h => h) s2 (fun b hb => .inl (by rw [hl.1]; exact hb)) (fun _ => Gh.keeps_refl _ _)) hg ⟨⟨hx, hv, trivial⟩, ⟨hL, trivial⟩, trivial, trivial⟩ h
end
end Go.Fw

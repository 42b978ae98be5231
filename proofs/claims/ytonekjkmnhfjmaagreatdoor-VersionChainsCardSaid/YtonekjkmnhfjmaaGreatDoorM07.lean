/- Rows of one's own whose elements have several cells: a part of an element read, or set to what it is. -/
import Derived.Test.YtonekjkmnhfjmaaGreatDoorM06
namespace Go.Fw
open Go
set_option linter.unusedVariables false
set_option linter.unusedSimpArgs false
theorem X47 {sz : Nat} : ∀ {xs : List (List D)} (h : ∀ x ∈ xs, x.length = sz) {k : Nat} {r : List D}, xs[k]? = some r → ∀ {o q : Nat}, o + q ≤ sz → (xs.flatten.drop (k * sz + o)).take q = (r.drop o).take q
 | [], _, k, r, hk, _, _, _ => by simp at hk
 | x :: xs, h, 0, r, hk, o, q, hq => by
  simp only [List.getElem?_cons_zero, Option.some.injEq] at hk
  subst hk
  have hx := h x (by simp)
  rw [Nat.zero_mul, Nat.zero_add, List.flatten_cons, List.drop_append_of_le_length (by omega), List.take_append_of_le_length (by rw [List.length_drop]; omega)]
 | x :: xs, h, k + 1, r, hk, o, q, hq => by
  have hx := h x (by simp)
  have := X47 (fun y hy => h y (by simp [hy])) (xs := xs) (k := k) (r := r) (by simpa using hk) hq
  rw [List.flatten_cons, show (k + 1) * sz + o = x.length + (k * sz + o) by rw [hx, Nat.succ_mul]; omega, ← List.drop_drop, List.drop_left]
  exact this
section
variable {P : Program} {ops : Array Oper} {draw : Bool} {K : Xy → St → Prop} {rest : List Oper} {l : Xy} {S : St}
variable {d : Nat} {ty : TypeId} {pos : String} {aft : Array Edge} {gd : Option (Nat × Bool)}
theorem Xhw {x i : Operand} {T : TypeId} {γ n k sz : Nat} {kd : IntKind} {m : Int} {xs : List (List D)} (hx : S.ev x = .own γ n) (hL : S.obj γ = .row sz xs) (hi : S.ev i = .d (.v (.int kd m))) (hn : n = xs.length) (hk : m = (k : Nat)) (hlt : k < xs.length)
  (hT : Y8 P T sz = true) (hd : Nat.blt d S.n = true) (hg : Xj ops S gd)
  (h : Walk P ops draw K rest ((l.length, ⟨some d, .indexAddr T x i, ty, pos, aft, gd⟩, ⟨Xg ops gd ++ [(x, .own γ n), (i, .d (.v (.int kd m)))], some (d, .rptr γ n (k * sz)), [(γ, .row sz xs)], [], []⟩) :: l) (S.set d (.rptr γ n (k * sz)))) :
  Walk P ops draw K (⟨some d, .indexAddr T x i, ty, pos, aft, gd⟩ :: rest) l S :=
 XO ⟨[(x, .own γ n), (i, .d (.v (.int kd m)))], some (d, .rptr γ n (k * sz)), [(γ, .row sz xs)], [], []⟩ (Y2 rfl fun E S g a w hs hq hl => by
  obtain ⟨e, h1, h2, h3⟩ := VX hT
  have ho := hs.1.obj γ
  rw [hl.1] at ho
  have hv := X0J hq.1 ho hn
  rcases ho.2 with ⟨e, rfl⟩ | ⟨b, cap, vs, e', fr, hh, _⟩
  ·simp at hlt
  ·rw [hh] at hv
   refine ⟨.pointer (some ⟨b, k * sz, none⟩), ?_, ?_⟩
   ·have hb : (0 : Int) ≤ m ∧ m < (xs.length : Int) := by omega
    have hm : m.toNat = k := by omega
    have := run_indexAt_slice (P := P) w T ⟨b, 0, none⟩ xs.length cap kd m (by rw [h3]; exact h1)
    rw [if_pos hb, h3, h2 w, Result.andThen_ok, YQ, hm, Nat.zero_add] at this
    simp only [execOp, hv, Yn hq.2.1, Sem.run_bind, this]; rfl
   ·simp only [AVal.sat]
    exact ⟨rfl, _, _, _, hh, by omega, fun _ => ⟨_, rfl, rfl⟩⟩) hg ⟨⟨hx, hi, trivial⟩, ⟨hL, trivial⟩, trivial, hd⟩ h
theorem X6A {g : Gh} {w : World} {γ n o sz : Nat} {xs : List (List D)} {u : Value} (hs : (AVal.rptr γ n o).sat g u) (ho : Yp g w (g.hd γ) sz xs) (hn : n = xs.length) (h0 : 0 < xs.length) :
  ∃ b cap vs e fr, u = .pointer (some ⟨b, o, none⟩) ∧ g.hd γ = .slice (some ⟨b, 0, none⟩) xs.length cap ∧ w.heap[b]? = some (.cells vs e fr) ∧ Xk g (xs.flatten.map .d) (vs.toList.take (xs.length * sz)) := by
 simp only [AVal.sat] at hs
 obtain ⟨_, a', m, c, q1, q2, q3⟩ := hs
 rcases ho.2 with ⟨e, rfl⟩ | ⟨b, cap, vs, e', fr, hh, k2, k3, k4, k5, k6, k7⟩
 ·simp at h0
 ·rw [hh] at q1; cases q1
  obtain ⟨b', e1, e2⟩ := q3 hn
  cases e1
  exact ⟨b, _, vs, e', fr, e2, hh, k4, k7⟩
theorem Xgj {t : TypeId} {x : Operand} {γ n o q sz : Nat} {xs : List (List D)} {ys : List D} (hx : S.ev x = .rptr γ n o) (hL : S.obj γ = .row sz xs) (hn : n = xs.length) (h0 : 0 < xs.length) (hb : o + q ≤ xs.length * sz) (hys : (xs.flatten.drop o).take q = ys)
  (ht : YO P t true q = true) (hd : Nat.blt d S.n = true) (hg : Xj ops S gd)
  (h : Walk P ops draw K rest ((l.length, ⟨some d, .load t x, ty, pos, aft, gd⟩, ⟨Xg ops gd ++ [(x, .rptr γ n o)], some (d, .agg (ys.map .d)), [(γ, .row sz xs)], [], []⟩) :: l) (S.set d (.agg (ys.map .d)))) :
  Walk P ops draw K (⟨some d, .load t x, ty, pos, aft, gd⟩ :: rest) l S :=
 XO ⟨[(x, .rptr γ n o)], some (d, .agg (ys.map .d)), [(γ, .row sz xs)], [], []⟩ (Y2 rfl fun E S g a w hs hq hl => by
  have ho := hs.1.obj γ
  rw [hl.1] at ho
  obtain ⟨b, cap, vs, e, fr, e1, e2, e3, e4⟩ := X6A hq.1 ho hn h0
  have hsub := VO (X09 e4 o) q
  rw [← List.map_drop, ← List.map_take, hys] at hsub
  have hl1 := Y6 hsub
  have hfx := UN xs ho.1
  have hyl : ys.length = q := by rw [← hys, List.length_take, List.length_drop, hfx]; omega
  rw [List.length_map] at hl1
  refine ⟨.agg (((vs.toList.take (xs.length * sz)).drop o).take q).toArray, ?_, by simp only [AVal.sat]; exact ⟨_, rfl, hsub⟩⟩
  have := X2R (P := P) (p := ⟨b, o, none⟩) (w := w) (vs := ((vs.toList.take (xs.length * sz)).drop o).take q) (t := t) (by rw [hl1, hyl]; exact ht) (fun j v hv => by
   rw [YQ, cell_of_row w _ _ vs e fr e3]
   rw [List.getElem?_take] at hv
   split at hv
   ·rw [List.getElem?_drop, List.getElem?_take] at hv
    split at hv
    ·simpa using hv
    ·simp at hv
   ·simp at hv)
  simp [execOp, e1, Instr.loadAt, Instr.sureAddr, this]) hg ⟨⟨hx, trivial⟩, ⟨hL, trivial⟩, trivial, hd⟩ h
end
theorem Inv.part {E : Env} {L L' : Nat → AObj} {g g' : Gh} {w : World} (hi : Inv E L g w) (sp : Nat → Prop) (hM : g'.M = g.M)
  (hother : ∀ k, ¬ sp k → L' k = L k ∧ g'.blk k = g.blk k ∧ g'.hd k = g.hd k ∧ g'.ihd k = g.ihd k)
  (hsat : ∀ k cs us, ¬ sp k → (L k).says = cs → Xk g cs us → Xk g' cs us)
  (hobj : ∀ k, sp k → Y7 g' w k (L' k))
  (hlv : ∀ k b, sp k → Xr g' (L' k) k b → ∃ k', sp k' ∧ Xr g (L k') k' b)
  (hinj : ∀ k k' b, sp k → sp k' → Xr g' (L' k) k b → Xr g' (L' k') k' b → k = k')
  (hkp : ∀ k, sp k → k < 100 → g.keeps g' k) : Inv E L' g' w := by
 have hl : ∀ k b, ¬ sp k → (Xr g' (L' k) k b ↔ Xr g (L k) k b) := fun k b hk => by
  obtain ⟨h1, h2, h3, h4⟩ := hother k hk
  rw [h1]; exact X0K h2 h3 h4 _ _
 have hany : ∀ k b, Xr g' (L' k) k b → ∃ k', (sp k ↔ sp k') ∧ (¬ sp k → k' = k) ∧ Xr g (L k') k' b := by
  intro k b hb
  by_cases hk : sp k
  ·obtain ⟨k', h1, h2⟩ := hlv k b hk hb
   exact ⟨k', ⟨fun _ => h1, fun _ => hk⟩, fun h => absurd hk h, h2⟩
  ·exact ⟨k, Iff.rfl, fun _ => rfl, (hl k b hk).1 hb⟩
 refine ⟨fun k => ?_, fun k k' b h h' => ?_, fun a v h => ?_, fun k b h a v ha => ?_, fun k b h => ?_, hM ▸ hi.ext, fun a v h => ?_, hi.frame, hi.size, hi.os, hi.out, fun k hk => ?_⟩
 ·by_cases hk : sp k
  ·exact hobj k hk
  ·obtain ⟨h1, h2, h3, h4⟩ := hother k hk
   rw [h1]
   exact X2f (by rw [hM]; exact XQ.refl _) h2 h3 h4 (fun _ _ => rfl) (fun cs us e hs => hsat k cs us hk e hs) (hi.obj k)
 ·by_cases hk : sp k
  ·by_cases hk' : sp k'
   ·exact hinj k k' b hk hk' h h'
   ·obtain ⟨j, h1, h2⟩ := hlv k b hk h
    have := hi.inj _ _ _ h2 ((hl k' b hk').1 h')
    subst this; exact absurd h1 hk'
  ·by_cases hk' : sp k'
   ·obtain ⟨j, h1, h2⟩ := hlv k' b hk' h'
    have := hi.inj _ _ _ ((hl k b hk).1 h) h2
    subst this; exact absurd h1 hk
   ·exact hi.inj _ _ _ ((hl k b hk).1 h) ((hl k' b hk').1 h')
 ·rw [hM] at h; exact hi.mem a v h
 ·rw [hM] at ha
  obtain ⟨k', _, _, h2⟩ := hany k b h
  exact hi.sep k' b h2 a v ha
 ·obtain ⟨k', _, _, h2⟩ := hany k b h
  exact hi.new k' b h2
 ·rw [hM] at h; exact hi.lim a v h
 ·by_cases hk' : sp k
  ·exact (hi.kp k hk).trans' (hkp k hk' hk)
  ·obtain ⟨_, h2, h3, h4⟩ := hother k hk'
   exact (hi.kp k hk).trans' (Gh.keeps_of h2 h3 h4)
theorem Xde {S : St} {γ : Nat} (h : S.free γ = true) (t : Nat) : (S.get t).ment γ = false := by
 simp only [St.free, Bool.and_eq_true] at h
 have := (X1A γ S.τ).1 h.2.1
 unfold St.get
 by_cases hk : Xt t S.τ = true
 ·exact this _ (X6g AVal.any t S.τ hk)
 ·rw [X5r _ _ _ (by simpa using hk)]; rfl
theorem X3V {S : St} {γ : Nat} (h : S.free γ = true) : 100 ≤ γ := by
 simp only [St.free, Bool.and_eq_true, Nat.ble_eq] at h; exact h.1
theorem X2V {S : St} {g g' : Gh} {a : Act} (hM : g'.M = g.M) (sp : Nat → Prop) (hsp : ∀ k, sp k → S.free k = true ∨ g.keeps g' k) (hother : ∀ k, ¬ sp k → g'.blk k = g.blk k ∧ g'.hd k = g.hd k ∧ g'.ihd k = g.ihd k)
  (h : ∀ t, (S.get t).sat g (a.tmps.getD t undef)) : ∀ t, (S.get t).sat g' (a.tmps.getD t undef) := fun t =>
 AVal.sat_mono (by rw [hM]; exact XQ.refl _) _ _ (fun γ hm => by
  by_cases hk : sp γ
  ·rcases hsp γ hk with hf | hf
   ·rw [Xde hf] at hm; simp at hm
   ·exact hf
  ·obtain ⟨h2, h3, h4⟩ := hother γ hk
   exact Gh.keeps_of h2 h3 h4) (h t)
theorem X3l {S : St} {g g' : Gh} (hM : g'.M = g.M) (sp : Nat → Prop) (hsp : ∀ k, sp k → S.free k = true ∨ g.keeps g' k) (hother : ∀ k, ¬ sp k → g'.blk k = g.blk k ∧ g'.hd k = g.hd k ∧ g'.ihd k = g.ihd k)
  {k : Nat} {cs : List AVal} {us : List Value} (e : (S.obj k).says = cs) (h : Xk g cs us) : Xk g' cs us :=
 Vo (by rw [hM]; exact XQ.refl _) _ _ (fun γ hm => by
  by_cases hk : sp γ
  ·rcases hsp γ hk with hf | hf
   ·have := X5G hf k
    rw [AObj.ment, e, hm] at this; simp at this
   ·exact hf
  ·obtain ⟨h2, h3, h4⟩ := hother γ hk
   exact Gh.keeps_of h2 h3 h4) h
theorem X3D {P : Program} {E : Env} {c : Code} {S : St} {Q : Exit → St → Prop} {ι : Type} (T : ι → St) (I : ι → Prop) (h : ∀ E a w, holds E S a w → ∃ i, I i ∧ holds E (T i) a w) (k : ∀ i, I i → AWP P E c (T i) Q) : AWP P E c S Q :=
 ⟨fun a w hs => let ⟨i, hI, hi⟩ := h E a w hs; (k i hI).run a w hi⟩
theorem Xa5 {P : Program} {E : Env} {c : Code} {S : St} {Q : Exit → St → Prop} (γ δ : Nat) {sz : Nat} {xs : List (List NC)} (hL : S.obj γ = .nest sz xs) (hdead : S.obj δ = .dead)
  (h : ∀ (rows : List (List D)) (hs : List Hd), rows.length = xs.length → U2 xs.flatten rows.flatten hs → (∀ x ∈ rows, x.length = sz) → AWP P E c ⟨S.n, S.τ, (γ, .row sz rows) :: (δ, .bag hs) :: S.L⟩ Q) : AWP P E c S Q := by
 refine X3D (ι := List (List D) × List Hd) (fun i => ⟨S.n, S.τ, (γ, .row sz i.1) :: (δ, .bag i.2) :: S.L⟩) (fun i => i.1.length = xs.length ∧ U2 xs.flatten i.1.flatten i.2 ∧ ∀ x ∈ i.1, x.length = sz) ?_ (fun i hi => h i.1 i.2 hi.1 hi.2.1 hi.2.2)
 rintro E a w ⟨g, hs⟩
 have hne : γ ≠ δ := by rintro rfl; rw [hL] at hdead; cases hdead
 have ho := hs.1.obj γ
 rw [hL] at ho
 obtain ⟨⟨rows, h1, h2, h3⟩, h4, h5⟩ := ho
 refine ⟨(rows, X0f (g.ihd γ) xs), ⟨h1, h2, h3.1⟩, g, ?_, hs.2.1, hs.2.2.1, hs.2.2.2⟩
 have hγ : Xa .dead ((γ, AObj.row sz rows) :: (δ, .bag (X0f (g.ihd γ) xs)) :: S.L) γ = .row sz rows := XT _ _ _ _
 have hδ : Xa .dead ((γ, AObj.row sz rows) :: (δ, .bag (X0f (g.ihd γ) xs)) :: S.L) δ = .bag (X0f (g.ihd γ) xs) := by rw [XK _ _ _ hne, XT]
 refine Inv.part hs.1 (fun k => k = γ ∨ k = δ) rfl (fun k hk => ?_) (fun _ _ _ _ _ h => h) (fun k hk => ?_) (fun k b hk hb => ?_) (fun k k' b hk hk' hb hb' => ?_) (fun _ _ _ => Gh.keeps_refl _ _)
 ·obtain ⟨k1, k2⟩ := not_or.1 hk
  exact ⟨by show Xa _ _ _ = _; rw [XK _ _ _ (Ne.symm k1), XK _ _ _ (Ne.symm k2)]; rfl, rfl, rfl, rfl⟩
 ·rcases hk with rfl | rfl
  ·show Y7 _ _ _ (Xa _ _ _); rw [hγ]; exact h3
  ·show Y7 _ _ _ (Xa _ _ _); rw [hδ]; exact h4
 ·refine ⟨γ, .inl rfl, ?_⟩
  rw [hL]
  rcases hk with rfl | rfl
  ·replace hb : Xr g (Xa _ _ _) _ b := hb
   rw [hγ] at hb; exact .inl hb
  ·replace hb : Xr g (Xa _ _ _) _ b := hb
   rw [hδ] at hb; exact .inr hb
 ·have key : ∀ b, Xr g (.row sz rows) γ b → Xr g (.bag (X0f (g.ihd γ) xs)) δ b → False := fun b hb ⟨q, hq, hqb⟩ => h5 q hq b hqb hb
  replace hb : Xr g (Xa _ _ _) _ b := hb
  replace hb' : Xr g (Xa _ _ _) _ b := hb'
  rcases hk with rfl | rfl <;> rcases hk' with rfl | rfl
  ·rfl
  ·rw [hγ] at hb; rw [hδ] at hb'; exact (key b hb hb').elim
  ·rw [hγ] at hb'; rw [hδ] at hb; exact (key b hb' hb).elim
  ·rfl
theorem X7s (us : Nat → Value) : ∀ (l : List (Nat × List (List D))) (j : Nat) (hs : List Hd), hs.map (·.2) = l → (∀ i h, hs[i]? = some h → us (j + i) = h.1) → X40 us j l = hs
 | [], j, [], _, _ => rfl
 | [], j, h :: hs, e, _ => by simp at e
 | p :: l, j, [], e, _ => by simp at e
 | p :: l, j, h :: hs, e, hu => by
  simp only [List.map_cons, List.cons.injEq] at e
  rw [X40, X7s us l (j + 1) hs e.2 fun i q hq => by rw [show j + 1 + i = j + (i + 1) by omega]; exact hu (i + 1) q (by simpa using hq)]
  have := hu 0 h (by simp)
  rw [Nat.add_zero] at this
  rw [this, ← e.1]
theorem X62 : ∀ (cs : List NC) (ds : List D) (hs : List Hd), U2 cs ds hs → hs.map (·.2) = X46 cs
 | [], [], [], _ => rfl
 | [], [], _ :: _, h => h.elim
 | [], _ :: _, _, h => by simp [U2] at h
 | .d x :: cs, [], hs, h => by simp [U2] at h
 | .d x :: cs, y :: ds, hs, h => X62 cs ds hs h.2
 | .r z rows :: cs, [], hs, h => by simp [U2] at h
 | .r z rows :: cs, y :: ds, [], h => by simp [U2] at h
 | .r z rows :: cs, y :: ds, k :: hs, h => by
  rw [List.map_cons, X62 cs ds hs h.2.2, h.2.1]; rfl
theorem X9N {S : St} (γ δ : Nat) {sz : Nat} {rows : List (List D)} {hs : List Hd} (xs : List (List NC)) (hL : S.obj γ = .row sz rows) (hB : S.obj δ = .bag hs) (hlen : rows.length = xs.length) (hres : U2 xs.flatten rows.flatten hs) :
  S.le ⟨S.n, S.τ, (γ, .nest sz xs) :: (δ, .dead) :: S.L⟩ := by
 rintro E a w ⟨g, hg⟩
 have hne : γ ≠ δ := by rintro rfl; rw [hL] at hB; cases hB
 have ho := hg.1.obj γ
 rw [hL] at ho
 have hb0 := hg.1.obj δ
 rw [hB] at hb0
 have ho : Yp g w (g.hd γ) sz rows := ho
 have hb0 : Ve g w hs := hb0
 let g' : Gh := { g with ihd := fun k j => if k = γ ∧ KK ≤ j then ((hs[j - KK]?).map (·.1)).getD undef else g.ihd k j }
 have hH : X0f (g'.ihd γ) xs = hs := by
  refine X7s _ _ _ _ (X62 _ _ _ hres) fun i h hi => ?_
  simp [g', hi]
 have hm : ∀ a m c, g.hd γ = .slice a m c → m ≤ KK := by
  intro a m c e
  rcases ho.2 with ⟨e1, rfl⟩ | ⟨b, cap, vs, e', fr, e1, e2, e3, _⟩
  ·rw [e1] at e; cases e; exact Nat.zero_le _
  ·rw [e1] at e; cases e
   have : maxLen ≤ KK := by decide
   omega
 have hkγ : g.keeps g' γ := ⟨rfl, .inl rfl, fun i a m c e hi => by
  have := hm a m c e
  simp only [g']; rw [if_neg (by omega)]⟩
 have hoth : ∀ k, k ≠ γ → g'.blk k = g.blk k ∧ g'.hd k = g.hd k ∧ g'.ihd k = g.ihd k := fun k hk => ⟨rfl, rfl, by funext j; simp [g', hk]⟩
 have hγ : Xa .dead ((γ, AObj.nest sz xs) :: (δ, .dead) :: S.L) γ = .nest sz xs := XT _ _ _ _
 have hδ : Xa .dead ((γ, AObj.nest sz xs) :: (δ, .dead) :: S.L) δ = .dead := by rw [XK _ _ _ hne, XT]
 refine ⟨g', Inv.part hg.1 (fun k => k = γ ∨ k = δ) rfl (fun k hk => ?_) (fun k cs us _ e h => X3l (S := S) (g := g) (g' := g') rfl (fun k => k = γ) (fun k e => .inr (e ▸ hkγ)) hoth e h) (fun k hk => ?_) (fun k b hk hb => ?_) (fun k k' b hk hk' hb hb' => ?_) (fun k hk _ => ?_), hg.2.1, hg.2.2.1, X2V (g := g) (g' := g') rfl (fun k => k = γ) (fun k e => .inr (e ▸ hkγ)) hoth hg.2.2.2⟩
 ·obtain ⟨k1, k2⟩ := not_or.1 hk
  exact ⟨by show Xa _ _ _ = _; rw [XK _ _ _ (Ne.symm k1), XK _ _ _ (Ne.symm k2)]; rfl, hoth k k1⟩
 ·show Y7 _ _ _ (Xa _ _ _)
  rcases hk with rfl | rfl
  ·rw [hγ]
   refine ⟨⟨rows, hlen, by rw [hH]; exact hres, X1m (g := g) (g' := g') (XQ.refl _) (fun _ _ => rfl) ho⟩, by rw [hH]; exact X4Q (g := g) (g' := g') (XQ.refl _) (fun _ _ => rfl) hb0, fun q hq b hqb hb => ?_⟩
   rw [hH] at hq
   exact hne (hg.1.inj _ _ b (by rw [hL]; exact hb) (by rw [hB]; exact ⟨q, hq, hqb⟩))
  ·rw [hδ]; trivial
 ·replace hb : Xr g' (Xa _ _ _) k b := hb
  rcases hk with rfl | rfl
  ·rw [hγ] at hb
   rcases hb with hb | ⟨q, hq, hqb⟩
   ·exact ⟨k, .inl rfl, by rw [hL]; exact hb⟩
   ·rw [hH] at hq
    exact ⟨δ, .inr rfl, by rw [hB]; exact ⟨q, hq, hqb⟩⟩
  ·rw [hδ] at hb; exact hb.elim
 ·replace hb : Xr g' (Xa _ _ _) k b := hb
  replace hb' : Xr g' (Xa _ _ _) k' b := hb'
  rcases hk with rfl | rfl
  ·rcases hk' with rfl | rfl
   ·rfl
   ·rw [hδ] at hb'; exact hb'.elim
  ·rw [hδ] at hb; exact hb.elim
 ·rcases hk with rfl | rfl
  ·exact hkγ
  ·exact Gh.keeps_of (hoth k (Ne.symm hne)).1 (hoth k (Ne.symm hne)).2.1 (hoth k (Ne.symm hne)).2.2
theorem X4G {g : Gh} {cs : List AVal} {us : List Value} (h : Xk g cs us) {j : Nat} {x : AVal} (hx : ∀ u, us[j]? = some u → x.sat g u) : Xk g (cs.set j x) us := by
 have hl := Y6 h
 refine VZ (by rw [List.length_set]; exact hl) fun i y u hy hu => ?_
 rw [List.getElem?_set] at hy
 by_cases hij : j = i
 ·subst hij
  rw [if_pos rfl] at hy
  split at hy
  ·cases hy; exact hx u hu
  ·cases hy
 ·rw [if_neg hij] at hy
  obtain ⟨u', h1, h2⟩ := YG h i y hy
  rw [h1] at hu; cases hu; exact h2
theorem X5Z {g : Gh} : ∀ (us : List Value), Xk g (List.replicate us.length .any) us
 | [] => by simp only [List.length_nil, List.replicate_zero, Xk]
 | u :: us => by simp only [List.length_cons, List.replicate_succ, Xk, AVal.sat, true_and]; exact X5Z us
theorem Yl {g : Gh} {γ b : Nat} {h : Value} {k : Nat} (hk : k ≠ γ) : (g.put γ b h).blk k = g.blk k ∧ (g.put γ b h).hd k = g.hd k ∧ (g.put γ b h).ihd k = g.ihd k := ⟨by simp [Gh.put, hk], by simp [Gh.put, hk], rfl⟩
theorem XaO {E : Env} {S : St} {g : Gh} {a : Act} {w : World} (hs : Ub E S g a w) {γ β sz : Nat} {xs : List (List D)} (hL : S.obj γ = .row sz xs) (hne : 0 < xs.length) (hdead : S.obj β = .dead) (hf : S.free β = true) :
  ∃ c k b, xs.length ≤ c ∧ c ≤ maxLen ∧ c * sz ≤ xs.length * sz + k ∧ (∀ x ∈ xs, x.length = sz) ∧ g.hd γ = .slice (some ⟨b, 0, none⟩) xs.length c ∧
   Ub E ⟨S.n, S.τ, (γ, .dead) :: (β, .raw (xs.flatten.map some ++ List.replicate k none) none) :: S.L⟩ (g.put β b undef) a w := by
 have hγβ : γ ≠ β := by rintro rfl; rw [hL] at hdead; cases hdead
 have ho := hs.1.obj γ
 rw [hL] at ho
 have ho : Yp g w (g.hd γ) sz xs := ho
 rcases ho.2 with ⟨_, rfl⟩ | ⟨b, c, vs, e, fr, h1, h2, h3, h4, h5, h6, h7⟩
 ·simp at hne
 have hfx := UN xs ho.1
 have hle : xs.length * sz ≤ vs.size := Nat.le_trans (Nat.mul_le_mul_right _ h2) h6
 refine ⟨c, vs.size - xs.length * sz, b, h2, h3, by omega, ho.1, h1, ?_⟩
 generalize hcs : xs.flatten.map some ++ List.replicate (vs.size - xs.length * sz) none = cs
 have hsat : Xk g (XA cs none) vs.toList := by
  rw [← hcs, ← List.take_append_drop (xs.length * sz) vs.toList]
  have e1 : XA (xs.flatten.map some ++ List.replicate (vs.size - xs.length * sz) none) none = xs.flatten.map AVal.d ++ List.replicate (vs.size - xs.length * sz) .any := by
   simp only [XA, List.map_append, List.map_map, List.map_replicate]
   rfl
  rw [e1]
  refine Vm h7 ?_
  have := X5Z (g := g) (vs.toList.drop (xs.length * sz))
  rw [List.length_drop, Array.length_toList] at this
  exact this
 have eγ : Xa .dead ((γ, AObj.dead) :: (β, .raw cs none) :: S.L) γ = .dead := XT _ _ _ _
 have eβ : Xa .dead ((γ, AObj.dead) :: (β, .raw cs none) :: S.L) β = .raw cs none := by rw [XK _ _ _ hγβ, XT]
 have hblk : (g.put β b undef).blk β = b := by simp [Gh.put]
 refine ⟨Inv.part hs.1 (fun k => k = γ ∨ k = β) rfl (fun k hk => ?_) (fun k cs us _ e h => X3l (S := S) (g := g) (g' := g.put β b undef) rfl (fun k => k = β) (fun k e => .inl (e ▸ hf)) (fun k hk => Yl hk) e h) (fun k hk => ?_) (fun k b' hk hb => ?_) (fun k k' b' hk hk' hb hb' => ?_) (fun k hk h100 => ?_), hs.2.1, hs.2.2.1, X2V (S := S) (g := g) (g' := g.put β b undef) rfl (fun k => k = β) (fun k e => .inl (e ▸ hf)) (fun k hk => Yl hk) hs.2.2.2⟩
 ·obtain ⟨k1, k2⟩ := not_or.1 hk
  exact ⟨by show Xa _ _ _ = _; rw [XK _ _ _ (Ne.symm k1), XK _ _ _ (Ne.symm k2)]; rfl, Yl k2⟩
 ·show Y7 _ _ _ (Xa _ _ _)
  rcases hk with rfl | rfl
  ·rw [eγ]; trivial
  ·rw [eβ]
   exact ⟨vs, e, fr, by rw [hblk]; exact h4, h5, X6b (g := g) (g' := g.put k b undef) (XQ.refl _) (fun vs h => by cases vs <;> exact h) hsat⟩
 ·replace hb : Xr _ (Xa _ _ _) k b' := hb
  rcases hk with rfl | rfl
  ·rw [eγ] at hb; exact hb.elim
  ·rw [eβ] at hb
   refine ⟨γ, .inl rfl, ?_⟩
   rw [hL]
   replace hb : (g.put k b undef).blk k = b' := hb
   rw [hblk] at hb; subst hb
   exact ⟨_, _, _, h1, rfl⟩
 ·replace hb : Xr _ (Xa _ _ _) k b' := hb
  replace hb' : Xr _ (Xa _ _ _) k' b' := hb'
  rcases hk with rfl | rfl
  ·rw [eγ] at hb; exact hb.elim
  ·rcases hk' with rfl | rfl
   ·rw [eγ] at hb'; exact hb'.elim
   ·rfl
 ·rcases hk with rfl | rfl
  ·exact Gh.keeps_of (Yl hγβ).1 (Yl hγβ).2.1 (Yl hγβ).2.2
  ·have := X3V hf; omega
theorem X0r {P : Program} {E : Env} {cd : Code} {S : St} {Q : Exit → St → Prop} (t γ β : Nat) {sz n : Nat} {xs : List (List D)} (hL : S.obj γ = .row sz xs) (hne : 0 < xs.length) (ht : S.get t = .own γ n) (hn : n = xs.length) (hdead : S.obj β = .dead) (hf : S.free β = true)
  (h : ∀ c k : Nat, xs.length ≤ c → c ≤ maxLen → c * sz ≤ xs.length * sz + k → (∀ x ∈ xs, x.length = sz) → AWP P E cd ⟨S.n, (t, .rs β 0 n c) :: S.τ, (γ, .dead) :: (β, .raw (xs.flatten.map some ++ List.replicate k none) none) :: S.L⟩ Q) : AWP P E cd S Q := by
 refine X3D (ι := Nat × Nat) (fun i => ⟨S.n, (t, .rs β 0 n i.1) :: S.τ, (γ, .dead) :: (β, .raw (xs.flatten.map some ++ List.replicate i.2 none) none) :: S.L⟩) (fun i => xs.length ≤ i.1 ∧ i.1 ≤ maxLen ∧ i.1 * sz ≤ xs.length * sz + i.2 ∧ ∀ x ∈ xs, x.length = sz) ?_ (fun i hi => h i.1 i.2 hi.1 hi.2.1 hi.2.2.1 hi.2.2.2)
 rintro E a w ⟨g, hs⟩
 obtain ⟨c, k, b, h1, h2, h3, h4, h5, h6⟩ := XaO hs hL hne hdead hf
 refine ⟨(c, k), ⟨h1, h2, h3, h4⟩, _, h6.1, h6.2.1, h6.2.2.1, fun t' => ?_⟩
 by_cases htt : t' = t
 ·subst htt
  show AVal.sat _ (Xa .any ((t', _) :: S.τ) t') _
  rw [XT]
  have hv := hs.2.2.2 t'
  rw [ht] at hv
  simp only [AVal.sat] at hv ⊢
  obtain ⟨_, a', m, c', q1, q2, q3⟩ := hv
  rw [h5] at q1; cases q1
  rw [q3 hn]; simp [Gh.put, hn]
 ·show AVal.sat _ (Xa .any ((t, _) :: S.τ) t') _
  rw [XK _ _ _ (Ne.symm htt)]
  exact h6.2.2.2 t'
theorem X84 {E : Env} {S : St} {g : Gh} {a : Act} {w : World} (hs : Ub E S g a w) {κ i : Nat} {bs : List AVal} {y : AVal} (hK : S.obj κ = .box bs) {x : AVal} (hi : bs[i]? = some x) (hx : ∀ u, x.sat g u → y.sat g u) (hy : y.cellish = true) :
  Ub E ⟨S.n, S.τ, (κ, .box (bs.set i y)) :: S.L⟩ g a w := by
 have ho := hs.1.obj κ
 rw [hK] at ho
 obtain ⟨vs, e, fr, h1, h2, h3, h4⟩ := ho
 refine ⟨Inv.upd hs.1 κ _ (XT _ _ _ _) (fun k hk => XK _ _ _ (Ne.symm hk)) (fun _ _ _ => rfl) (Nat.le_refl _) rfl rfl rfl (fun _ _ => ⟨rfl, rfl, rfl⟩) (fun _ _ _ _ _ h => h) ?_ (fun b hb' => .inl (by rw [hK]; exact hb')) (fun _ => Gh.keeps_refl _ _), hs.2.1, hs.2.2.1, hs.2.2.2⟩
 refine ⟨vs, e, fr, h1, h2, X4G h3 fun u hu => ?_, fun c hc => ?_⟩
 ·obtain ⟨u', q1, q2⟩ := YG h3 i _ hi
  rw [q1] at hu; cases hu; exact hx _ q2
 ·rcases List.mem_or_eq_of_mem_set hc with hc | rfl
  ·exact h4 c hc
  ·exact hy
theorem VY {P : Program} {E : Env} {cd : Code} {S : St} {Q : Exit → St → Prop} (κ i γ β : Nat) {sz n : Nat} {xs : List (List D)} {bs : List AVal} (hL : S.obj γ = .row sz xs) (hne : 0 < xs.length) (hK : S.obj κ = .box bs) (hi : bs[i]? = some (.own γ n)) (hn : n = xs.length) (hdead : S.obj β = .dead) (hf : S.free β = true)
  (h : ∀ c k : Nat, xs.length ≤ c → c ≤ maxLen → c * sz ≤ xs.length * sz + k → (∀ x ∈ xs, x.length = sz) → AWP P E cd ⟨S.n, S.τ, (κ, .box (bs.set i (.rs β 0 n c))) :: (γ, .dead) :: (β, .raw (xs.flatten.map some ++ List.replicate k none) none) :: S.L⟩ Q) : AWP P E cd S Q := by
 refine X3D (ι := Nat × Nat) (fun j => ⟨S.n, S.τ, (κ, .box (bs.set i (.rs β 0 n j.1))) :: (γ, .dead) :: (β, .raw (xs.flatten.map some ++ List.replicate j.2 none) none) :: S.L⟩) (fun i => xs.length ≤ i.1 ∧ i.1 ≤ maxLen ∧ i.1 * sz ≤ xs.length * sz + i.2 ∧ ∀ x ∈ xs, x.length = sz) ?_ (fun i hi => h i.1 i.2 hi.1 hi.2.1 hi.2.2.1 hi.2.2.2)
 rintro E a w ⟨g, hs⟩
 have hκγ : κ ≠ γ := by rintro rfl; rw [hL] at hK; cases hK
 have hκβ : κ ≠ β := by rintro rfl; rw [hK] at hdead; cases hdead
 obtain ⟨c, k, b, h1, h2, h3, h4, h5, h6⟩ := XaO hs hL hne hdead hf
 refine ⟨(c, k), ⟨h1, h2, h3, h4⟩, g.put β b undef, ?_⟩
 refine X84 (bs := bs) h6 (show Xa _ _ _ = _ by rw [XK _ _ _ (Ne.symm hκγ), XK _ _ _ (Ne.symm hκβ)]; exact hK) hi (fun u hu => ?_) rfl
 have hγβ : γ ≠ β := by rintro rfl; rw [hL] at hdead; cases hdead
 simp only [AVal.sat] at hu ⊢
 obtain ⟨_, a', m, c', q1, q2, q3⟩ := hu
 rw [(Yl hγβ).2.1, h5] at q1; cases q1
 rw [q3 hn]; simp [Gh.put, hn]
theorem XbE {E : Env} {S : St} {g : Gh} {a : Act} {w : World} (hs : Ub E S g a w) {γ β sz n c : Nat} {cs : List (Option D)} {ys : List (List D)} (hL : S.obj β = .raw cs none) (hcs : cs.take (n * sz) = ys.flatten.map some) (hys : ys.length = n) (hsz : ∀ y ∈ ys, y.length = sz) (hc : n ≤ c) (hcm : c ≤ maxLen) (hcap : c * sz ≤ cs.length)
  (hdead : S.obj γ = .dead) (hf : S.free γ = true) : Ub E ⟨S.n, S.τ, (β, .dead) :: (γ, .row sz ys) :: S.L⟩ (g.put γ 0 (.slice (some ⟨g.blk β, 0, none⟩) n c)) a w := by
 have hγβ : β ≠ γ := by rintro rfl; rw [hL] at hdead; cases hdead
 have ho := hs.1.obj β
 rw [hL] at ho
 obtain ⟨vs, e, fr, h1, h2, h3⟩ := ho
 have hvl : vs.size = cs.length := by have := Y6 h3; simpa [XA] using this
 have eβ : Xa .dead ((β, AObj.dead) :: (γ, .row sz ys) :: S.L) β = .dead := XT _ _ _ _
 have eγ : Xa .dead ((β, AObj.dead) :: (γ, .row sz ys) :: S.L) γ = .row sz ys := by rw [XK _ _ _ hγβ, XT]
 have hhd : (g.put γ 0 (.slice (some ⟨g.blk β, 0, none⟩) n c)).hd γ = .slice (some ⟨g.blk β, 0, none⟩) n c := by simp [Gh.put]
 refine ⟨Inv.part hs.1 (fun k => k = β ∨ k = γ) rfl (fun k hk => ?_) (fun k cs us _ e h => X3l (S := S) (g := g) (g' := g.put γ 0 (.slice (some ⟨g.blk β, 0, none⟩) n c)) rfl (fun k => k = γ) (fun k e => .inl (e ▸ hf)) (fun k hk => Yl hk) e h) (fun k hk => ?_) (fun k b' hk hb => ?_) (fun k k' b' hk hk' hb hb' => ?_) (fun k hk h100 => ?_), hs.2.1, hs.2.2.1, X2V (S := S) (g := g) (g' := g.put γ 0 (.slice (some ⟨g.blk β, 0, none⟩) n c)) rfl (fun k => k = γ) (fun k e => .inl (e ▸ hf)) (fun k hk => Yl hk) hs.2.2.2⟩
 ·obtain ⟨k1, k2⟩ := not_or.1 hk
  exact ⟨by show Xa _ _ _ = _; rw [XK _ _ _ (Ne.symm k1), XK _ _ _ (Ne.symm k2)]; rfl, Yl k2⟩
 ·show Y7 _ _ _ (Xa _ _ _)
  rcases hk with rfl | rfl
  ·rw [eβ]; trivial
  ·rw [eγ]
   refine ⟨hsz, .inr ⟨g.blk β, c, vs, e, fr, by rw [hhd, hys], by omega, hcm, h1, h2, by omega, ?_⟩⟩
   have h3' := VO h3 (n * sz)
   rw [XA, ← List.map_take, hcs, List.map_map] at h3'
   rw [hys]
   exact Vo (g := g) (g' := g.put k 0 (.slice (some ⟨g.blk β, 0, none⟩) n c)) (XQ.refl _) _ _ (fun j hj => by rw [X5Y] at hj; simp at hj) h3'
 ·replace hb : Xr _ (Xa _ _ _) k b' := hb
  rcases hk with rfl | rfl
  ·rw [eβ] at hb; exact hb.elim
  ·rw [eγ] at hb
   refine ⟨β, .inl rfl, ?_⟩
   rw [hL]
   obtain ⟨a1, n1, c1, e1, e2⟩ := hb
   rw [hhd] at e1; cases e1
   exact e2
 ·replace hb : Xr _ (Xa _ _ _) k b' := hb
  replace hb' : Xr _ (Xa _ _ _) k' b' := hb'
  rcases hk with rfl | rfl
  ·rw [eβ] at hb; exact hb.elim
  ·rcases hk' with rfl | rfl
   ·rw [eβ] at hb'; exact hb'.elim
   ·rfl
 ·rcases hk with rfl | rfl
  ·exact Gh.keeps_of (Yl hγβ).1 (Yl hγβ).2.1 (Yl hγβ).2.2
  ·have := X3V hf; omega
theorem UW {S : St} (t β γ : Nat) {sz n c : Nat} {cs : List (Option D)} (ys : List (List D)) (hL : S.obj β = .raw cs none) (ht : S.get t = .rs β 0 n c) (hcs : cs.take (n * sz) = ys.flatten.map some) (hys : ys.length = n) (hsz : ∀ y ∈ ys, y.length = sz) (hc : n ≤ c) (hcm : c ≤ maxLen) (hcap : c * sz ≤ cs.length)
  (hdead : S.obj γ = .dead) (hf : S.free γ = true) : S.le ⟨S.n, (t, .own γ n) :: S.τ, (β, .dead) :: (γ, .row sz ys) :: S.L⟩ := by
 rintro E a w ⟨g, hs⟩
 have h6 := XbE hs hL hcs hys hsz hc hcm hcap hdead hf
 refine ⟨_, h6.1, h6.2.1, h6.2.2.1, fun t' => ?_⟩
 by_cases htt : t' = t
 ·subst htt
  show AVal.sat _ (Xa .any ((t', _) :: S.τ) t') _
  rw [XT]
  have hv := hs.2.2.2 t'
  rw [ht] at hv
  simp only [AVal.sat] at hv ⊢
  rw [hv]
  exact ⟨rfl, _, n, c, by simp only [Gh.put, if_true], Nat.le_refl _, fun _ => rfl⟩
 ·show AVal.sat _ (Xa .any ((t, _) :: S.τ) t') _
  rw [XK _ _ _ (Ne.symm htt)]
  exact h6.2.2.2 t'
theorem X1V {S : St} (κ i β γ : Nat) {sz n c : Nat} {cs : List (Option D)} {bs : List AVal} (ys : List (List D)) (hL : S.obj β = .raw cs none) (hK : S.obj κ = .box bs) (hi : bs[i]? = some (.rs β 0 n c)) (hcs : cs.take (n * sz) = ys.flatten.map some) (hys : ys.length = n) (hsz : ∀ y ∈ ys, y.length = sz) (hc : n ≤ c) (hcm : c ≤ maxLen) (hcap : c * sz ≤ cs.length)
  (hdead : S.obj γ = .dead) (hf : S.free γ = true) : S.le ⟨S.n, S.τ, (κ, .box (bs.set i (.own γ n))) :: (β, .dead) :: (γ, .row sz ys) :: S.L⟩ := by
 rintro E a w ⟨g, hs⟩
 have hκβ : κ ≠ β := by rintro rfl; rw [hL] at hK; cases hK
 have hκγ : κ ≠ γ := by rintro rfl; rw [hK] at hdead; cases hdead
 have hβγ : β ≠ γ := by rintro rfl; rw [hL] at hdead; cases hdead
 have h6 := XbE hs hL hcs hys hsz hc hcm hcap hdead hf
 refine ⟨_, X84 (bs := bs) h6 (show Xa _ _ _ = _ by rw [XK _ _ _ (Ne.symm hκβ), XK _ _ _ (Ne.symm hκγ)]; exact hK) hi (fun u hu => ?_) rfl⟩
 simp only [AVal.sat] at hu ⊢
 rw [hu, (Yl hβγ).1]
 exact ⟨rfl, _, n, c, by simp only [Gh.put, if_true], Nat.le_refl _, fun _ => rfl⟩
theorem Xan {g : Gh} {w : World} {A B : List Hd} {h : Hd} (hb : Ve g w (A ++ h :: B)) : Ve g w (A ++ B) ∧ Yp g w h.1 h.2.1 h.2.2 ∧ ∀ q ∈ A ++ B, ∀ b, Ym q.1 b → ¬ Ym h.1 b := by
 obtain ⟨h1, h2⟩ := hb
 obtain ⟨p1, p2, p3⟩ := List.pairwise_append.1 h2
 obtain ⟨p4, p5⟩ := List.pairwise_cons.1 p2
 refine ⟨⟨fun k hk => h1 k ?_, List.pairwise_append.2 ⟨p1, p5, fun a ha b hb => p3 a ha b (List.mem_cons_of_mem _ hb)⟩⟩, h1 h (by simp), fun q hq b hqb hhb => ?_⟩
 ·rcases List.mem_append.1 hk with k1 | k1
  ·exact List.mem_append_left _ k1
  ·exact List.mem_append_right _ (List.mem_cons_of_mem _ k1)
 ·rcases List.mem_append.1 hq with k1 | k1
  ·exact p3 q k1 h (by simp) b hqb hhb
  ·exact p4 q k1 b hhb hqb
theorem X8d {g : Gh} {w : World} {A B : List Hd} {h : Hd} (hb : Ve g w (A ++ B)) (hr : Yp g w h.1 h.2.1 h.2.2) (ha : ∀ q ∈ A ++ B, ∀ b, Ym q.1 b → ¬ Ym h.1 b) : Ve g w (A ++ h :: B) := by
 obtain ⟨h1, h2⟩ := hb
 obtain ⟨p1, p2, p3⟩ := List.pairwise_append.1 h2
 refine ⟨fun k hk => ?_, List.pairwise_append.2 ⟨p1, List.pairwise_cons.2 ⟨fun q hq b hb hqb => ha q (List.mem_append_right _ hq) b hqb hb, p2⟩, fun a ha' b hb => ?_⟩⟩
 ·rcases List.mem_append.1 hk with k1 | k1
  ·exact h1 k (List.mem_append_left _ k1)
  ·rcases List.mem_cons.1 k1 with rfl | k1
   ·exact hr
   ·exact h1 k (List.mem_append_right _ k1)
 ·rcases List.mem_cons.1 hb with rfl | hb
  ·exact ha a (List.mem_append_left _ ha')
  ·exact p3 a ha' b hb
theorem X7H {g : Gh} {w : World} {h : Value} {sz : Nat} {xs : List (List D)} (hr : Yp g w h sz xs) : ∃ a c, h = .slice a xs.length c := by
 rcases hr.2 with ⟨e, rfl⟩ | ⟨b, cap, vs, e', fr, e, _⟩
 ·exact ⟨_, _, e⟩
 ·exact ⟨_, _, e⟩
theorem X0L {S : St} (β δ j γ : Nat) {cs : List (Option D)} {A B : List Hd} {u : Value} {z : Nat} {rows : List (List D)} (hL : S.obj β = .raw cs none) (hj : cs[j]? = some (some (.v u))) (hB : S.obj δ = .bag (A ++ (u, z, rows) :: B)) (hdead : S.obj γ = .dead) (hf : S.free γ = true) :
  S.le ⟨S.n, S.τ, (β, .raw cs (some (j, .own γ rows.length))) :: (δ, .bag (A ++ B)) :: (γ, .row z rows) :: S.L⟩ := by
 rintro E a w ⟨g, hs⟩
 have hβδ : β ≠ δ := by rintro rfl; rw [hL] at hB; cases hB
 have hβγ : β ≠ γ := by rintro rfl; rw [hL] at hdead; cases hdead
 have hδγ : δ ≠ γ := by rintro rfl; rw [hB] at hdead; cases hdead
 have ho := hs.1.obj β
 rw [hL] at ho
 have hb := hs.1.obj δ
 rw [hB] at hb
 obtain ⟨b1, b2, b3⟩ := Xan (show Ve g w (A ++ (u, z, rows) :: B) from hb)
 have b2 : Yp g w u z rows := b2
 obtain ⟨ua, uc, hu⟩ := X7H b2
 have hhd : (g.put γ 0 u).hd γ = u := by simp [Gh.put]
 have eβ : Xa .dead ((β, AObj.raw cs (some (j, .own γ rows.length))) :: (δ, .bag (A ++ B)) :: (γ, .row z rows) :: S.L) β = .raw cs (some (j, .own γ rows.length)) := XT _ _ _ _
 have eδ : Xa .dead ((β, AObj.raw cs (some (j, .own γ rows.length))) :: (δ, .bag (A ++ B)) :: (γ, .row z rows) :: S.L) δ = .bag (A ++ B) := by rw [XK _ _ _ hβδ, XT]
 have eγ : Xa .dead ((β, AObj.raw cs (some (j, .own γ rows.length))) :: (δ, .bag (A ++ B)) :: (γ, .row z rows) :: S.L) γ = .row z rows := by rw [XK _ _ _ hβγ, XK _ _ _ hδγ, XT]
 refine ⟨g.put γ 0 u, Inv.part hs.1 (fun k => k = β ∨ k = δ ∨ k = γ) rfl (fun k hk => ?_) (fun k cs us _ e h => X3l (S := S) (g := g) (g' := g.put γ 0 u) rfl (fun k => k = γ) (fun k e => .inl (e ▸ hf)) (fun k hk => Yl hk) e h) (fun k hk => ?_) (fun k b hk hb => ?_) (fun k k' b hk hk' hb hb' => ?_) (fun k hk h100 => ?_), hs.2.1, hs.2.2.1, X2V (S := S) (g := g) (g' := g.put γ 0 u) rfl (fun k => k = γ) (fun k e => .inl (e ▸ hf)) (fun k hk => Yl hk) hs.2.2.2⟩
 ·obtain ⟨k1, k2⟩ := not_or.1 hk
  obtain ⟨k2, k3⟩ := not_or.1 k2
  exact ⟨by show Xa _ _ _ = _; rw [XK _ _ _ (Ne.symm k1), XK _ _ _ (Ne.symm k2), XK _ _ _ (Ne.symm k3)]; rfl, Yl k3⟩
 ·show Y7 _ _ _ (Xa _ _ _)
  rcases hk with rfl | rfl | rfl
  ·rw [eβ]
   obtain ⟨vs, e, fr, h1, h2, h3⟩ := ho
   refine ⟨vs, e, fr, by rw [(Yl hβγ).1]; exact h1, h2, ?_⟩
   have h3' := X6b (g := g) (g' := g.put γ 0 u) (XQ.refl _) (fun vs h => by cases vs <;> exact h) h3
   refine X4G h3' fun v hv => ?_
   obtain ⟨v', q1, q2⟩ := YG h3 j (.d (.v u)) (by simp only [XA, List.getElem?_map, hj]; rfl)
   rw [q1] at hv; cases hv
   simp only [AVal.sat, D.rep] at q2 ⊢
   exact ⟨by rw [q2.1]; exact q2.2, ua, rows.length, uc, by rw [hhd]; exact hu, Nat.le_refl _, fun _ => by rw [q2.1]; exact hu⟩
  ·rw [eδ]; exact X4Q (g := g) (g' := g.put γ 0 u) (XQ.refl _) (fun _ _ => rfl) b1
  ·rw [eγ]
   show Yp _ _ ((g.put k 0 u).hd k) _ _
   rw [hhd]; exact X1m (g := g) (g' := g.put k 0 u) (XQ.refl _) (fun _ _ => rfl) b2
 ·replace hb : Xr _ (Xa _ _ _) k b := hb
  rcases hk with rfl | rfl | rfl
  ·rw [eβ] at hb
   refine ⟨k, .inl rfl, ?_⟩
   rw [hL]
   replace hb : (g.put γ 0 u).blk k = b := hb
   rw [(Yl hβγ).1] at hb; exact hb
  ·rw [eδ] at hb
   obtain ⟨q, hq, hqb⟩ := hb
   refine ⟨k, .inr (.inl rfl), ?_⟩
   rw [hB]
   refine ⟨q, ?_, hqb⟩
   rcases List.mem_append.1 hq with k1 | k1
   ·exact List.mem_append_left _ k1
   ·exact List.mem_append_right _ (List.mem_cons_of_mem _ k1)
  ·rw [eγ] at hb
   replace hb : Ym ((g.put k 0 u).hd k) b := hb
   rw [hhd] at hb
   exact ⟨δ, .inr (.inl rfl), by rw [hB]; exact ⟨(u, z, rows), by simp, hb⟩⟩
 ·have hold : ∀ k b, k = δ ∨ k = γ → Xr (g.put γ 0 u) (Xa .dead ((β, AObj.raw cs (some (j, .own γ rows.length))) :: (δ, .bag (A ++ B)) :: (γ, .row z rows) :: S.L) k) k b → Xr g (S.obj δ) δ b := by
   intro k b hk hb
   rw [hB]
   rcases hk with rfl | rfl
   ·rw [eδ] at hb
    obtain ⟨q, hq, hqb⟩ := hb
    refine ⟨q, ?_, hqb⟩
    rcases List.mem_append.1 hq with k1 | k1
    ·exact List.mem_append_left _ k1
    ·exact List.mem_append_right _ (List.mem_cons_of_mem _ k1)
   ·rw [eγ] at hb
    replace hb : Ym ((g.put k 0 u).hd k) b := hb
    rw [hhd] at hb
    exact ⟨(u, z, rows), by simp, hb⟩
  have holdβ : ∀ b, Xr (g.put γ 0 u) (Xa .dead ((β, AObj.raw cs (some (j, .own γ rows.length))) :: (δ, .bag (A ++ B)) :: (γ, .row z rows) :: S.L) β) β b → Xr g (S.obj β) β b := by
   intro b hb
   rw [eβ] at hb; rw [hL]
   replace hb : (g.put γ 0 u).blk β = b := hb
   rw [(Yl hβγ).1] at hb; exact hb
  have hdg : ∀ b, Xr (g.put γ 0 u) (Xa .dead ((β, AObj.raw cs (some (j, .own γ rows.length))) :: (δ, .bag (A ++ B)) :: (γ, .row z rows) :: S.L) δ) δ b → Xr (g.put γ 0 u) (Xa .dead ((β, AObj.raw cs (some (j, .own γ rows.length))) :: (δ, .bag (A ++ B)) :: (γ, .row z rows) :: S.L) γ) γ b → False := by
   intro b hb hb'
   rw [eδ] at hb; rw [eγ] at hb'
   replace hb' : Ym ((g.put γ 0 u).hd γ) b := hb'
   rw [hhd] at hb'
   obtain ⟨q, hq, hqb⟩ := hb
   exact b3 q hq b hqb hb'
  replace hb : Xr _ (Xa _ _ _) k b := hb
  replace hb' : Xr _ (Xa _ _ _) k' b := hb'
  rcases hk with rfl | hk
  ·rcases hk' with rfl | hk'
   ·rfl
   ·exact absurd (hs.1.inj _ _ b (holdβ b hb) (hold k' b hk' hb')) hβδ
  ·rcases hk' with rfl | hk'
   ·exact absurd (hs.1.inj _ _ b (holdβ b hb') (hold k b hk hb)) hβδ
   ·rcases hk with rfl | rfl <;> rcases hk' with rfl | rfl
    ·rfl
    ·exact (hdg b hb hb').elim
    ·exact (hdg b hb' hb).elim
    ·rfl
 ·rcases hk with rfl | rfl | rfl
  ·exact Gh.keeps_of (Yl hβγ).1 (Yl hβγ).2.1 (Yl hβγ).2.2
  ·exact Gh.keeps_of (Yl hδγ).1 (Yl hδγ).2.1 (Yl hδγ).2.2
  ·have := X3V hf; omega
theorem XbB {E : Env} {a : Act} {w : World} {S : St} (β δ j γ : Nat) {cs : List (Option D)} (A B : List Hd) {z n : Nat} {rows : List (List D)} (hL : S.obj β = .raw cs (some (j, .own γ n))) (hj : j < cs.length) (hB : S.obj δ = .bag (A ++ B)) (hr : S.obj γ = .row z rows) (hn : n = rows.length) (hs : holds E S a w) :
  ∃ u : Value, holds E ⟨S.n, S.τ, (β, .raw (cs.set j (some (.v u))) none) :: (δ, .bag (A ++ (u, z, rows) :: B)) :: (γ, .dead) :: S.L⟩ a w := by
 obtain ⟨g, hs⟩ := hs
 have hβδ : β ≠ δ := by rintro rfl; rw [hL] at hB; cases hB
 have hβγ : β ≠ γ := by rintro rfl; rw [hL] at hr; cases hr
 have hδγ : δ ≠ γ := by rintro rfl; rw [hB] at hr; cases hr
 have ho := hs.1.obj β
 rw [hL] at ho
 have hb := hs.1.obj δ
 rw [hB] at hb
 have hrr := hs.1.obj γ
 rw [hr] at hrr
 have hrow : Yp g w (g.hd γ) z rows := hrr
 refine ⟨g.hd γ, g, ?_, hs.2.1, hs.2.2.1, hs.2.2.2⟩
 have eβ : Xa .dead ((β, AObj.raw (cs.set j (some (.v (g.hd γ)))) none) :: (δ, .bag (A ++ (g.hd γ, z, rows) :: B)) :: (γ, .dead) :: S.L) β = .raw (cs.set j (some (.v (g.hd γ)))) none := XT _ _ _ _
 have eδ : Xa .dead ((β, AObj.raw (cs.set j (some (.v (g.hd γ)))) none) :: (δ, .bag (A ++ (g.hd γ, z, rows) :: B)) :: (γ, .dead) :: S.L) δ = .bag (A ++ (g.hd γ, z, rows) :: B) := by rw [XK _ _ _ hβδ, XT]
 have eγ : Xa .dead ((β, AObj.raw (cs.set j (some (.v (g.hd γ)))) none) :: (δ, .bag (A ++ (g.hd γ, z, rows) :: B)) :: (γ, .dead) :: S.L) γ = .dead := by rw [XK _ _ _ hβγ, XK _ _ _ hδγ, XT]
 have hapart : ∀ q ∈ A ++ B, ∀ b, Ym q.1 b → ¬ Ym (g.hd γ) b := fun q hq b hqb hb' => hδγ (hs.1.inj _ _ b (by rw [hB]; exact ⟨q, hq, hqb⟩) (by rw [hr]; exact hb'))
 have hδl : ∀ b, Xr g (.bag (A ++ (g.hd γ, z, rows) :: B)) δ b → Xr g (S.obj δ) δ b ∨ Xr g (S.obj γ) γ b := by
  rintro b ⟨q, hq, hqb⟩
  rw [hB, hr]
  rcases List.mem_append.1 hq with k1 | k1
  ·exact .inl ⟨q, List.mem_append_left _ k1, hqb⟩
  ·rcases List.mem_cons.1 k1 with rfl | k1
   ·exact .inr hqb
   ·exact .inl ⟨q, List.mem_append_right _ k1, hqb⟩
 refine Inv.part hs.1 (fun k => k = β ∨ k = δ ∨ k = γ) rfl (fun k hk => ?_) (fun k cs us _ e h => h) (fun k hk => ?_) (fun k b hk hb => ?_) (fun k k' b hk hk' hb hb' => ?_) (fun k hk h100 => Gh.keeps_refl _ _)
 ·obtain ⟨k1, k2⟩ := not_or.1 hk
  obtain ⟨k2, k3⟩ := not_or.1 k2
  exact ⟨by show Xa _ _ _ = _; rw [XK _ _ _ (Ne.symm k1), XK _ _ _ (Ne.symm k2), XK _ _ _ (Ne.symm k3)]; rfl, rfl, rfl, rfl⟩
 ·show Y7 _ _ _ (Xa _ _ _)
  rcases hk with rfl | rfl | rfl
  ·rw [eβ]
   obtain ⟨vs, e, fr, h1, h2, h3⟩ := ho
   refine ⟨vs, e, fr, h1, h2, ?_⟩
   have e1 : XA (cs.set j (some (.v (g.hd γ)))) none = (XA cs (some (j, .own γ n))).set j (.d (.v (g.hd γ))) := by
    simp only [XA, List.map_set, List.set_set]; rfl
   rw [e1]
   refine X4G h3 fun v hv => ?_
   obtain ⟨v', q1, q2⟩ := YG h3 j (.own γ n) (by simp only [XA, List.getElem?_set_self (show j < (cs.map oA).length by rw [List.length_map]; exact hj)])
   rw [q1] at hv; cases hv
   have e := X0J q2 (w := w) (show Y7 g w γ (.row z rows) from hrow) hn
   simp only [AVal.sat] at q2
   rw [e] at q2 ⊢
   exact Ui q2.1
  ·rw [eδ]; exact X8d hb hrow hapart
  ·rw [eγ]; trivial
 ·replace hb : Xr _ (Xa _ _ _) k b := hb
  rcases hk with rfl | rfl | rfl
  ·rw [eβ] at hb
   exact ⟨k, .inl rfl, by rw [hL]; exact hb⟩
  ·rw [eδ] at hb
   rcases hδl b hb with q | q
   ·exact ⟨k, .inr (.inl rfl), q⟩
   ·exact ⟨γ, .inr (.inr rfl), q⟩
  ·rw [eγ] at hb; exact hb.elim
 ·have key : ∀ b, Xr g (.raw (cs.set j (some (.v (g.hd γ)))) none) β b → Xr g (.bag (A ++ (g.hd γ, z, rows) :: B)) δ b → False := by
   intro b q1 q2
   have q1 : Xr g (S.obj β) β b := by rw [hL]; exact q1
   rcases hδl b q2 with q | q
   ·exact hβδ (hs.1.inj _ _ b q1 q)
   ·exact hβγ (hs.1.inj _ _ b q1 q)
  replace hb : Xr _ (Xa _ _ _) k b := hb
  replace hb' : Xr _ (Xa _ _ _) k' b := hb'
  rcases hk with rfl | rfl | rfl <;> rcases hk' with rfl | rfl | rfl <;> first
   | rfl
   | (rw [eγ] at hb; exact hb.elim)
   | (rw [eγ] at hb'; exact hb'.elim)
   | (rw [eβ] at hb; rw [eδ] at hb'; exact (key b hb hb').elim)
   | (rw [eβ] at hb'; rw [eδ] at hb; exact (key b hb' hb).elim)
theorem X59 {P : Program} {E : Env} {cd : Code} {S : St} {Q : Exit → St → Prop} (β δ j γ : Nat) {cs : List (Option D)} (A B : List Hd) {z n : Nat} {rows : List (List D)} (hL : S.obj β = .raw cs (some (j, .own γ n))) (hj : j < cs.length) (hB : S.obj δ = .bag (A ++ B)) (hr : S.obj γ = .row z rows) (hn : n = rows.length)
  (h : ∀ u : Value, AWP P E cd ⟨S.n, S.τ, (β, .raw (cs.set j (some (.v u))) none) :: (δ, .bag (A ++ (u, z, rows) :: B)) :: (γ, .dead) :: S.L⟩ Q) : AWP P E cd S Q :=
 X3D (ι := Value) (fun u => ⟨S.n, S.τ, (β, .raw (cs.set j (some (.v u))) none) :: (δ, .bag (A ++ (u, z, rows) :: B)) :: (γ, .dead) :: S.L⟩) (fun _ => True) (fun E a w hs => let ⟨u, hu⟩ := XbB β δ j γ A B hL hj hB hr hn hs; ⟨u, trivial, hu⟩) (fun u _ => h u)
theorem X8M {S : St} (δ : Nat) {hs : List Hd} (hs' : List Hd) (hB : S.obj δ = .bag hs) (h : ∀ g w, Ve g w hs → Ve g w hs') (hl : ∀ q ∈ hs', q ∈ hs ∨ ∀ b, ¬ Ym q.1 b) : S.le ⟨S.n, S.τ, (δ, .bag hs') :: S.L⟩ := by
 rintro E a w ⟨g, hg⟩
 have hb := hg.1.obj δ
 rw [hB] at hb
 refine ⟨g, Inv.upd hg.1 δ _ (XT _ _ _ _) (fun k hk => XK _ _ _ (Ne.symm hk)) (fun _ _ _ => rfl) (Nat.le_refl _) rfl rfl rfl (fun _ _ => ⟨rfl, rfl, rfl⟩) (fun _ _ _ _ _ h => h) (h g w hb) (fun b hb' => .inl ?_) (fun _ => Gh.keeps_refl _ _), hg.2.1, hg.2.2.1, hg.2.2.2⟩
 obtain ⟨q, hq, hqb⟩ := hb'
 rcases hl q hq with h1 | h1
 ·rw [hB]; exact ⟨q, h1, hqb⟩
 ·exact (h1 b hqb).elim
theorem X8q (b : Nat) : ¬ Ym (.slice none 0 0) b := by
 rintro ⟨a, n, c, e, _⟩; cases e
theorem X5s {S : St} (δ z : Nat) (A B : List Hd) (hB : S.obj δ = .bag (A ++ B)) : S.le ⟨S.n, S.τ, (δ, .bag (A ++ (.slice none 0 0, z, []) :: B)) :: S.L⟩ :=
 X8M δ _ hB (fun g w h => X8d h ⟨by simp, .inl ⟨rfl, rfl⟩⟩ (fun q _ b _ => X8q b)) (fun q hq => by
  rcases List.mem_append.1 hq with k1 | k1
  ·exact .inl (List.mem_append_left _ k1)
  ·rcases List.mem_cons.1 k1 with rfl | k1
   ·exact .inr X8q
   ·exact .inl (List.mem_append_right _ k1))
theorem X74 {S : St} (δ : Nat) (A B : List Hd) (h : Hd) (hB : S.obj δ = .bag (A ++ h :: B)) : S.le ⟨S.n, S.τ, (δ, .bag (A ++ B)) :: S.L⟩ :=
 X8M δ _ hB (fun g w h => (Xan h).1) (fun q hq => .inl (by
  rcases List.mem_append.1 hq with k1 | k1
  ·exact List.mem_append_left _ k1
  ·exact List.mem_append_right _ (List.mem_cons_of_mem _ k1)))
theorem X4T {S : St} (δ : Nat) (hdead : S.obj δ = .dead) : S.le ⟨S.n, S.τ, (δ, .bag []) :: S.L⟩ := by
 rintro E a w ⟨g, hg⟩
 refine ⟨g, Inv.upd hg.1 δ _ (XT _ _ _ _) (fun k hk => XK _ _ _ (Ne.symm hk)) (fun _ _ _ => rfl) (Nat.le_refl _) rfl rfl rfl (fun _ _ => ⟨rfl, rfl, rfl⟩) (fun _ _ _ _ _ h => h) ⟨by simp, List.Pairwise.nil⟩ (fun b hb' => ?_) (fun _ => Gh.keeps_refl _ _), hg.2.1, hg.2.2.1, hg.2.2.2⟩
 obtain ⟨q, hq, _⟩ := hb'
 simp at hq
def clo (E : Env) (Q : Exit → St → Prop) (e : Exit) (T : St) : Prop := ∀ a w, holds E T a w → ∃ U, Q e U ∧ holds E U a w
theorem X3F {P : Program} {E : Env} {cd : Code} {S : St} {Q : Exit → St → Prop} (h : AWP P E cd S (clo E Q)) : AWP P E cd S Q :=
 ⟨fun a w hs => wp_mono (h.run a w hs) fun e a' w' ⟨T, h1, h2⟩ => h1 a' w' h2⟩
theorem VA {E : Env} {S T : St} {e : Exit} {Q : Exit → St → Prop} (h : S.le T) (k : clo E Q e T) : clo E Q e S := fun a w hs => k a w (h E a w hs)
theorem X3G {E : Env} {S : St} {e : Exit} {Q : Exit → St → Prop} (h : Q e S) : clo E Q e S := fun a w hs => ⟨S, h, hs⟩
theorem X4Z {E : Env} {S : St} {e : Exit} {Q : Exit → St → Prop} (β δ j γ : Nat) {cs : List (Option D)} (A B : List Hd) {z n : Nat} {rows : List (List D)} (hL : S.obj β = .raw cs (some (j, .own γ n))) (hj : j < cs.length) (hB : S.obj δ = .bag (A ++ B)) (hr : S.obj γ = .row z rows) (hn : n = rows.length)
  (h : ∀ u : Value, clo E Q e ⟨S.n, S.τ, (β, .raw (cs.set j (some (.v u))) none) :: (δ, .bag (A ++ (u, z, rows) :: B)) :: (γ, .dead) :: S.L⟩) : clo E Q e S := fun a w hs =>
 let ⟨u, hu⟩ := XbB β δ j γ A B hL hj hB hr hn hs
 h u a w hu
end Go.Fw

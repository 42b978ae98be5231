/- What is written as a backup is read back, and what is read is a backup; in plain Lean: parts of items. -/
import Derived.Test.YtbhleedlnaakkaaGreatG26
namespace Go.Fw
open Go
set_option linter.unusedVariables false
set_option linter.unusedSimpArgs false
theorem Xau {α : Type} {f : Rd → α × Rd} {ok : α → Prop} {w : α → List UInt8} (hp : PartR f) (ho : UC ok w f) : ∀ (n : Nat) (s : Rd), 0 ≤ s.a → s.a ≤ s.c.length → (Xt f n s).2.e = 0 →
  only s.c s.a (Xt f n s).2.a (((Xt f n s).1.map w).flatten) ∧ (Xt f n s).1.length = n ∧ ∀ x ∈ (Xt f n s).1, ok x
 | 0, s, h0, h1, _ => ⟨X5c h0 h1, rfl, by simp [Xt]⟩
 | n + 1, s, h0, h1, he => by
  have hs := (X3s hp (n + 1)).back he
  rw [Xt, if_neg (by simp [hs])] at he ⊢
  simp only at he ⊢
  have he1 := (X3s hp n).back he
  obtain ⟨o1, k1⟩ := ho s h0 h1 he1
  have hc := (hp.keep s).2
  obtain ⟨o2, hl, hk⟩ := Xau hp ho n (f s).2 (by have := o1.1; have := o1.2.1; omega) (by rw [hc]; exact o1.2.2.1) he
  rw [hc] at o2
  refine ⟨?_, by simp [hl], ?_⟩
  ·rw [List.map_cons, List.flatten_cons]
   exact VJ o1 o2
  ·intro x hx
   rcases List.mem_cons.1 hx with rfl | hx
   ·exact k1
   ·exact hk x hx
theorem X0f {α β : Type} {f : Rd → α × Rd} {g : α → Rd → β × Rd} {ok : α → Prop} {ok' : α → β → Prop} {w : α → List UInt8} {w' : β → List UInt8} (hpf : PartR f) (hpg : ∀ x, PartR (g x)) (hf : UC ok w f) (hg : ∀ x, UC (ok' x) w' (g x)) :
  UC (fun p : α × β => ok p.1 ∧ ok' p.1 p.2) (fun p => w p.1 ++ w' p.2) (Uf f g) := by
 intro s h0 h1 he
 unfold Uf at he ⊢
 simp only at he ⊢
 have he1 := (hpg _).back he
 obtain ⟨o1, k1⟩ := hf s h0 h1 he1
 have hc := (hpf.keep s).2
 obtain ⟨o2, k2⟩ := hg (f s).1 (f s).2 (by have := o1.1; have := o1.2.1; omega) (by rw [hc]; exact o1.2.2.1) he
 rw [hc] at o2
 exact ⟨VJ o1 o2, k1, k2⟩
theorem X0p : UC okN Xc Xb := X4B fun c a x e h => by
 obtain ⟨h1, h2, h3, _⟩ := X1v h
 exact ⟨h1, h2, h3⟩
theorem X5p : UC (fun s => s.length ≤ 20) Xz XR := X4B fun c a x e h => by
 obtain ⟨h1, h2, _⟩ := X1S h
 exact ⟨h1, by omega⟩
theorem Xhl : UC (fun v => X7 8 v = true) Ys Um := X4B fun c a x e h => by
 obtain ⟨h1, h2, _⟩ := X6i h
 exact ⟨h1, h2⟩
theorem X6m {α : Type} {f : Rd → α × Rd} {ok : α → Prop} {w : α → List UInt8} (hp : PartR f) (hf : UC ok w f) : UC (fun l => ∀ x ∈ l, ok x) (YT w) (Yr f) := by
 intro s h0 h1 he
 unfold Yr at he ⊢
 simp only at he ⊢
 have he1 := (X3s hp _).back he
 obtain ⟨o1, k1⟩ := X0p s h0 h1 he1
 have hc := (XQ.keep s).2
 obtain ⟨o2, hl, hk⟩ := Xau hp hf (Xb s).1.toNat (Xb s).2 (by have := o1.1; have := o1.2.1; omega) (by rw [hc]; exact o1.2.2.1) he
 rw [hc] at o2
 refine ⟨?_, hk⟩
 unfold YT
 have hn : (((Xt f (Xb s).1.toNat (Xb s).2).1.length : Nat) : Int) = (Xb s).1 := by rw [hl]; have := k1.1; omega
 rw [hn]
 exact VJ o1 o2
theorem X5I {α β : Type} {φ : α → β} {f : Rd → α × Rd} {ok : α → Prop} {w : α → List UInt8} (hf : UC ok w f) (ψ : β → α) (hψ : ∀ x, ψ (φ x) = x) : UC (fun y => ok (ψ y)) (fun y => w (ψ y)) (X10 φ f) := by
 intro s h0 h1 he
 unfold X10 at he ⊢
 simp only [hψ]
 exact hf s h0 h1 he
theorem X8i : UC okP Yd Yl := by
 rw [X6O]
 exact X5I (X0f Uq (fun _ => X35) X5p fun _ => Xhl) (fun p : Prp => (p.key, p.v)) fun _ => rfl
theorem Xe8 : UC (fun _ => True) Y1 Ym := by
 rw [X5C]
 have := X5I (φ := fun p : Int × List (List UInt8) × List Prp => (⟨p.1, p.2.1, p.2.2⟩ : Nod)) (X0f XQ (fun _ => Us (VP Uq) fun _ => VP Vx) X0p fun _ => X0f (VP Uq) (fun _ => VP Vx) (X6m Uq X5p) fun _ => X6m Vx X8i) (fun n : Nod => (n.id, n.labels, n.props)) fun _ => rfl
 exact fun s h0 h1 he => ⟨(this s h0 h1 he).1, trivial⟩
theorem XdF : UC (fun _ => True) Yp XO := by
 rw [X6I]
 have := X5I (φ := fun p : Int × Int × Int × List UInt8 × List Prp => (⟨p.1, p.2.1, p.2.2.1, p.2.2.2.1, p.2.2.2.2⟩ : Edg)) (X0f XQ (fun _ => Us XQ fun _ => Us XQ fun _ => Us Uq fun _ => VP Vx) X0p fun _ =>
  X0f XQ (fun _ => Us XQ fun _ => Us Uq fun _ => VP Vx) X0p fun _ => X0f XQ (fun _ => Us Uq fun _ => VP Vx) X0p fun _ => X0f Uq (fun _ => VP Vx) X5p fun _ => X6m Vx X8i)
  (fun e : Edg => (e.id, e.src, e.dst, e.typ, e.props)) fun _ => rfl
 exact fun s h0 h1 he => ⟨(this s h0 h1 he).1, trivial⟩
end Go.Fw
namespace Go.Fw
open Go
set_option linter.unusedVariables false
set_option linter.unusedSimpArgs false
theorem Xgd {α : Type} {f : Rd → α × Rd} (hf : PartR f) {b : List UInt8} {s : Rd} (h : s.e ≠ 0) : (Xs b f s).2 = s := by
 unfold Xs
 simp only
 rw [X5y h, hf.err s h, X3f h]
theorem Xaj {α : Type} {f : Rd → α × Rd} {ok : α → Prop} {w : α → List UInt8} (hp : PartR f) (hf : UC ok w f) {b : List UInt8} {s : Rd} (hk : s.k ≤ b.length) (he : (Xs b f s).2.e = 0) :
  s.e = 0 ∧ ok (Xs b f s).1 ∧ (Xs b f s).2.k ≤ b.length ∧ b.drop s.k = Y2 (w (Xs b f s).1) ++ b.drop (Xs b f s).2.k := by
 have hs : s.e = 0 := by
  by_cases q : s.e = 0
  ·exact q
  ·rw [Xgd hp q] at he; exact he
 refine ⟨hs, ?_⟩
 unfold Xs at he ⊢
 simp only at he ⊢
 have ho : (XF b s).e = 0 := by
  by_cases q : (XF b s).e = 0
  ·exact q
  ·rw [hp.err _ q, X3f q] at he; exact he
 have hf0 : (f (XF b s)).2.e = 0 := by
  by_cases q : (f (XF b s)).2.e = 0
  ·exact q
  ·rw [X3f q] at he; exact he
 have hsh : YD (f (XF b s)).2 = (f (XF b s)).2 ∧ ¬ (f (XF b s)).2.a < (f (XF b s)).2.c.length := by
  unfold YD at he ⊢
  by_cases q : (f (XF b s)).2.e = 0 ∧ (f (XF b s)).2.a < (f (XF b s)).2.c.length
  ·rw [if_pos q] at he; simp [Rd.put] at he
  ·rw [if_neg q]; exact ⟨rfl, fun z => q ⟨hf0, z⟩⟩
 rw [hsh.1]
 obtain ⟨hk1, hc1⟩ := hp.keep (XF b s)
 rw [hk1]
 have hna := hsh.2
 rw [hc1] at hna
 generalize hO : XF b s = o at *
 unfold XF at hO
 rw [if_neg (by simp [hs])] at hO
 generalize hu : YQ (b.drop s.k) 0 = u at hO
 obtain ⟨c, z, e⟩ := u
 simp only at hO
 subst hO
 simp only at *
 subst ho
 rw [if_pos rfl] at *
 have hfr := X5h hu
 obtain ⟨z0, z1, z2, z3⟩ := hfr
 obtain ⟨o1, k1⟩ := hf _ (by simp) (by simp) hf0
 obtain ⟨a0, a1, a2, a3⟩ := o1
 simp only at a0 a1 a2 a3
 have ha : (f ⟨s.k + z.toNat, c, 0, 0⟩).2.a = c.length := by omega
 rw [ha] at a3
 simp only [Int.toNat_zero, List.drop_zero, Int.sub_zero, Int.toNat_natCast, List.take_length] at a3
 simp only [Int.toNat_zero, List.drop_zero, Int.sub_zero] at z3
 rw [← a3]
 simp only [List.length_drop] at z2
 refine ⟨k1, by omega, ?_⟩
 rw [← z3, ← List.drop_drop, List.take_append_drop]
theorem X4f {α : Type} {f : Rd → α × Rd} {ok : α → Prop} {w : α → List UInt8} (hp : PartR f) (hf : UC ok w f) {b : List UInt8} : ∀ (n : Nat) (s : Rd), s.k ≤ b.length → (Xt (Xs b f) n s).2.e = 0 →
  s.e = 0 ∧ (Xt (Xs b f) n s).1.length = n ∧ (∀ x ∈ (Xt (Xs b f) n s).1, ok x) ∧ (Xt (Xs b f) n s).2.k ≤ b.length ∧ b.drop s.k = XL ((Xt (Xs b f) n s).1.map w) ++ b.drop (Xt (Xs b f) n s).2.k
 | 0, s, hk, he => ⟨he, rfl, by simp [Xt], hk, by simp [Xt, XL]⟩
 | n + 1, s, hk, he => by
  have hs : s.e = 0 := by
   by_cases q : s.e = 0
   ·exact q
   ·rw [X1e q] at he; exact he
  rw [Xt, if_neg (by simp [hs])] at he ⊢
  simp only at he ⊢
  have he1 : (Xs b f s).2.e = 0 := by
   by_cases q : (Xs b f s).2.e = 0
   ·exact q
   ·rw [X1e q] at he; exact he
  obtain ⟨_, k1, k2, k3⟩ := Xaj hp hf hk he1
  obtain ⟨_, l1, l2, l3, l4⟩ := X4f hp hf n (Xs b f s).2 k2 he
  refine ⟨hs, by simp [l1], ?_, l3, ?_⟩
  ·intro x hx
   rcases List.mem_cons.1 hx with rfl | hx
   ·exact k1
   ·exact l2 x hx
  ·rw [k3, l4]
   simp [XL]
theorem Xdo : UC okH VK X0H := by
 rw [X5r]
 have p4 : PartR (Uf Xb fun _ => Xb) := Us XQ fun _ => XQ
 have p3 : PartR (Uf Xb fun _ => Uf Xb fun _ => Xb) := Us XQ fun _ => p4
 have p2 : PartR (Uf Xb fun _ => Uf Xb fun _ => Uf Xb fun _ => Xb) := Us XQ fun _ => p3
 exact X0f XQ (fun _ => p2) X0p fun _ => X0f XQ (fun _ => p3) X0p fun _ => X0f XQ (fun _ => p4) X0p fun _ => X0f XQ (fun _ => XQ) X0p fun _ => X0p
end Go.Fw
namespace Go.Fw
open Go
set_option linter.unusedVariables false
set_option linter.unusedSimpArgs false
theorem XfT {b : List UInt8} {e : Int} (h : (U7 b ⟨0, [], 0, e⟩).2.e = 0) : e = 0 ∧ XL (V0 (U7 b ⟨0, [], 0, e⟩).1.1 (U7 b ⟨0, [], 0, e⟩).1.2) = b := by
 unfold U7 at h ⊢
 simp only at h ⊢
 generalize hs1 : X0y b ⟨0, [], 0, e⟩ = x1 at *
 obtain ⟨⟨nn, ne, r, n, m⟩, s1⟩ := x1
 simp only at h ⊢
 generalize hs2 : Xt (Xs b Yi) r.toNat s1 = x2 at *
 obtain ⟨rs, s2⟩ := x2
 simp only at h ⊢
 generalize hs3 : Xt (Xs b Ym) n.toNat s2 = x3 at *
 obtain ⟨ns, s3⟩ := x3
 simp only at h ⊢
 generalize hs4 : Xt (Xs b XO) m.toNat s3 = x4 at *
 obtain ⟨es, s4⟩ := x4
 simp only at h ⊢
 have e4 : s4.e = 0 ∧ ¬ s4.k < b.length := by
  unfold Vg at h
  by_cases q : s4.e = 0 ∧ s4.k < b.length
  ·rw [if_pos q] at h; simp [Rd.put] at h
  ·rw [if_neg q] at h; exact ⟨h, fun z => q ⟨h, z⟩⟩
 have back : ∀ {α : Type} {f : Rd → α × Rd} {k : Nat} {s s' : Rd} {l : List α}, Xt f k s = (l, s') → s'.e = 0 → s.e = 0 := by
  intro α f k s s' l hm he
  by_cases q : s.e = 0
  ·exact q
  ·rw [X1e q] at hm
   simp only [Prod.mk.injEq] at hm
   rw [← hm.2] at he
   exact he
 have e3 := back hs4 e4.1
 have e2 := back hs3 e3
 have e1 := back hs2 e2
 rw [X1x] at hs1
 obtain ⟨e0, o1, k1, d1⟩ := Xaj X5g Xdo (b := b) (s := ⟨0, [], 0, e⟩) (Nat.zero_le _) (by rw [hs1]; exact e1)
 rw [hs1] at o1 k1 d1
 obtain ⟨_, l2, _, k2, d2⟩ := X4f X0E X9G (b := b) r.toNat s1 k1 (by rw [hs2]; exact e2)
 rw [hs2] at l2 k2 d2
 obtain ⟨_, l3, _, k3, d3⟩ := X4f X0P Xe8 (b := b) n.toNat s2 k2 (by rw [hs3]; exact e3)
 rw [hs3] at l3 k3 d3
 obtain ⟨_, l4, _, k4, d4⟩ := X4f X0S XdF (b := b) m.toNat s3 k3 (by rw [hs4]; exact e4.1)
 rw [hs4] at l4 k4 d4
 simp only at o1 k1 d1 l2 k2 d2 l3 k3 d3 l4 k4 d4
 refine ⟨e0, ?_⟩
 have hr : r = (rs.length : Nat) := by have := o1.2.2.1.1; simp only at this; omega
 have hn : n = (ns.length : Nat) := by have := o1.2.2.2.1.1; simp only at this; omega
 have hm : m = (es.length : Nat) := by have := o1.2.2.2.2.1; simp only at this; omega
 have hend : b.drop s4.k = [] := List.drop_of_length_le (by omega)
 rw [hend] at d4
 rw [d4] at d3
 rw [d3] at d2
 rw [d2, hr, hn, hm, X7U] at d1
 rw [List.drop_zero] at d1
 rw [d1]
 simp [XL, V0]
theorem X8F {b : List UInt8} {g : Gra} {rs : List Rul} (h : YA b = (g, rs, 0)) : Yy g rs = 0 ∧ Yz g rs = b := by
 unfold YA at h
 simp only at h
 generalize hx : U7 (b.drop 4) ⟨0, [], 0, if b.take 4 = Xw then 0 else 2⟩ = x at h
 have ho := XfT (b := b.drop 4) (e := if b.take 4 = Xw then 0 else 2)
 rw [hx] at ho
 obtain ⟨⟨g', rs'⟩, s⟩ := x
 simp only at h ho
 by_cases h1 : s.e = 0
 ·by_cases h2 : Yh g' = 0
  ·by_cases h3 : Uj rs' = false
   ·simp [h1, h2, h3] at h
   ·simp only [h1, h2, h3, ne_eq, not_true_eq_false, if_false, Prod.mk.injEq, and_true, Bool.false_eq_true, ite_false] at h
    obtain ⟨rfl, rfl⟩ := h
    obtain ⟨o1, o2⟩ := ho h1
    refine ⟨?_, ?_⟩
    ·unfold Yy
     rw [if_neg (by simp [h2]), if_neg h3]
    ·unfold Yz
     rw [o2]
     by_cases ht : b.take 4 = Xw
     ·rw [← ht, List.take_append_drop]
     ·rw [if_neg ht] at o1; simp at o1
  ·simp [h1, h2] at h
 ·simp [h1] at h
end Go.Fw
namespace Go.Fw
open Go
set_option linter.unusedVariables false
theorem X6c {g : Gra} {rs : List Rul} (h : Yy g rs = 0) : (Yz g rs).length ≤ 500000000 := by
 obtain ⟨h1, h2⟩ := X6Z h
 have G := X3g h1
 have S := X3Y h2
 have n1 := G.nl
 have n2 := G.el
 have n3 := S.1
 have n4 := G.nn
 have n5 := G.ne
 refine Nat.le_trans (X40 (L := V0 g rs) (k := 3000) (n := 6100) (fun b hb => ?_) (by omega) ?_) (by omega)
 ·unfold V0 at hb
  simp only [List.mem_append, List.mem_cons, List.mem_map] at hb
  rcases hb with rfl | (⟨r, hr, rfl⟩ | ⟨n, hn, rfl⟩) | ⟨e, he, rfl⟩
  ·have := X2W (l := [g.nn, g.ne, (rs.length : Nat), (g.nodes.length : Nat), (g.edges.length : Nat)]) fun x hx => by
    simp only [List.mem_cons, List.mem_nil_iff, or_false] at hx
    rcases hx with rfl | rfl | rfl | rfl | rfl <;> omega
   simp only [List.length_cons, List.length_nil] at this
   omega
  ·have := (S.2 r hr).2; omega
  ·have := (G.nodes n hn).2; omega
  ·have := (G.edges e he).2; omega
 ·unfold V0
  simp only [List.length_append, List.length_map, List.length_cons]
  omega
end Go.Fw

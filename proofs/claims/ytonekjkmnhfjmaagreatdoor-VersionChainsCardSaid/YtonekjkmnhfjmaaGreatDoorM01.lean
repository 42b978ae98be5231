/- A small separation calculus over the model: immutable data, owned boxes and rows. First part: data, abstract values, the invariant. -/
import Derived.Calls
import Derived.Orders
import Derived.Laws.Entries
import Derived.Laws.Rows
import Derived.RowKit3
namespace Go.Fw
open Go
abbrev Mem := Addr → Option Value
inductive D where
 | v (x : Value)
 | sl (sz : Nat) (xs : List (List D))
mutual
def D.rep (M : Mem) : D → Value → Prop
 | .v x, u => u = x ∧ x.oneCell' = true
 | .sl sz xs, u => ∃ (a : Option Addr) (cap : Nat), u = .slice a xs.length cap ∧ xs.length ≤ cap ∧ cap ≤ maxLen ∧
   (xs = [] ∨ ∃ b o, a = some ⟨b, o, none⟩ ∧ Ud M sz xs b o)
def YH (M : Mem) : List D → Nat → Nat → Prop
 | [], _, _ => True
 | d :: ds, b, o => (∃ u, M ⟨b, o, none⟩ = some u ∧ D.rep M d u) ∧ YH M ds b (o + 1)
def Ud (M : Mem) (sz : Nat) : List (List D) → Nat → Nat → Prop
 | [], _, _ => True
 | r :: rs, b, o => r.length = sz ∧ YH M r b o ∧ Ud M sz rs b (o + sz)
end
def XQ (M M' : Mem) : Prop := ∀ a v, M a = some v → M' a = some v
theorem XQ.refl (M : Mem) : XQ M M := fun _ _ h => h
theorem XQ.trans {A B C : Mem} (h : XQ A B) (k : XQ B C) : XQ A C := fun _ _ x => k _ _ (h _ _ x)
mutual
theorem D.rep_mono {M M' : Mem} (h : XQ M M') : ∀ (d : D) (u : Value), d.rep M u → d.rep M' u
 | .v x, u, hr => by simpa only [D.rep] using hr
 | .sl sz xs, u, hr => by
  simp only [D.rep] at hr ⊢
  obtain ⟨a, cap, h1, h2, h3, h4⟩ := hr
  refine ⟨a, cap, h1, h2, h3, ?_⟩
  rcases h4 with h4 | ⟨b, o, h5, h6⟩
  ·exact .inl h4
  ·exact .inr ⟨b, o, h5, Xb7 h sz xs b o h6⟩
theorem X5q {M M' : Mem} (h : XQ M M') : ∀ (ds : List D) (b o : Nat), YH M ds b o → YH M' ds b o
 | [], _, _, _ => by simp only [YH]
 | d :: ds, b, o, hr => by
  simp only [YH] at hr ⊢
  obtain ⟨⟨u, h1, h2⟩, h3⟩ := hr
  exact ⟨⟨u, h _ _ h1, D.rep_mono h d u h2⟩, X5q h ds b (o + 1) h3⟩
theorem Xb7 {M M' : Mem} (h : XQ M M') (sz : Nat) : ∀ (xs : List (List D)) (b o : Nat), Ud M sz xs b o → Ud M' sz xs b o
 | [], _, _, _ => by simp only [Ud]
 | r :: rs, b, o, hr => by
  simp only [Ud] at hr ⊢
  exact ⟨hr.1, X5q h r b o hr.2.1, Xb7 h sz rs b (o + sz) hr.2.2⟩
end
theorem X2d {M : Mem} : ∀ (ds : List D) (b o i : Nat) (d : D), YH M ds b o → ds[i]? = some d → ∃ u, M ⟨b, o + i, none⟩ = some u ∧ d.rep M u
 | [], _, _, _, _, _, h => by simp at h
 | e :: ds, b, o, 0, d, hr, h => by
  simp only [YH] at hr
  simp at h; subst h
  exact hr.1
 | e :: ds, b, o, i + 1, d, hr, h => by
  simp only [YH] at hr
  have := X2d ds b (o + 1) i d hr.2 (by simpa using h)
  rwa [show o + 1 + i = o + (i + 1) by omega] at this
theorem X24 {M : Mem} : ∀ (ds : List D) (b o : Nat), (∀ i d, ds[i]? = some d → ∃ u, M ⟨b, o + i, none⟩ = some u ∧ d.rep M u) → YH M ds b o
 | [], _, _, _ => by simp only [YH]
 | e :: ds, b, o, h => by
  simp only [YH]
  refine ⟨by simpa using h 0 e (by simp), X24 ds b (o + 1) fun i d hd => ?_⟩
  have := h (i + 1) d (by simpa using hd)
  rwa [show o + (i + 1) = o + 1 + i by omega] at this
theorem XeY {M : Mem} {ds : List D} {b o : Nat} (h : YH M ds b o) (k : Nat) : YH M (ds.drop k) b (o + k) := by
 refine X24 _ _ _ fun i d hd => ?_
 rw [List.getElem?_drop] at hd
 have := X2d ds b o (k + i) d h hd
 rwa [show o + (k + i) = o + k + i by omega] at this
theorem XbY {M : Mem} {ds : List D} {b o : Nat} (h : YH M ds b o) (k : Nat) : YH M (ds.take k) b o := by
 refine X24 _ _ _ fun i d hd => ?_
 rw [List.getElem?_take] at hd
 split at hd
 ·exact X2d ds b o i d h hd
 ·simp at hd
theorem Xf5 {M : Mem} {ds es : List D} {b o : Nat} (h : YH M ds b o) (h' : YH M es b (o + ds.length)) : YH M (ds ++ es) b o := by
 refine X24 _ _ _ fun i d hd => ?_
 rw [List.getElem?_append] at hd
 split at hd
 ·exact X2d ds b o i d h hd
 ·have := X2d es b _ _ d h' hd
  rwa [show o + ds.length + (i - ds.length) = o + i by omega] at this
theorem X1f {M : Mem} {sz : Nat} : ∀ (xs : List (List D)) (b o i : Nat) (r : List D), Ud M sz xs b o → xs[i]? = some r → r.length = sz ∧ YH M r b (o + i * sz)
 | [], _, _, _, _, _, h => by simp at h
 | e :: xs, b, o, 0, r, hr, h => by
  simp only [Ud] at hr
  simp at h; subst h
  exact ⟨hr.1, by simpa using hr.2.1⟩
 | e :: xs, b, o, i + 1, r, hr, h => by
  simp only [Ud] at hr
  have := X1f xs b (o + sz) i r hr.2.2 (by simpa using h)
  rwa [show o + sz + i * sz = o + (i + 1) * sz by rw [Nat.add_mul]; omega] at this
theorem X4i {M : Mem} {sz : Nat} : ∀ (xs : List (List D)) (b o : Nat), (∀ i r, xs[i]? = some r → r.length = sz ∧ YH M r b (o + i * sz)) → Ud M sz xs b o
 | [], _, _, _ => by simp only [Ud]
 | e :: xs, b, o, h => by
  simp only [Ud]
  have h0 := h 0 e (by simp)
  refine ⟨h0.1, by simpa using h0.2, X4i xs b (o + sz) fun i r hr => ?_⟩
  have := h (i + 1) r (by simpa using hr)
  rwa [show o + (i + 1) * sz = o + sz + i * sz by rw [Nat.add_mul]; omega] at this
theorem Xer {M : Mem} {sz : Nat} {xs : List (List D)} {b o : Nat} (h : Ud M sz xs b o) (k : Nat) : Ud M sz (xs.drop k) b (o + k * sz) := by
 refine X4i _ _ _ fun i r hr => ?_
 rw [List.getElem?_drop] at hr
 have := X1f xs b o (k + i) r h hr
 rwa [show o + (k + i) * sz = o + k * sz + i * sz by rw [Nat.add_mul]; omega] at this
theorem X7W {M : Mem} {sz : Nat} {xs : List (List D)} {b o : Nat} (h : Ud M sz xs b o) (k : Nat) : Ud M sz (xs.take k) b o := by
 refine X4i _ _ _ fun i r hr => ?_
 rw [List.getElem?_take] at hr
 split at hr
 ·exact X1f xs b o i r h hr
 ·simp at hr
inductive AVal where
 | any
 | d (x : D)
 | ptr (γ o : Nat)
 | own (γ n : Nat)
 | rptr (γ n o : Nat)
 | inn (γ i : Nat)
 | bsl (γ n : Nat)
 | rs (γ o n c : Nat)
 | mptr (γ n i : Nat)
 | cut (γ n k sz : Nat)
 | dptr (row : List D)
 | dx (sz : Nat) (xs : List (List D))
 | bq (p q : Prop)
 | agg (cs : List AVal)
 | tup (vs : List AVal)
 | fn (f : FuncId) (caps : List AVal)
structure Gh where
 blk : Nat → Nat
 hd : Nat → Value
 ihd : Nat → Nat → Value
 M : Mem
mutual
def AVal.sat (g : Gh) : AVal → Value → Prop
 | .any, _ => True
 | .d x, u => x.rep g.M u
 | .ptr γ o, u => u = .pointer (some ⟨g.blk γ, o, none⟩)
 | .own γ n, u => u.oneCell' = true ∧ ∃ a m c, g.hd γ = .slice a m c ∧ n ≤ m ∧ (n = m → u = .slice a m c)
 | .rptr γ n o, u => u.oneCell' = true ∧ ∃ a m c, g.hd γ = .slice a m c ∧ n ≤ m ∧ (n = m → ∃ b, a = some b ∧ u = .pointer (some ⟨b.block, o, none⟩))
 | .bsl γ n, u => u = .slice (some ⟨g.blk γ, 0, none⟩) n n
 | .rs γ o n c, u => u = .slice (some ⟨g.blk γ, o, none⟩) n c
 | .inn γ i, u => u.oneCell' = true ∧ u = g.ihd γ i ∧ ∃ a m c, g.hd γ = .slice a m c ∧ i < m
 | .mptr γ n i, u => u.oneCell' = true ∧ ∃ a m c, g.hd γ = .slice a m c ∧ n ≤ m ∧ (n = m → ∃ b, a = some b ∧ u = .pointer (some ⟨b.block, i, none⟩))
 | .cut γ n k sz, u => u.oneCell' = true ∧ ∃ a m c, g.hd γ = .slice a m c ∧ n ≤ m ∧ (n = m → u = .slice (if c = k then a else a.map fun p => p.add (k * sz)) (n - k) (c - k))
 | .dptr row, u => ∃ b o, u = .pointer (some ⟨b, o, none⟩) ∧ YH g.M row b o
 | .dx sz xs, u => ∃ a, u = .slice a xs.length xs.length ∧ (D.sl sz xs).rep g.M u
 | .bq p q, u => ∃ b : Bool, u = .bool b ∧ (b = true → p) ∧ (b = false → q)
 | .agg cs, u => ∃ vs, u = .agg vs ∧ Xk g cs vs.toList
 | .tup cs, u => ∃ vs, u = .tuple vs ∧ Xk g cs vs.toList
 | .fn f cs, u => ∃ vs, u = .func (.func f) #[] vs ∧ Xk g cs vs.toList
def Xk (g : Gh) : List AVal → List Value → Prop
 | [], [] => True
 | x :: xs, u :: us => x.sat g u ∧ Xk g xs us
 | _, _ => False
end
mutual
def AVal.ment (γ : Nat) : AVal → Bool
 | .ptr k _ => Nat.beq k γ
 | .own k _ => Nat.beq k γ
 | .rptr k _ _ => Nat.beq k γ
 | .inn k _ => Nat.beq k γ
 | .bsl k _ => Nat.beq k γ
 | .rs k _ _ _ => Nat.beq k γ
 | .mptr k _ _ => Nat.beq k γ
 | .cut k _ _ _ => Nat.beq k γ
 | .agg cs => YT γ cs
 | .tup cs => YT γ cs
 | .fn _ cs => YT γ cs
 | .any => false
 | .d _ => false
 | .dptr _ => false
 | .dx _ _ => false
 | .bq _ _ => false
def YT (γ : Nat) : List AVal → Bool
 | [] => false
 | x :: xs => x.ment γ || YT γ xs
end
def Gh.keeps (g g' : Gh) (γ : Nat) : Prop :=
 g'.blk γ = g.blk γ ∧ (g'.hd γ = g.hd γ ∨ ∃ a m c a' m' c', g.hd γ = .slice a m c ∧ g'.hd γ = .slice a' m' c' ∧ m < m') ∧
  ∀ i a m c, g.hd γ = .slice a m c → i < m → g'.ihd γ i = g.ihd γ i
theorem Gh.keeps_refl (g : Gh) (γ : Nat) : g.keeps g γ := ⟨rfl, .inl rfl, fun _ _ _ _ _ _ => rfl⟩
theorem Gh.keeps_of {g g' : Gh} {γ : Nat} (h1 : g'.blk γ = g.blk γ) (h2 : g'.hd γ = g.hd γ) (h3 : g'.ihd γ = g.ihd γ) : g.keeps g' γ := ⟨h1, .inl h2, fun i _ _ _ _ _ => by rw [h3]⟩
theorem Gh.keeps_trans {g g' g'' : Gh} {γ : Nat} (h : g.keeps g' γ) (k : g'.keeps g'' γ) : g.keeps g'' γ := by
 refine ⟨k.1.trans h.1, ?_, fun i a m c ha hi => ?_⟩
 ·rcases h.2.1 with e | ⟨a, m, c, a', m', c', e1, e2, e3⟩
  ·rw [← e]; exact k.2.1
  ·rcases k.2.1 with e | ⟨b, n, d, b', n', d', f1, f2, f3⟩
   ·exact .inr ⟨a, m, c, a', m', c', e1, e.trans e2, e3⟩
   ·rw [e2] at f1; cases f1
    exact .inr ⟨a, m, c, b', n', d', e1, f2, by omega⟩
 ·refine Eq.trans ?_ (h.2.2 i a m c ha hi)
  rcases h.2.1 with e | ⟨a', m', c', a'', m'', c'', e1, e2, e3⟩
  ·exact k.2.2 i a m c (e.trans ha) hi
  ·rw [ha] at e1; cases e1
   exact k.2.2 i _ _ _ e2 (by omega)
mutual
theorem AVal.sat_mono {g g' : Gh} (h : XQ g.M g'.M) : ∀ (x : AVal) (u : Value), (∀ γ, x.ment γ = true → g.keeps g' γ) → x.sat g u → x.sat g' u
 | .any, _, _, _ => by simp only [AVal.sat]
 | .d x, u, _, hs => by simp only [AVal.sat] at hs ⊢; exact D.rep_mono h x u hs
 | .ptr γ o, u, hk, hs => by
  simp only [AVal.sat] at hs ⊢
  rw [(hk γ (by simp [AVal.ment])).1]; exact hs
 | .own γ n, u, hk, hs => by
  simp only [AVal.sat] at hs ⊢
  obtain ⟨h1, a, m, c, h2, h3, h4⟩ := hs
  refine ⟨h1, ?_⟩
  rcases (hk γ (by simp [AVal.ment])).2.1 with e | ⟨a0, m0, c0, a', m', c', e1, e2, e3⟩
  ·exact ⟨a, m, c, e.trans h2, h3, h4⟩
  ·rw [h2] at e1; cases e1
   exact ⟨a', m', c', e2, by omega, fun e => by omega⟩
 | .rptr γ n o, u, hk, hs => by
  simp only [AVal.sat] at hs ⊢
  obtain ⟨h1, a, m, c, h2, h3, h4⟩ := hs
  refine ⟨h1, ?_⟩
  rcases (hk γ (by simp [AVal.ment])).2.1 with e | ⟨a0, m0, c0, a', m', c', e1, e2, e3⟩
  ·exact ⟨a, m, c, e.trans h2, h3, h4⟩
  ·rw [h2] at e1; cases e1
   exact ⟨a', m', c', e2, by omega, fun e => by omega⟩
 | .bsl γ n, u, hk, hs => by
  simp only [AVal.sat] at hs ⊢
  rw [(hk γ (by simp [AVal.ment])).1]; exact hs
 | .rs γ o n c, u, hk, hs => by
  simp only [AVal.sat] at hs ⊢
  rw [(hk γ (by simp [AVal.ment])).1]; exact hs
 | .inn γ i, u, hk, hs => by
  simp only [AVal.sat] at hs ⊢
  obtain ⟨h1, h2, a, m, c, h3, h4⟩ := hs
  have hkk := hk γ (by simp [AVal.ment])
  refine ⟨h1, h2.trans (hkk.2.2 i a m c h3 h4).symm, ?_⟩
  rcases hkk.2.1 with e | ⟨a0, m0, c0, a', m', c', e1, e2, e3⟩
  ·exact ⟨a, m, c, e.trans h3, h4⟩
  ·rw [h3] at e1; cases e1
   exact ⟨a', m', c', e2, by omega⟩
 | .mptr γ n i, u, hk, hs => by
  simp only [AVal.sat] at hs ⊢
  obtain ⟨h1, a, m, c, h2, h3, h4⟩ := hs
  refine ⟨h1, ?_⟩
  rcases (hk γ (by simp [AVal.ment])).2.1 with e | ⟨a0, m0, c0, a', m', c', e1, e2, e3⟩
  ·exact ⟨a, m, c, e.trans h2, h3, h4⟩
  ·rw [h2] at e1; cases e1
   exact ⟨a', m', c', e2, by omega, fun e => by omega⟩
 | .cut γ n k sz, u, hk, hs => by
  simp only [AVal.sat] at hs ⊢
  obtain ⟨h1, a, m, c, h2, h3, h4⟩ := hs
  refine ⟨h1, ?_⟩
  rcases (hk γ (by simp [AVal.ment])).2.1 with e | ⟨a0, m0, c0, a', m', c', e1, e2, e3⟩
  ·exact ⟨a, m, c, e.trans h2, h3, h4⟩
  ·rw [h2] at e1; cases e1
   exact ⟨a', m', c', e2, by omega, fun e => by omega⟩
 | .dptr row, u, _, hs => by
  simp only [AVal.sat] at hs ⊢
  obtain ⟨b, o, h1, h2⟩ := hs
  exact ⟨b, o, h1, X5q h _ _ _ h2⟩
 | .bq p q, u, _, hs => by simp only [AVal.sat] at hs ⊢; exact hs
 | .dx sz xs, u, _, hs => by
  simp only [AVal.sat] at hs ⊢
  obtain ⟨a, h1, h2⟩ := hs
  exact ⟨a, h1, D.rep_mono h _ _ h2⟩
 | .agg cs, u, hk, hs => by
  simp only [AVal.sat] at hs ⊢
  obtain ⟨vs, h1, h2⟩ := hs
  exact ⟨vs, h1, Vo h cs _ (fun γ hm => hk γ (by simpa only [AVal.ment] using hm)) h2⟩
 | .tup cs, u, hk, hs => by
  simp only [AVal.sat] at hs ⊢
  obtain ⟨vs, h1, h2⟩ := hs
  exact ⟨vs, h1, Vo h cs _ (fun γ hm => hk γ (by simpa only [AVal.ment] using hm)) h2⟩
 | .fn f cs, u, hk, hs => by
  simp only [AVal.sat] at hs ⊢
  obtain ⟨vs, h1, h2⟩ := hs
  exact ⟨vs, h1, Vo h cs _ (fun γ hm => hk γ (by simpa only [AVal.ment] using hm)) h2⟩
theorem Vo {g g' : Gh} (h : XQ g.M g'.M) : ∀ (xs : List AVal) (us : List Value), (∀ γ, YT γ xs = true → g.keeps g' γ) → Xk g xs us → Xk g' xs us
 | [], [], _, _ => by simp only [Xk]
 | [], _ :: _, _, hs => by simp only [Xk] at hs
 | _ :: _, [], _, hs => by simp only [Xk] at hs
 | x :: xs, u :: us, hk, hs => by
  simp only [Xk] at hs ⊢
  exact ⟨AVal.sat_mono h x u (fun γ hm => hk γ (by simp [YT, hm])) hs.1, Vo h xs us (fun γ hm => hk γ (by simp [YT, hm])) hs.2⟩
end
def AVal.cellish : AVal → Bool
 | .any => false
 | .agg _ => false
 | .tup _ => false
 | _ => true
theorem D.rep_one {M : Mem} {d : D} {u : Value} (h : d.rep M u) : u.oneCell' = true := by
 cases d with
 | v x => simp only [D.rep] at h; rw [h.1]; exact h.2
 | sl sz xs => simp only [D.rep] at h; obtain ⟨a, cap, rfl, _⟩ := h; rfl
theorem AVal.sat_one {g : Gh} {x : AVal} {u : Value} (hc : x.cellish = true) (h : x.sat g u) : u.oneCell' = true := by
 cases x with
 | any => simp [AVal.cellish] at hc
 | agg _ => simp [AVal.cellish] at hc
 | tup _ => simp [AVal.cellish] at hc
 | d x => simp only [AVal.sat] at h; exact D.rep_one h
 | ptr γ o => simp only [AVal.sat] at h; rw [h]; rfl
 | own γ n => simp only [AVal.sat] at h; exact h.1
 | rptr γ n o => simp only [AVal.sat] at h; exact h.1
 | inn γ i => simp only [AVal.sat] at h; exact h.1
 | bsl γ n => simp only [AVal.sat] at h; rw [h]; rfl
 | rs γ o n c => simp only [AVal.sat] at h; rw [h]; rfl
 | mptr γ n i => simp only [AVal.sat] at h; exact h.1
 | cut γ n k sz => simp only [AVal.sat] at h; exact h.1
 | dptr row => simp only [AVal.sat] at h; obtain ⟨b, o, rfl, _⟩ := h; rfl
 | dx sz xs => simp only [AVal.sat] at h; obtain ⟨a, rfl, _⟩ := h; rfl
 | bq p q => simp only [AVal.sat] at h; obtain ⟨b, rfl, _⟩ := h; rfl
 | fn f cs => simp only [AVal.sat] at h; obtain ⟨vs, rfl, _⟩ := h; rfl
theorem Y6 {g : Gh} : ∀ {xs : List AVal} {us : List Value}, Xk g xs us → us.length = xs.length
 | [], [], _ => rfl
 | [], _ :: _, h => by simp only [Xk] at h
 | _ :: _, [], h => by simp only [Xk] at h
 | x :: xs, u :: us, h => by simp only [Xk] at h; simp [Y6 h.2]
theorem YG {g : Gh} : ∀ {xs : List AVal} {us : List Value}, Xk g xs us → ∀ (i : Nat) (x : AVal), xs[i]? = some x → ∃ u, us[i]? = some u ∧ x.sat g u
 | [], [], _, _, _, h => by simp at h
 | [], _ :: _, h, _, _, _ => by simp only [Xk] at h
 | _ :: _, [], h, _, _, _ => by simp only [Xk] at h
 | x :: xs, u :: us, h, 0, y, hy => by simp only [Xk] at h; simp at hy; subst hy; exact ⟨u, by simp, h.1⟩
 | x :: xs, u :: us, h, i + 1, y, hy => by
  simp only [Xk] at h
  simpa using YG h.2 i y (by simpa using hy)
theorem VZ {g : Gh} : ∀ {xs : List AVal} {us : List Value}, us.length = xs.length → (∀ (i : Nat) (x : AVal) (u : Value), xs[i]? = some x → us[i]? = some u → x.sat g u) → Xk g xs us
 | [], [], _, _ => by simp only [Xk]
 | [], _ :: _, h, _ => by simp at h
 | _ :: _, [], h, _ => by simp at h
 | x :: xs, u :: us, h, hs => by
  simp only [Xk]
  exact ⟨hs 0 x u (by simp) (by simp), VZ (by simpa using h) fun i y v hy hv => hs (i + 1) y v (by simpa using hy) (by simpa using hv)⟩
theorem X09 {g : Gh} {xs : List AVal} {us : List Value} (h : Xk g xs us) (k : Nat) : Xk g (xs.drop k) (us.drop k) := by
 have hl := Y6 h
 refine VZ (by simp [hl]) fun i x u hx hu => ?_
 rw [List.getElem?_drop] at hx hu
 obtain ⟨u', h1, h2⟩ := YG h _ _ hx
 rw [h1] at hu; cases hu; exact h2
theorem VO {g : Gh} {xs : List AVal} {us : List Value} (h : Xk g xs us) (k : Nat) : Xk g (xs.take k) (us.take k) := by
 have hl := Y6 h
 refine VZ (by simp [hl]) fun i x u hx hu => ?_
 rw [List.getElem?_take] at hx hu
 split at hx
 ·rename_i hk
  rw [if_pos hk] at hu
  obtain ⟨u', h1, h2⟩ := YG h _ _ hx
  rw [h1] at hu; cases hu; exact h2
 ·simp at hx
theorem Vm {g : Gh} {xs ys : List AVal} {us vs : List Value} (h : Xk g xs us) (h' : Xk g ys vs) : Xk g (xs ++ ys) (us ++ vs) := by
 have hl := Y6 h
 have hl' := Y6 h'
 refine VZ (by simp [hl, hl']) fun i x u hx hu => ?_
 rw [List.getElem?_append] at hx hu
 rw [hl] at hu
 split at hx
 ·rename_i hk
  rw [if_pos hk] at hu
  obtain ⟨u', h1, h2⟩ := YG h _ _ hx
  rw [h1] at hu; cases hu; exact h2
 ·rename_i hk
  rw [if_neg hk] at hu
  obtain ⟨u', h1, h2⟩ := YG h' _ _ hx
  rw [h1] at hu; cases hu; exact h2
inductive NC where
 | d (x : D)
 | r (isz : Nat) (rows : List (List D))
def KK : Nat := 9223372036854775808
abbrev Hd := Value × Nat × List (List D)
def X46 : List NC → List (Nat × List (List D))
 | [] => []
 | .d _ :: r => X46 r
 | .r z rows :: r => (z, rows) :: X46 r
def X40 (us : Nat → Value) : Nat → List (Nat × List (List D)) → List Hd
 | _, [] => []
 | j, p :: r => (us j, p.1, p.2) :: X40 us (j + 1) r
def X0f (us : Nat → Value) (xs : List (List NC)) : List Hd := X40 us KK (X46 xs.flatten)
def U2 : List NC → List D → List Hd → Prop
 | [], [], [] => True
 | .d x :: cs, y :: ds, hs => y = x ∧ U2 cs ds hs
 | .r z rows :: cs, y :: ds, h :: hs => y = .v h.1 ∧ h.2 = (z, rows) ∧ U2 cs ds hs
 | _, _, _ => False
inductive AObj where
 | dead
 | box (cs : List AVal)
 | row (sz : Nat) (xs : List (List D))
 | froz (sz : Nat) (xs : List (List D))
 | mat (sz : Nat) (rows : List (List (List D)))
 | iter (s : ByteArray) (pos : Nat)
 | imap (es : List (Int × Int))
 | nest (sz : Nat) (xs : List (List NC))
 | bag (hs : List Hd)
 | raw (cs : List (Option D)) (ho : Option (Nat × AVal))
def oA : Option D → AVal
 | some d => .d d
 | none => .any
def XA (cs : List (Option D)) : Option (Nat × AVal) → List AVal
 | none => cs.map oA
 | some h => (cs.map oA).set h.1 h.2
def hoL : Option (Nat × AVal) → List AVal
 | none => []
 | some h => [h.2]
theorem Xhb (γ : Nat) (c : Option D) : (oA c).ment γ = false := by cases c <;> rfl
theorem X6b {g g' : Gh} (hM : XQ g.M g'.M) {cs : List (Option D)} {ho : Option (Nat × AVal)} {us : List Value} (hsat : ∀ vs, Xk g (hoL ho) vs → Xk g' (hoL ho) vs) (h : Xk g (XA cs ho) us) : Xk g' (XA cs ho) us := by
 refine VZ (Y6 h) fun i x u hx hu => ?_
 obtain ⟨u', h1, h2⟩ := YG h i x hx
 rw [h1] at hu; cases hu
 have plain : (∃ c, x = oA c) → x.sat g' u := by
  rintro ⟨c, rfl⟩
  exact AVal.sat_mono hM _ _ (fun γ hm => by rw [Xhb] at hm; simp at hm) h2
 cases ho with
 | none =>
  simp only [XA, List.getElem?_map, Option.map_eq_some_iff] at hx
  obtain ⟨c, _, rfl⟩ := hx
  exact plain ⟨c, rfl⟩
 | some q =>
  simp only [XA] at hx
  rw [List.getElem?_set] at hx
  split at hx
  ·split at hx
   ·cases hx
    have := hsat [u] (by simp only [hoL, Xk, and_true]; exact h2)
    simp only [hoL, Xk, and_true] at this
    exact this
   ·cases hx
  ·simp only [List.getElem?_map, Option.map_eq_some_iff] at hx
   obtain ⟨c, _, rfl⟩ := hx
   exact plain ⟨c, rfl⟩
def AObj.says : AObj → List AVal
 | .box cs => cs
 | .raw _ ho => hoL ho
 | _ => []
def AObj.ment (γ : Nat) (x : AObj) : Bool := YT γ x.says
def X17 (fr : Nat × Nat) (n : Nat) : Prop := ∀ i, i < n + 1 → ¬ (fr.1 ≤ i ∧ i < fr.2)
def Yp (g : Gh) (w : World) (h : Value) (sz : Nat) (xs : List (List D)) : Prop :=
 (∀ x ∈ xs, x.length = sz) ∧
  ((h = .slice none 0 0 ∧ xs = []) ∨
  ∃ b cap vs e fr, h = .slice (some ⟨b, 0, none⟩) xs.length cap ∧ xs.length ≤ cap ∧ cap ≤ maxLen ∧
   w.heap[b]? = some (.cells vs e fr) ∧ X17 fr vs.size ∧ cap * sz ≤ vs.size ∧
   Xk g (xs.flatten.map .d) (vs.toList.take (xs.length * sz)))
def Ym (h : Value) (b : Nat) : Prop := ∃ a n c, h = .slice (some a) n c ∧ a.block = b
def X5X (g : Gh) (w : World) (γ sz : Nat) (rows : List (List (List D))) : Prop :=
 ((g.hd γ = .slice none 0 0 ∧ rows = []) ∨
 ∃ b cap vs e fr, g.hd γ = .slice (some ⟨b, 0, none⟩) rows.length cap ∧ rows.length ≤ cap ∧ cap ≤ maxLen ∧
  w.heap[b]? = some (.cells vs e fr) ∧ X17 fr vs.size ∧ cap ≤ vs.size ∧ (∀ i, i < rows.length → vs[i]? = some (g.ihd γ i)) ∧
  ∀ i, i < rows.length → ¬ Ym (g.ihd γ i) b) ∧
 (∀ i r, rows[i]? = some r → Yp g w (g.ihd γ i) sz r) ∧
 ∀ i j b, i < rows.length → j < rows.length → Ym (g.ihd γ i) b → Ym (g.ihd γ j) b → i = j
def Xgh (ms : Array MapEntry) (es : List (Int × Int)) : Prop := ms.toList.map (fun e => (e.key, e.val)) = es.map fun p => (Value.int .i64 p.1, Value.int .i64 p.2)
def Ve (g : Gh) (w : World) (hs : List Hd) : Prop :=
 (∀ h ∈ hs, Yp g w h.1 h.2.1 h.2.2) ∧ hs.Pairwise fun h k => ∀ b, Ym h.1 b → ¬ Ym k.1 b
def X5z (g : Gh) (w : World) (γ sz : Nat) (xs : List (List NC)) : Prop :=
 (∃ rows, rows.length = xs.length ∧ U2 xs.flatten rows.flatten (X0f (g.ihd γ) xs) ∧ Yp g w (g.hd γ) sz rows) ∧
 Ve g w (X0f (g.ihd γ) xs) ∧ ∀ h ∈ X0f (g.ihd γ) xs, ∀ b, Ym h.1 b → ¬ Ym (g.hd γ) b
def Y7 (g : Gh) (w : World) (γ : Nat) : AObj → Prop
 | .dead => True
 | .box cs => ∃ vs e fr, w.heap[g.blk γ]? = some (.cells vs e fr) ∧ X17 fr vs.size ∧ Xk g cs vs.toList ∧ ∀ c ∈ cs, c.cellish = true
 | .row sz xs => Yp g w (g.hd γ) sz xs
 | .froz sz xs => (D.sl sz xs).rep g.M (g.hd γ)
 | .mat sz rows => X5X g w γ sz rows
 | .iter s pos => w.heap[g.blk γ]? = some (.stringIter s pos)
 | .imap es => (g.hd γ = .slice none 1 1 ∧ g.ihd γ 0 = .map (some (g.blk γ))) ∧ ∃ ms clock, w.heap[g.blk γ]? = some (.map ms clock) ∧ Xgh ms es
 | .nest sz xs => X5z g w γ sz xs
 | .bag hs => Ve g w hs
 | .raw cs ho => ∃ vs e fr, w.heap[g.blk γ]? = some (.cells vs e fr) ∧ X17 fr vs.size ∧ Xk g (XA cs ho) vs.toList
def Xr (g : Gh) : AObj → Nat → Nat → Prop
 | .dead, _, _ => False
 | .froz _ _, _, _ => False
 | .box _, γ, b => g.blk γ = b
 | .iter _ _, γ, b => g.blk γ = b
 | .imap _, γ, b => g.blk γ = b
 | .row _ _, γ, b => Ym (g.hd γ) b
 | .mat _ rows, γ, b => Ym (g.hd γ) b ∨ ∃ i, i < rows.length ∧ Ym (g.ihd γ i) b
 | .nest _ xs, γ, b => Ym (g.hd γ) b ∨ ∃ h ∈ X0f (g.ihd γ) xs, Ym h.1 b
 | .bag hs, _, b => ∃ h ∈ hs, Ym h.1 b
 | .raw _ _, γ, b => g.blk γ = b
theorem X0K {g g' : Gh} {γ : Nat} (hb : g'.blk γ = g.blk γ) (hh : g'.hd γ = g.hd γ) (hi : g'.ihd γ = g.ihd γ) (x : AObj) (b : Nat) : Xr g' x γ b ↔ Xr g x γ b := by
 cases x <;> simp only [Xr, hb, hh, hi]
theorem X5Y (γ : Nat) : ∀ l : List D, YT γ (l.map .d) = false
 | [] => rfl
 | x :: l => by simp [YT, AVal.ment, X5Y γ l]
theorem X1m {g g' : Gh} {w w' : World} (hM : XQ g.M g'.M) {h : Value} {sz : Nat} {xs : List (List D)} (hheap : ∀ b, Ym h b → w'.heap[b]? = w.heap[b]?) (hr : Yp g w h sz xs) : Yp g' w' h sz xs := by
 refine ⟨hr.1, ?_⟩
 rcases hr.2 with h' | ⟨b, cap, vs, e, fr, h1, h2, h3, h4, h5, h6, h7⟩
 ·exact .inl h'
 ·refine .inr ⟨b, cap, vs, e, fr, h1, h2, h3, ?_, h5, h6, Vo hM _ _ (fun γ hm => by rw [X5Y] at hm; simp at hm) h7⟩
  rw [hheap b ⟨_, _, _, h1, rfl⟩]; exact h4
theorem X4Q {g g' : Gh} {w w' : World} (hM : XQ g.M g'.M) {hs : List Hd} (hheap : ∀ b, (∃ h ∈ hs, Ym h.1 b) → w'.heap[b]? = w.heap[b]?) (h : Ve g w hs) : Ve g' w' hs :=
 ⟨fun k hk => X1m hM (fun b hb => hheap b ⟨k, hk, hb⟩) (h.1 k hk), h.2⟩
theorem X2f {g g' : Gh} {w w' : World} {γ : Nat} (hM : XQ g.M g'.M) (hb : g'.blk γ = g.blk γ) (hh : g'.hd γ = g.hd γ) (hi : g'.ihd γ = g.ihd γ) {x : AObj}
  (hheap : ∀ b, Xr g x γ b → w'.heap[b]? = w.heap[b]?) (hsat : ∀ cs us, x.says = cs → Xk g cs us → Xk g' cs us) (h : Y7 g w γ x) : Y7 g' w' γ x := by
 cases x with
 | dead => trivial
 | froz sz xs => simp only [Y7] at h ⊢; rw [hh]; exact D.rep_mono hM _ _ h
 | iter s p =>
  simp only [Y7] at h ⊢
  rw [hb, hheap _ rfl]; exact h
 | imap es =>
  simp only [Y7] at h ⊢
  rw [hb, hh, hi, hheap _ rfl]; exact h
 | box cs =>
  obtain ⟨vs, e, fr, h1, h2, h3, h4⟩ := h
  refine ⟨vs, e, fr, ?_, h2, hsat cs _ rfl h3, h4⟩
  rw [hb, hheap _ rfl]; exact h1
 | row sz xs =>
  simp only [Y7] at h ⊢
  rw [hh]; exact X1m hM (fun b hb' => hheap b hb') h
 | bag hs => exact X4Q hM hheap h
 | raw cs ho =>
  obtain ⟨vs, e, fr, h1, h2, h3⟩ := h
  refine ⟨vs, e, fr, ?_, h2, X6b hM (fun us hu => hsat _ us rfl hu) h3⟩
  rw [hb, hheap _ rfl]; exact h1
 | nest sz xs =>
  simp only [Y7, X5z] at h ⊢
  rw [hh, hi]
  obtain ⟨⟨rows, h1, h2, h3⟩, h4, h5⟩ := h
  exact ⟨⟨rows, h1, h2, X1m hM (fun b hb' => hheap b (.inl hb')) h3⟩, X4Q hM (fun b hb' => hheap b (.inr hb')) h4, h5⟩
 | mat sz rows =>
  simp only [Y7, X5X] at h ⊢
  rw [hh, hi]
  refine ⟨?_, fun i r hr => X1m hM (fun b hb' => hheap b (.inr ⟨i, (List.getElem?_eq_some_iff.1 hr).1, hb'⟩)) (h.2.1 i r hr), h.2.2⟩
  rcases h.1 with h' | ⟨b, cap, vs, e, fr, h1, h2, h3, h4, h5, h6, h7⟩
  ·exact .inl h'
  ·refine .inr ⟨b, cap, vs, e, fr, h1, h2, h3, ?_, h5, h6, h7⟩
   rw [hheap b (.inl ⟨_, _, _, h1, rfl⟩)]; exact h4
structure Env where
 W : World
 M : Mem
 A : Nat → Prop
 g0 : Gh
 ds : List Deferred := []
structure Inv (E : Env) (L : Nat → AObj) (g : Gh) (w : World) : Prop where
 obj : ∀ γ, Y7 g w γ (L γ)
 inj : ∀ γ γ' b, Xr g (L γ) γ b → Xr g (L γ') γ' b → γ = γ'
 mem : ∀ a v, g.M a = some v → w.cell? a = some v
 sep : ∀ γ b, Xr g (L γ) γ b → ∀ a v, g.M a = some v → a.block ≠ b
 new : ∀ γ b, Xr g (L γ) γ b → E.W.heap.size ≤ b ∨ E.A b
 ext : XQ E.M g.M
 lim : ∀ a v, g.M a = some v → (∃ v', E.M a = some v') ∨ E.W.heap.size ≤ a.block ∨ E.A a.block
 frame : ∀ b, b < E.W.heap.size → ¬ E.A b → w.heap[b]? = E.W.heap[b]?
 size : E.W.heap.size ≤ w.heap.size
 os : w.os = E.W.os
 out : w.output = E.W.output
 kp : ∀ γ, γ < 100 → E.g0.keeps g γ
def Xa {α : Type} (z : α) : List (Nat × α) → Nat → α
 | [], _ => z
 | (k, x) :: r, t => bif Nat.beq k t then x else Xa z r t
theorem XT {α : Type} (z : α) (k : Nat) (x : α) (r : List (Nat × α)) : Xa z ((k, x) :: r) k = x := by simp [Xa]
theorem XK {α : Type} (z : α) {k t : Nat} (x : α) (r : List (Nat × α)) (h : k ≠ t) : Xa z ((k, x) :: r) t = Xa z r t := by
 have : Nat.beq k t = false := by
  cases hb : Nat.beq k t with
  | false => rfl
  | true => exact absurd (Nat.eq_of_beq_eq_true hb) h
 simp [Xa, this]
structure St where
 n : Nat
 τ : List (Nat × AVal)
 L : List (Nat × AObj)
def St.get (S : St) (t : Nat) : AVal := Xa .any S.τ t
def St.obj (S : St) (γ : Nat) : AObj := Xa .dead S.L γ
def Ub (E : Env) (S : St) (g : Gh) (a : Act) (w : World) : Prop :=
 Inv E S.obj g w ∧ a.defers = E.ds ∧ a.tmps.size = S.n ∧ ∀ t, (S.get t).sat g (a.tmps.getD t undef)
def holds (E : Env) (S : St) (a : Act) (w : World) : Prop := ∃ g, Ub E S g a w
def St.ev (S : St) : Operand → AVal
 | .tmp t => S.get t
 | .const v => bif v.oneCell' then .d (.v v) else .any
 | .global _ => .any
 | .func f => .fn f []
theorem X2x {E : Env} {S : St} {g : Gh} {a : Act} {w : World} (h : Ub E S g a w) (x : Operand) : (S.ev x).sat g (a.eval x) := by
 cases x with
 | tmp t => exact h.2.2.2 t
 | const v =>
  show (bif v.oneCell' then AVal.d (.v v) else AVal.any).sat g v
  cases hv : v.oneCell' with
  | true => simp [AVal.sat, D.rep, hv]
  | false => simp [AVal.sat]
 | global g => simp only [St.ev, AVal.sat]
 | func f => exact ⟨#[], rfl, by simp [Xk]⟩
set_option linter.unusedVariables false
structure Cert where
 reads : List (Operand × AVal)
 dst : Option (Nat × AVal)
 lrd : List (Nat × AObj)
 lwr : List (Nat × AObj)
 new : List Nat
def St.set (S : St) (d : Nat) (y : AVal) : St := ⟨S.n, (d, y) :: S.τ, S.L⟩
def St.own (S : St) (γ : Nat) (o : AObj) : St := ⟨S.n, S.τ, (γ, o) :: S.L⟩
def St.cat (S : St) (Lo : List (Nat × AObj)) : St := ⟨S.n, S.τ, Lo ++ S.L⟩
def St.skip (S : St) (d : Option Nat) : St := ⟨S.n, (d.map fun t => (t, AVal.tup [])).toList ++ S.τ, S.L⟩
def X1I (γ : Nat) : List (Nat × AVal) → Bool
 | [] => true
 | p :: r => !p.2.ment γ && X1I γ r
def X1r (γ : Nat) : List (Nat × AObj) → Bool
 | [] => true
 | p :: r => !p.2.ment γ && X1r γ r
def St.free (S : St) (γ : Nat) : Bool := Nat.ble 100 γ && (X1I γ S.τ && X1r γ S.L)
theorem X1A (γ : Nat) : ∀ l, X1I γ l = true ↔ ∀ p ∈ l, p.2.ment γ = false
 | [] => by simp [X1I]
 | p :: r => by simp [X1I, X1A γ r]
theorem X25 (γ : Nat) : ∀ l, X1r γ l = true ↔ ∀ p ∈ l, p.2.ment γ = false
 | [] => by simp [X1r]
 | p :: r => by simp [X1r, X25 γ r]
def Cert.app (c : Cert) (S : St) : St := { n := S.n, τ := c.dst.toList ++ S.τ, L := c.lwr ++ S.L }
def Vj (S : St) : List (Operand × AVal) → Prop
 | [] => True
 | p :: r => S.ev p.1 = p.2 ∧ Vj S r
def Yu (S : St) : List (Nat × AObj) → Prop
 | [] => True
 | p :: r => S.obj p.1 = p.2 ∧ Yu S r
def VG (S : St) : List Nat → Prop
 | [] => True
 | γ :: r => S.free γ = true ∧ VG S r
def X0M (S : St) : Option (Nat × AVal) → Prop
 | none => True
 | some p => Nat.blt p.1 S.n = true
def Cert.ok (c : Cert) (S : St) : Prop := Vj S c.reads ∧ Yu S c.lrd ∧ VG S c.new ∧ X0M S c.dst
theorem X0t (S : St) : ∀ l, Vj S l ↔ ∀ p ∈ l, S.ev p.1 = p.2
 | [] => by simp [Vj]
 | p :: r => by simp [Vj, X0t S r]
theorem X0A (S : St) : ∀ l, Yu S l ↔ ∀ p ∈ l, S.obj p.1 = p.2
 | [] => by simp [Yu]
 | p :: r => by simp [Yu, X0A S r]
theorem X1D (S : St) : ∀ l, VG S l ↔ ∀ γ ∈ l, S.free γ = true
 | [] => by simp [VG]
 | p :: r => by simp [VG, X1D S r]
def Xt {α : Type} (k : Nat) : List (Nat × α) → Bool
 | [] => false
 | p :: r => Nat.beq p.1 k || Xt k r
theorem X1R {α : Type} (k : Nat) : ∀ l : List (Nat × α), Xt k l = true ↔ ∃ p ∈ l, p.1 = k
 | [] => by simp [Xt]
 | p :: r => by simp [Xt, X1R k r]
def X1L {α β : Type} (l : List (Nat × α)) : List (Nat × β) → Bool
 | [] => true
 | p :: r => !Xt p.1 l && X1L l r
theorem X6E {α β : Type} (l : List (Nat × α)) : ∀ m : List (Nat × β), X1L l m = true ↔ ∀ p ∈ m, ∀ q ∈ l, q.1 ≠ p.1
 | [] => by simp [X1L]
 | p :: r => by
  simp only [X1L, Bool.and_eq_true, Bool.not_eq_true', X6E l r, List.mem_cons, forall_eq_or_imp]
  refine and_congr_left fun _ => ?_
  rw [← Bool.not_eq_true, X1R]
  exact ⟨fun h q hq e => h ⟨q, hq, e⟩, fun h ⟨q, hq, e⟩ => h q hq e⟩
theorem X1s {a b : Nat} (h : Nat.beq a b = false) : a ≠ b := by
 intro e; subst e; simp at h
def X1y (d : Nat) : List (Operand × AVal) → Bool
 | [] => true
 | (.tmp t, _) :: r => !Nat.beq t d && X1y d r
 | _ :: r => X1y d r
theorem X6d (d : Nat) : ∀ l, X1y d l = true → ∀ p ∈ l, p.1 ≠ .tmp d
 | [], _, _, h => by simp at h
 | (x, _) :: r, h, q, hq => by
  have hr : X1y d r = true := by
   cases x <;> simp [X1y] at h <;> first | exact h.2 | exact h
  rcases List.mem_cons.1 hq with rfl | hq
  ·cases x with
   | tmp t => simp only [X1y, Bool.and_eq_true, Bool.not_eq_true'] at h; intro e; cases e; exact X1s h.1 rfl
   | _ => simp
  ·exact X6d d r hr q hq
def X35 (x : Option (Nat × AVal)) (c : Cert) : Bool :=
 match x with
 | none => true
 | some p => X1y p.1 c.reads && (match c.dst with | none => true | some q => !Nat.beq p.1 q.1)
def X2p (c : Cert) : List Nat → Bool
 | [] => true
 | γ :: r => (X1I γ c.dst.toList && X1r γ c.lwr) && X2p c r
theorem XaG (c : Cert) : ∀ l, X2p c l = true ↔ ∀ γ ∈ l, X1I γ c.dst.toList = true ∧ X1r γ c.lwr = true
 | [] => by simp [X2p]
 | γ :: r => by simp [X2p, XaG c r]
def X08 (c d : Cert) : Bool :=
 X35 c.dst d && X35 d.dst c && X1L c.lwr d.lrd && X1L c.lwr d.lwr && X1L d.lwr c.lrd && X2p d c.new && X2p c d.new
structure St.Eqv (S T : St) : Prop where
 n : S.n = T.n
 get : ∀ t, S.get t = T.get t
 obj : ∀ γ, S.obj γ = T.obj γ
 memT : ∀ p, p ∈ S.τ ↔ p ∈ T.τ
 memL : ∀ p, p ∈ S.L ↔ p ∈ T.L
theorem St.Eqv.refl (S : St) : S.Eqv S := ⟨rfl, fun _ => rfl, fun _ => rfl, fun _ => Iff.rfl, fun _ => Iff.rfl⟩
theorem St.Eqv.symm {S T : St} (h : S.Eqv T) : T.Eqv S := ⟨h.n.symm, fun t => (h.get t).symm, fun t => (h.obj t).symm, fun p => (h.memT p).symm, fun p => (h.memL p).symm⟩
theorem St.Eqv.trans {S T U : St} (h : S.Eqv T) (k : T.Eqv U) : S.Eqv U :=
 ⟨h.n.trans k.n, fun t => (h.get t).trans (k.get t), fun t => (h.obj t).trans (k.obj t), fun p => (h.memT p).trans (k.memT p), fun p => (h.memL p).trans (k.memL p)⟩
theorem St.Eqv.ev {S T : St} (h : S.Eqv T) (x : Operand) : S.ev x = T.ev x := by
 cases x <;> first | rfl | exact h.get _
theorem St.Eqv.free {S T : St} (h : S.Eqv T) (γ : Nat) : S.free γ = T.free γ := by
 rw [Bool.eq_iff_iff]
 simp only [St.free, Bool.and_eq_true, X1A, X25]
 exact and_congr_right fun _ => and_congr ⟨fun k p hp => k p ((h.memT p).2 hp), fun k p hp => k p ((h.memT p).1 hp)⟩ ⟨fun k p hp => k p ((h.memL p).2 hp), fun k p hp => k p ((h.memL p).1 hp)⟩
theorem St.Eqv.holds {S T : St} (h : S.Eqv T) {E : Env} {a : Act} {w : World} (hs : holds E S a w) : holds E T a w := by
 obtain ⟨g, h1, h2, h3, h4⟩ := hs
 have : S.obj = T.obj := funext h.obj
 exact ⟨g, this ▸ h1, h2, h.n ▸ h3, fun t => by rw [← h.get]; exact h4 t⟩
theorem Cert.ok_eqv {c : Cert} {S T : St} (h : S.Eqv T) (hc : c.ok S) : c.ok T := by
 obtain ⟨h1, h2, h3, h4⟩ := hc
 rw [X0t] at h1; rw [X0A] at h2; rw [X1D] at h3
 refine ⟨(X0t _ _).2 fun p hp => (h.ev _).symm.trans (h1 p hp), (X0A _ _).2 fun p hp => (h.obj _).symm.trans (h2 p hp), (X1D _ _).2 fun γ hγ => (h.free γ).symm.trans (h3 γ hγ), ?_⟩
 cases hd : c.dst with
 | none => trivial
 | some p => rw [hd] at h4; simp only [X0M] at h4 ⊢; rw [← h.n]; exact h4
theorem X1l {α : Type} (z : α) (l m : List (Nat × α)) (k : Nat) : Xa z (l ++ m) k = if Xt k l then Xa z l k else Xa z m k := by
 induction l with
 | nil => simp [Xt]
 | cons p r ih =>
  obtain ⟨j, x⟩ := p
  by_cases h : j = k
  ·subst h; simp [Xa, Xt]
  ·have hb : Nat.beq j k = false := by
    cases hb : Nat.beq j k with
    | false => rfl
    | true => exact absurd (Nat.eq_of_beq_eq_true hb) h
   simp [Xa, Xt, hb, ih]
theorem St.Eqv.app {S T : St} (h : S.Eqv T) (c : Cert) : (c.app S).Eqv (c.app T) := by
 refine ⟨h.n, fun t => ?_, fun γ => ?_, fun p => ?_, fun p => ?_⟩
 ·show Xa _ _ _ = Xa _ _ _
  simp only [Cert.app, X1l]; split
  ·rfl
  ·exact h.get t
 ·show Xa _ _ _ = Xa _ _ _
  simp only [Cert.app, X1l]; split
  ·rfl
  ·exact h.obj γ
 ·simp only [Cert.app, List.mem_append, h.memT]
 ·simp only [Cert.app, List.mem_append, h.memL]
theorem Xd5 {c d : Cert} (hi : X08 c d = true) (S : St) : (d.app (c.app S)).Eqv (c.app (d.app S)) := by
 simp only [X08, Bool.and_eq_true] at hi
 obtain ⟨⟨⟨⟨⟨⟨h1, h2⟩, h3⟩, h4⟩, h5⟩, h6⟩, h7⟩ := hi
 rw [X6E] at h4
 have hd : ∀ t, Xt t c.dst.toList = true → Xt t d.dst.toList = true → False := by
  intro t ht ht'
  rw [X1R] at ht ht'
  obtain ⟨p, hp, rfl⟩ := ht
  obtain ⟨q, hq, hqp⟩ := ht'
  cases hc : c.dst with
  | none => simp [hc] at hp
  | some p' =>
   cases hdd : d.dst with
   | none => simp [hdd] at hq
   | some q' =>
    simp only [hc, Option.toList_some, List.mem_singleton] at hp
    simp only [hdd, Option.toList_some, List.mem_singleton] at hq
    subst hp hq
    simp only [X35, Bool.and_eq_true, Bool.not_eq_true', hdd, hc] at h1
    have := h1.2
    rw [← hqp] at this
    simp at this
 refine ⟨rfl, fun t => ?_, fun γ => ?_, fun p => ?_, fun p => ?_⟩
 ·show Xa _ _ _ = Xa _ _ _
  simp only [Cert.app, X1l]
  by_cases k1 : Xt t d.dst.toList = true
  ·by_cases k2 : Xt t c.dst.toList = true
   ·exact (hd t k2 k1).elim
   ·simp [k1, k2]
  ·by_cases k2 : Xt t c.dst.toList = true <;> simp [k1, k2]
 ·show Xa _ _ _ = Xa _ _ _
  simp only [Cert.app, X1l]
  by_cases k1 : Xt γ d.lwr = true
  ·by_cases k2 : Xt γ c.lwr = true
   ·rw [X1R] at k1 k2
    obtain ⟨p, hp, rfl⟩ := k1
    obtain ⟨q, hq, hqp⟩ := k2
    exact absurd hqp (h4 p hp q hq)
   ·simp [k1, k2]
  ·by_cases k2 : Xt γ c.lwr = true <;> simp [k1, k2]
 ·simp only [Cert.app, List.mem_append]; constructor <;> (rintro (h | h | h) <;> simp [h])
 ·simp only [Cert.app, List.mem_append]; constructor <;> (rintro (h | h | h) <;> simp [h])
theorem XaH {c : Cert} {S : St} {x : Operand} (h : ∀ p, c.dst = some p → x ≠ .tmp p.1) : (c.app S).ev x = S.ev x := by
 cases x with
 | tmp t =>
  show Xa _ _ _ = Xa _ _ _
  simp only [Cert.app, X1l]
  have : Xt t c.dst.toList = false := by
   rw [← Bool.not_eq_true, X1R]
   rintro ⟨p, hp, rfl⟩
   exact h p (by simpa using hp) rfl
  simp [this]
 | _ => rfl
theorem X9K {c : Cert} {S : St} {γ : Nat} (h : ∀ p ∈ c.lwr, p.1 ≠ γ) : (c.app S).obj γ = S.obj γ := by
 show Xa _ _ _ = Xa _ _ _
 simp only [Cert.app, X1l]
 have : Xt γ c.lwr = false := by
  rw [← Bool.not_eq_true, X1R]
  rintro ⟨p, hp, e⟩
  exact h p hp e
 simp [this]
theorem Xcj {c d : Cert} (hi : X08 c d = true) {S : St} (hc : c.ok S) (hd : d.ok (c.app S)) : d.ok S ∧ c.ok (d.app S) := by
 have hi' := hi
 simp only [X08, Bool.and_eq_true] at hi
 obtain ⟨⟨⟨⟨⟨⟨h1, h2⟩, h3⟩, h4⟩, h5⟩, h6⟩, h7⟩ := hi
 rw [X6E] at h3 h4 h5
 rw [XaG] at h6 h7
 obtain ⟨c1, c2, c3, c4⟩ := hc
 obtain ⟨d1, d2, d3, d4⟩ := hd
 rw [X0t] at c1 d1; rw [X0A] at c2 d2; rw [X1D] at c3 d3
 refine ⟨⟨(X0t _ _).2 fun p hp => ?_, (X0A _ _).2 fun p hp => ?_, (X1D _ _).2 fun γ hγ => ?_, ?_⟩,
  (X0t _ _).2 fun p hp => ?_, (X0A _ _).2 fun p hp => ?_, (X1D _ _).2 fun γ hγ => ?_, ?_⟩
 ·rw [← d1 p hp]
  refine (XaH fun q hq => ?_).symm
  rw [hq] at h1
  simp only [X35, Bool.and_eq_true] at h1
  exact X6d _ _ h1.1 p hp
 ·rw [← d2 p hp]
  exact (X9K fun q hq => h3 p hp q hq).symm
 ·have := d3 γ hγ
  simp only [St.free, Cert.app, Bool.and_eq_true, X1A, X25, List.mem_append] at this ⊢
  exact ⟨this.1, fun p hp => this.2.1 p (.inr hp), fun p hp => this.2.2 p (.inr hp)⟩
 ·exact d4
 ·rw [← c1 p hp]
  refine XaH fun q hq => ?_
  rw [hq] at h2
  simp only [X35, Bool.and_eq_true] at h2
  exact X6d _ _ h2.1 p hp
 ·rw [← c2 p hp]
  exact X9K fun q hq => h5 p hp q hq
 ·have := c3 γ hγ
  have hm := h6 γ hγ
  simp only [St.free, Cert.app, Bool.and_eq_true, X1A, X25, List.mem_append] at this hm ⊢
  exact ⟨this.1, fun p hp => hp.elim (hm.1 p) (this.2.1 p), fun p hp => hp.elim (hm.2 p) (this.2.2 p)⟩
 ·exact c4
def X1n (P : Program) (ops : Array Oper) (o : Oper) (c : Cert) : Prop :=
 ∀ (E : Env) (S : St) (a : Act) (w : World), holds E S a w → c.ok S →
  ∀ (Q : Exit → Act → World → Prop) (K : Act → World → Prop), (∀ a' w', holds E (c.app S) a' w' → K a' w') →
   if Region.wanted o (yielded ops a.tmps) then o.wp P a w K Q else K (a.put o.dst undef) w
abbrev Xy := List (Nat × Oper × Cert)
def X39 (P : Program) (ops : Array Oper) (E : Env) (Q : Exit → Act → World → Prop) (o : Oper) (c : Cert) : Prop :=
 ∀ (S : St) (a : Act) (w : World), holds E S a w → c.ok S →
  ∀ (K : Act → World → Prop), (∀ a' w', holds E (c.app S) a' w' → K a' w') →
   if Region.wanted o (yielded ops a.tmps) then o.wp P a w K Q else K (a.put o.dst undef) w
theorem X1n.q {P : Program} {ops : Array Oper} {o : Oper} {c : Cert} (h : X1n P ops o c) (E : Env) (Q : Exit → Act → World → Prop) : X39 P ops E Q o c := fun S a w hs hok K => h E S a w hs hok Q K
def YR (V : Oper → Cert → Prop) : Xy → St → St → Prop
 | [], S, T => S.Eqv T
 | x :: r, S, T => V x.2.1 x.2.2 ∧ x.2.2.ok S ∧ YR V r (x.2.2.app S) T
abbrev X4q (P : Program) (ops : Array Oper) : Xy → St → St → Prop := YR (X1n P ops)
theorem YR.mono {V W : Oper → Cert → Prop} (hV : ∀ o c, V o c → W o c) : ∀ {l : Xy} {S T : St}, YR V l S T → YR W l S T
 | [], _, _, h => h
 | _ :: _, _, _, h => ⟨hV _ _ h.1, h.2.1, YR.mono hV h.2.2⟩
theorem YR.eqv {V : Oper → Cert → Prop} : ∀ {l : Xy} {S S' T : St}, S.Eqv S' → YR V l S T → YR V l S' T
 | [], _, _, _, h, hc => h.symm.trans hc
 | x :: r, _, _, _, h, hc => ⟨hc.1, Cert.ok_eqv h hc.2.1, YR.eqv (h.app _) hc.2.2⟩
theorem YR.app {V : Oper → Cert → Prop} : ∀ {l m : Xy} {S T U : St}, YR V l S T → YR V m T U → YR V (l ++ m) S U
 | [], [], S, T, U, h, k => h.trans k
 | [], x :: m, S, T, U, h, k => ⟨k.1, Cert.ok_eqv h.symm k.2.1, YR.eqv (h.symm.app _) k.2.2⟩
 | _ :: _, _, _, _, _, h, k => ⟨h.1, h.2.1, YR.app h.2.2 k⟩
theorem YR.front {V : Oper → Cert → Prop} {k : Nat × Oper × Cert} {l₂ : Xy} {T : St} : ∀ {l₁ : Xy} {S : St},
  (∀ x ∈ l₁, X08 x.2.2 k.2.2 = true) → YR V (l₁ ++ k :: l₂) S T → YR V (k :: (l₁ ++ l₂)) S T
 | [], _, _, h => h
 | x :: l₁, S, hi, h => by
  obtain ⟨hx, hxo, hr⟩ := h
  have hr' := YR.front (l₁ := l₁) (fun y hy => hi y (by simp [hy])) hr
  obtain ⟨hk, hko, hrest⟩ := hr'
  have hsw := Xcj (hi x (by simp)) hxo hko
  exact ⟨hk, hsw.1, hx, hsw.2, YR.eqv (Xd5 (hi x (by simp)) S) hrest⟩
def X0B (ops : Array Oper) : Nat → Nat → Nat → Bool
 | 0, _, _ => false
 | n + 1, i, x => ((ops[i]?).map fun o => o.after.toList.any fun e => Region.binds .any e && (Nat.beq e.on x || X0B ops n e.on x)).getD false
def X3a (ops : Array Oper) (k : Nat × Oper × Cert) : Xy → Bool
 | [] => true
 | x :: r => (X08 x.2.2 k.2.2 || X0B ops ops.size k.1 x.1) && X3a ops k r
def X6u (k : Nat × Oper × Cert) : Bool := k.2.1.after.toList.all fun e => !Region.binds .any e || Nat.blt e.on k.1
def X1t (ops : Array Oper) : Xy → Bool
 | [] => true
 | k :: r => X3a ops k r && X6u k && X1t ops r
theorem Xac (ops : Array Oper) (k : Nat × Oper × Cert) : ∀ l, X3a ops k l = true ↔ ∀ x ∈ l, X08 x.2.2 k.2.2 = true ∨ X0B ops ops.size k.1 x.1 = true
 | [] => by simp [X3a]
 | x :: r => by simp [X3a, Xac ops k r]
theorem X94 {ops : Array Oper} {listed : Array Bool}
  (hcl : ∀ j o, ops[j]? = some o → listed.getD j false = true → ∀ e ∈ o.after, Region.binds .any e = true → listed.getD e.on false = true) :
  ∀ (n i x : Nat) (o : Oper), ops[i]? = some o → (∀ e ∈ o.after, Region.binds .any e = true → listed.getD e.on false = true) → X0B ops n i x = true → listed.getD x false = true
 | 0, _, _, _, _, _, h => by simp [X0B] at h
 | n + 1, i, x, o, ho, he, h => by
  simp only [X0B, ho, Option.map_some, Option.getD_some, List.any_eq_true, Bool.and_eq_true, Bool.or_eq_true] at h
  obtain ⟨e, hm, hb, hx⟩ := h
  have hl := he e (by simpa using hm) hb
  rcases hx with hx | hx
  ·rw [← Nat.eq_of_beq_eq_true hx]; exact hl
  ·cases ho' : ops[e.on]? with
   | none => cases n <;> simp [X0B, ho'] at hx
   | some o' => exact X94 hcl n e.on x o' ho' (fun e' h1 h2 => hcl _ _ ho' hl e' h1 h2) hx
structure Rest (ops : Array Oper) (l : Xy) (listed : Array Bool) : Prop where
 at_ : ∀ x ∈ l, ops[x.1]? = some x.2.1
 inc : l.Pairwise fun x y => x.1 < y.1
 all : ∀ i, listed.getD i true = false ↔ ∃ x ∈ l, x.1 = i
 closed : ∀ j o, ops[j]? = some o → listed.getD j false = true → ∀ e ∈ o.after, Region.binds .any e = true → listed.getD e.on false = true
 size : listed.size = ops.size
 pairs : ∀ x ∈ l, ∀ y ∈ l, x.1 < y.1 → X08 x.2.2 y.2.2 = true ∨ X0B ops ops.size y.1 x.1 = true
 edges : ∀ x ∈ l, ∀ e ∈ x.2.1.after, Region.binds .any e = true → e.on < x.1
theorem Xd0 {P : Program} {ops : Array Oper} {Q : Exit → Act → World → Prop} {E : Env} {T : St} (hQ : ∀ a w, holds E T a w → Q .normal a w) :
  ∀ (fuel : Nat) (l : Xy) (listed : Array Bool) (S : St) (a : Act) (w : World), l.length = fuel → Rest ops l listed → YR (X39 P ops E Q) l S T → holds E S a w →
   wpAny P .any ops Q fuel listed a w := by
 intro fuel
 induction fuel with
 | zero =>
  intro l listed S a w hl hr hc hs
  have hl' : l = [] := by cases l with | nil => rfl | cons => simp at hl
  subst hl'
  refine ⟨?_, hQ _ _ (St.Eqv.holds hc hs)⟩
  rw [List.eq_nil_iff_forall_not_mem]
  intro i hi
  rw [mem_ready] at hi
  obtain ⟨x, hx, _⟩ := (hr.all i).1 hi.1
  simp at hx
 | succ fuel ih =>
  intro l listed S a w hl hr hc hs
  refine ⟨fun hnil => ?_, fun i hi => ?_⟩
  ·exfalso
   cases l with
   | nil => simp at hl
   | cons x r =>
    have hx : x.1 ∈ Region.ready .any ops listed := by
     rw [mem_ready]
     refine ⟨(hr.all x.1).2 ⟨x, by simp, rfl⟩, x.2.1, hr.at_ x (by simp), fun e he hb => ?_⟩
     have hlt := hr.edges x (by simp) e he hb
     cases hle : listed.getD e.on true with
     | false =>
      obtain ⟨y, hy, hye⟩ := (hr.all e.on).1 hle
      rcases List.mem_cons.1 hy with rfl | hy
      ·omega
      ·have := (List.pairwise_cons.1 hr.inc).1 y hy; omega
     | true =>
      have hi : e.on < ops.size := by
       have := hr.at_ x (by simp)
       have := (Array.getElem?_eq_some_iff.1 this).1
       omega
      have hi' : e.on < listed.size := by rw [hr.size]; exact hi
      simpa [hi'] using hle
    rw [hnil] at hx; simp at hx
  ·rw [mem_ready] at hi
   obtain ⟨hi0, o, ho, hall⟩ := hi
   obtain ⟨k, hk, rfl⟩ := (hr.all _).1 hi0
   have hko := hr.at_ k hk
   rw [ho] at hko; cases hko
   obtain ⟨l₁, l₂, rfl⟩ := List.append_of_mem hk
   have hinc := hr.inc
   rw [List.pairwise_append] at hinc
   have hlt : ∀ x ∈ l₁, x.1 < k.1 := fun x hx => hinc.2.2 x hx k (by simp)
   have hind : ∀ x ∈ l₁, X08 x.2.2 k.2.2 = true := by
    intro x hx
    rcases hr.pairs x (by simp [hx]) k (by simp) (hlt x hx) with h | h
    ·exact h
    ·have h1 := X94 hr.closed _ _ _ _ ho hall h
     have h2 := (hr.all x.1).2 ⟨x, by simp [hx], rfl⟩
     exfalso
     have hi : x.1 < listed.size := by
      rw [hr.size]; exact (Array.getElem?_eq_some_iff.1 (hr.at_ x (by simp [hx]))).1
     simp [hi] at h1 h2
     rw [h1] at h2; simp at h2
   obtain ⟨hv, hok, hrest⟩ := YR.front hind hc
   have hksz : k.1 < listed.size := by rw [hr.size]; exact (Array.getElem?_eq_some_iff.1 ho).1
   have hrl : Rest ops (l₁ ++ l₂) (listed.setIfInBounds k.1 true) := by
    refine ⟨fun x hx => hr.at_ x (by simp at hx ⊢; rcases hx with h | h <;> simp [h]), ?_, fun i => ?_, fun j o' hj hl' e he hb => ?_, by simp [hr.size], ?_, ?_⟩
    ·rw [List.pairwise_append]
     exact ⟨hinc.1, (List.pairwise_cons.1 hinc.2.1).2, fun x hx y hy => hinc.2.2 x hx y (by simp [hy])⟩
    ·by_cases hik : i = k.1
     ·subst hik
      constructor
      ·intro h; simp [hksz] at h
      ·rintro ⟨x, hx, hxk⟩
       exfalso
       rcases List.mem_append.1 hx with h | h
       ·have := hlt x h; omega
       ·have := (List.pairwise_cons.1 hinc.2.1).1 x h; omega
     ·rw [getD_set_ne true (Ne.symm hik), hr.all]
      constructor
      ·rintro ⟨x, hx, rfl⟩
       refine ⟨x, ?_, rfl⟩
       simp at hx ⊢
       rcases hx with h | h | h
       ·exact .inl h
       ·subst h; exact absurd rfl hik
       ·exact .inr h
      ·rintro ⟨x, hx, rfl⟩
       refine ⟨x, ?_, rfl⟩
       simp at hx ⊢
       rcases hx with h | h <;> simp [h]
    ·by_cases hjk : j = k.1
     ·subst hjk
      rw [ho] at hj; cases hj
      exact getD_set_true (hall e he hb)
     ·rw [getD_set_ne false (Ne.symm hjk)] at hl'
      exact getD_set_true (hr.closed j o' hj hl' e he hb)
    ·intro x hx y hy hxy
     refine hr.pairs x ?_ y ?_ hxy
     ·simp at hx ⊢; rcases hx with h | h <;> simp [h]
     ·simp at hy ⊢; rcases hy with h | h <;> simp [h]
    ·intro x hx
     exact hr.edges x (by simp at hx ⊢; rcases hx with h | h <;> simp [h])
   have hlen : (l₁ ++ l₂).length = fuel := by simp at hl ⊢; omega
   unfold wpOp
   simp only [ho]
   have hvk := hv S a w hs hok (wpAny P .any ops Q fuel (listed.setIfInBounds k.1 true)) (fun a' w' h' => ih _ _ _ _ _ hlen hrl hrest h')
   split
   ·rename_i hw; rw [if_pos hw] at hvk; exact .inl hvk
   ·rename_i hw; rw [if_neg hw] at hvk; exact hvk
theorem Xaj {P : Program} {ops : Array Oper} {Q : Exit → Act → World → Prop} {E : Env} {T : St} (hQ : ∀ a w, holds E T a w → Q .normal a w) :
  ∀ (l : Xy) (S : St) (a : Act) (w : World), (∀ x ∈ l, ops[x.1]? = some x.2.1) → X4q P ops l S T → holds E S a w → wpOps P ops Q (l.map (·.1)) a w
 | [], S, a, w, _, hc, hs => hQ _ _ (St.Eqv.holds hc hs)
 | x :: r, S, a, w, ha, hc, hs => by
  obtain ⟨hv, hok, hr⟩ := hc
  rw [List.map_cons, wpOps_cons]
  unfold wpOp
  simp only [ha x (by simp)]
  have hvk := hv E S a w hs hok Q (wpOps P ops Q (r.map (·.1))) (fun a' w' h' => Xaj hQ r _ _ _ (fun y hy => ha y (by simp [hy])) hr h')
  split
  ·rename_i hw; rw [if_pos hw] at hvk; exact .inl hvk
  ·rename_i hw; rw [if_neg hw] at hvk; exact hvk
inductive Walk (P : Program) (ops : Array Oper) (draw : Bool) (K : Xy → St → Prop) : List Oper → Xy → St → Prop
 | done {l : Xy} {S : St} : (draw = true → X1t ops l = true) → K l S → Walk P ops draw K [] l S
 | step {o : Oper} {rest : List Oper} {l : Xy} {S : St} (c : Cert) : X1n P ops o c → c.ok S →
   Walk P ops draw K rest ((l.length, o, c) :: l) (c.app S) → Walk P ops draw K (o :: rest) l S
theorem Walk.chain {P : Program} {ops : Array Oper} {draw : Bool} {K : Xy → St → Prop} {rest : List Oper} {l : Xy} {S : St} (h : Walk P ops draw K rest l S) :
  ∃ (m : Xy) (T : St), (draw = true → X1t ops (m.reverse ++ l) = true) ∧ K (m.reverse ++ l) T ∧ X4q P ops m S T ∧ m.map (·.2.1) = rest ∧ m.map (·.1) = List.range' l.length m.length := by
 induction h with
 | done hok hK => exact ⟨[], _, by simpa using hok, by simpa using hK, St.Eqv.refl _, rfl, rfl⟩
 | step c hv hok _ ih =>
  rename_i o rest l S _
  obtain ⟨m, T, h1, h2, h3, h4, h5⟩ := ih
  refine ⟨(l.length, o, c) :: m, T, fun hd => ?_, by simpa using h2, ⟨hv, hok, h3⟩, by simp [h4], ?_⟩
  ·have := h1 hd
   simpa using this
  ·simp [h5, List.range'_succ]
theorem X8U {ops : Array Oper} : ∀ (l : Xy), X1t ops l = true → (l.Pairwise fun y x => X08 x.2.2 y.2.2 = true ∨ X0B ops ops.size y.1 x.1 = true) ∧ ∀ x ∈ l, X6u x = true
 | [], _ => by simp
 | k :: r, h => by
  simp only [X1t, Bool.and_eq_true, Xac] at h
  obtain ⟨⟨h1, h2⟩, h3⟩ := h
  have ih := X8U r h3
  exact ⟨List.pairwise_cons.2 ⟨fun x hx => h1 x hx, ih.1⟩, fun x hx => (List.mem_cons.1 hx).elim (fun e => e ▸ h2) (ih.2 x)⟩
theorem Xhn {E : Env} {S : St} {a : Act} {w : World} (h : holds E S a w) : holds E S a { w with drawn := w.drawn + 1 } := by
 obtain ⟨g, hi, h2⟩ := h
 exact ⟨g, ⟨fun γ => by
  have := hi.obj γ
  revert this
  cases S.obj γ <;> exact id, hi.inj, hi.mem, hi.sep, hi.new, hi.ext, hi.lim, hi.frame, hi.size, hi.os, hi.out, hi.kp⟩, h2⟩
theorem X7v {ops : Array Oper} {m : Xy} (h4 : m.map (·.2.1) = ops.toList) (h5 : m.map (·.1) = List.range' 0 m.length) : ∀ x ∈ m, ops[x.1]? = some x.2.1 := by
 intro x hx
 obtain ⟨i, hi, rfl⟩ := List.getElem_of_mem hx
 have e1 : (m[i]).1 = i := by
  have := congrArg (fun l => l[i]?) h5
  simpa [hi] using this
 have e2 := congrArg (fun l => l[i]?) h4
 simp [hi] at e2
 rw [e1]; simpa using e2.symm
theorem X7T {P : Program} {id : Nat} {ops : Array Oper} {Q : Exit → Act → World → Prop} {E : Env} {S T : St} {m : Xy} (hm : P.follows .mixedOrders = true)
  (h1 : X1t ops m.reverse = true) (hQ : ∀ a w, holds E T a w → Q .normal a w) (h3 : YR (X39 P ops E Q) m S T) (h4 : m.map (·.2.1) = ops.toList) (h5 : m.map (·.1) = List.range' 0 m.length) {a : Act} {w : World} (hs : holds E S a w) :
  (Code.region id ops true).wp P Q a w := by
 have hlen : m.length = ops.size := by have := congrArg List.length h4; simpa using this
 have hat := X7v h4 h5
 refine wp_region_any hm ?_
 have hord := X8U _ h1
 refine Xd0 hQ ops.size m _ S a _ hlen ?_ h3 (Xhn hs)
 have hinc : m.Pairwise fun x y => x.1 < y.1 := by
  have : (m.map (·.1)).Pairwise (· < ·) := by rw [h5]; exact List.pairwise_lt_range'
  exact List.pairwise_map.1 this
 refine ⟨hat, hinc, fun i => ?_, fun j o hj hl => ?_, by simp, ?_, ?_⟩
 ·constructor
  ·intro hi
   have hlt : i < ops.size := by
    rcases Nat.lt_or_ge i ops.size with h | h
    ·exact h
    ·simp [Nat.not_lt.2 h] at hi
   have : i ∈ m.map (·.1) := by rw [h5]; simp [hlen, hlt]
   simpa using this
  ·rintro ⟨x, hx, rfl⟩
   have := (Array.getElem?_eq_some_iff.1 (hat x hx)).1
   simp [this]
 ·exfalso
  have := (Array.getElem?_eq_some_iff.1 hj).1
  simp [this] at hl
 ·intro x hx y hy hxy
  have hp := List.pairwise_reverse.1 hord.1
  obtain ⟨i, hi, rfl⟩ := List.getElem_of_mem hx
  obtain ⟨j, hj, rfl⟩ := List.getElem_of_mem hy
  have e : ∀ (k : Nat) (hk : k < m.length), (m[k]).1 = k := by
   intro k hk
   have := congrArg (fun l => l[k]?) h5
   simpa [hk] using this
  rw [e, e] at hxy
  exact (List.pairwise_iff_getElem.1 hp) i j hi hj hxy
 ·intro x hx e he hb
  have := hord.2 x (by simpa using hx)
  simp only [X6u, List.all_eq_true] at this
  have := this e (by simpa using he)
  simp [hb] at this
  simpa using this
theorem XhW {P : Program} {id : Nat} {ops : Array Oper} {draw : Bool} {K : Xy → St → Prop} {Q : Exit → Act → World → Prop} {E : Env} {S : St}
  (hm : draw = true → P.follows .mixedOrders = true)
  (h : Walk P ops draw K ops.toList [] S) (hQ : ∀ l T, K l T → ∀ a w, holds E T a w → Q .normal a w) {a : Act} {w : World} (hs : holds E S a w) :
  (Code.region id ops draw).wp P Q a w := by
 obtain ⟨m, T, h1, h2, h3, h4, h5⟩ := h.chain
 cases draw with
 | false =>
  refine wp_region ?_
  have hlen : m.length = ops.size := by have := congrArg List.length h4; simpa using this
  have := Xaj (P := P) (Q := Q) (hQ _ T h2) m S a w (X7v h4 h5) h3 hs
  rwa [h5, hlen, List.length_nil, ← List.range_eq_range'] at this
 | true => exact X7T (hm rfl) (by simpa using h1 rfl) (hQ _ T h2) (h3.mono fun o c hv => hv.q E Q) h4 h5 hs
end Go.Fw

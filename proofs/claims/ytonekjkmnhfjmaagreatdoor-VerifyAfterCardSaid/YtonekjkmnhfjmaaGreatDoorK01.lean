/- A small separation calculus over the model: immutable data, owned boxes and rows. First part: data, abstract values, the invariant. -/
import Derived.Calls
import Derived.Orders
import Derived.Laws.Entries
import Derived.Laws.Rows
import Derived.RowKit3
namespace Go.Fw
open Go
abbrev Mem := Addr → Option Value
inductive D where
 | v (x : Value)
 | sl (sz : Nat) (xs : List (List D))
mutual
def D.rep (M : Mem) : D → Value → Prop
 | .v x, u => u = x ∧ x.oneCell' = true
 | .sl sz xs, u => ∃ (a : Option Addr) (cap : Nat), u = .slice a xs.length cap ∧ xs.length ≤ cap ∧ cap ≤ maxLen ∧
   (xs = [] ∨ ∃ b o, a = some ⟨b, o, none⟩ ∧ U5 M sz xs b o)
def YE (M : Mem) : List D → Nat → Nat → Prop
 | [], _, _ => True
 | d :: ds, b, o => (∃ u, M ⟨b, o, none⟩ = some u ∧ D.rep M d u) ∧ YE M ds b (o + 1)
def U5 (M : Mem) (sz : Nat) : List (List D) → Nat → Nat → Prop
 | [], _, _ => True
 | r :: rs, b, o => r.length = sz ∧ YE M r b o ∧ U5 M sz rs b (o + sz)
end
def XK (M M' : Mem) : Prop := ∀ a v, M a = some v → M' a = some v
theorem XK.refl (M : Mem) : XK M M := fun _ _ h => h
theorem XK.trans {A B C : Mem} (h : XK A B) (k : XK B C) : XK A C := fun _ _ x => k _ _ (h _ _ x)
mutual
theorem D.rep_mono {M M' : Mem} (h : XK M M') : ∀ (d : D) (u : Value), d.rep M u → d.rep M' u
 | .v x, u, hr => by simpa only [D.rep] using hr
 | .sl sz xs, u, hr => by
  simp only [D.rep] at hr ⊢
  obtain ⟨a, cap, h1, h2, h3, h4⟩ := hr
  refine ⟨a, cap, h1, h2, h3, ?_⟩
  rcases h4 with h4 | ⟨b, o, h5, h6⟩
  ·exact .inl h4
  ·exact .inr ⟨b, o, h5, X82 h sz xs b o h6⟩
theorem X6z {M M' : Mem} (h : XK M M') : ∀ (ds : List D) (b o : Nat), YE M ds b o → YE M' ds b o
 | [], _, _, _ => by simp only [YE]
 | d :: ds, b, o, hr => by
  simp only [YE] at hr ⊢
  obtain ⟨⟨u, h1, h2⟩, h3⟩ := hr
  exact ⟨⟨u, h _ _ h1, D.rep_mono h d u h2⟩, X6z h ds b (o + 1) h3⟩
theorem X82 {M M' : Mem} (h : XK M M') (sz : Nat) : ∀ (xs : List (List D)) (b o : Nat), U5 M sz xs b o → U5 M' sz xs b o
 | [], _, _, _ => by simp only [U5]
 | r :: rs, b, o, hr => by
  simp only [U5] at hr ⊢
  exact ⟨hr.1, X6z h r b o hr.2.1, X82 h sz rs b (o + sz) hr.2.2⟩
end
theorem X2C {M : Mem} : ∀ (ds : List D) (b o i : Nat) (d : D), YE M ds b o → ds[i]? = some d → ∃ u, M ⟨b, o + i, none⟩ = some u ∧ d.rep M u
 | [], _, _, _, _, _, h => by simp at h
 | e :: ds, b, o, 0, d, hr, h => by
  simp only [YE] at hr
  simp at h; subst h
  exact hr.1
 | e :: ds, b, o, i + 1, d, hr, h => by
  simp only [YE] at hr
  have := X2C ds b (o + 1) i d hr.2 (by simpa using h)
  rwa [show o + 1 + i = o + (i + 1) by omega] at this
theorem X2D {M : Mem} : ∀ (ds : List D) (b o : Nat), (∀ i d, ds[i]? = some d → ∃ u, M ⟨b, o + i, none⟩ = some u ∧ d.rep M u) → YE M ds b o
 | [], _, _, _ => by simp only [YE]
 | e :: ds, b, o, h => by
  simp only [YE]
  refine ⟨by simpa using h 0 e (by simp), X2D ds b (o + 1) fun i d hd => ?_⟩
  have := h (i + 1) d (by simpa using hd)
  rwa [show o + (i + 1) = o + 1 + i by omega] at this
theorem X8n {M : Mem} {ds : List D} {b o : Nat} (h : YE M ds b o) (k : Nat) : YE M (ds.drop k) b (o + k) := by
 refine X2D _ _ _ fun i d hd => ?_
 rw [List.getElem?_drop] at hd
 have := X2C ds b o (k + i) d h hd
 rwa [show o + (k + i) = o + k + i by omega] at this
theorem Xcu {M : Mem} {ds : List D} {b o : Nat} (h : YE M ds b o) (k : Nat) : YE M (ds.take k) b o := by
 refine X2D _ _ _ fun i d hd => ?_
 rw [List.getElem?_take] at hd
 split at hd
 ·exact X2C ds b o i d h hd
 ·simp at hd
theorem Xem {M : Mem} {ds es : List D} {b o : Nat} (h : YE M ds b o) (h' : YE M es b (o + ds.length)) : YE M (ds ++ es) b o := by
 refine X2D _ _ _ fun i d hd => ?_
 rw [List.getElem?_append] at hd
 split at hd
 ·exact X2C ds b o i d h hd
 ·have := X2C es b _ _ d h' hd
  rwa [show o + ds.length + (i - ds.length) = o + i by omega] at this
theorem X1b {M : Mem} {sz : Nat} : ∀ (xs : List (List D)) (b o i : Nat) (r : List D), U5 M sz xs b o → xs[i]? = some r → r.length = sz ∧ YE M r b (o + i * sz)
 | [], _, _, _, _, _, h => by simp at h
 | e :: xs, b, o, 0, r, hr, h => by
  simp only [U5] at hr
  simp at h; subst h
  exact ⟨hr.1, by simpa using hr.2.1⟩
 | e :: xs, b, o, i + 1, r, hr, h => by
  simp only [U5] at hr
  have := X1b xs b (o + sz) i r hr.2.2 (by simpa using h)
  rwa [show o + sz + i * sz = o + (i + 1) * sz by rw [Nat.add_mul]; omega] at this
theorem X53 {M : Mem} {sz : Nat} : ∀ (xs : List (List D)) (b o : Nat), (∀ i r, xs[i]? = some r → r.length = sz ∧ YE M r b (o + i * sz)) → U5 M sz xs b o
 | [], _, _, _ => by simp only [U5]
 | e :: xs, b, o, h => by
  simp only [U5]
  have h0 := h 0 e (by simp)
  refine ⟨h0.1, by simpa using h0.2, X53 xs b (o + sz) fun i r hr => ?_⟩
  have := h (i + 1) r (by simpa using hr)
  rwa [show o + (i + 1) * sz = o + sz + i * sz by rw [Nat.add_mul]; omega] at this
theorem Xdj {M : Mem} {sz : Nat} {xs : List (List D)} {b o : Nat} (h : U5 M sz xs b o) (k : Nat) : U5 M sz (xs.drop k) b (o + k * sz) := by
 refine X53 _ _ _ fun i r hr => ?_
 rw [List.getElem?_drop] at hr
 have := X1b xs b o (k + i) r h hr
 rwa [show o + (k + i) * sz = o + k * sz + i * sz by rw [Nat.add_mul]; omega] at this
theorem XbT {M : Mem} {sz : Nat} {xs : List (List D)} {b o : Nat} (h : U5 M sz xs b o) (k : Nat) : U5 M sz (xs.take k) b o := by
 refine X53 _ _ _ fun i r hr => ?_
 rw [List.getElem?_take] at hr
 split at hr
 ·exact X1b xs b o i r h hr
 ·simp at hr
inductive AVal where
 | any
 | d (x : D)
 | ptr (γ o : Nat)
 | own (γ n : Nat)
 | rptr (γ n o : Nat)
 | inn (γ i : Nat)
 | bsl (γ n : Nat)
 | rs (γ o n c : Nat)
 | mptr (γ n i : Nat)
 | cut (γ n k sz : Nat)
 | dptr (row : List D)
 | dx (sz : Nat) (xs : List (List D))
 | bq (p q : Prop)
 | agg (cs : List AVal)
 | tup (vs : List AVal)
 | fn (f : FuncId) (caps : List AVal)
structure Gh where
 blk : Nat → Nat
 hd : Nat → Value
 ihd : Nat → Nat → Value
 M : Mem
mutual
def AVal.sat (g : Gh) : AVal → Value → Prop
 | .any, _ => True
 | .d x, u => x.rep g.M u
 | .ptr γ o, u => u = .pointer (some ⟨g.blk γ, o, none⟩)
 | .own γ n, u => u.oneCell' = true ∧ ∃ a m c, g.hd γ = .slice a m c ∧ n ≤ m ∧ (n = m → u = .slice a m c)
 | .rptr γ n o, u => u.oneCell' = true ∧ ∃ a m c, g.hd γ = .slice a m c ∧ n ≤ m ∧ (n = m → ∃ b, a = some b ∧ u = .pointer (some ⟨b.block, o, none⟩))
 | .bsl γ n, u => u = .slice (some ⟨g.blk γ, 0, none⟩) n n
 | .rs γ o n c, u => u = .slice (some ⟨g.blk γ, o, none⟩) n c
 | .inn γ i, u => u.oneCell' = true ∧ u = g.ihd γ i ∧ ∃ a m c, g.hd γ = .slice a m c ∧ i < m
 | .mptr γ n i, u => u.oneCell' = true ∧ ∃ a m c, g.hd γ = .slice a m c ∧ n ≤ m ∧ (n = m → ∃ b, a = some b ∧ u = .pointer (some ⟨b.block, i, none⟩))
 | .cut γ n k sz, u => u.oneCell' = true ∧ ∃ a m c, g.hd γ = .slice a m c ∧ n ≤ m ∧ (n = m → u = .slice (if c = k then a else a.map fun p => p.add (k * sz)) (n - k) (c - k))
 | .dptr row, u => ∃ b o, u = .pointer (some ⟨b, o, none⟩) ∧ YE g.M row b o
 | .dx sz xs, u => ∃ a, u = .slice a xs.length xs.length ∧ (D.sl sz xs).rep g.M u
 | .bq p q, u => ∃ b : Bool, u = .bool b ∧ (b = true → p) ∧ (b = false → q)
 | .agg cs, u => ∃ vs, u = .agg vs ∧ Xi g cs vs.toList
 | .tup cs, u => ∃ vs, u = .tuple vs ∧ Xi g cs vs.toList
 | .fn f cs, u => ∃ vs, u = .func (.func f) #[] vs ∧ Xi g cs vs.toList
def Xi (g : Gh) : List AVal → List Value → Prop
 | [], [] => True
 | x :: xs, u :: us => x.sat g u ∧ Xi g xs us
 | _, _ => False
end
mutual
def AVal.ment (γ : Nat) : AVal → Bool
 | .ptr k _ => Nat.beq k γ
 | .own k _ => Nat.beq k γ
 | .rptr k _ _ => Nat.beq k γ
 | .inn k _ => Nat.beq k γ
 | .bsl k _ => Nat.beq k γ
 | .rs k _ _ _ => Nat.beq k γ
 | .mptr k _ _ => Nat.beq k γ
 | .cut k _ _ _ => Nat.beq k γ
 | .agg cs => Ua γ cs
 | .tup cs => Ua γ cs
 | .fn _ cs => Ua γ cs
 | .any => false
 | .d _ => false
 | .dptr _ => false
 | .dx _ _ => false
 | .bq _ _ => false
def Ua (γ : Nat) : List AVal → Bool
 | [] => false
 | x :: xs => x.ment γ || Ua γ xs
end
def Gh.keeps (g g' : Gh) (γ : Nat) : Prop :=
 g'.blk γ = g.blk γ ∧ (g'.hd γ = g.hd γ ∨ ∃ a m c a' m' c', g.hd γ = .slice a m c ∧ g'.hd γ = .slice a' m' c' ∧ m < m') ∧
  ∀ i a m c, g.hd γ = .slice a m c → i < m → g'.ihd γ i = g.ihd γ i
theorem Gh.keeps_refl (g : Gh) (γ : Nat) : g.keeps g γ := ⟨rfl, .inl rfl, fun _ _ _ _ _ _ => rfl⟩
theorem Gh.keeps_of {g g' : Gh} {γ : Nat} (h1 : g'.blk γ = g.blk γ) (h2 : g'.hd γ = g.hd γ) (h3 : g'.ihd γ = g.ihd γ) : g.keeps g' γ := ⟨h1, .inl h2, fun i _ _ _ _ _ => by rw [h3]⟩
theorem Gh.keeps_trans {g g' g'' : Gh} {γ : Nat} (h : g.keeps g' γ) (k : g'.keeps g'' γ) : g.keeps g'' γ := by
 refine ⟨k.1.trans h.1, ?_, fun i a m c ha hi => ?_⟩
 ·rcases h.2.1 with e | ⟨a, m, c, a', m', c', e1, e2, e3⟩
  ·rw [← e]; exact k.2.1
  ·rcases k.2.1 with e | ⟨b, n, d, b', n', d', f1, f2, f3⟩
   ·exact .inr ⟨a, m, c, a', m', c', e1, e.trans e2, e3⟩
   ·rw [e2] at f1; cases f1
    exact .inr ⟨a, m, c, b', n', d', e1, f2, by omega⟩
 ·refine Eq.trans ?_ (h.2.2 i a m c ha hi)
  rcases h.2.1 with e | ⟨a', m', c', a'', m'', c'', e1, e2, e3⟩
  ·exact k.2.2 i a m c (e.trans ha) hi
  ·rw [ha] at e1; cases e1
   exact k.2.2 i _ _ _ e2 (by omega)
mutual
theorem AVal.sat_mono {g g' : Gh} (h : XK g.M g'.M) : ∀ (x : AVal) (u : Value), (∀ γ, x.ment γ = true → g.keeps g' γ) → x.sat g u → x.sat g' u
 | .any, _, _, _ => by simp only [AVal.sat]
 | .d x, u, _, hs => by simp only [AVal.sat] at hs ⊢; exact D.rep_mono h x u hs
 | .ptr γ o, u, hk, hs => by
  simp only [AVal.sat] at hs ⊢
  rw [(hk γ (by simp [AVal.ment])).1]; exact hs
 | .own γ n, u, hk, hs => by
  simp only [AVal.sat] at hs ⊢
  obtain ⟨h1, a, m, c, h2, h3, h4⟩ := hs
  refine ⟨h1, ?_⟩
  rcases (hk γ (by simp [AVal.ment])).2.1 with e | ⟨a0, m0, c0, a', m', c', e1, e2, e3⟩
  ·exact ⟨a, m, c, e.trans h2, h3, h4⟩
  ·rw [h2] at e1; cases e1
   exact ⟨a', m', c', e2, by omega, fun e => by omega⟩
 | .rptr γ n o, u, hk, hs => by
  simp only [AVal.sat] at hs ⊢
  obtain ⟨h1, a, m, c, h2, h3, h4⟩ := hs
  refine ⟨h1, ?_⟩
  rcases (hk γ (by simp [AVal.ment])).2.1 with e | ⟨a0, m0, c0, a', m', c', e1, e2, e3⟩
  ·exact ⟨a, m, c, e.trans h2, h3, h4⟩
  ·rw [h2] at e1; cases e1
   exact ⟨a', m', c', e2, by omega, fun e => by omega⟩
 | .bsl γ n, u, hk, hs => by
  simp only [AVal.sat] at hs ⊢
  rw [(hk γ (by simp [AVal.ment])).1]; exact hs
 | .rs γ o n c, u, hk, hs => by
  simp only [AVal.sat] at hs ⊢
  rw [(hk γ (by simp [AVal.ment])).1]; exact hs
 | .inn γ i, u, hk, hs => by
  simp only [AVal.sat] at hs ⊢
  obtain ⟨h1, h2, a, m, c, h3, h4⟩ := hs
  have hkk := hk γ (by simp [AVal.ment])
  refine ⟨h1, h2.trans (hkk.2.2 i a m c h3 h4).symm, ?_⟩
  rcases hkk.2.1 with e | ⟨a0, m0, c0, a', m', c', e1, e2, e3⟩
  ·exact ⟨a, m, c, e.trans h3, h4⟩
  ·rw [h3] at e1; cases e1
   exact ⟨a', m', c', e2, by omega⟩
 | .mptr γ n i, u, hk, hs => by
  simp only [AVal.sat] at hs ⊢
  obtain ⟨h1, a, m, c, h2, h3, h4⟩ := hs
  refine ⟨h1, ?_⟩
  rcases (hk γ (by simp [AVal.ment])).2.1 with e | ⟨a0, m0, c0, a', m', c', e1, e2, e3⟩
  ·exact ⟨a, m, c, e.trans h2, h3, h4⟩
  ·rw [h2] at e1; cases e1
   exact ⟨a', m', c', e2, by omega, fun e => by omega⟩
 | .cut γ n k sz, u, hk, hs => by
  simp only [AVal.sat] at hs ⊢
  obtain ⟨h1, a, m, c, h2, h3, h4⟩ := hs
  refine ⟨h1, ?_⟩
  rcases (hk γ (by simp [AVal.ment])).2.1 with e | ⟨a0, m0, c0, a', m', c', e1, e2, e3⟩
  ·exact ⟨a, m, c, e.trans h2, h3, h4⟩
  ·rw [h2] at e1; cases e1
   exact ⟨a', m', c', e2, by omega, fun e => by omega⟩
 | .dptr row, u, _, hs => by
  simp only [AVal.sat] at hs ⊢
  obtain ⟨b, o, h1, h2⟩ := hs
  exact ⟨b, o, h1, X6z h _ _ _ h2⟩
 | .bq p q, u, _, hs => by simp only [AVal.sat] at hs ⊢; exact hs
 | .dx sz xs, u, _, hs => by
  simp only [AVal.sat] at hs ⊢
  obtain ⟨a, h1, h2⟩ := hs
  exact ⟨a, h1, D.rep_mono h _ _ h2⟩
 | .agg cs, u, hk, hs => by
  simp only [AVal.sat] at hs ⊢
  obtain ⟨vs, h1, h2⟩ := hs
  exact ⟨vs, h1, Vn h cs _ (fun γ hm => hk γ (by simpa only [AVal.ment] using hm)) h2⟩
 | .tup cs, u, hk, hs => by
  simp only [AVal.sat] at hs ⊢
  obtain ⟨vs, h1, h2⟩ := hs
  exact ⟨vs, h1, Vn h cs _ (fun γ hm => hk γ (by simpa only [AVal.ment] using hm)) h2⟩
 | .fn f cs, u, hk, hs => by
  simp only [AVal.sat] at hs ⊢
  obtain ⟨vs, h1, h2⟩ := hs
  exact ⟨vs, h1, Vn h cs _ (fun γ hm => hk γ (by simpa only [AVal.ment] using hm)) h2⟩
theorem Vn {g g' : Gh} (h : XK g.M g'.M) : ∀ (xs : List AVal) (us : List Value), (∀ γ, Ua γ xs = true → g.keeps g' γ) → Xi g xs us → Xi g' xs us
 | [], [], _, _ => by simp only [Xi]
 | [], _ :: _, _, hs => by simp only [Xi] at hs
 | _ :: _, [], _, hs => by simp only [Xi] at hs
 | x :: xs, u :: us, hk, hs => by
  simp only [Xi] at hs ⊢
  exact ⟨AVal.sat_mono h x u (fun γ hm => hk γ (by simp [Ua, hm])) hs.1, Vn h xs us (fun γ hm => hk γ (by simp [Ua, hm])) hs.2⟩
end
def AVal.cellish : AVal → Bool
 | .any => false
 | .agg _ => false
 | .tup _ => false
 | _ => true
theorem D.rep_one {M : Mem} {d : D} {u : Value} (h : d.rep M u) : u.oneCell' = true := by
 cases d with
 | v x => simp only [D.rep] at h; rw [h.1]; exact h.2
 | sl sz xs => simp only [D.rep] at h; obtain ⟨a, cap, rfl, _⟩ := h; rfl
theorem AVal.sat_one {g : Gh} {x : AVal} {u : Value} (hc : x.cellish = true) (h : x.sat g u) : u.oneCell' = true := by
 cases x with
 | any => simp [AVal.cellish] at hc
 | agg _ => simp [AVal.cellish] at hc
 | tup _ => simp [AVal.cellish] at hc
 | d x => simp only [AVal.sat] at h; exact D.rep_one h
 | ptr γ o => simp only [AVal.sat] at h; rw [h]; rfl
 | own γ n => simp only [AVal.sat] at h; exact h.1
 | rptr γ n o => simp only [AVal.sat] at h; exact h.1
 | inn γ i => simp only [AVal.sat] at h; exact h.1
 | bsl γ n => simp only [AVal.sat] at h; rw [h]; rfl
 | rs γ o n c => simp only [AVal.sat] at h; rw [h]; rfl
 | mptr γ n i => simp only [AVal.sat] at h; exact h.1
 | cut γ n k sz => simp only [AVal.sat] at h; exact h.1
 | dptr row => simp only [AVal.sat] at h; obtain ⟨b, o, rfl, _⟩ := h; rfl
 | dx sz xs => simp only [AVal.sat] at h; obtain ⟨a, rfl, _⟩ := h; rfl
 | bq p q => simp only [AVal.sat] at h; obtain ⟨b, rfl, _⟩ := h; rfl
 | fn f cs => simp only [AVal.sat] at h; obtain ⟨vs, rfl, _⟩ := h; rfl
theorem Y9 {g : Gh} : ∀ {xs : List AVal} {us : List Value}, Xi g xs us → us.length = xs.length
 | [], [], _ => rfl
 | [], _ :: _, h => by simp only [Xi] at h
 | _ :: _, [], h => by simp only [Xi] at h
 | x :: xs, u :: us, h => by simp only [Xi] at h; simp [Y9 h.2]
theorem U2 {g : Gh} : ∀ {xs : List AVal} {us : List Value}, Xi g xs us → ∀ (i : Nat) (x : AVal), xs[i]? = some x → ∃ u, us[i]? = some u ∧ x.sat g u
 | [], [], _, _, _, h => by simp at h
 | [], _ :: _, h, _, _, _ => by simp only [Xi] at h
 | _ :: _, [], h, _, _, _ => by simp only [Xi] at h
 | x :: xs, u :: us, h, 0, y, hy => by simp only [Xi] at h; simp at hy; subst hy; exact ⟨u, by simp, h.1⟩
 | x :: xs, u :: us, h, i + 1, y, hy => by
  simp only [Xi] at h
  simpa using U2 h.2 i y (by simpa using hy)
theorem X0s {g : Gh} : ∀ {xs : List AVal} {us : List Value}, us.length = xs.length → (∀ (i : Nat) (x : AVal) (u : Value), xs[i]? = some x → us[i]? = some u → x.sat g u) → Xi g xs us
 | [], [], _, _ => by simp only [Xi]
 | [], _ :: _, h, _ => by simp at h
 | _ :: _, [], h, _ => by simp at h
 | x :: xs, u :: us, h, hs => by
  simp only [Xi]
  exact ⟨hs 0 x u (by simp) (by simp), X0s (by simpa using h) fun i y v hy hv => hs (i + 1) y v (by simpa using hy) (by simpa using hv)⟩
theorem X0t {g : Gh} {xs : List AVal} {us : List Value} (h : Xi g xs us) (k : Nat) : Xi g (xs.drop k) (us.drop k) := by
 have hl := Y9 h
 refine X0s (by simp [hl]) fun i x u hx hu => ?_
 rw [List.getElem?_drop] at hx hu
 obtain ⟨u', h1, h2⟩ := U2 h _ _ hx
 rw [h1] at hu; cases hu; exact h2
theorem X0a {g : Gh} {xs : List AVal} {us : List Value} (h : Xi g xs us) (k : Nat) : Xi g (xs.take k) (us.take k) := by
 have hl := Y9 h
 refine X0s (by simp [hl]) fun i x u hx hu => ?_
 rw [List.getElem?_take] at hx hu
 split at hx
 ·rename_i hk
  rw [if_pos hk] at hu
  obtain ⟨u', h1, h2⟩ := U2 h _ _ hx
  rw [h1] at hu; cases hu; exact h2
 ·simp at hx
theorem VD {g : Gh} {xs ys : List AVal} {us vs : List Value} (h : Xi g xs us) (h' : Xi g ys vs) : Xi g (xs ++ ys) (us ++ vs) := by
 have hl := Y9 h
 have hl' := Y9 h'
 refine X0s (by simp [hl, hl']) fun i x u hx hu => ?_
 rw [List.getElem?_append] at hx hu
 rw [hl] at hu
 split at hx
 ·rename_i hk
  rw [if_pos hk] at hu
  obtain ⟨u', h1, h2⟩ := U2 h _ _ hx
  rw [h1] at hu; cases hu; exact h2
 ·rename_i hk
  rw [if_neg hk] at hu
  obtain ⟨u', h1, h2⟩ := U2 h' _ _ hx
  rw [h1] at hu; cases hu; exact h2
inductive NC where
 | d (x : D)
 | r (isz : Nat) (rows : List (List D))
def KK : Nat := 9223372036854775808
abbrev Hd := Value × Nat × List (List D)
def X3J : List NC → List (Nat × List (List D))
 | [] => []
 | .d _ :: r => X3J r
 | .r z rows :: r => (z, rows) :: X3J r
def X4s (us : Nat → Value) : Nat → List (Nat × List (List D)) → List Hd
 | _, [] => []
 | j, p :: r => (us j, p.1, p.2) :: X4s us (j + 1) r
def X0z (us : Nat → Value) (xs : List (List NC)) : List Hd := X4s us KK (X3J xs.flatten)
def Uh : List NC → List D → List Hd → Prop
 | [], [], [] => True
 | .d x :: cs, y :: ds, hs => y = x ∧ Uh cs ds hs
 | .r z rows :: cs, y :: ds, h :: hs => y = .v h.1 ∧ h.2 = (z, rows) ∧ Uh cs ds hs
 | _, _, _ => False
inductive AObj where
 | dead
 | box (cs : List AVal)
 | row (sz : Nat) (xs : List (List D))
 | froz (sz : Nat) (xs : List (List D))
 | mat (sz : Nat) (rows : List (List (List D)))
 | iter (s : ByteArray) (pos : Nat)
 | imap (es : List (Int × Int))
 | nest (sz : Nat) (xs : List (List NC))
 | bag (hs : List Hd)
 | raw (cs : List (Option D)) (ho : Option (Nat × AVal))
def oA : Option D → AVal
 | some d => .d d
 | none => .any
def Xy (cs : List (Option D)) : Option (Nat × AVal) → List AVal
 | none => cs.map oA
 | some h => (cs.map oA).set h.1 h.2
def hoL : Option (Nat × AVal) → List AVal
 | none => []
 | some h => [h.2]
theorem XcC (γ : Nat) (c : Option D) : (oA c).ment γ = false := by cases c <;> rfl
theorem X66 {g g' : Gh} (hM : XK g.M g'.M) {cs : List (Option D)} {ho : Option (Nat × AVal)} {us : List Value} (hsat : ∀ vs, Xi g (hoL ho) vs → Xi g' (hoL ho) vs) (h : Xi g (Xy cs ho) us) : Xi g' (Xy cs ho) us := by
 refine X0s (Y9 h) fun i x u hx hu => ?_
 obtain ⟨u', h1, h2⟩ := U2 h i x hx
 rw [h1] at hu; cases hu
 have plain : (∃ c, x = oA c) → x.sat g' u := by
  rintro ⟨c, rfl⟩
  exact AVal.sat_mono hM _ _ (fun γ hm => by rw [XcC] at hm; simp at hm) h2
 cases ho with
 | none =>
  simp only [Xy, List.getElem?_map, Option.map_eq_some_iff] at hx
  obtain ⟨c, _, rfl⟩ := hx
  exact plain ⟨c, rfl⟩
 | some q =>
  simp only [Xy] at hx
  rw [List.getElem?_set] at hx
  split at hx
  ·split at hx
   ·cases hx
    have := hsat [u] (by simp only [hoL, Xi, and_true]; exact h2)
    simp only [hoL, Xi, and_true] at this
    exact this
   ·cases hx
  ·simp only [List.getElem?_map, Option.map_eq_some_iff] at hx
   obtain ⟨c, _, rfl⟩ := hx
   exact plain ⟨c, rfl⟩
def AObj.says : AObj → List AVal
 | .box cs => cs
 | .raw _ ho => hoL ho
 | _ => []
def AObj.ment (γ : Nat) (x : AObj) : Bool := Ua γ x.says
def X1q (fr : Nat × Nat) (n : Nat) : Prop := ∀ i, i < n + 1 → ¬ (fr.1 ≤ i ∧ i < fr.2)
def YC (g : Gh) (w : World) (h : Value) (sz : Nat) (xs : List (List D)) : Prop :=
 (∀ x ∈ xs, x.length = sz) ∧
  ((h = .slice none 0 0 ∧ xs = []) ∨
  ∃ b cap vs e fr, h = .slice (some ⟨b, 0, none⟩) xs.length cap ∧ xs.length ≤ cap ∧ cap ≤ maxLen ∧
   w.heap[b]? = some (.cells vs e fr) ∧ X1q fr vs.size ∧ cap * sz ≤ vs.size ∧
   Xi g (xs.flatten.map .d) (vs.toList.take (xs.length * sz)))
def Yy (h : Value) (b : Nat) : Prop := ∃ a n c, h = .slice (some a) n c ∧ a.block = b
def X5t (g : Gh) (w : World) (γ sz : Nat) (rows : List (List (List D))) : Prop :=
 ((g.hd γ = .slice none 0 0 ∧ rows = []) ∨
 ∃ b cap vs e fr, g.hd γ = .slice (some ⟨b, 0, none⟩) rows.length cap ∧ rows.length ≤ cap ∧ cap ≤ maxLen ∧
  w.heap[b]? = some (.cells vs e fr) ∧ X1q fr vs.size ∧ cap ≤ vs.size ∧ (∀ i, i < rows.length → vs[i]? = some (g.ihd γ i)) ∧
  ∀ i, i < rows.length → ¬ Yy (g.ihd γ i) b) ∧
 (∀ i r, rows[i]? = some r → YC g w (g.ihd γ i) sz r) ∧
 ∀ i j b, i < rows.length → j < rows.length → Yy (g.ihd γ i) b → Yy (g.ihd γ j) b → i = j
def X2M (ms : Array MapEntry) (es : List (Int × Int)) : Prop := ms.toList.map (fun e => (e.key, e.val)) = es.map fun p => (Value.int .i64 p.1, Value.int .i64 p.2)
def VB (g : Gh) (w : World) (hs : List Hd) : Prop :=
 (∀ h ∈ hs, YC g w h.1 h.2.1 h.2.2) ∧ hs.Pairwise fun h k => ∀ b, Yy h.1 b → ¬ Yy k.1 b
def X7j (g : Gh) (w : World) (γ sz : Nat) (xs : List (List NC)) : Prop :=
 (∃ rows, rows.length = xs.length ∧ Uh xs.flatten rows.flatten (X0z (g.ihd γ) xs) ∧ YC g w (g.hd γ) sz rows) ∧
 VB g w (X0z (g.ihd γ) xs) ∧ ∀ h ∈ X0z (g.ihd γ) xs, ∀ b, Yy h.1 b → ¬ Yy (g.hd γ) b
def Yb (g : Gh) (w : World) (γ : Nat) : AObj → Prop
 | .dead => True
 | .box cs => ∃ vs e fr, w.heap[g.blk γ]? = some (.cells vs e fr) ∧ X1q fr vs.size ∧ Xi g cs vs.toList ∧ ∀ c ∈ cs, c.cellish = true
 | .row sz xs => YC g w (g.hd γ) sz xs
 | .froz sz xs => (D.sl sz xs).rep g.M (g.hd γ)
 | .mat sz rows => X5t g w γ sz rows
 | .iter s pos => w.heap[g.blk γ]? = some (.stringIter s pos)
 | .imap es => (g.hd γ = .slice none 1 1 ∧ g.ihd γ 0 = .map (some (g.blk γ))) ∧ ∃ ms clock, w.heap[g.blk γ]? = some (.map ms clock) ∧ X2M ms es
 | .nest sz xs => X7j g w γ sz xs
 | .bag hs => VB g w hs
 | .raw cs ho => ∃ vs e fr, w.heap[g.blk γ]? = some (.cells vs e fr) ∧ X1q fr vs.size ∧ Xi g (Xy cs ho) vs.toList
def Xn (g : Gh) : AObj → Nat → Nat → Prop
 | .dead, _, _ => False
 | .froz _ _, _, _ => False
 | .box _, γ, b => g.blk γ = b
 | .iter _ _, γ, b => g.blk γ = b
 | .imap _, γ, b => g.blk γ = b
 | .row _ _, γ, b => Yy (g.hd γ) b
 | .mat _ rows, γ, b => Yy (g.hd γ) b ∨ ∃ i, i < rows.length ∧ Yy (g.ihd γ i) b
 | .nest _ xs, γ, b => Yy (g.hd γ) b ∨ ∃ h ∈ X0z (g.ihd γ) xs, Yy h.1 b
 | .bag hs, _, b => ∃ h ∈ hs, Yy h.1 b
 | .raw _ _, γ, b => g.blk γ = b
theorem X18 {g g' : Gh} {γ : Nat} (hb : g'.blk γ = g.blk γ) (hh : g'.hd γ = g.hd γ) (hi : g'.ihd γ = g.ihd γ) (x : AObj) (b : Nat) : Xn g' x γ b ↔ Xn g x γ b := by
 cases x <;> simp only [Xn, hb, hh, hi]
theorem X70 (γ : Nat) : ∀ l : List D, Ua γ (l.map .d) = false
 | [] => rfl
 | x :: l => by simp [Ua, AVal.ment, X70 γ l]
theorem X1A {g g' : Gh} {w w' : World} (hM : XK g.M g'.M) {h : Value} {sz : Nat} {xs : List (List D)} (hheap : ∀ b, Yy h b → w'.heap[b]? = w.heap[b]?) (hr : YC g w h sz xs) : YC g' w' h sz xs := by
 refine ⟨hr.1, ?_⟩
 rcases hr.2 with h' | ⟨b, cap, vs, e, fr, h1, h2, h3, h4, h5, h6, h7⟩
 ·exact .inl h'
 ·refine .inr ⟨b, cap, vs, e, fr, h1, h2, h3, ?_, h5, h6, Vn hM _ _ (fun γ hm => by rw [X70] at hm; simp at hm) h7⟩
  rw [hheap b ⟨_, _, _, h1, rfl⟩]; exact h4
theorem X47 {g g' : Gh} {w w' : World} (hM : XK g.M g'.M) {hs : List Hd} (hheap : ∀ b, (∃ h ∈ hs, Yy h.1 b) → w'.heap[b]? = w.heap[b]?) (h : VB g w hs) : VB g' w' hs :=
 ⟨fun k hk => X1A hM (fun b hb => hheap b ⟨k, hk, hb⟩) (h.1 k hk), h.2⟩
theorem X2B {g g' : Gh} {w w' : World} {γ : Nat} (hM : XK g.M g'.M) (hb : g'.blk γ = g.blk γ) (hh : g'.hd γ = g.hd γ) (hi : g'.ihd γ = g.ihd γ) {x : AObj}
  (hheap : ∀ b, Xn g x γ b → w'.heap[b]? = w.heap[b]?) (hsat : ∀ cs us, x.says = cs → Xi g cs us → Xi g' cs us) (h : Yb g w γ x) : Yb g' w' γ x := by
 cases x with
 | dead => trivial
 | froz sz xs => simp only [Yb] at h ⊢; rw [hh]; exact D.rep_mono hM _ _ h
 | iter s p =>
  simp only [Yb] at h ⊢
  rw [hb, hheap _ rfl]; exact h
 | imap es =>
  simp only [Yb] at h ⊢
  rw [hb, hh, hi, hheap _ rfl]; exact h
 | box cs =>
  obtain ⟨vs, e, fr, h1, h2, h3, h4⟩ := h
  refine ⟨vs, e, fr, ?_, h2, hsat cs _ rfl h3, h4⟩
  rw [hb, hheap _ rfl]; exact h1
 | row sz xs =>
  simp only [Yb] at h ⊢
  rw [hh]; exact X1A hM (fun b hb' => hheap b hb') h
 | bag hs => exact X47 hM hheap h
 | raw cs ho =>
  obtain ⟨vs, e, fr, h1, h2, h3⟩ := h
  refine ⟨vs, e, fr, ?_, h2, X66 hM (fun us hu => hsat _ us rfl hu) h3⟩
  rw [hb, hheap _ rfl]; exact h1
 | nest sz xs =>
  simp only [Yb, X7j] at h ⊢
  rw [hh, hi]
  obtain ⟨⟨rows, h1, h2, h3⟩, h4, h5⟩ := h
  exact ⟨⟨rows, h1, h2, X1A hM (fun b hb' => hheap b (.inl hb')) h3⟩, X47 hM (fun b hb' => hheap b (.inr hb')) h4, h5⟩
 | mat sz rows =>
  simp only [Yb, X5t] at h ⊢
  rw [hh, hi]
  refine ⟨?_, fun i r hr => X1A hM (fun b hb' => hheap b (.inr ⟨i, (List.getElem?_eq_some_iff.1 hr).1, hb'⟩)) (h.2.1 i r hr), h.2.2⟩
  rcases h.1 with h' | ⟨b, cap, vs, e, fr, h1, h2, h3, h4, h5, h6, h7⟩
  ·exact .inl h'
  ·refine .inr ⟨b, cap, vs, e, fr, h1, h2, h3, ?_, h5, h6, h7⟩
   rw [hheap b (.inl ⟨_, _, _, h1, rfl⟩)]; exact h4
structure Env where
 W : World
 M : Mem
 A : Nat → Prop
 g0 : Gh
 ds : List Deferred := []
structure Inv (E : Env) (L : Nat → AObj) (g : Gh) (w : World) : Prop where
 obj : ∀ γ, Yb g w γ (L γ)
 inj : ∀ γ γ' b, Xn g (L γ) γ b → Xn g (L γ') γ' b → γ = γ'
 mem : ∀ a v, g.M a = some v → w.cell? a = some v
 sep : ∀ γ b, Xn g (L γ) γ b → ∀ a v, g.M a = some v → a.block ≠ b
 new : ∀ γ b, Xn g (L γ) γ b → E.W.heap.size ≤ b ∨ E.A b
 ext : XK E.M g.M
 lim : ∀ a v, g.M a = some v → (∃ v', E.M a = some v') ∨ E.W.heap.size ≤ a.block ∨ E.A a.block
 frame : ∀ b, b < E.W.heap.size → ¬ E.A b → w.heap[b]? = E.W.heap[b]?
 size : E.W.heap.size ≤ w.heap.size
 os : w.os = E.W.os
 out : w.output = E.W.output
 kp : ∀ γ, γ < 100 → E.g0.keeps g γ
def Xb {α : Type} (z : α) : List (Nat × α) → Nat → α
 | [], _ => z
 | (k, x) :: r, t => bif Nat.beq k t then x else Xb z r t
theorem XS {α : Type} (z : α) (k : Nat) (x : α) (r : List (Nat × α)) : Xb z ((k, x) :: r) k = x := by simp [Xb]
theorem XF {α : Type} (z : α) {k t : Nat} (x : α) (r : List (Nat × α)) (h : k ≠ t) : Xb z ((k, x) :: r) t = Xb z r t := by
 have : Nat.beq k t = false := by
  cases hb : Nat.beq k t with
  | false => rfl
  | true => exact absurd (Nat.eq_of_beq_eq_true hb) h
 simp [Xb, this]
structure St where
 n : Nat
 τ : List (Nat × AVal)
 L : List (Nat × AObj)
def St.get (S : St) (t : Nat) : AVal := Xb .any S.τ t
def St.obj (S : St) (γ : Nat) : AObj := Xb .dead S.L γ
def Uu (E : Env) (S : St) (g : Gh) (a : Act) (w : World) : Prop :=
 Inv E S.obj g w ∧ a.defers = E.ds ∧ a.tmps.size = S.n ∧ ∀ t, (S.get t).sat g (a.tmps.getD t undef)
def holds (E : Env) (S : St) (a : Act) (w : World) : Prop := ∃ g, Uu E S g a w
def St.ev (S : St) : Operand → AVal
 | .tmp t => S.get t
 | .const v => bif v.oneCell' then .d (.v v) else .any
 | .global _ => .any
 | .func f => .fn f []
theorem X2N {E : Env} {S : St} {g : Gh} {a : Act} {w : World} (h : Uu E S g a w) (x : Operand) : (S.ev x).sat g (a.eval x) := by
 cases x with
 | tmp t => exact h.2.2.2 t
 | const v =>
  show (bif v.oneCell' then AVal.d (.v v) else AVal.any).sat g v
  cases hv : v.oneCell' with
  | true => simp [AVal.sat, D.rep, hv]
  | false => simp [AVal.sat]
 | global g => simp only [St.ev, AVal.sat]
 | func f => exact ⟨#[], rfl, by simp [Xi]⟩
set_option linter.unusedVariables false
structure Cert where
 reads : List (Operand × AVal)
 dst : Option (Nat × AVal)
 lrd : List (Nat × AObj)
 lwr : List (Nat × AObj)
 new : List Nat
def St.set (S : St) (d : Nat) (y : AVal) : St := ⟨S.n, (d, y) :: S.τ, S.L⟩
def St.own (S : St) (γ : Nat) (o : AObj) : St := ⟨S.n, S.τ, (γ, o) :: S.L⟩
def St.cat (S : St) (Lo : List (Nat × AObj)) : St := ⟨S.n, S.τ, Lo ++ S.L⟩
def St.skip (S : St) (d : Option Nat) : St := ⟨S.n, (d.map fun t => (t, AVal.tup [])).toList ++ S.τ, S.L⟩
def X1Y (γ : Nat) : List (Nat × AVal) → Bool
 | [] => true
 | p :: r => !p.2.ment γ && X1Y γ r
def X26 (γ : Nat) : List (Nat × AObj) → Bool
 | [] => true
 | p :: r => !p.2.ment γ && X26 γ r
def St.free (S : St) (γ : Nat) : Bool := Nat.ble 100 γ && (X1Y γ S.τ && X26 γ S.L)
theorem X1P (γ : Nat) : ∀ l, X1Y γ l = true ↔ ∀ p ∈ l, p.2.ment γ = false
 | [] => by simp [X1Y]
 | p :: r => by simp [X1Y, X1P γ r]
theorem X2d (γ : Nat) : ∀ l, X26 γ l = true ↔ ∀ p ∈ l, p.2.ment γ = false
 | [] => by simp [X26]
 | p :: r => by simp [X26, X2d γ r]
def Cert.app (c : Cert) (S : St) : St := { n := S.n, τ := c.dst.toList ++ S.τ, L := c.lwr ++ S.L }
def Vz (S : St) : List (Operand × AVal) → Prop
 | [] => True
 | p :: r => S.ev p.1 = p.2 ∧ Vz S r
def YF (S : St) : List (Nat × AObj) → Prop
 | [] => True
 | p :: r => S.obj p.1 = p.2 ∧ YF S r
def VS (S : St) : List Nat → Prop
 | [] => True
 | γ :: r => S.free γ = true ∧ VS S r
def X0W (S : St) : Option (Nat × AVal) → Prop
 | none => True
 | some p => Nat.blt p.1 S.n = true
def Cert.ok (c : Cert) (S : St) : Prop := Vz S c.reads ∧ YF S c.lrd ∧ VS S c.new ∧ X0W S c.dst
theorem X0x (S : St) : ∀ l, Vz S l ↔ ∀ p ∈ l, S.ev p.1 = p.2
 | [] => by simp [Vz]
 | p :: r => by simp [Vz, X0x S r]
theorem X11 (S : St) : ∀ l, YF S l ↔ ∀ p ∈ l, S.obj p.1 = p.2
 | [] => by simp [YF]
 | p :: r => by simp [YF, X11 S r]
theorem X1z (S : St) : ∀ l, VS S l ↔ ∀ γ ∈ l, S.free γ = true
 | [] => by simp [VS]
 | p :: r => by simp [VS, X1z S r]
def Xp {α : Type} (k : Nat) : List (Nat × α) → Bool
 | [] => false
 | p :: r => Nat.beq p.1 k || Xp k r
theorem X2r {α : Type} (k : Nat) : ∀ l : List (Nat × α), Xp k l = true ↔ ∃ p ∈ l, p.1 = k
 | [] => by simp [Xp]
 | p :: r => by simp [Xp, X2r k r]
def X1W {α β : Type} (l : List (Nat × α)) : List (Nat × β) → Bool
 | [] => true
 | p :: r => !Xp p.1 l && X1W l r
theorem X6f {α β : Type} (l : List (Nat × α)) : ∀ m : List (Nat × β), X1W l m = true ↔ ∀ p ∈ m, ∀ q ∈ l, q.1 ≠ p.1
 | [] => by simp [X1W]
 | p :: r => by
  simp only [X1W, Bool.and_eq_true, Bool.not_eq_true', X6f l r, List.mem_cons, forall_eq_or_imp]
  refine and_congr_left fun _ => ?_
  rw [← Bool.not_eq_true, X2r]
  exact ⟨fun h q hq e => h ⟨q, hq, e⟩, fun h ⟨q, hq, e⟩ => h q hq e⟩
theorem X3B {a b : Nat} (h : Nat.beq a b = false) : a ≠ b := by
 intro e; subst e; simp at h
def X1X (d : Nat) : List (Operand × AVal) → Bool
 | [] => true
 | (.tmp t, _) :: r => !Nat.beq t d && X1X d r
 | _ :: r => X1X d r
theorem X6E (d : Nat) : ∀ l, X1X d l = true → ∀ p ∈ l, p.1 ≠ .tmp d
 | [], _, _, h => by simp at h
 | (x, _) :: r, h, q, hq => by
  have hr : X1X d r = true := by
   cases x <;> simp [X1X] at h <;> first | exact h.2 | exact h
  rcases List.mem_cons.1 hq with rfl | hq
  ·cases x with
   | tmp t => simp only [X1X, Bool.and_eq_true, Bool.not_eq_true'] at h; intro e; cases e; exact X3B h.1 rfl
   | _ => simp
  ·exact X6E d r hr q hq
def X2I (x : Option (Nat × AVal)) (c : Cert) : Bool :=
 match x with
 | none => true
 | some p => X1X p.1 c.reads && (match c.dst with | none => true | some q => !Nat.beq p.1 q.1)
def X2s (c : Cert) : List Nat → Bool
 | [] => true
 | γ :: r => (X1Y γ c.dst.toList && X26 γ c.lwr) && X2s c r
theorem X9p (c : Cert) : ∀ l, X2s c l = true ↔ ∀ γ ∈ l, X1Y γ c.dst.toList = true ∧ X26 γ c.lwr = true
 | [] => by simp [X2s]
 | γ :: r => by simp [X2s, X9p c r]
def X0J (c d : Cert) : Bool :=
 X2I c.dst d && X2I d.dst c && X1W c.lwr d.lrd && X1W c.lwr d.lwr && X1W d.lwr c.lrd && X2s d c.new && X2s c d.new
structure St.Eqv (S T : St) : Prop where
 n : S.n = T.n
 get : ∀ t, S.get t = T.get t
 obj : ∀ γ, S.obj γ = T.obj γ
 memT : ∀ p, p ∈ S.τ ↔ p ∈ T.τ
 memL : ∀ p, p ∈ S.L ↔ p ∈ T.L
theorem St.Eqv.refl (S : St) : S.Eqv S := ⟨rfl, fun _ => rfl, fun _ => rfl, fun _ => Iff.rfl, fun _ => Iff.rfl⟩
theorem St.Eqv.symm {S T : St} (h : S.Eqv T) : T.Eqv S := ⟨h.n.symm, fun t => (h.get t).symm, fun t => (h.obj t).symm, fun p => (h.memT p).symm, fun p => (h.memL p).symm⟩
theorem St.Eqv.trans {S T U : St} (h : S.Eqv T) (k : T.Eqv U) : S.Eqv U :=
 ⟨h.n.trans k.n, fun t => (h.get t).trans (k.get t), fun t => (h.obj t).trans (k.obj t), fun p => (h.memT p).trans (k.memT p), fun p => (h.memL p).trans (k.memL p)⟩
theorem St.Eqv.ev {S T : St} (h : S.Eqv T) (x : Operand) : S.ev x = T.ev x := by
 cases x <;> first | rfl | exact h.get _
theorem St.Eqv.free {S T : St} (h : S.Eqv T) (γ : Nat) : S.free γ = T.free γ := by
 rw [Bool.eq_iff_iff]
 simp only [St.free, Bool.and_eq_true, X1P, X2d]
 exact and_congr_right fun _ => and_congr ⟨fun k p hp => k p ((h.memT p).2 hp), fun k p hp => k p ((h.memT p).1 hp)⟩ ⟨fun k p hp => k p ((h.memL p).2 hp), fun k p hp => k p ((h.memL p).1 hp)⟩
theorem St.Eqv.holds {S T : St} (h : S.Eqv T) {E : Env} {a : Act} {w : World} (hs : holds E S a w) : holds E T a w := by
 obtain ⟨g, h1, h2, h3, h4⟩ := hs
 have : S.obj = T.obj := funext h.obj
 exact ⟨g, this ▸ h1, h2, h.n ▸ h3, fun t => by rw [← h.get]; exact h4 t⟩
theorem Cert.ok_eqv {c : Cert} {S T : St} (h : S.Eqv T) (hc : c.ok S) : c.ok T := by
 obtain ⟨h1, h2, h3, h4⟩ := hc
 rw [X0x] at h1; rw [X11] at h2; rw [X1z] at h3
 refine ⟨(X0x _ _).2 fun p hp => (h.ev _).symm.trans (h1 p hp), (X11 _ _).2 fun p hp => (h.obj _).symm.trans (h2 p hp), (X1z _ _).2 fun γ hγ => (h.free γ).symm.trans (h3 γ hγ), ?_⟩
 cases hd : c.dst with
 | none => trivial
 | some p => rw [hd] at h4; simp only [X0W] at h4 ⊢; rw [← h.n]; exact h4
theorem X1I {α : Type} (z : α) (l m : List (Nat × α)) (k : Nat) : Xb z (l ++ m) k = if Xp k l then Xb z l k else Xb z m k := by
 induction l with
 | nil => simp [Xp]
 | cons p r ih =>
  obtain ⟨j, x⟩ := p
  by_cases h : j = k
  ·subst h; simp [Xb, Xp]
  ·have hb : Nat.beq j k = false := by
    cases hb : Nat.beq j k with
    | false => rfl
    | true => exact absurd (Nat.eq_of_beq_eq_true hb) h
   simp [Xb, Xp, hb, ih]
theorem St.Eqv.app {S T : St} (h : S.Eqv T) (c : Cert) : (c.app S).Eqv (c.app T) := by
 refine ⟨h.n, fun t => ?_, fun γ => ?_, fun p => ?_, fun p => ?_⟩
 ·show Xb _ _ _ = Xb _ _ _
  simp only [Cert.app, X1I]; split
  ·rfl
  ·exact h.get t
 ·show Xb _ _ _ = Xb _ _ _
  simp only [Cert.app, X1I]; split
  ·rfl
  ·exact h.obj γ
 ·simp only [Cert.app, List.mem_append, h.memT]
 ·simp only [Cert.app, List.mem_append, h.memL]
theorem Xen {c d : Cert} (hi : X0J c d = true) (S : St) : (d.app (c.app S)).Eqv (c.app (d.app S)) := by
 simp only [X0J, Bool.and_eq_true] at hi
 obtain ⟨⟨⟨⟨⟨⟨h1, h2⟩, h3⟩, h4⟩, h5⟩, h6⟩, h7⟩ := hi
 rw [X6f] at h4
 have hd : ∀ t, Xp t c.dst.toList = true → Xp t d.dst.toList = true → False := by
  intro t ht ht'
  rw [X2r] at ht ht'
  obtain ⟨p, hp, rfl⟩ := ht
  obtain ⟨q, hq, hqp⟩ := ht'
  cases hc : c.dst with
  | none => simp [hc] at hp
  | some p' =>
   cases hdd : d.dst with
   | none => simp [hdd] at hq
   | some q' =>
    simp only [hc, Option.toList_some, List.mem_singleton] at hp
    simp only [hdd, Option.toList_some, List.mem_singleton] at hq
    subst hp hq
    simp only [X2I, Bool.and_eq_true, Bool.not_eq_true', hdd, hc] at h1
    have := h1.2
    rw [← hqp] at this
    simp at this
 refine ⟨rfl, fun t => ?_, fun γ => ?_, fun p => ?_, fun p => ?_⟩
 ·show Xb _ _ _ = Xb _ _ _
  simp only [Cert.app, X1I]
  by_cases k1 : Xp t d.dst.toList = true
  ·by_cases k2 : Xp t c.dst.toList = true
   ·exact (hd t k2 k1).elim
   ·simp [k1, k2]
  ·by_cases k2 : Xp t c.dst.toList = true <;> simp [k1, k2]
 ·show Xb _ _ _ = Xb _ _ _
  simp only [Cert.app, X1I]
  by_cases k1 : Xp γ d.lwr = true
  ·by_cases k2 : Xp γ c.lwr = true
   ·rw [X2r] at k1 k2
    obtain ⟨p, hp, rfl⟩ := k1
    obtain ⟨q, hq, hqp⟩ := k2
    exact absurd hqp (h4 p hp q hq)
   ·simp [k1, k2]
  ·by_cases k2 : Xp γ c.lwr = true <;> simp [k1, k2]
 ·simp only [Cert.app, List.mem_append]; constructor <;> (rintro (h | h | h) <;> simp [h])
 ·simp only [Cert.app, List.mem_append]; constructor <;> (rintro (h | h | h) <;> simp [h])
theorem Xbs {c : Cert} {S : St} {x : Operand} (h : ∀ p, c.dst = some p → x ≠ .tmp p.1) : (c.app S).ev x = S.ev x := by
 cases x with
 | tmp t =>
  show Xb _ _ _ = Xb _ _ _
  simp only [Cert.app, X1I]
  have : Xp t c.dst.toList = false := by
   rw [← Bool.not_eq_true, X2r]
   rintro ⟨p, hp, rfl⟩
   exact h p (by simpa using hp) rfl
  simp [this]
 | _ => rfl
theorem X96 {c : Cert} {S : St} {γ : Nat} (h : ∀ p ∈ c.lwr, p.1 ≠ γ) : (c.app S).obj γ = S.obj γ := by
 show Xb _ _ _ = Xb _ _ _
 simp only [Cert.app, X1I]
 have : Xp γ c.lwr = false := by
  rw [← Bool.not_eq_true, X2r]
  rintro ⟨p, hp, e⟩
  exact h p hp e
 simp [this]
theorem Xhb {c d : Cert} (hi : X0J c d = true) {S : St} (hc : c.ok S) (hd : d.ok (c.app S)) : d.ok S ∧ c.ok (d.app S) := by
 have hi' := hi
 simp only [X0J, Bool.and_eq_true] at hi
 obtain ⟨⟨⟨⟨⟨⟨h1, h2⟩, h3⟩, h4⟩, h5⟩, h6⟩, h7⟩ := hi
 rw [X6f] at h3 h4 h5
 rw [X9p] at h6 h7
 obtain ⟨c1, c2, c3, c4⟩ := hc
 obtain ⟨d1, d2, d3, d4⟩ := hd
 rw [X0x] at c1 d1; rw [X11] at c2 d2; rw [X1z] at c3 d3
 refine ⟨⟨(X0x _ _).2 fun p hp => ?_, (X11 _ _).2 fun p hp => ?_, (X1z _ _).2 fun γ hγ => ?_, ?_⟩,
  (X0x _ _).2 fun p hp => ?_, (X11 _ _).2 fun p hp => ?_, (X1z _ _).2 fun γ hγ => ?_, ?_⟩
 ·rw [← d1 p hp]
  refine (Xbs fun q hq => ?_).symm
  rw [hq] at h1
  simp only [X2I, Bool.and_eq_true] at h1
  exact X6E _ _ h1.1 p hp
 ·rw [← d2 p hp]
  exact (X96 fun q hq => h3 p hp q hq).symm
 ·have := d3 γ hγ
  simp only [St.free, Cert.app, Bool.and_eq_true, X1P, X2d, List.mem_append] at this ⊢
  exact ⟨this.1, fun p hp => this.2.1 p (.inr hp), fun p hp => this.2.2 p (.inr hp)⟩
 ·exact d4
 ·rw [← c1 p hp]
  refine Xbs fun q hq => ?_
  rw [hq] at h2
  simp only [X2I, Bool.and_eq_true] at h2
  exact X6E _ _ h2.1 p hp
 ·rw [← c2 p hp]
  exact X96 fun q hq => h5 p hp q hq
 ·have := c3 γ hγ
  have hm := h6 γ hγ
  simp only [St.free, Cert.app, Bool.and_eq_true, X1P, X2d, List.mem_append] at this hm ⊢
  exact ⟨this.1, fun p hp => hp.elim (hm.1 p) (this.2.1 p), fun p hp => hp.elim (hm.2 p) (this.2.2 p)⟩
 ·exact c4
def X1C (P : Program) (ops : Array Oper) (o : Oper) (c : Cert) : Prop :=
 ∀ (E : Env) (S : St) (a : Act) (w : World), holds E S a w → c.ok S →
  ∀ (Q : Exit → Act → World → Prop) (K : Act → World → Prop), (∀ a' w', holds E (c.app S) a' w' → K a' w') →
   if Region.wanted o (yielded ops a.tmps) then o.wp P a w K Q else K (a.put o.dst undef) w
abbrev XA := List (Nat × Oper × Cert)
def X3k (P : Program) (ops : Array Oper) (E : Env) (Q : Exit → Act → World → Prop) (o : Oper) (c : Cert) : Prop :=
 ∀ (S : St) (a : Act) (w : World), holds E S a w → c.ok S →
  ∀ (K : Act → World → Prop), (∀ a' w', holds E (c.app S) a' w' → K a' w') →
   if Region.wanted o (yielded ops a.tmps) then o.wp P a w K Q else K (a.put o.dst undef) w
theorem X1C.q {P : Program} {ops : Array Oper} {o : Oper} {c : Cert} (h : X1C P ops o c) (E : Env) (Q : Exit → Act → World → Prop) : X3k P ops E Q o c := fun S a w hs hok K => h E S a w hs hok Q K
def U6 (V : Oper → Cert → Prop) : XA → St → St → Prop
 | [], S, T => S.Eqv T
 | x :: r, S, T => V x.2.1 x.2.2 ∧ x.2.2.ok S ∧ U6 V r (x.2.2.app S) T
abbrev X64 (P : Program) (ops : Array Oper) : XA → St → St → Prop := U6 (X1C P ops)
theorem U6.mono {V W : Oper → Cert → Prop} (hV : ∀ o c, V o c → W o c) : ∀ {l : XA} {S T : St}, U6 V l S T → U6 W l S T
 | [], _, _, h => h
 | _ :: _, _, _, h => ⟨hV _ _ h.1, h.2.1, U6.mono hV h.2.2⟩
theorem U6.eqv {V : Oper → Cert → Prop} : ∀ {l : XA} {S S' T : St}, S.Eqv S' → U6 V l S T → U6 V l S' T
 | [], _, _, _, h, hc => h.symm.trans hc
 | x :: r, _, _, _, h, hc => ⟨hc.1, Cert.ok_eqv h hc.2.1, U6.eqv (h.app _) hc.2.2⟩
theorem U6.app {V : Oper → Cert → Prop} : ∀ {l m : XA} {S T U : St}, U6 V l S T → U6 V m T U → U6 V (l ++ m) S U
 | [], [], S, T, U, h, k => h.trans k
 | [], x :: m, S, T, U, h, k => ⟨k.1, Cert.ok_eqv h.symm k.2.1, U6.eqv (h.symm.app _) k.2.2⟩
 | _ :: _, _, _, _, _, h, k => ⟨h.1, h.2.1, U6.app h.2.2 k⟩
theorem U6.front {V : Oper → Cert → Prop} {k : Nat × Oper × Cert} {l₂ : XA} {T : St} : ∀ {l₁ : XA} {S : St},
  (∀ x ∈ l₁, X0J x.2.2 k.2.2 = true) → U6 V (l₁ ++ k :: l₂) S T → U6 V (k :: (l₁ ++ l₂)) S T
 | [], _, _, h => h
 | x :: l₁, S, hi, h => by
  obtain ⟨hx, hxo, hr⟩ := h
  have hr' := U6.front (l₁ := l₁) (fun y hy => hi y (by simp [hy])) hr
  obtain ⟨hk, hko, hrest⟩ := hr'
  have hsw := Xhb (hi x (by simp)) hxo hko
  exact ⟨hk, hsw.1, hx, hsw.2, U6.eqv (Xen (hi x (by simp)) S) hrest⟩
def X15 (ops : Array Oper) : Nat → Nat → Nat → Bool
 | 0, _, _ => false
 | n + 1, i, x => ((ops[i]?).map fun o => o.after.toList.any fun e => Region.binds .any e && (Nat.beq e.on x || X15 ops n e.on x)).getD false
def X2V (ops : Array Oper) (k : Nat × Oper × Cert) : XA → Bool
 | [] => true
 | x :: r => (X0J x.2.2 k.2.2 || X15 ops ops.size k.1 x.1) && X2V ops k r
def X6N (k : Nat × Oper × Cert) : Bool := k.2.1.after.toList.all fun e => !Region.binds .any e || Nat.blt e.on k.1
def X1v (ops : Array Oper) : XA → Bool
 | [] => true
 | k :: r => X2V ops k r && X6N k && X1v ops r
theorem X8E (ops : Array Oper) (k : Nat × Oper × Cert) : ∀ l, X2V ops k l = true ↔ ∀ x ∈ l, X0J x.2.2 k.2.2 = true ∨ X15 ops ops.size k.1 x.1 = true
 | [] => by simp [X2V]
 | x :: r => by simp [X2V, X8E ops k r]
theorem X7N {ops : Array Oper} {listed : Array Bool}
  (hcl : ∀ j o, ops[j]? = some o → listed.getD j false = true → ∀ e ∈ o.after, Region.binds .any e = true → listed.getD e.on false = true) :
  ∀ (n i x : Nat) (o : Oper), ops[i]? = some o → (∀ e ∈ o.after, Region.binds .any e = true → listed.getD e.on false = true) → X15 ops n i x = true → listed.getD x false = true
 | 0, _, _, _, _, _, h => by simp [X15] at h
 | n + 1, i, x, o, ho, he, h => by
  simp only [X15, ho, Option.map_some, Option.getD_some, List.any_eq_true, Bool.and_eq_true, Bool.or_eq_true] at h
  obtain ⟨e, hm, hb, hx⟩ := h
  have hl := he e (by simpa using hm) hb
  rcases hx with hx | hx
  ·rw [← Nat.eq_of_beq_eq_true hx]; exact hl
  ·cases ho' : ops[e.on]? with
   | none => cases n <;> simp [X15, ho'] at hx
   | some o' => exact X7N hcl n e.on x o' ho' (fun e' h1 h2 => hcl _ _ ho' hl e' h1 h2) hx
structure Rest (ops : Array Oper) (l : XA) (listed : Array Bool) : Prop where
 at_ : ∀ x ∈ l, ops[x.1]? = some x.2.1
 inc : l.Pairwise fun x y => x.1 < y.1
 all : ∀ i, listed.getD i true = false ↔ ∃ x ∈ l, x.1 = i
 closed : ∀ j o, ops[j]? = some o → listed.getD j false = true → ∀ e ∈ o.after, Region.binds .any e = true → listed.getD e.on false = true
 size : listed.size = ops.size
 pairs : ∀ x ∈ l, ∀ y ∈ l, x.1 < y.1 → X0J x.2.2 y.2.2 = true ∨ X15 ops ops.size y.1 x.1 = true
 edges : ∀ x ∈ l, ∀ e ∈ x.2.1.after, Region.binds .any e = true → e.on < x.1
theorem Xcp {P : Program} {ops : Array Oper} {Q : Exit → Act → World → Prop} {E : Env} {T : St} (hQ : ∀ a w, holds E T a w → Q .normal a w) :
  ∀ (fuel : Nat) (l : XA) (listed : Array Bool) (S : St) (a : Act) (w : World), l.length = fuel → Rest ops l listed → U6 (X3k P ops E Q) l S T → holds E S a w →
   wpAny P .any ops Q fuel listed a w := by
 intro fuel
 induction fuel with
 | zero =>
  intro l listed S a w hl hr hc hs
  have hl' : l = [] := by cases l with | nil => rfl | cons => simp at hl
  subst hl'
  refine ⟨?_, hQ _ _ (St.Eqv.holds hc hs)⟩
  rw [List.eq_nil_iff_forall_not_mem]
  intro i hi
  rw [mem_ready] at hi
  obtain ⟨x, hx, _⟩ := (hr.all i).1 hi.1
  simp at hx
 | succ fuel ih =>
  intro l listed S a w hl hr hc hs
  refine ⟨fun hnil => ?_, fun i hi => ?_⟩
  ·exfalso
   cases l with
   | nil => simp at hl
   | cons x r =>
    have hx : x.1 ∈ Region.ready .any ops listed := by
     rw [mem_ready]
     refine ⟨(hr.all x.1).2 ⟨x, by simp, rfl⟩, x.2.1, hr.at_ x (by simp), fun e he hb => ?_⟩
     have hlt := hr.edges x (by simp) e he hb
     cases hle : listed.getD e.on true with
     | false =>
      obtain ⟨y, hy, hye⟩ := (hr.all e.on).1 hle
      rcases List.mem_cons.1 hy with rfl | hy
      ·omega
      ·have := (List.pairwise_cons.1 hr.inc).1 y hy; omega
     | true =>
      have hi : e.on < ops.size := by
       have := hr.at_ x (by simp)
       have := (Array.getElem?_eq_some_iff.1 this).1
       omega
      have hi' : e.on < listed.size := by rw [hr.size]; exact hi
      simpa [hi'] using hle
    rw [hnil] at hx; simp at hx
  ·rw [mem_ready] at hi
   obtain ⟨hi0, o, ho, hall⟩ := hi
   obtain ⟨k, hk, rfl⟩ := (hr.all _).1 hi0
   have hko := hr.at_ k hk
   rw [ho] at hko; cases hko
   obtain ⟨l₁, l₂, rfl⟩ := List.append_of_mem hk
   have hinc := hr.inc
   rw [List.pairwise_append] at hinc
   have hlt : ∀ x ∈ l₁, x.1 < k.1 := fun x hx => hinc.2.2 x hx k (by simp)
   have hind : ∀ x ∈ l₁, X0J x.2.2 k.2.2 = true := by
    intro x hx
    rcases hr.pairs x (by simp [hx]) k (by simp) (hlt x hx) with h | h
    ·exact h
    ·have h1 := X7N hr.closed _ _ _ _ ho hall h
     have h2 := (hr.all x.1).2 ⟨x, by simp [hx], rfl⟩
     exfalso
     have hi : x.1 < listed.size := by
      rw [hr.size]; exact (Array.getElem?_eq_some_iff.1 (hr.at_ x (by simp [hx]))).1
     simp [hi] at h1 h2
     rw [h1] at h2; simp at h2
   obtain ⟨hv, hok, hrest⟩ := U6.front hind hc
   have hksz : k.1 < listed.size := by rw [hr.size]; exact (Array.getElem?_eq_some_iff.1 ho).1
   have hrl : Rest ops (l₁ ++ l₂) (listed.setIfInBounds k.1 true) := by
    refine ⟨fun x hx => hr.at_ x (by simp at hx ⊢; rcases hx with h | h <;> simp [h]), ?_, fun i => ?_, fun j o' hj hl' e he hb => ?_, by simp [hr.size], ?_, ?_⟩
    ·rw [List.pairwise_append]
     exact ⟨hinc.1, (List.pairwise_cons.1 hinc.2.1).2, fun x hx y hy => hinc.2.2 x hx y (by simp [hy])⟩
    ·by_cases hik : i = k.1
     ·subst hik
      constructor
      ·intro h; simp [hksz] at h
      ·rintro ⟨x, hx, hxk⟩
       exfalso
       rcases List.mem_append.1 hx with h | h
       ·have := hlt x h; omega
       ·have := (List.pairwise_cons.1 hinc.2.1).1 x h; omega
     ·rw [getD_set_ne true (Ne.symm hik), hr.all]
      constructor
      ·rintro ⟨x, hx, rfl⟩
       refine ⟨x, ?_, rfl⟩
       simp at hx ⊢
       rcases hx with h | h | h
       ·exact .inl h
       ·subst h; exact absurd rfl hik
       ·exact .inr h
      ·rintro ⟨x, hx, rfl⟩
       refine ⟨x, ?_, rfl⟩
       simp at hx ⊢
       rcases hx with h | h <;> simp [h]
    ·by_cases hjk : j = k.1
     ·subst hjk
      rw [ho] at hj; cases hj
      exact getD_set_true (hall e he hb)
     ·rw [getD_set_ne false (Ne.symm hjk)] at hl'
      exact getD_set_true (hr.closed j o' hj hl' e he hb)
    ·intro x hx y hy hxy
     refine hr.pairs x ?_ y ?_ hxy
     ·simp at hx ⊢; rcases hx with h | h <;> simp [h]
     ·simp at hy ⊢; rcases hy with h | h <;> simp [h]
    ·intro x hx
     exact hr.edges x (by simp at hx ⊢; rcases hx with h | h <;> simp [h])
   have hlen : (l₁ ++ l₂).length = fuel := by simp at hl ⊢; omega
   unfold wpOp
   simp only [ho]
   have hvk := hv S a w hs hok (wpAny P .any ops Q fuel (listed.setIfInBounds k.1 true)) (fun a' w' h' => ih _ _ _ _ _ hlen hrl hrest h')
   split
   ·rename_i hw; rw [if_pos hw] at hvk; exact .inl hvk
   ·rename_i hw; rw [if_neg hw] at hvk; exact hvk
theorem Xbz {P : Program} {ops : Array Oper} {Q : Exit → Act → World → Prop} {E : Env} {T : St} (hQ : ∀ a w, holds E T a w → Q .normal a w) :
  ∀ (l : XA) (S : St) (a : Act) (w : World), (∀ x ∈ l, ops[x.1]? = some x.2.1) → X64 P ops l S T → holds E S a w → wpOps P ops Q (l.map (·.1)) a w
 | [], S, a, w, _, hc, hs => hQ _ _ (St.Eqv.holds hc hs)
 | x :: r, S, a, w, ha, hc, hs => by
  obtain ⟨hv, hok, hr⟩ := hc
  rw [List.map_cons, wpOps_cons]
  unfold wpOp
  simp only [ha x (by simp)]
  have hvk := hv E S a w hs hok Q (wpOps P ops Q (r.map (·.1))) (fun a' w' h' => Xbz hQ r _ _ _ (fun y hy => ha y (by simp [hy])) hr h')
  split
  ·rename_i hw; rw [if_pos hw] at hvk; exact .inl hvk
  ·rename_i hw; rw [if_neg hw] at hvk; exact hvk
inductive Walk (P : Program) (ops : Array Oper) (draw : Bool) (K : XA → St → Prop) : List Oper → XA → St → Prop
 | done {l : XA} {S : St} : (draw = true → X1v ops l = true) → K l S → Walk P ops draw K [] l S
 | step {o : Oper} {rest : List Oper} {l : XA} {S : St} (c : Cert) : X1C P ops o c → c.ok S →
   Walk P ops draw K rest ((l.length, o, c) :: l) (c.app S) → Walk P ops draw K (o :: rest) l S
theorem Walk.chain {P : Program} {ops : Array Oper} {draw : Bool} {K : XA → St → Prop} {rest : List Oper} {l : XA} {S : St} (h : Walk P ops draw K rest l S) :
  ∃ (m : XA) (T : St), (draw = true → X1v ops (m.reverse ++ l) = true) ∧ K (m.reverse ++ l) T ∧ X64 P ops m S T ∧ m.map (·.2.1) = rest ∧ m.map (·.1) = List.range' l.length m.length := by
 induction h with
 | done hok hK => exact ⟨[], _, by simpa using hok, by simpa using hK, St.Eqv.refl _, rfl, rfl⟩
 | step c hv hok _ ih =>
  rename_i o rest l S _
  obtain ⟨m, T, h1, h2, h3, h4, h5⟩ := ih
  refine ⟨(l.length, o, c) :: m, T, fun hd => ?_, by simpa using h2, ⟨hv, hok, h3⟩, by simp [h4], ?_⟩
  ·have := h1 hd
   simpa using this
  ·simp [h5, List.range'_succ]
theorem X7Y {ops : Array Oper} : ∀ (l : XA), X1v ops l = true → (l.Pairwise fun y x => X0J x.2.2 y.2.2 = true ∨ X15 ops ops.size y.1 x.1 = true) ∧ ∀ x ∈ l, X6N x = true
 | [], _ => by simp
 | k :: r, h => by
  simp only [X1v, Bool.and_eq_true, X8E] at h
  obtain ⟨⟨h1, h2⟩, h3⟩ := h
  have ih := X7Y r h3
  exact ⟨List.pairwise_cons.2 ⟨fun x hx => h1 x hx, ih.1⟩, fun x hx => (List.mem_cons.1 hx).elim (fun e => e ▸ h2) (ih.2 x)⟩
theorem Xdp {E : Env} {S : St} {a : Act} {w : World} (h : holds E S a w) : holds E S a { w with drawn := w.drawn + 1 } := by
 obtain ⟨g, hi, h2⟩ := h
 exact ⟨g, ⟨fun γ => by
  have := hi.obj γ
  revert this
  cases S.obj γ <;> exact id, hi.inj, hi.mem, hi.sep, hi.new, hi.ext, hi.lim, hi.frame, hi.size, hi.os, hi.out, hi.kp⟩, h2⟩
theorem X8q {ops : Array Oper} {m : XA} (h4 : m.map (·.2.1) = ops.toList) (h5 : m.map (·.1) = List.range' 0 m.length) : ∀ x ∈ m, ops[x.1]? = some x.2.1 := by
 intro x hx
 obtain ⟨i, hi, rfl⟩ := List.getElem_of_mem hx
 have e1 : (m[i]).1 = i := by
  have := congrArg (fun l => l[i]?) h5
  simpa [hi] using this
 have e2 := congrArg (fun l => l[i]?) h4
 simp [hi] at e2
 rw [e1]; simpa using e2.symm
theorem XbZ {P : Program} {id : Nat} {ops : Array Oper} {Q : Exit → Act → World → Prop} {E : Env} {S T : St} {m : XA} (hm : P.follows .mixedOrders = true)
  (h1 : X1v ops m.reverse = true) (hQ : ∀ a w, holds E T a w → Q .normal a w) (h3 : U6 (X3k P ops E Q) m S T) (h4 : m.map (·.2.1) = ops.toList) (h5 : m.map (·.1) = List.range' 0 m.length) {a : Act} {w : World} (hs : holds E S a w) :
  (Code.region id ops true).wp P Q a w := by
 have hlen : m.length = ops.size := by have := congrArg List.length h4; simpa using this
 have hat := X8q h4 h5
 refine wp_region_any hm ?_
 have hord := X7Y _ h1
 refine Xcp hQ ops.size m _ S a _ hlen ?_ h3 (Xdp hs)
 have hinc : m.Pairwise fun x y => x.1 < y.1 := by
  have : (m.map (·.1)).Pairwise (· < ·) := by rw [h5]; exact List.pairwise_lt_range'
  exact List.pairwise_map.1 this
 refine ⟨hat, hinc, fun i => ?_, fun j o hj hl => ?_, by simp, ?_, ?_⟩
 ·constructor
  ·intro hi
   have hlt : i < ops.size := by
    rcases Nat.lt_or_ge i ops.size with h | h
    ·exact h
    ·simp [Nat.not_lt.2 h] at hi
   have : i ∈ m.map (·.1) := by rw [h5]; simp [hlen, hlt]
   simpa using this
  ·rintro ⟨x, hx, rfl⟩
   have := (Array.getElem?_eq_some_iff.1 (hat x hx)).1
   simp [this]
 ·exfalso
  have := (Array.getElem?_eq_some_iff.1 hj).1
  simp [this] at hl
 ·intro x hx y hy hxy
  have hp := List.pairwise_reverse.1 hord.1
  obtain ⟨i, hi, rfl⟩ := List.getElem_of_mem hx
  obtain ⟨j, hj, rfl⟩ := List.getElem_of_mem hy
  have e : ∀ (k : Nat) (hk : k < m.length), (m[k]).1 = k := by
   intro k hk
   have := congrArg (fun l => l[k]?) h5
   simpa [hk] using this
  rw [e, e] at hxy
  exact (List.pairwise_iff_getElem.1 hp) i j hi hj hxy
 ·intro x hx e he hb
  have := hord.2 x (by simpa using hx)
  simp only [X6N, List.all_eq_true] at this
  have := this e (by simpa using he)
  simp [hb] at this
  simpa using this
theorem Xd7 {P : Program} {id : Nat} {ops : Array Oper} {draw : Bool} {K : XA → St → Prop} {Q : Exit → Act → World → Prop} {E : Env} {S : St}
  (hm : draw = true → P.follows .mixedOrders = true)
  (h : Walk P ops draw K ops.toList [] S) (hQ : ∀ l T, K l T → ∀ a w, holds E T a w → Q .normal a w) {a : Act} {w : World} (hs : holds E S a w) :
  (Code.region id ops draw).wp P Q a w := by
 obtain ⟨m, T, h1, h2, h3, h4, h5⟩ := h.chain
 cases draw with
 | false =>
  refine wp_region ?_
  have hlen : m.length = ops.size := by have := congrArg List.length h4; simpa using this
  have := Xbz (P := P) (Q := Q) (hQ _ T h2) m S a w (X8q h4 h5) h3 hs
  rwa [h5, hlen, List.length_nil, ← List.range_eq_range'] at this
 | true => exact XbZ (hm rfl) (by simpa using h1 rfl) (hQ _ T h2) (h3.mono fun o c hv => hv.q E Q) h4 h5 hs
end Go.Fw

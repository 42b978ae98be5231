/- A small separation calculus over the model: immutable data, owned boxes and rows. First part: data, abstract values, the invariant. -/
import Derived.Calls
import Derived.Orders
import Derived.Laws.Entries
import Derived.Laws.Rows
import Derived.RowKit3
import Derived.Scope
import Derived.IntWalk
import Derived.Laws.Slices
import Derived.Laws.AppendOwn
import Derived.Laws.BytesString
namespace Go.Fw
open Go

abbrev Mem := Addr → Option Value

/-- Immutable data: one cell each. -/
inductive D where
  | v (x : Value)
  | sl (sz : Nat) (xs : List (List D))

mutual
def D.rep (M : Mem) : D → Value → Prop
  | .v x, u => u = x ∧ x.oneCell' = true
  | .sl sz xs, u => ∃ (a : Option Addr) (cap : Nat), u = .slice a xs.length cap ∧ xs.length ≤ cap ∧ cap ≤ maxLen ∧
      (xs = [] ∨ ∃ b o, a = some ⟨b, o, none⟩ ∧ repRows M sz xs b o)
def repCells (M : Mem) : List D → Nat → Nat → Prop
  | [], _, _ => True
  | d :: ds, b, o => (∃ u, M ⟨b, o, none⟩ = some u ∧ D.rep M d u) ∧ repCells M ds b (o + 1)
def repRows (M : Mem) (sz : Nat) : List (List D) → Nat → Nat → Prop
  | [], _, _ => True
  | r :: rs, b, o => r.length = sz ∧ repCells M r b o ∧ repRows M sz rs b (o + sz)
end

def MemLe (M M' : Mem) : Prop := ∀ a v, M a = some v → M' a = some v
theorem MemLe.refl (M : Mem) : MemLe M M := fun _ _ h => h
theorem MemLe.trans {A B C : Mem} (h : MemLe A B) (k : MemLe B C) : MemLe A C := fun _ _ x => k _ _ (h _ _ x)

mutual
theorem D.rep_mono {M M' : Mem} (h : MemLe M M') : ∀ (d : D) (u : Value), d.rep M u → d.rep M' u
  | .v x, u, hr => by simpa only [D.rep] using hr
  | .sl sz xs, u, hr => by
    simp only [D.rep] at hr ⊢
    obtain ⟨a, cap, h1, h2, h3, h4⟩ := hr
    refine ⟨a, cap, h1, h2, h3, ?_⟩
    rcases h4 with h4 | ⟨b, o, h5, h6⟩
    · exact .inl h4
    · exact .inr ⟨b, o, h5, repRows_mono h sz xs b o h6⟩
theorem repCells_mono {M M' : Mem} (h : MemLe M M') : ∀ (ds : List D) (b o : Nat), repCells M ds b o → repCells M' ds b o
  | [], _, _, _ => by simp only [repCells]
  | d :: ds, b, o, hr => by
    simp only [repCells] at hr ⊢
    obtain ⟨⟨u, h1, h2⟩, h3⟩ := hr
    exact ⟨⟨u, h _ _ h1, D.rep_mono h d u h2⟩, repCells_mono h ds b (o + 1) h3⟩
theorem repRows_mono {M M' : Mem} (h : MemLe M M') (sz : Nat) : ∀ (xs : List (List D)) (b o : Nat), repRows M sz xs b o → repRows M' sz xs b o
  | [], _, _, _ => by simp only [repRows]
  | r :: rs, b, o, hr => by
    simp only [repRows] at hr ⊢
    exact ⟨hr.1, repCells_mono h r b o hr.2.1, repRows_mono h sz rs b (o + sz) hr.2.2⟩
end

theorem repCells_get {M : Mem} : ∀ (ds : List D) (b o i : Nat) (d : D), repCells M ds b o → ds[i]? = some d → ∃ u, M ⟨b, o + i, none⟩ = some u ∧ d.rep M u
  | [], _, _, _, _, _, h => by simp at h
  | e :: ds, b, o, 0, d, hr, h => by
    simp only [repCells] at hr
    simp at h; subst h
    exact hr.1
  | e :: ds, b, o, i + 1, d, hr, h => by
    simp only [repCells] at hr
    have := repCells_get ds b (o + 1) i d hr.2 (by simpa using h)
    rwa [show o + 1 + i = o + (i + 1) by omega] at this

theorem repCells_of {M : Mem} : ∀ (ds : List D) (b o : Nat), (∀ i d, ds[i]? = some d → ∃ u, M ⟨b, o + i, none⟩ = some u ∧ d.rep M u) → repCells M ds b o
  | [], _, _, _ => by simp only [repCells]
  | e :: ds, b, o, h => by
    simp only [repCells]
    refine ⟨by simpa using h 0 e (by simp), repCells_of ds b (o + 1) fun i d hd => ?_⟩
    have := h (i + 1) d (by simpa using hd)
    rwa [show o + (i + 1) = o + 1 + i by omega] at this

theorem repCells_drop {M : Mem} {ds : List D} {b o : Nat} (h : repCells M ds b o) (k : Nat) : repCells M (ds.drop k) b (o + k) := by
  refine repCells_of _ _ _ fun i d hd => ?_
  rw [List.getElem?_drop] at hd
  have := repCells_get ds b o (k + i) d h hd
  rwa [show o + (k + i) = o + k + i by omega] at this
theorem repCells_take {M : Mem} {ds : List D} {b o : Nat} (h : repCells M ds b o) (k : Nat) : repCells M (ds.take k) b o := by
  refine repCells_of _ _ _ fun i d hd => ?_
  rw [List.getElem?_take] at hd
  split at hd
  · exact repCells_get ds b o i d h hd
  · simp at hd
theorem repCells_append {M : Mem} {ds es : List D} {b o : Nat} (h : repCells M ds b o) (h' : repCells M es b (o + ds.length)) : repCells M (ds ++ es) b o := by
  refine repCells_of _ _ _ fun i d hd => ?_
  rw [List.getElem?_append] at hd
  split at hd
  · exact repCells_get ds b o i d h hd
  · have := repCells_get es b _ _ d h' hd
    rwa [show o + ds.length + (i - ds.length) = o + i by omega] at this

theorem repRows_get {M : Mem} {sz : Nat} : ∀ (xs : List (List D)) (b o i : Nat) (r : List D), repRows M sz xs b o → xs[i]? = some r → r.length = sz ∧ repCells M r b (o + i * sz)
  | [], _, _, _, _, _, h => by simp at h
  | e :: xs, b, o, 0, r, hr, h => by
    simp only [repRows] at hr
    simp at h; subst h
    exact ⟨hr.1, by simpa using hr.2.1⟩
  | e :: xs, b, o, i + 1, r, hr, h => by
    simp only [repRows] at hr
    have := repRows_get xs b (o + sz) i r hr.2.2 (by simpa using h)
    rwa [show o + sz + i * sz = o + (i + 1) * sz by rw [Nat.add_mul]; omega] at this
theorem repRows_of {M : Mem} {sz : Nat} : ∀ (xs : List (List D)) (b o : Nat), (∀ i r, xs[i]? = some r → r.length = sz ∧ repCells M r b (o + i * sz)) → repRows M sz xs b o
  | [], _, _, _ => by simp only [repRows]
  | e :: xs, b, o, h => by
    simp only [repRows]
    have h0 := h 0 e (by simp)
    refine ⟨h0.1, by simpa using h0.2, repRows_of xs b (o + sz) fun i r hr => ?_⟩
    have := h (i + 1) r (by simpa using hr)
    rwa [show o + (i + 1) * sz = o + sz + i * sz by rw [Nat.add_mul]; omega] at this
theorem repRows_drop {M : Mem} {sz : Nat} {xs : List (List D)} {b o : Nat} (h : repRows M sz xs b o) (k : Nat) : repRows M sz (xs.drop k) b (o + k * sz) := by
  refine repRows_of _ _ _ fun i r hr => ?_
  rw [List.getElem?_drop] at hr
  have := repRows_get xs b o (k + i) r h hr
  rwa [show o + (k + i) * sz = o + k * sz + i * sz by rw [Nat.add_mul]; omega] at this
theorem repRows_take {M : Mem} {sz : Nat} {xs : List (List D)} {b o : Nat} (h : repRows M sz xs b o) (k : Nat) : repRows M sz (xs.take k) b o := by
  refine repRows_of _ _ _ fun i r hr => ?_
  rw [List.getElem?_take] at hr
  split at hr
  · exact repRows_get xs b o i r h hr
  · simp at hr

/-- What a slot, or a cell of a box, is known to hold. -/
inductive AVal where
  | any
  | d (x : D)
  | ptr (γ o : Nat)
  | own (γ n : Nat)
  | rptr (γ n o : Nat)
  | inn (γ i : Nat)
  | bsl (γ n : Nat)
  | mptr (γ n i : Nat)
  | cut (γ n k sz : Nat)
  | dptr (row : List D)
  | bq (p q : Prop)
  | agg (cs : List AVal)
  | tup (vs : List AVal)
  | fn (f : FuncId) (caps : List AVal)

structure Gh where
  blk : Nat → Nat
  hd : Nat → Value
  ihd : Nat → Nat → Value
  M : Mem

mutual
def AVal.sat (g : Gh) : AVal → Value → Prop
  | .any, _ => True
  | .d x, u => x.rep g.M u
  | .ptr γ o, u => u = .pointer (some ⟨g.blk γ, o, none⟩)
  | .own γ n, u => u.oneCell' = true ∧ ∃ a m c, g.hd γ = .slice a m c ∧ n ≤ m ∧ (n = m → u = .slice a m c)
  | .rptr γ n o, u => u.oneCell' = true ∧ ∃ a m c, g.hd γ = .slice a m c ∧ n ≤ m ∧ (n = m → ∃ b, a = some b ∧ u = .pointer (some ⟨b.block, o, none⟩))
  | .bsl γ n, u => u = .slice (some ⟨g.blk γ, 0, none⟩) n n
  | .inn γ i, u => u.oneCell' = true ∧ u = g.ihd γ i ∧ ∃ a m c, g.hd γ = .slice a m c ∧ i < m
  | .mptr γ n i, u => u.oneCell' = true ∧ ∃ a m c, g.hd γ = .slice a m c ∧ n ≤ m ∧ (n = m → ∃ b, a = some b ∧ u = .pointer (some ⟨b.block, i, none⟩))
  | .cut γ n k sz, u => u.oneCell' = true ∧ ∃ a m c, g.hd γ = .slice a m c ∧ n ≤ m ∧ (n = m → u = .slice (if c = k then a else a.map fun p => p.add (k * sz)) (n - k) (c - k))
  | .dptr row, u => ∃ b o, u = .pointer (some ⟨b, o, none⟩) ∧ repCells g.M row b o
  | .bq p q, u => ∃ b : Bool, u = .bool b ∧ (b = true → p) ∧ (b = false → q)
  | .agg cs, u => ∃ vs, u = .agg vs ∧ satL g cs vs.toList
  | .tup cs, u => ∃ vs, u = .tuple vs ∧ satL g cs vs.toList
  | .fn f cs, u => ∃ vs, u = .func (.func f) #[] vs ∧ satL g cs vs.toList
def satL (g : Gh) : List AVal → List Value → Prop
  | [], [] => True
  | x :: xs, u :: us => x.sat g u ∧ satL g xs us
  | _, _ => False
end

mutual
def AVal.ment (γ : Nat) : AVal → Bool
  | .ptr k _ => Nat.beq k γ
  | .own k _ => Nat.beq k γ
  | .rptr k _ _ => Nat.beq k γ
  | .inn k _ => Nat.beq k γ
  | .bsl k _ => Nat.beq k γ
  | .mptr k _ _ => Nat.beq k γ
  | .cut k _ _ _ => Nat.beq k γ
  | .agg cs => mentL γ cs
  | .tup cs => mentL γ cs
  | .fn _ cs => mentL γ cs
  | .any => false
  | .d _ => false
  | .dptr _ => false
  | .bq _ _ => false
def mentL (γ : Nat) : List AVal → Bool
  | [] => false
  | x :: xs => x.ment γ || mentL γ xs
end

/-- 'g'' holds of the key γ all that was said over 'g'. -/
def Gh.keeps (g g' : Gh) (γ : Nat) : Prop :=
  g'.blk γ = g.blk γ ∧ (g'.hd γ = g.hd γ ∨ ∃ a m c a' m' c', g.hd γ = .slice a m c ∧ g'.hd γ = .slice a' m' c' ∧ m < m') ∧
    ∀ i a m c, g.hd γ = .slice a m c → i < m → g'.ihd γ i = g.ihd γ i

theorem Gh.keeps_refl (g : Gh) (γ : Nat) : g.keeps g γ := ⟨rfl, .inl rfl, fun _ _ _ _ _ _ => rfl⟩
theorem Gh.keeps_of {g g' : Gh} {γ : Nat} (h1 : g'.blk γ = g.blk γ) (h2 : g'.hd γ = g.hd γ) (h3 : g'.ihd γ = g.ihd γ) : g.keeps g' γ := ⟨h1, .inl h2, fun i _ _ _ _ _ => by rw [h3]⟩
theorem Gh.keeps_trans {g g' g'' : Gh} {γ : Nat} (h : g.keeps g' γ) (k : g'.keeps g'' γ) : g.keeps g'' γ := by
  refine ⟨k.1.trans h.1, ?_, fun i a m c ha hi => ?_⟩
  · rcases h.2.1 with e | ⟨a, m, c, a', m', c', e1, e2, e3⟩
    · rw [← e]; exact k.2.1
    · rcases k.2.1 with e | ⟨b, n, d, b', n', d', f1, f2, f3⟩
      · exact .inr ⟨a, m, c, a', m', c', e1, e.trans e2, e3⟩
      · rw [e2] at f1; cases f1
        exact .inr ⟨a, m, c, b', n', d', e1, f2, by omega⟩
  · refine Eq.trans ?_ (h.2.2 i a m c ha hi)
    rcases h.2.1 with e | ⟨a', m', c', a'', m'', c'', e1, e2, e3⟩
    · exact k.2.2 i a m c (e.trans ha) hi
    · rw [ha] at e1; cases e1
      exact k.2.2 i _ _ _ e2 (by omega)

mutual
theorem AVal.sat_mono {g g' : Gh} (h : MemLe g.M g'.M) : ∀ (x : AVal) (u : Value), (∀ γ, x.ment γ = true → g.keeps g' γ) → x.sat g u → x.sat g' u
  | .any, _, _, _ => by simp only [AVal.sat]
  | .d x, u, _, hs => by simp only [AVal.sat] at hs ⊢; exact D.rep_mono h x u hs
  | .ptr γ o, u, hk, hs => by
    simp only [AVal.sat] at hs ⊢
    rw [(hk γ (by simp [AVal.ment])).1]; exact hs
  | .own γ n, u, hk, hs => by
    simp only [AVal.sat] at hs ⊢
    obtain ⟨h1, a, m, c, h2, h3, h4⟩ := hs
    refine ⟨h1, ?_⟩
    rcases (hk γ (by simp [AVal.ment])).2.1 with e | ⟨a0, m0, c0, a', m', c', e1, e2, e3⟩
    · exact ⟨a, m, c, e.trans h2, h3, h4⟩
    · rw [h2] at e1; cases e1
      exact ⟨a', m', c', e2, by omega, fun e => by omega⟩
  | .rptr γ n o, u, hk, hs => by
    simp only [AVal.sat] at hs ⊢
    obtain ⟨h1, a, m, c, h2, h3, h4⟩ := hs
    refine ⟨h1, ?_⟩
    rcases (hk γ (by simp [AVal.ment])).2.1 with e | ⟨a0, m0, c0, a', m', c', e1, e2, e3⟩
    · exact ⟨a, m, c, e.trans h2, h3, h4⟩
    · rw [h2] at e1; cases e1
      exact ⟨a', m', c', e2, by omega, fun e => by omega⟩
  | .bsl γ n, u, hk, hs => by
    simp only [AVal.sat] at hs ⊢
    rw [(hk γ (by simp [AVal.ment])).1]; exact hs
  | .inn γ i, u, hk, hs => by
    simp only [AVal.sat] at hs ⊢
    obtain ⟨h1, h2, a, m, c, h3, h4⟩ := hs
    have hkk := hk γ (by simp [AVal.ment])
    refine ⟨h1, h2.trans (hkk.2.2 i a m c h3 h4).symm, ?_⟩
    rcases hkk.2.1 with e | ⟨a0, m0, c0, a', m', c', e1, e2, e3⟩
    · exact ⟨a, m, c, e.trans h3, h4⟩
    · rw [h3] at e1; cases e1
      exact ⟨a', m', c', e2, by omega⟩
  | .mptr γ n i, u, hk, hs => by
    simp only [AVal.sat] at hs ⊢
    obtain ⟨h1, a, m, c, h2, h3, h4⟩ := hs
    refine ⟨h1, ?_⟩
    rcases (hk γ (by simp [AVal.ment])).2.1 with e | ⟨a0, m0, c0, a', m', c', e1, e2, e3⟩
    · exact ⟨a, m, c, e.trans h2, h3, h4⟩
    · rw [h2] at e1; cases e1
      exact ⟨a', m', c', e2, by omega, fun e => by omega⟩
  | .cut γ n k sz, u, hk, hs => by
    simp only [AVal.sat] at hs ⊢
    obtain ⟨h1, a, m, c, h2, h3, h4⟩ := hs
    refine ⟨h1, ?_⟩
    rcases (hk γ (by simp [AVal.ment])).2.1 with e | ⟨a0, m0, c0, a', m', c', e1, e2, e3⟩
    · exact ⟨a, m, c, e.trans h2, h3, h4⟩
    · rw [h2] at e1; cases e1
      exact ⟨a', m', c', e2, by omega, fun e => by omega⟩
  | .dptr row, u, _, hs => by
    simp only [AVal.sat] at hs ⊢
    obtain ⟨b, o, h1, h2⟩ := hs
    exact ⟨b, o, h1, repCells_mono h _ _ _ h2⟩
  | .bq p q, u, _, hs => by simp only [AVal.sat] at hs ⊢; exact hs
  | .agg cs, u, hk, hs => by
    simp only [AVal.sat] at hs ⊢
    obtain ⟨vs, h1, h2⟩ := hs
    exact ⟨vs, h1, satL_mono h cs _ (fun γ hm => hk γ (by simpa only [AVal.ment] using hm)) h2⟩
  | .tup cs, u, hk, hs => by
    simp only [AVal.sat] at hs ⊢
    obtain ⟨vs, h1, h2⟩ := hs
    exact ⟨vs, h1, satL_mono h cs _ (fun γ hm => hk γ (by simpa only [AVal.ment] using hm)) h2⟩
  | .fn f cs, u, hk, hs => by
    simp only [AVal.sat] at hs ⊢
    obtain ⟨vs, h1, h2⟩ := hs
    exact ⟨vs, h1, satL_mono h cs _ (fun γ hm => hk γ (by simpa only [AVal.ment] using hm)) h2⟩
theorem satL_mono {g g' : Gh} (h : MemLe g.M g'.M) : ∀ (xs : List AVal) (us : List Value), (∀ γ, mentL γ xs = true → g.keeps g' γ) → satL g xs us → satL g' xs us
  | [], [], _, _ => by simp only [satL]
  | [], _ :: _, _, hs => by simp only [satL] at hs
  | _ :: _, [], _, hs => by simp only [satL] at hs
  | x :: xs, u :: us, hk, hs => by
    simp only [satL] at hs ⊢
    exact ⟨AVal.sat_mono h x u (fun γ hm => hk γ (by simp [mentL, hm])) hs.1, satL_mono h xs us (fun γ hm => hk γ (by simp [mentL, hm])) hs.2⟩
end

def AVal.cellish : AVal → Bool
  | .any => false
  | .agg _ => false
  | .tup _ => false
  | _ => true

theorem D.rep_one {M : Mem} {d : D} {u : Value} (h : d.rep M u) : u.oneCell' = true := by
  cases d with
  | v x => simp only [D.rep] at h; rw [h.1]; exact h.2
  | sl sz xs => simp only [D.rep] at h; obtain ⟨a, cap, rfl, _⟩ := h; rfl
theorem AVal.sat_one {g : Gh} {x : AVal} {u : Value} (hc : x.cellish = true) (h : x.sat g u) : u.oneCell' = true := by
  cases x with
  | any => simp [AVal.cellish] at hc
  | agg _ => simp [AVal.cellish] at hc
  | tup _ => simp [AVal.cellish] at hc
  | d x => simp only [AVal.sat] at h; exact D.rep_one h
  | ptr γ o => simp only [AVal.sat] at h; rw [h]; rfl
  | own γ n => simp only [AVal.sat] at h; exact h.1
  | rptr γ n o => simp only [AVal.sat] at h; exact h.1
  | inn γ i => simp only [AVal.sat] at h; exact h.1
  | bsl γ n => simp only [AVal.sat] at h; rw [h]; rfl
  | mptr γ n i => simp only [AVal.sat] at h; exact h.1
  | cut γ n k sz => simp only [AVal.sat] at h; exact h.1
  | dptr row => simp only [AVal.sat] at h; obtain ⟨b, o, rfl, _⟩ := h; rfl
  | bq p q => simp only [AVal.sat] at h; obtain ⟨b, rfl, _⟩ := h; rfl
  | fn f cs => simp only [AVal.sat] at h; obtain ⟨vs, rfl, _⟩ := h; rfl

theorem satL_length {g : Gh} : ∀ {xs : List AVal} {us : List Value}, satL g xs us → us.length = xs.length
  | [], [], _ => rfl
  | [], _ :: _, h => by simp only [satL] at h
  | _ :: _, [], h => by simp only [satL] at h
  | x :: xs, u :: us, h => by simp only [satL] at h; simp [satL_length h.2]
theorem satL_get {g : Gh} : ∀ {xs : List AVal} {us : List Value}, satL g xs us → ∀ (i : Nat) (x : AVal), xs[i]? = some x → ∃ u, us[i]? = some u ∧ x.sat g u
  | [], [], _, _, _, h => by simp at h
  | [], _ :: _, h, _, _, _ => by simp only [satL] at h
  | _ :: _, [], h, _, _, _ => by simp only [satL] at h
  | x :: xs, u :: us, h, 0, y, hy => by simp only [satL] at h; simp at hy; subst hy; exact ⟨u, by simp, h.1⟩
  | x :: xs, u :: us, h, i + 1, y, hy => by
    simp only [satL] at h
    simpa using satL_get h.2 i y (by simpa using hy)
theorem satL_of {g : Gh} : ∀ {xs : List AVal} {us : List Value}, us.length = xs.length → (∀ (i : Nat) (x : AVal) (u : Value), xs[i]? = some x → us[i]? = some u → x.sat g u) → satL g xs us
  | [], [], _, _ => by simp only [satL]
  | [], _ :: _, h, _ => by simp at h
  | _ :: _, [], h, _ => by simp at h
  | x :: xs, u :: us, h, hs => by
    simp only [satL]
    exact ⟨hs 0 x u (by simp) (by simp), satL_of (by simpa using h) fun i y v hy hv => hs (i + 1) y v (by simpa using hy) (by simpa using hv)⟩
theorem satL_drop {g : Gh} {xs : List AVal} {us : List Value} (h : satL g xs us) (k : Nat) : satL g (xs.drop k) (us.drop k) := by
  have hl := satL_length h
  refine satL_of (by simp [hl]) fun i x u hx hu => ?_
  rw [List.getElem?_drop] at hx hu
  obtain ⟨u', h1, h2⟩ := satL_get h _ _ hx
  rw [h1] at hu; cases hu; exact h2
theorem satL_take {g : Gh} {xs : List AVal} {us : List Value} (h : satL g xs us) (k : Nat) : satL g (xs.take k) (us.take k) := by
  have hl := satL_length h
  refine satL_of (by simp [hl]) fun i x u hx hu => ?_
  rw [List.getElem?_take] at hx hu
  split at hx
  · rename_i hk
    rw [if_pos hk] at hu
    obtain ⟨u', h1, h2⟩ := satL_get h _ _ hx
    rw [h1] at hu; cases hu; exact h2
  · simp at hx
theorem satL_append {g : Gh} {xs ys : List AVal} {us vs : List Value} (h : satL g xs us) (h' : satL g ys vs) : satL g (xs ++ ys) (us ++ vs) := by
  have hl := satL_length h
  have hl' := satL_length h'
  refine satL_of (by simp [hl, hl']) fun i x u hx hu => ?_
  rw [List.getElem?_append] at hx hu
  rw [hl] at hu
  split at hx
  · rename_i hk
    rw [if_pos hk] at hu
    obtain ⟨u', h1, h2⟩ := satL_get h _ _ hx
    rw [h1] at hu; cases hu; exact h2
  · rename_i hk
    rw [if_neg hk] at hu
    obtain ⟨u', h1, h2⟩ := satL_get h' _ _ hx
    rw [h1] at hu; cases hu; exact h2

/-- What is owned: a box of cells; a row with room behind it; a row that was let go. -/
inductive AObj where
  | dead
  | box (cs : List AVal)
  | row (sz : Nat) (xs : List (List D))
  | froz (sz : Nat) (xs : List (List D))
  | mat (sz : Nat) (rows : List (List (List D)))
  | iter (s : ByteArray) (pos : Nat)

def AObj.ment (γ : Nat) : AObj → Bool
  | .box cs => mentL γ cs
  | .dead => false
  | .row _ _ => false
  | .froz _ _ => false
  | .mat _ _ => false
  | .iter _ _ => false

/-- No cell of the first n is frozen. -/
def thaw (fr : Nat × Nat) (n : Nat) : Prop := ∀ i, i < n → ¬ (fr.1 ≤ i ∧ i < fr.2)
/-- A slice's header whose row is one's own. -/
def rowSat (g : Gh) (w : World) (h : Value) (sz : Nat) (xs : List (List D)) : Prop :=
  (∀ x ∈ xs, x.length = sz) ∧
    ((h = .slice none 0 0 ∧ xs = []) ∨
     ∃ b cap vs e fr, h = .slice (some ⟨b, 0, none⟩) xs.length cap ∧ xs.length ≤ cap ∧ cap ≤ maxLen ∧
       w.heap[b]? = some (.cells vs e fr) ∧ thaw fr vs.size ∧ cap * sz ≤ vs.size ∧
       satL g (xs.flatten.map .d) (vs.toList.take (xs.length * sz)))
/-- The header lies in block b. -/
def hdBlk (h : Value) (b : Nat) : Prop := ∃ a n c, h = .slice (some a) n c ∧ a.block = b
def matSat (g : Gh) (w : World) (γ sz : Nat) (rows : List (List (List D))) : Prop :=
  ((g.hd γ = .slice none 0 0 ∧ rows = []) ∨
   ∃ b cap vs e fr, g.hd γ = .slice (some ⟨b, 0, none⟩) rows.length cap ∧ rows.length ≤ cap ∧ cap ≤ maxLen ∧
     w.heap[b]? = some (.cells vs e fr) ∧ thaw fr vs.size ∧ cap ≤ vs.size ∧ (∀ i, i < rows.length → vs[i]? = some (g.ihd γ i)) ∧
     ∀ i, i < rows.length → ¬ hdBlk (g.ihd γ i) b) ∧
  (∀ i r, rows[i]? = some r → rowSat g w (g.ihd γ i) sz r) ∧
  ∀ i j b, i < rows.length → j < rows.length → hdBlk (g.ihd γ i) b → hdBlk (g.ihd γ j) b → i = j
def objSat (g : Gh) (w : World) (γ : Nat) : AObj → Prop
  | .dead => True
  | .box cs => ∃ vs e fr, w.heap[g.blk γ]? = some (.cells vs e fr) ∧ thaw fr vs.size ∧ satL g cs vs.toList ∧ ∀ c ∈ cs, c.cellish = true
  | .row sz xs => rowSat g w (g.hd γ) sz xs
  | .froz sz xs => (D.sl sz xs).rep g.M (g.hd γ)
  | .mat sz rows => matSat g w γ sz rows
  | .iter s pos => w.heap[g.blk γ]? = some (.stringIter s pos)

/-- The blocks that an object owns. -/
def lives (g : Gh) : AObj → Nat → Nat → Prop
  | .dead, _, _ => False
  | .froz _ _, _, _ => False
  | .box _, γ, b => g.blk γ = b
  | .iter _ _, γ, b => g.blk γ = b
  | .row _ _, γ, b => hdBlk (g.hd γ) b
  | .mat _ rows, γ, b => hdBlk (g.hd γ) b ∨ ∃ i, i < rows.length ∧ hdBlk (g.ihd γ i) b

theorem lives_move {g g' : Gh} {γ : Nat} (hb : g'.blk γ = g.blk γ) (hh : g'.hd γ = g.hd γ) (hi : g'.ihd γ = g.ihd γ) (x : AObj) (b : Nat) : lives g' x γ b ↔ lives g x γ b := by
  cases x <;> simp only [lives, hb, hh, hi]
theorem dmapL_ment (γ : Nat) : ∀ l : List D, mentL γ (l.map .d) = false
  | [] => rfl
  | x :: l => by simp [mentL, AVal.ment, dmapL_ment γ l]
theorem rowSat_move {g g' : Gh} {w w' : World} (hM : MemLe g.M g'.M) {h : Value} {sz : Nat} {xs : List (List D)} (hheap : ∀ b, hdBlk h b → w'.heap[b]? = w.heap[b]?) (hr : rowSat g w h sz xs) : rowSat g' w' h sz xs := by
  refine ⟨hr.1, ?_⟩
  rcases hr.2 with h' | ⟨b, cap, vs, e, fr, h1, h2, h3, h4, h5, h6, h7⟩
  · exact .inl h'
  · refine .inr ⟨b, cap, vs, e, fr, h1, h2, h3, ?_, h5, h6, satL_mono hM _ _ (fun γ hm => by rw [dmapL_ment] at hm; simp at hm) h7⟩
    rw [hheap b ⟨_, _, _, h1, rfl⟩]; exact h4
/-- An object stays what it was where its blocks, its headers and what its cells say stay. -/
theorem objSat_move {g g' : Gh} {w w' : World} {γ : Nat} (hM : MemLe g.M g'.M) (hb : g'.blk γ = g.blk γ) (hh : g'.hd γ = g.hd γ) (hi : g'.ihd γ = g.ihd γ) {x : AObj}
    (hheap : ∀ b, lives g x γ b → w'.heap[b]? = w.heap[b]?) (hsat : ∀ cs us, x = .box cs → satL g cs us → satL g' cs us) (h : objSat g w γ x) : objSat g' w' γ x := by
  cases x with
  | dead => trivial
  | froz sz xs => simp only [objSat] at h ⊢; rw [hh]; exact D.rep_mono hM _ _ h
  | iter s p =>
    simp only [objSat] at h ⊢
    rw [hb, hheap _ rfl]; exact h
  | box cs =>
    obtain ⟨vs, e, fr, h1, h2, h3, h4⟩ := h
    refine ⟨vs, e, fr, ?_, h2, hsat cs _ rfl h3, h4⟩
    rw [hb, hheap _ rfl]; exact h1
  | row sz xs =>
    simp only [objSat] at h ⊢
    rw [hh]; exact rowSat_move hM (fun b hb' => hheap b hb') h
  | mat sz rows =>
    simp only [objSat, matSat] at h ⊢
    rw [hh, hi]
    refine ⟨?_, fun i r hr => rowSat_move hM (fun b hb' => hheap b (.inr ⟨i, (List.getElem?_eq_some_iff.1 hr).1, hb'⟩)) (h.2.1 i r hr), h.2.2⟩
    rcases h.1 with h' | ⟨b, cap, vs, e, fr, h1, h2, h3, h4, h5, h6, h7⟩
    · exact .inl h'
    · refine .inr ⟨b, cap, vs, e, fr, h1, h2, h3, ?_, h5, h6, h7⟩
      rw [hheap b (.inl ⟨_, _, _, h1, rfl⟩)]; exact h4

structure Env where
  W : World
  M : Mem
  A : Nat → Prop
  g0 : Gh

structure Inv (E : Env) (L : Nat → AObj) (g : Gh) (w : World) : Prop where
  obj : ∀ γ, objSat g w γ (L γ)
  inj : ∀ γ γ' b, lives g (L γ) γ b → lives g (L γ') γ' b → γ = γ'
  mem : ∀ a v, g.M a = some v → w.cell? a = some v
  sep : ∀ γ b, lives g (L γ) γ b → ∀ a v, g.M a = some v → a.block ≠ b
  new : ∀ γ b, lives g (L γ) γ b → E.W.heap.size ≤ b ∨ E.A b
  ext : MemLe E.M g.M
  lim : ∀ a v, g.M a = some v → (∃ v', E.M a = some v') ∨ E.W.heap.size ≤ a.block ∨ E.A a.block
  frame : ∀ b, b < E.W.heap.size → ¬ E.A b → w.heap[b]? = E.W.heap[b]?
  size : E.W.heap.size ≤ w.heap.size
  os : w.os = E.W.os
  out : w.output = E.W.output
  kp : ∀ γ, γ < 100 → E.g0.keeps g γ

def look {α : Type} (z : α) : List (Nat × α) → Nat → α
  | [], _ => z
  | (k, x) :: r, t => bif Nat.beq k t then x else look z r t

theorem look_same {α : Type} (z : α) (k : Nat) (x : α) (r : List (Nat × α)) : look z ((k, x) :: r) k = x := by simp [look]
theorem look_ne {α : Type} (z : α) {k t : Nat} (x : α) (r : List (Nat × α)) (h : k ≠ t) : look z ((k, x) :: r) t = look z r t := by
  have : Nat.beq k t = false := by
    cases hb : Nat.beq k t with
    | false => rfl
    | true => exact absurd (Nat.eq_of_beq_eq_true hb) h
  simp [look, this]

structure St where
  n : Nat
  τ : List (Nat × AVal)
  L : List (Nat × AObj)

def St.get (S : St) (t : Nat) : AVal := look .any S.τ t
def St.obj (S : St) (γ : Nat) : AObj := look .dead S.L γ

def holdsG (E : Env) (S : St) (g : Gh) (a : Act) (w : World) : Prop :=
  Inv E S.obj g w ∧ a.defers = [] ∧ a.tmps.size = S.n ∧ ∀ t, (S.get t).sat g (a.tmps.getD t undef)
def holds (E : Env) (S : St) (a : Act) (w : World) : Prop := ∃ g, holdsG E S g a w

def St.ev (S : St) : Operand → AVal
  | .tmp t => S.get t
  | .const v => bif v.oneCell' then .d (.v v) else .any
  | .global _ => .any
  | .func f => .fn f []

theorem sat_ev {E : Env} {S : St} {g : Gh} {a : Act} {w : World} (h : holdsG E S g a w) (x : Operand) : (S.ev x).sat g (a.eval x) := by
  cases x with
  | tmp t => exact h.2.2.2 t
  | const v =>
    show (bif v.oneCell' then AVal.d (.v v) else AVal.any).sat g v
    cases hv : v.oneCell' with
    | true => simp [AVal.sat, D.rep, hv]
    | false => simp [AVal.sat]
  | global g => simp only [St.ev, AVal.sat]
  | func f => exact ⟨#[], rfl, by simp [satL]⟩
end Go.Fw
namespace Go.Fw
open Go
set_option linter.unusedVariables false

structure Cert where
  reads : List (Operand × AVal)
  dst : Option (Nat × AVal)
  lrd : List (Nat × AObj)
  lwr : List (Nat × AObj)
  new : List Nat

def St.set (S : St) (d : Nat) (y : AVal) : St := ⟨S.n, (d, y) :: S.τ, S.L⟩
def St.own (S : St) (γ : Nat) (o : AObj) : St := ⟨S.n, S.τ, (γ, o) :: S.L⟩
def St.cat (S : St) (Lo : List (Nat × AObj)) : St := ⟨S.n, S.τ, Lo ++ S.L⟩
def St.skip (S : St) (d : Option Nat) : St := ⟨S.n, (d.map fun t => (t, AVal.tup [])).toList ++ S.τ, S.L⟩

def freeT (γ : Nat) : List (Nat × AVal) → Bool
  | [] => true
  | p :: r => !p.2.ment γ && freeT γ r
def freeL (γ : Nat) : List (Nat × AObj) → Bool
  | [] => true
  | p :: r => !p.2.ment γ && freeL γ r
def St.free (S : St) (γ : Nat) : Bool := Nat.ble 100 γ && (freeT γ S.τ && freeL γ S.L)

theorem freeT_iff (γ : Nat) : ∀ l, freeT γ l = true ↔ ∀ p ∈ l, p.2.ment γ = false
  | [] => by simp [freeT]
  | p :: r => by simp [freeT, freeT_iff γ r]
theorem freeL_iff (γ : Nat) : ∀ l, freeL γ l = true ↔ ∀ p ∈ l, p.2.ment γ = false
  | [] => by simp [freeL]
  | p :: r => by simp [freeL, freeL_iff γ r]

def Cert.app (c : Cert) (S : St) : St := { n := S.n, τ := c.dst.toList ++ S.τ, L := c.lwr ++ S.L }
def readsOk (S : St) : List (Operand × AVal) → Prop
  | [] => True
  | p :: r => S.ev p.1 = p.2 ∧ readsOk S r
def lrdOk (S : St) : List (Nat × AObj) → Prop
  | [] => True
  | p :: r => S.obj p.1 = p.2 ∧ lrdOk S r
def newOk (S : St) : List Nat → Prop
  | [] => True
  | γ :: r => S.free γ = true ∧ newOk S r
def dstOk (S : St) : Option (Nat × AVal) → Prop
  | none => True
  | some p => Nat.blt p.1 S.n = true
def Cert.ok (c : Cert) (S : St) : Prop := readsOk S c.reads ∧ lrdOk S c.lrd ∧ newOk S c.new ∧ dstOk S c.dst

theorem readsOk_iff (S : St) : ∀ l, readsOk S l ↔ ∀ p ∈ l, S.ev p.1 = p.2
  | [] => by simp [readsOk]
  | p :: r => by simp [readsOk, readsOk_iff S r]
theorem lrdOk_iff (S : St) : ∀ l, lrdOk S l ↔ ∀ p ∈ l, S.obj p.1 = p.2
  | [] => by simp [lrdOk]
  | p :: r => by simp [lrdOk, lrdOk_iff S r]
theorem newOk_iff (S : St) : ∀ l, newOk S l ↔ ∀ γ ∈ l, S.free γ = true
  | [] => by simp [newOk]
  | p :: r => by simp [newOk, newOk_iff S r]

def hasKey {α : Type} (k : Nat) : List (Nat × α) → Bool
  | [] => false
  | p :: r => Nat.beq p.1 k || hasKey k r
theorem hasKey_iff {α : Type} (k : Nat) : ∀ l : List (Nat × α), hasKey k l = true ↔ ∃ p ∈ l, p.1 = k
  | [] => by simp [hasKey]
  | p :: r => by simp [hasKey, hasKey_iff k r]
def noKeys {α β : Type} (l : List (Nat × α)) : List (Nat × β) → Bool
  | [] => true
  | p :: r => !hasKey p.1 l && noKeys l r
theorem noKeys_iff {α β : Type} (l : List (Nat × α)) : ∀ m : List (Nat × β), noKeys l m = true ↔ ∀ p ∈ m, ∀ q ∈ l, q.1 ≠ p.1
  | [] => by simp [noKeys]
  | p :: r => by
    simp only [noKeys, Bool.and_eq_true, Bool.not_eq_true', noKeys_iff l r, List.mem_cons, forall_eq_or_imp]
    refine and_congr_left fun _ => ?_
    rw [← Bool.not_eq_true, hasKey_iff]
    exact ⟨fun h q hq e => h ⟨q, hq, e⟩, fun h ⟨q, hq, e⟩ => h q hq e⟩
theorem ne_of_beq {a b : Nat} (h : Nat.beq a b = false) : a ≠ b := by
  intro e; subst e; simp at h
def noRead (d : Nat) : List (Operand × AVal) → Bool
  | [] => true
  | (.tmp t, _) :: r => !Nat.beq t d && noRead d r
  | _ :: r => noRead d r
theorem noRead_iff (d : Nat) : ∀ l, noRead d l = true → ∀ p ∈ l, p.1 ≠ .tmp d
  | [], _, _, h => by simp at h
  | (x, _) :: r, h, q, hq => by
    have hr : noRead d r = true := by
      cases x <;> simp [noRead] at h <;> first | exact h.2 | exact h
    rcases List.mem_cons.1 hq with rfl | hq
    · cases x with
      | tmp t => simp only [noRead, Bool.and_eq_true, Bool.not_eq_true'] at h; intro e; cases e; exact ne_of_beq h.1 rfl
      | _ => simp
    · exact noRead_iff d r hr q hq
def dstApart (x : Option (Nat × AVal)) (c : Cert) : Bool :=
  match x with
  | none => true
  | some p => noRead p.1 c.reads && (match c.dst with | none => true | some q => !Nat.beq p.1 q.1)
def noMent (c : Cert) : List Nat → Bool
  | [] => true
  | γ :: r => (freeT γ c.dst.toList && freeL γ c.lwr) && noMent c r
theorem noMent_iff (c : Cert) : ∀ l, noMent c l = true ↔ ∀ γ ∈ l, freeT γ c.dst.toList = true ∧ freeL γ c.lwr = true
  | [] => by simp [noMent]
  | γ :: r => by simp [noMent, noMent_iff c r]

def indep (c d : Cert) : Bool :=
  dstApart c.dst d && dstApart d.dst c && noKeys c.lwr d.lrd && noKeys c.lwr d.lwr && noKeys d.lwr c.lrd && noMent d c.new && noMent c d.new

/-- Two states that say the same. -/
structure St.Eqv (S T : St) : Prop where
  n : S.n = T.n
  get : ∀ t, S.get t = T.get t
  obj : ∀ γ, S.obj γ = T.obj γ
  memT : ∀ p, p ∈ S.τ ↔ p ∈ T.τ
  memL : ∀ p, p ∈ S.L ↔ p ∈ T.L

theorem St.Eqv.refl (S : St) : S.Eqv S := ⟨rfl, fun _ => rfl, fun _ => rfl, fun _ => Iff.rfl, fun _ => Iff.rfl⟩
theorem St.Eqv.symm {S T : St} (h : S.Eqv T) : T.Eqv S := ⟨h.n.symm, fun t => (h.get t).symm, fun t => (h.obj t).symm, fun p => (h.memT p).symm, fun p => (h.memL p).symm⟩
theorem St.Eqv.trans {S T U : St} (h : S.Eqv T) (k : T.Eqv U) : S.Eqv U :=
  ⟨h.n.trans k.n, fun t => (h.get t).trans (k.get t), fun t => (h.obj t).trans (k.obj t), fun p => (h.memT p).trans (k.memT p), fun p => (h.memL p).trans (k.memL p)⟩
theorem St.Eqv.ev {S T : St} (h : S.Eqv T) (x : Operand) : S.ev x = T.ev x := by
  cases x <;> first | rfl | exact h.get _
theorem St.Eqv.free {S T : St} (h : S.Eqv T) (γ : Nat) : S.free γ = T.free γ := by
  rw [Bool.eq_iff_iff]
  simp only [St.free, Bool.and_eq_true, freeT_iff, freeL_iff]
  exact and_congr_right fun _ => and_congr ⟨fun k p hp => k p ((h.memT p).2 hp), fun k p hp => k p ((h.memT p).1 hp)⟩ ⟨fun k p hp => k p ((h.memL p).2 hp), fun k p hp => k p ((h.memL p).1 hp)⟩
theorem St.Eqv.holds {S T : St} (h : S.Eqv T) {E : Env} {a : Act} {w : World} (hs : holds E S a w) : holds E T a w := by
  obtain ⟨g, h1, h2, h3, h4⟩ := hs
  have : S.obj = T.obj := funext h.obj
  exact ⟨g, this ▸ h1, h2, h.n ▸ h3, fun t => by rw [← h.get]; exact h4 t⟩
theorem Cert.ok_eqv {c : Cert} {S T : St} (h : S.Eqv T) (hc : c.ok S) : c.ok T := by
  obtain ⟨h1, h2, h3, h4⟩ := hc
  rw [readsOk_iff] at h1; rw [lrdOk_iff] at h2; rw [newOk_iff] at h3
  refine ⟨(readsOk_iff _ _).2 fun p hp => (h.ev _).symm.trans (h1 p hp), (lrdOk_iff _ _).2 fun p hp => (h.obj _).symm.trans (h2 p hp), (newOk_iff _ _).2 fun γ hγ => (h.free γ).symm.trans (h3 γ hγ), ?_⟩
  cases hd : c.dst with
  | none => trivial
  | some p => rw [hd] at h4; simp only [dstOk] at h4 ⊢; rw [← h.n]; exact h4

theorem look_append {α : Type} (z : α) (l m : List (Nat × α)) (k : Nat) : look z (l ++ m) k = if hasKey k l then look z l k else look z m k := by
  induction l with
  | nil => simp [hasKey]
  | cons p r ih =>
    obtain ⟨j, x⟩ := p
    by_cases h : j = k
    · subst h; simp [look, hasKey]
    · have hb : Nat.beq j k = false := by
        cases hb : Nat.beq j k with
        | false => rfl
        | true => exact absurd (Nat.eq_of_beq_eq_true hb) h
      simp [look, hasKey, hb, ih]

theorem St.Eqv.app {S T : St} (h : S.Eqv T) (c : Cert) : (c.app S).Eqv (c.app T) := by
  refine ⟨h.n, fun t => ?_, fun γ => ?_, fun p => ?_, fun p => ?_⟩
  · show look _ _ _ = look _ _ _
    simp only [Cert.app, look_append]; split
    · rfl
    · exact h.get t
  · show look _ _ _ = look _ _ _
    simp only [Cert.app, look_append]; split
    · rfl
    · exact h.obj γ
  · simp only [Cert.app, List.mem_append, h.memT]
  · simp only [Cert.app, List.mem_append, h.memL]

theorem app_comm {c d : Cert} (hi : indep c d = true) (S : St) : (d.app (c.app S)).Eqv (c.app (d.app S)) := by
  simp only [indep, Bool.and_eq_true] at hi
  obtain ⟨⟨⟨⟨⟨⟨h1, h2⟩, h3⟩, h4⟩, h5⟩, h6⟩, h7⟩ := hi
  rw [noKeys_iff] at h4
  have hd : ∀ t, hasKey t c.dst.toList = true → hasKey t d.dst.toList = true → False := by
    intro t ht ht'
    rw [hasKey_iff] at ht ht'
    obtain ⟨p, hp, rfl⟩ := ht
    obtain ⟨q, hq, hqp⟩ := ht'
    cases hc : c.dst with
    | none => simp [hc] at hp
    | some p' =>
      cases hdd : d.dst with
      | none => simp [hdd] at hq
      | some q' =>
        simp only [hc, Option.toList_some, List.mem_singleton] at hp
        simp only [hdd, Option.toList_some, List.mem_singleton] at hq
        subst hp hq
        simp only [dstApart, Bool.and_eq_true, Bool.not_eq_true', hdd, hc] at h1
        have := h1.2
        rw [← hqp] at this
        simp at this
  refine ⟨rfl, fun t => ?_, fun γ => ?_, fun p => ?_, fun p => ?_⟩
  · show look _ _ _ = look _ _ _
    simp only [Cert.app, look_append]
    by_cases k1 : hasKey t d.dst.toList = true
    · by_cases k2 : hasKey t c.dst.toList = true
      · exact (hd t k2 k1).elim
      · simp [k1, k2]
    · by_cases k2 : hasKey t c.dst.toList = true <;> simp [k1, k2]
  · show look _ _ _ = look _ _ _
    simp only [Cert.app, look_append]
    by_cases k1 : hasKey γ d.lwr = true
    · by_cases k2 : hasKey γ c.lwr = true
      · rw [hasKey_iff] at k1 k2
        obtain ⟨p, hp, rfl⟩ := k1
        obtain ⟨q, hq, hqp⟩ := k2
        exact absurd hqp (h4 p hp q hq)
      · simp [k1, k2]
    · by_cases k2 : hasKey γ c.lwr = true <;> simp [k1, k2]
  · simp only [Cert.app, List.mem_append]; constructor <;> (rintro (h | h | h) <;> simp [h])
  · simp only [Cert.app, List.mem_append]; constructor <;> (rintro (h | h | h) <;> simp [h])

theorem ev_app {c : Cert} {S : St} {x : Operand} (h : ∀ p, c.dst = some p → x ≠ .tmp p.1) : (c.app S).ev x = S.ev x := by
  cases x with
  | tmp t =>
    show look _ _ _ = look _ _ _
    simp only [Cert.app, look_append]
    have : hasKey t c.dst.toList = false := by
      rw [← Bool.not_eq_true, hasKey_iff]
      rintro ⟨p, hp, rfl⟩
      exact h p (by simpa using hp) rfl
    simp [this]
  | _ => rfl
theorem obj_app {c : Cert} {S : St} {γ : Nat} (h : ∀ p ∈ c.lwr, p.1 ≠ γ) : (c.app S).obj γ = S.obj γ := by
  show look _ _ _ = look _ _ _
  simp only [Cert.app, look_append]
  have : hasKey γ c.lwr = false := by
    rw [← Bool.not_eq_true, hasKey_iff]
    rintro ⟨p, hp, e⟩
    exact h p hp e
  simp [this]

/-- Two certificates that do not meddle may change places. -/
theorem ok_swap {c d : Cert} (hi : indep c d = true) {S : St} (hc : c.ok S) (hd : d.ok (c.app S)) : d.ok S ∧ c.ok (d.app S) := by
  have hi' := hi
  simp only [indep, Bool.and_eq_true] at hi
  obtain ⟨⟨⟨⟨⟨⟨h1, h2⟩, h3⟩, h4⟩, h5⟩, h6⟩, h7⟩ := hi
  rw [noKeys_iff] at h3 h4 h5
  rw [noMent_iff] at h6 h7
  obtain ⟨c1, c2, c3, c4⟩ := hc
  obtain ⟨d1, d2, d3, d4⟩ := hd
  rw [readsOk_iff] at c1 d1; rw [lrdOk_iff] at c2 d2; rw [newOk_iff] at c3 d3
  refine ⟨⟨(readsOk_iff _ _).2 fun p hp => ?_, (lrdOk_iff _ _).2 fun p hp => ?_, (newOk_iff _ _).2 fun γ hγ => ?_, ?_⟩,
    (readsOk_iff _ _).2 fun p hp => ?_, (lrdOk_iff _ _).2 fun p hp => ?_, (newOk_iff _ _).2 fun γ hγ => ?_, ?_⟩
  · rw [← d1 p hp]
    refine (ev_app fun q hq => ?_).symm
    rw [hq] at h1
    simp only [dstApart, Bool.and_eq_true] at h1
    exact noRead_iff _ _ h1.1 p hp
  · rw [← d2 p hp]
    exact (obj_app fun q hq => h3 p hp q hq).symm
  · have := d3 γ hγ
    simp only [St.free, Cert.app, Bool.and_eq_true, freeT_iff, freeL_iff, List.mem_append] at this ⊢
    exact ⟨this.1, fun p hp => this.2.1 p (.inr hp), fun p hp => this.2.2 p (.inr hp)⟩
  · exact d4
  · rw [← c1 p hp]
    refine ev_app fun q hq => ?_
    rw [hq] at h2
    simp only [dstApart, Bool.and_eq_true] at h2
    exact noRead_iff _ _ h2.1 p hp
  · rw [← c2 p hp]
    exact obj_app fun q hq => h5 p hp q hq
  · have := c3 γ hγ
    have hm := h6 γ hγ
    simp only [St.free, Cert.app, Bool.and_eq_true, freeT_iff, freeL_iff, List.mem_append] at this hm ⊢
    exact ⟨this.1, fun p hp => hp.elim (hm.1 p) (this.2.1 p), fun p hp => hp.elim (hm.2 p) (this.2.2 p)⟩
  · exact c4

def Valid (P : Program) (ops : Array Oper) (o : Oper) (c : Cert) : Prop :=
  ∀ (E : Env) (S : St) (a : Act) (w : World), holds E S a w → c.ok S →
    ∀ (Q : Exit → Act → World → Prop) (K : Act → World → Prop), (∀ a' w', holds E (c.app S) a' w' → K a' w') →
      if Region.wanted o (yielded ops a.tmps) then o.wp P a w K Q else K (a.put o.dst undef) w

abbrev Line := List (Nat × Oper × Cert)

def Chain (P : Program) (ops : Array Oper) : Line → St → St → Prop
  | [], S, T => S.Eqv T
  | x :: r, S, T => Valid P ops x.2.1 x.2.2 ∧ x.2.2.ok S ∧ Chain P ops r (x.2.2.app S) T

theorem Chain.eqv {P : Program} {ops : Array Oper} : ∀ {l : Line} {S S' T : St}, S.Eqv S' → Chain P ops l S T → Chain P ops l S' T
  | [], _, _, _, h, hc => h.symm.trans hc
  | x :: r, _, _, _, h, hc => ⟨hc.1, Cert.ok_eqv h hc.2.1, Chain.eqv (h.app _) hc.2.2⟩

theorem Chain.front {P : Program} {ops : Array Oper} {k : Nat × Oper × Cert} {l₂ : Line} {T : St} : ∀ {l₁ : Line} {S : St},
    (∀ x ∈ l₁, indep x.2.2 k.2.2 = true) → Chain P ops (l₁ ++ k :: l₂) S T → Chain P ops (k :: (l₁ ++ l₂)) S T
  | [], _, _, h => h
  | x :: l₁, S, hi, h => by
    obtain ⟨hx, hxo, hr⟩ := h
    have hr' := Chain.front (l₁ := l₁) (fun y hy => hi y (by simp [hy])) hr
    obtain ⟨hk, hko, hrest⟩ := hr'
    have hsw := ok_swap (hi x (by simp)) hxo hko
    exact ⟨hk, hsw.1, hx, hsw.2, Chain.eqv (app_comm (hi x (by simp)) S) hrest⟩

/-- Is the operation 'x' sure to be done before 'i'? -/
def reach (ops : Array Oper) : Nat → Nat → Nat → Bool
  | 0, _, _ => false
  | n + 1, i, x => ((ops[i]?).map fun o => o.after.toList.any fun e => Region.binds .any e && (Nat.beq e.on x || reach ops n e.on x)).getD false

def pairsOk (ops : Array Oper) (k : Nat × Oper × Cert) : Line → Bool
  | [] => true
  | x :: r => (indep x.2.2 k.2.2 || reach ops ops.size k.1 x.1) && pairsOk ops k r
def edgesOk (k : Nat × Oper × Cert) : Bool := k.2.1.after.toList.all fun e => !Region.binds .any e || Nat.blt e.on k.1
/-- The line backwards: each against all before it. -/
def orderOk (ops : Array Oper) : Line → Bool
  | [] => true
  | k :: r => pairsOk ops k r && edgesOk k && orderOk ops r

theorem pairsOk_iff (ops : Array Oper) (k : Nat × Oper × Cert) : ∀ l, pairsOk ops k l = true ↔ ∀ x ∈ l, indep x.2.2 k.2.2 = true ∨ reach ops ops.size k.1 x.1 = true
  | [] => by simp [pairsOk]
  | x :: r => by simp [pairsOk, pairsOk_iff ops k r]

theorem reach_listed {ops : Array Oper} {listed : Array Bool}
    (hcl : ∀ j o, ops[j]? = some o → listed.getD j false = true → ∀ e ∈ o.after, Region.binds .any e = true → listed.getD e.on false = true) :
    ∀ (n i x : Nat) (o : Oper), ops[i]? = some o → (∀ e ∈ o.after, Region.binds .any e = true → listed.getD e.on false = true) → reach ops n i x = true → listed.getD x false = true
  | 0, _, _, _, _, _, h => by simp [reach] at h
  | n + 1, i, x, o, ho, he, h => by
    simp only [reach, ho, Option.map_some, Option.getD_some, List.any_eq_true, Bool.and_eq_true, Bool.or_eq_true] at h
    obtain ⟨e, hm, hb, hx⟩ := h
    have hl := he e (by simpa using hm) hb
    rcases hx with hx | hx
    · rw [← Nat.eq_of_beq_eq_true hx]; exact hl
    · cases ho' : ops[e.on]? with
      | none => cases n <;> simp [reach, ho'] at hx
      | some o' => exact reach_listed hcl n e.on x o' ho' (fun e' h1 h2 => hcl _ _ ho' hl e' h1 h2) hx

/-- The operations that are still to come, in the order of the text. -/
structure Rest (ops : Array Oper) (l : Line) (listed : Array Bool) : Prop where
  at_ : ∀ x ∈ l, ops[x.1]? = some x.2.1
  inc : l.Pairwise fun x y => x.1 < y.1
  all : ∀ i, listed.getD i true = false ↔ ∃ x ∈ l, x.1 = i
  closed : ∀ j o, ops[j]? = some o → listed.getD j false = true → ∀ e ∈ o.after, Region.binds .any e = true → listed.getD e.on false = true
  size : listed.size = ops.size
  pairs : ∀ x ∈ l, ∀ y ∈ l, x.1 < y.1 → indep x.2.2 y.2.2 = true ∨ reach ops ops.size y.1 x.1 = true
  edges : ∀ x ∈ l, ∀ e ∈ x.2.1.after, Region.binds .any e = true → e.on < x.1

theorem any_of_chain {P : Program} {ops : Array Oper} {Q : Exit → Act → World → Prop} {E : Env} {T : St} (hQ : ∀ a w, holds E T a w → Q .normal a w) :
    ∀ (fuel : Nat) (l : Line) (listed : Array Bool) (S : St) (a : Act) (w : World), l.length = fuel → Rest ops l listed → Chain P ops l S T → holds E S a w →
      wpAny P .any ops Q fuel listed a w := by
  intro fuel
  induction fuel with
  | zero =>
    intro l listed S a w hl hr hc hs
    have hl' : l = [] := by cases l with | nil => rfl | cons => simp at hl
    subst hl'
    refine ⟨?_, hQ _ _ (St.Eqv.holds hc hs)⟩
    rw [List.eq_nil_iff_forall_not_mem]
    intro i hi
    rw [mem_ready] at hi
    obtain ⟨x, hx, _⟩ := (hr.all i).1 hi.1
    simp at hx
  | succ fuel ih =>
    intro l listed S a w hl hr hc hs
    refine ⟨fun hnil => ?_, fun i hi => ?_⟩
    · exfalso
      cases l with
      | nil => simp at hl
      | cons x r =>
        have hx : x.1 ∈ Region.ready .any ops listed := by
          rw [mem_ready]
          refine ⟨(hr.all x.1).2 ⟨x, by simp, rfl⟩, x.2.1, hr.at_ x (by simp), fun e he hb => ?_⟩
          have hlt := hr.edges x (by simp) e he hb
          cases hle : listed.getD e.on true with
          | false =>
            obtain ⟨y, hy, hye⟩ := (hr.all e.on).1 hle
            rcases List.mem_cons.1 hy with rfl | hy
            · omega
            · have := (List.pairwise_cons.1 hr.inc).1 y hy; omega
          | true =>
            have hi : e.on < ops.size := by
              have := hr.at_ x (by simp)
              have := (Array.getElem?_eq_some_iff.1 this).1
              omega
            have hi' : e.on < listed.size := by rw [hr.size]; exact hi
            simpa [hi'] using hle
        rw [hnil] at hx; simp at hx
    · rw [mem_ready] at hi
      obtain ⟨hi0, o, ho, hall⟩ := hi
      obtain ⟨k, hk, rfl⟩ := (hr.all _).1 hi0
      have hko := hr.at_ k hk
      rw [ho] at hko; cases hko
      obtain ⟨l₁, l₂, rfl⟩ := List.append_of_mem hk
      have hinc := hr.inc
      rw [List.pairwise_append] at hinc
      have hlt : ∀ x ∈ l₁, x.1 < k.1 := fun x hx => hinc.2.2 x hx k (by simp)
      have hind : ∀ x ∈ l₁, indep x.2.2 k.2.2 = true := by
        intro x hx
        rcases hr.pairs x (by simp [hx]) k (by simp) (hlt x hx) with h | h
        · exact h
        · have h1 := reach_listed hr.closed _ _ _ _ ho hall h
          have h2 := (hr.all x.1).2 ⟨x, by simp [hx], rfl⟩
          exfalso
          have hi : x.1 < listed.size := by
            rw [hr.size]; exact (Array.getElem?_eq_some_iff.1 (hr.at_ x (by simp [hx]))).1
          simp [hi] at h1 h2
          rw [h1] at h2; simp at h2
      obtain ⟨hv, hok, hrest⟩ := Chain.front hind hc
      have hksz : k.1 < listed.size := by rw [hr.size]; exact (Array.getElem?_eq_some_iff.1 ho).1
      have hrl : Rest ops (l₁ ++ l₂) (listed.setIfInBounds k.1 true) := by
        refine ⟨fun x hx => hr.at_ x (by simp at hx ⊢; rcases hx with h | h <;> simp [h]), ?_, fun i => ?_, fun j o' hj hl' e he hb => ?_, by simp [hr.size], ?_, ?_⟩
        · rw [List.pairwise_append]
          exact ⟨hinc.1, (List.pairwise_cons.1 hinc.2.1).2, fun x hx y hy => hinc.2.2 x hx y (by simp [hy])⟩
        · by_cases hik : i = k.1
          · subst hik
            constructor
            · intro h; simp [hksz] at h
            · rintro ⟨x, hx, hxk⟩
              exfalso
              rcases List.mem_append.1 hx with h | h
              · have := hlt x h; omega
              · have := (List.pairwise_cons.1 hinc.2.1).1 x h; omega
          · rw [getD_set_ne true (Ne.symm hik), hr.all]
            constructor
            · rintro ⟨x, hx, rfl⟩
              refine ⟨x, ?_, rfl⟩
              simp at hx ⊢
              rcases hx with h | h | h
              · exact .inl h
              · subst h; exact absurd rfl hik
              · exact .inr h
            · rintro ⟨x, hx, rfl⟩
              refine ⟨x, ?_, rfl⟩
              simp at hx ⊢
              rcases hx with h | h <;> simp [h]
        · by_cases hjk : j = k.1
          · subst hjk
            rw [ho] at hj; cases hj
            exact getD_set_true (hall e he hb)
          · rw [getD_set_ne false (Ne.symm hjk)] at hl'
            exact getD_set_true (hr.closed j o' hj hl' e he hb)
        · intro x hx y hy hxy
          refine hr.pairs x ?_ y ?_ hxy
          · simp at hx ⊢; rcases hx with h | h <;> simp [h]
          · simp at hy ⊢; rcases hy with h | h <;> simp [h]
        · intro x hx
          exact hr.edges x (by simp at hx ⊢; rcases hx with h | h <;> simp [h])
      have hlen : (l₁ ++ l₂).length = fuel := by simp at hl ⊢; omega
      unfold wpOp
      simp only [ho]
      have hvk := hv E S a w hs hok Q (wpAny P .any ops Q fuel (listed.setIfInBounds k.1 true)) (fun a' w' h' => ih _ _ _ _ _ hlen hrl hrest h')
      split
      · rename_i hw; rw [if_pos hw] at hvk; exact .inl hvk
      · rename_i hw; rw [if_neg hw] at hvk; exact hvk

theorem ops_of_chain {P : Program} {ops : Array Oper} {Q : Exit → Act → World → Prop} {E : Env} {T : St} (hQ : ∀ a w, holds E T a w → Q .normal a w) :
    ∀ (l : Line) (S : St) (a : Act) (w : World), (∀ x ∈ l, ops[x.1]? = some x.2.1) → Chain P ops l S T → holds E S a w → wpOps P ops Q (l.map (·.1)) a w
  | [], S, a, w, _, hc, hs => hQ _ _ (St.Eqv.holds hc hs)
  | x :: r, S, a, w, ha, hc, hs => by
    obtain ⟨hv, hok, hr⟩ := hc
    rw [List.map_cons, wpOps_cons]
    unfold wpOp
    simp only [ha x (by simp)]
    have hvk := hv E S a w hs hok Q (wpOps P ops Q (r.map (·.1))) (fun a' w' h' => ops_of_chain hQ r _ _ _ (fun y hy => ha y (by simp [hy])) hr h')
    split
    · rename_i hw; rw [if_pos hw] at hvk; exact .inl hvk
    · rename_i hw; rw [if_neg hw] at hvk; exact hvk

/-- A region's walk, in the order of the text; 'done' backwards. -/
inductive Walk (P : Program) (ops : Array Oper) (draw : Bool) (K : St → Prop) : List Oper → Line → St → Prop
  | done {l : Line} {S : St} : (draw = true → orderOk ops l = true) → K S → Walk P ops draw K [] l S
  | step {o : Oper} {rest : List Oper} {l : Line} {S : St} (c : Cert) : Valid P ops o c → c.ok S →
      Walk P ops draw K rest ((l.length, o, c) :: l) (c.app S) → Walk P ops draw K (o :: rest) l S

theorem Walk.chain {P : Program} {ops : Array Oper} {draw : Bool} {K : St → Prop} {rest : List Oper} {l : Line} {S : St} (h : Walk P ops draw K rest l S) :
    ∃ (m : Line) (T : St), (draw = true → orderOk ops (m.reverse ++ l) = true) ∧ K T ∧ Chain P ops m S T ∧ m.map (·.2.1) = rest ∧ m.map (·.1) = List.range' l.length m.length := by
  induction h with
  | done hok hK => exact ⟨[], _, by simpa using hok, hK, St.Eqv.refl _, rfl, rfl⟩
  | step c hv hok _ ih =>
    rename_i o rest l S _
    obtain ⟨m, T, h1, h2, h3, h4, h5⟩ := ih
    refine ⟨(l.length, o, c) :: m, T, fun hd => ?_, h2, ⟨hv, hok, h3⟩, by simp [h4], ?_⟩
    · have := h1 hd
      simpa using this
    · simp [h5, List.range'_succ]

theorem orderOk_spec {ops : Array Oper} : ∀ (l : Line), orderOk ops l = true → (l.Pairwise fun y x => indep x.2.2 y.2.2 = true ∨ reach ops ops.size y.1 x.1 = true) ∧ ∀ x ∈ l, edgesOk x = true
  | [], _ => by simp
  | k :: r, h => by
    simp only [orderOk, Bool.and_eq_true, pairsOk_iff] at h
    obtain ⟨⟨h1, h2⟩, h3⟩ := h
    have ih := orderOk_spec r h3
    exact ⟨List.pairwise_cons.2 ⟨fun x hx => h1 x hx, ih.1⟩, fun x hx => (List.mem_cons.1 hx).elim (fun e => e ▸ h2) (ih.2 x)⟩

theorem holds_drew {E : Env} {S : St} {a : Act} {w : World} (h : holds E S a w) : holds E S a { w with drawn := w.drawn + 1 } := by
  obtain ⟨g, hi, h2⟩ := h
  exact ⟨g, ⟨fun γ => by
    have := hi.obj γ
    revert this
    cases S.obj γ <;> exact id, hi.inj, hi.mem, hi.sep, hi.new, hi.ext, hi.lim, hi.frame, hi.size, hi.os, hi.out, hi.kp⟩, h2⟩

theorem wp_walk {P : Program} {id : Nat} {ops : Array Oper} {draw : Bool} {K : St → Prop} {Q : Exit → Act → World → Prop} {E : Env} {S : St}
    (hm : draw = true → P.follows .mixedOrders = true)
    (h : Walk P ops draw K ops.toList [] S) (hQ : ∀ T, K T → ∀ a w, holds E T a w → Q .normal a w) {a : Act} {w : World} (hs : holds E S a w) :
    (Code.region id ops draw).wp P Q a w := by
  obtain ⟨m, T, h1, h2, h3, h4, h5⟩ := h.chain
  have hlen : m.length = ops.size := by have := congrArg List.length h4; simpa using this
  have hat : ∀ x ∈ m, ops[x.1]? = some x.2.1 := by
    intro x hx
    obtain ⟨i, hi, rfl⟩ := List.getElem_of_mem hx
    have e1 : (m[i]).1 = i := by
      have := congrArg (fun l => l[i]?) h5
      simpa [hi] using this
    have e2 := congrArg (fun l => l[i]?) h4
    simp [hi] at e2
    rw [e1]; simpa using e2.symm
  cases draw with
  | false =>
    refine wp_region ?_
    have := ops_of_chain (P := P) (Q := Q) (hQ T h2) m S a w hat h3 hs
    rwa [h5, hlen, List.length_nil, ← List.range_eq_range'] at this
  | true =>
    refine wp_region_any (hm rfl) ?_
    have hord := orderOk_spec _ (h1 rfl)
    simp only [List.append_nil] at hord
    refine any_of_chain (hQ T h2) ops.size m _ S a _ hlen ?_ h3 (holds_drew hs)
    have hinc : m.Pairwise fun x y => x.1 < y.1 := by
      have : (m.map (·.1)).Pairwise (· < ·) := by rw [h5]; exact List.pairwise_lt_range'
      exact List.pairwise_map.1 this
    refine ⟨hat, hinc, fun i => ?_, fun j o hj hl => ?_, by simp, ?_, ?_⟩
    · constructor
      · intro hi
        have hlt : i < ops.size := by
          rcases Nat.lt_or_ge i ops.size with h | h
          · exact h
          · simp [Nat.not_lt.2 h] at hi
        have : i ∈ m.map (·.1) := by rw [h5]; simp [hlen, hlt]
        simpa using this
      · rintro ⟨x, hx, rfl⟩
        have := (Array.getElem?_eq_some_iff.1 (hat x hx)).1
        simp [this]
    · exfalso
      have := (Array.getElem?_eq_some_iff.1 hj).1
      simp [this] at hl
    · intro x hx y hy hxy
      have hp := List.pairwise_reverse.1 hord.1
      obtain ⟨i, hi, rfl⟩ := List.getElem_of_mem hx
      obtain ⟨j, hj, rfl⟩ := List.getElem_of_mem hy
      have e : ∀ (k : Nat) (hk : k < m.length), (m[k]).1 = k := by
        intro k hk
        have := congrArg (fun l => l[k]?) h5
        simpa [hk] using this
      rw [e, e] at hxy
      exact (List.pairwise_iff_getElem.1 hp) i j hi hj hxy
    · intro x hx e he hb
      have := hord.2 x (by simpa using hx)
      simp only [edgesOk, List.all_eq_true] at this
      have := this e (by simpa using he)
      simp [hb] at this
      simpa using this
end Go.Fw
namespace Go.Fw
open Go
set_option linter.unusedVariables false

theorem Gh.keeps.trans' {g g' g'' : Gh} {γ : Nat} (h : g.keeps g' γ) (k : g'.keeps g'' γ) : g.keeps g'' γ := Gh.keeps_trans h k

theorem rowSat_lt {g : Gh} {w : World} {h : Value} {sz : Nat} {xs : List (List D)} (hr : rowSat g w h sz xs) {b : Nat} (hb : hdBlk h b) : b < w.heap.size := by
  obtain ⟨a, n, c, rfl, rfl⟩ := hb
  rcases hr.2 with ⟨e, _⟩ | ⟨b', cap, vs, e', fr, e, _, _, h4, _⟩
  · simp at e
  · cases e; exact (Array.getElem?_eq_some_iff.1 h4).1
theorem live_lt {E : Env} {L : Nat → AObj} {g : Gh} {w : World} (hi : Inv E L g w) {γ b : Nat} (h : lives g (L γ) γ b) : b < w.heap.size := by
  have ho := hi.obj γ
  cases hL : L γ with
  | dead => rw [hL] at h; exact h.elim
  | froz sz xs => rw [hL] at h; exact h.elim
  | box cs =>
    rw [hL] at h ho
    obtain ⟨vs, e, fr, h1, _⟩ := ho
    have h : g.blk γ = b := h
    rw [h] at h1
    exact (Array.getElem?_eq_some_iff.1 h1).1
  | iter s p =>
    rw [hL] at h ho
    have h : g.blk γ = b := h
    have ho : w.heap[g.blk γ]? = some (.stringIter s p) := ho
    rw [h] at ho
    exact (Array.getElem?_eq_some_iff.1 ho).1
  | row sz xs =>
    rw [hL] at h ho
    exact rowSat_lt ho h
  | mat sz rows =>
    rw [hL] at h ho
    obtain ⟨h1, h2, h3⟩ := ho
    rcases h with h | ⟨i, hi', hb⟩
    · rcases h1 with ⟨e, _⟩ | ⟨b', cap, vs, e', fr, e, _, _, h4, _⟩
      · obtain ⟨a, n, c, e', _⟩ := h; rw [e] at e'; simp at e'
      · obtain ⟨a, n, c, e'', rfl⟩ := h; rw [e] at e''; cases e''
        exact (Array.getElem?_eq_some_iff.1 h4).1
    · exact rowSat_lt (h2 i _ (List.getElem?_eq_getElem hi')) hb

/-- What one object's change leaves of all others. -/
theorem Inv.updX {E : Env} {L L' : Nat → AObj} {g g' : Gh} {w w' : World} (hi : Inv E L g w) (γ : Nat) (obj' : AObj)
    (hL : L' γ = obj') (hL' : ∀ k, k ≠ γ → L' k = L k)
    (hheap : ∀ b, b < w.heap.size → ¬ lives g (L γ) γ b → w'.heap[b]? = w.heap[b]?)
    (hsize : w.heap.size ≤ w'.heap.size) (hos : w'.os = w.os) (hout : w'.output = w.output)
    (hM : g'.M = g.M) (hk : ∀ k, k ≠ γ → g'.blk k = g.blk k ∧ g'.hd k = g.hd k ∧ g'.ihd k = g.ihd k)
    (hsat : ∀ k cs us, k ≠ γ → L k = .box cs → satL g cs us → satL g' cs us)
    (hobj : objSat g' w' γ obj')
    (hlive : ∀ b, lives g' obj' γ b → lives g (L γ) γ b ∨ w.heap.size ≤ b ∨ ((∀ k, k ≠ γ → ¬ lives g (L k) k b) ∧ (∀ a v, g.M a = some v → a.block ≠ b) ∧ (E.W.heap.size ≤ b ∨ E.A b))) (hkp : γ < 100 → g.keeps g' γ) : Inv E L' g' w' := by
  have hlv : ∀ k b, k ≠ γ → (lives g' (L' k) k b ↔ lives g (L k) k b) := by
    intro k b hkγ
    rw [hL' k hkγ]
    exact lives_move (hk k hkγ).1 (hk k hkγ).2.1 (hk k hkγ).2.2 _ _
  have hold : ∀ k b, k ≠ γ → lives g (L k) k b → w'.heap[b]? = w.heap[b]? := by
    intro k b hkγ hb
    refine hheap b (live_lt hi hb) fun h => hkγ (hi.inj _ _ _ hb h)
  refine ⟨fun k => ?_, fun k k' b h h' => ?_, fun a v h => ?_, fun k b h a v hm => ?_, fun k b h => ?_, hM ▸ hi.ext, hM ▸ hi.lim, fun b hb hA => ?_, Nat.le_trans hi.size hsize, hos.trans hi.os, hout.trans hi.out, fun k hk100 => ?_⟩
  · by_cases hkγ : k = γ
    · subst hkγ; rw [hL]; exact hobj
    · rw [hL' k hkγ]
      exact objSat_move (by rw [hM]; exact MemLe.refl _) (hk k hkγ).1 (hk k hkγ).2.1 (hk k hkγ).2.2 (fun b hb => hold k b hkγ hb) (fun cs us e h => hsat k cs us hkγ e h) (hi.obj k)
  · by_cases h1 : k = γ <;> by_cases h2 : k' = γ
    · rw [h1, h2]
    · subst h1
      rw [hL] at h; rw [hlv k' _ h2] at h'
      rcases hlive b h with h3 | h3 | h3
      · exact hi.inj _ _ _ h3 h'
      · have := live_lt hi h'; omega
      · exact (h3.1 k' h2 h').elim
    · subst h2
      rw [hL] at h'; rw [hlv k _ h1] at h
      rcases hlive b h' with h3 | h3 | h3
      · exact hi.inj _ _ _ h h3
      · have := live_lt hi h; omega
      · exact (h3.1 k h1 h).elim
    · rw [hlv k _ h1] at h; rw [hlv k' _ h2] at h'
      exact hi.inj _ _ _ h h'
  · rw [hM] at h
    have hc := hi.mem a v h
    have hlt := block_lt_of_cell hc
    have := hheap a.block hlt (fun hlv => hi.sep _ _ hlv a v h rfl)
    simp only [World.cell?] at hc ⊢
    rw [this]; exact hc
  · rw [hM] at hm
    by_cases h1 : k = γ
    · subst h1
      rw [hL] at h
      rcases hlive b h with h3 | h3 | h3
      · exact hi.sep _ _ h3 a v hm
      · have := block_lt_of_cell (hi.mem a v hm); omega
      · exact h3.2.1 a v hm
    · rw [hlv k _ h1] at h
      exact hi.sep _ _ h a v hm
  · by_cases h1 : k = γ
    · subst h1
      rw [hL] at h
      rcases hlive b h with h3 | h3 | h3
      · exact hi.new _ _ h3
      · have := hi.size; exact .inl (by omega)
      · exact h3.2.2
    · rw [hlv k _ h1] at h
      exact hi.new _ _ h
  · have := hi.size
    rw [hheap b (by omega) (fun hlv => (hi.new _ _ hlv).elim (fun h => by omega) hA)]
    exact hi.frame b hb hA
  · by_cases hkγ : k = γ
    · subst hkγ; exact (hi.kp k hk100).trans' (hkp hk100)
    · exact (hi.kp k hk100).trans' (Gh.keeps_of (hk k hkγ).1 (hk k hkγ).2.1 (hk k hkγ).2.2)

/-- What one object's change leaves of all others. -/
theorem Inv.upd {E : Env} {L L' : Nat → AObj} {g g' : Gh} {w w' : World} (hi : Inv E L g w) (γ : Nat) (obj' : AObj)
    (hL : L' γ = obj') (hL' : ∀ k, k ≠ γ → L' k = L k)
    (hheap : ∀ b, b < w.heap.size → ¬ lives g (L γ) γ b → w'.heap[b]? = w.heap[b]?)
    (hsize : w.heap.size ≤ w'.heap.size) (hos : w'.os = w.os) (hout : w'.output = w.output)
    (hM : g'.M = g.M) (hk : ∀ k, k ≠ γ → g'.blk k = g.blk k ∧ g'.hd k = g.hd k ∧ g'.ihd k = g.ihd k)
    (hsat : ∀ k cs us, k ≠ γ → L k = .box cs → satL g cs us → satL g' cs us)
    (hobj : objSat g' w' γ obj')
    (hlive : ∀ b, lives g' obj' γ b → lives g (L γ) γ b ∨ w.heap.size ≤ b) (hkp : γ < 100 → g.keeps g' γ) : Inv E L' g' w' :=
  Inv.updX hi γ obj' hL hL' hheap hsize hos hout hM hk hsat hobj (fun b h => (hlive b h).imp id .inl) hkp

/-! Rules for code. -/

structure AWP (P : Program) (E : Env) (c : Code) (S : St) (Q : Exit → St → Prop) : Prop where
  run : ∀ a w, holds E S a w → c.wp P (fun e a' w' => ∃ T, Q e T ∧ holds E T a' w') a w

def thenQ (next : St → Prop) (Q : Exit → St → Prop) : Exit → St → Prop
  | .normal, T => next T
  | e, T => Q e T
def blockQ (id : Nat) (Q : Exit → St → Prop) : Exit → St → Prop
  | .exit k, T => bif Nat.beq k id then Q .normal T else Q (.exit k) T
  | e, T => Q e T
def scopeQ (Q : Exit → St → Prop) : Exit → St → Prop
  | .goto _, _ => False
  | e, T => Q e T
/-- What holds where the body has ended. -/
def retQ (R : St → Prop) : Exit → St → Prop
  | .normal, T => R T
  | .ret, T => R T
  | _, _ => False

section
variable {P : Program} {E : Env} {S : St} {Q : Exit → St → Prop}

theorem awp_skip (h : Q .normal S) : AWP P E .skip S Q := ⟨fun a w hs => wp_skip ⟨S, h, hs⟩⟩
theorem awp_ret (h : Q .ret S) : AWP P E .ret S Q := ⟨fun a w hs => wp_ret ⟨S, h, hs⟩⟩
theorem awp_exit {id : Nat} (h : Q (.exit id) S) : AWP P E (.exit id) S Q := ⟨fun a w hs => wp_exit ⟨S, h, hs⟩⟩
theorem awp_seq {x y : Code} (h : AWP P E x S (thenQ (fun T => AWP P E y T Q) Q)) : AWP P E (.seq x y) S Q := by
  refine ⟨fun a w hs => ?_⟩
  refine wp_seq (wp_mono (h.run a w hs) ?_)
  rintro e a' w' ⟨T, hq, ht⟩
  cases e <;> first | exact hq.run a' w' ht | exact ⟨T, hq, ht⟩
theorem awp_block {id : Nat} {c : Code} (h : AWP P E c S (blockQ id Q)) : AWP P E (.block id c) S Q := by
  refine ⟨fun a w hs => ?_⟩
  refine wp_block (wp_mono (h.run a w hs) ?_)
  rintro e a' w' ⟨T, hq, ht⟩
  cases e with
  | exit k =>
    simp only [blockQ] at hq
    simp only [Exit.inBlock]
    by_cases hk : k = id
    · subst hk
      simp at hq
      simp; exact ⟨T, hq, ht⟩
    · have : Nat.beq k id = false := by
        cases hb : Nat.beq k id with
        | false => rfl
        | true => exact absurd (Nat.eq_of_beq_eq_true hb) hk
      rw [this] at hq
      rw [if_neg hk]
      exact ⟨T, hq, ht⟩
  | _ => exact ⟨T, hq, ht⟩
theorem awp_scope {c : Code} (h : AWP P E c S (scopeQ Q)) : AWP P E (.scope c) S Q := by
  refine ⟨fun a w hs => ?_⟩
  refine wp_scope_straight (wp_mono (h.run a w hs) ?_)
  rintro e a' w' ⟨T, hq, ht⟩
  cases e <;> first | exact hq.elim | exact ⟨T, hq, ht⟩
theorem awp_cond {c : Operand} {x y : Code} {b : Bool} (hc : S.ev c = .d (.v (.bool b))) (ht : b = true → AWP P E x S Q) (hf : b = false → AWP P E y S Q) :
    AWP P E (.cond c x y) S Q := by
  refine ⟨fun a w hs => ?_⟩
  obtain ⟨g, hg⟩ := hs
  have he := sat_ev hg c
  rw [hc] at he
  simp only [AVal.sat, D.rep] at he
  exact wp_cond_split he.1 (fun h => (ht h).run a w ⟨g, hg⟩) (fun h => (hf h).run a w ⟨g, hg⟩)
theorem awp_cond_t {c : Operand} {x y : Code} {b : Bool} (hc : S.ev c = .d (.v (.bool b))) (hb : b = true) (ht : AWP P E x S Q) : AWP P E (.cond c x y) S Q :=
  awp_cond hc (fun _ => ht) (fun h => by rw [hb] at h; cases h)
theorem awp_cond_f {c : Operand} {x y : Code} {b : Bool} (hc : S.ev c = .d (.v (.bool b))) (hb : b = false) (hf : AWP P E y S Q) : AWP P E (.cond c x y) S Q :=
  awp_cond hc (fun h => by rw [hb] at h; cases h) (fun _ => hf)
/-- A test whose outcome is not known, but what it tells. -/
theorem awp_cond_q {c : Operand} {x y : Code} {p q : Prop} (hc : S.ev c = .bq p q) (ht : p → AWP P E x S Q) (hf : q → AWP P E y S Q) :
    AWP P E (.cond c x y) S Q := by
  refine ⟨fun a w hs => ?_⟩
  obtain ⟨g, hg⟩ := hs
  have he := sat_ev hg c
  rw [hc] at he
  simp only [AVal.sat] at he
  obtain ⟨b, hb, hp, hq⟩ := he
  exact wp_cond_split hb (fun h => (ht (hp h)).run a w ⟨g, hg⟩) (fun h => (hf (hq h)).run a w ⟨g, hg⟩)
theorem awp_region {id : Nat} {ops : Array Oper} {draw : Bool} (hm : P.follows .mixedOrders = true)
    (h : Walk P ops draw (Q .normal) ops.toList [] S) : AWP P E (.region id ops draw) S Q :=
  ⟨fun a w hs => wp_walk (fun _ => hm) h (fun T hT a' w' h' => ⟨T, hT, h'⟩) hs⟩

def St.le (S T : St) : Prop := ∀ E a w, holds E S a w → holds E T a w
theorem St.le_refl (S : St) : S.le S := fun _ _ _ h => h
theorem St.le_trans {S T U : St} (h : S.le T) (k : T.le U) : S.le U := fun E a w x => k E a w (h E a w x)
theorem awp_le {c : Code} {T : St} (h : S.le T) (k : AWP P E c T Q) : AWP P E c S Q := ⟨fun a w hs => k.run a w (h E a w hs)⟩
theorem awp_mono {c : Code} {Q' : Exit → St → Prop} (h : AWP P E c S Q) (hq : ∀ e T, Q e T → Q' e T) : AWP P E c S Q' :=
  ⟨fun a w hs => wp_mono (h.run a w hs) fun e a' w' ⟨T, h1, h2⟩ => ⟨T, hq e T h1, h2⟩⟩

/-- Where ways meet again: what holds there, once. -/
theorem awp_cut {x y : Code} (U : St) (h : AWP P E x S (thenQ (fun T => T.le U) Q)) (k : AWP P E y U Q) : AWP P E (.seq x y) S Q := by
  refine awp_seq (awp_mono h ?_)
  intro e T hq
  cases e <;> first | exact awp_le hq k | exact hq
/-- A loop: its head's states, a family, and a number that falls. -/
theorem awp_loop {c : Code} {ι : Type} (st : ι → St) (m : ι → Nat) (i₀ : ι) (h₀ : S.le (st i₀))
    (hr : ∀ i, AWP P E c (st i) (thenQ (fun T => ∃ j, m j < m i ∧ T.le (st j)) Q)) : AWP P E (.loop c) S Q := by
  refine ⟨fun a w hs b k cs => ?_⟩
  have key : ∀ n i a w, m i = n → holds E (st i) a w →
      ∃ e a' w', (∃ T, Q e T ∧ holds E T a' w') ∧ Arrives P (lone (b.at a (.code c :: .inLoop c :: k)) cs w) b k cs e a' w' := by
    intro n
    induction n using Nat.strongRecOn with
    | _ n ih =>
      intro i a w hn hh
      obtain ⟨e, a₁, w₁, ⟨T, hq, ht⟩, harr⟩ := (hr i).run a w hh b (.inLoop c :: k) cs
      cases e with
      | normal =>
        obtain ⟨j, hj, hle⟩ := hq
        obtain ⟨e₂, a₂, w₂, hq₂, harr₂⟩ := ih (m j) (hn ▸ hj) j a₁ w₁ rfl (hle E a₁ w₁ ht)
        exact ⟨e₂, a₂, w₂, hq₂, .of_steps (Steps.trans harr (.one step_inLoop)) harr₂⟩
      | exit id => exact ⟨_, a₁, w₁, ⟨T, hq, ht⟩, .pass (x := .inLoop c) rfl (fun _ _ => .inl (by simp)) harr⟩
      | goto l => exact ⟨_, a₁, w₁, ⟨T, hq, ht⟩, .pass (x := .inLoop c) rfl (fun _ _ => .inl (by simp)) harr⟩
      | ret => exact ⟨_, a₁, w₁, ⟨T, hq, ht⟩, .pass (x := .inLoop c) rfl (fun _ _ => .inl (by simp)) harr⟩
      | panic ch => exact ⟨_, a₁, w₁, ⟨T, hq, ht⟩, .pass (x := .inLoop c) rfl (fun _ _ => .inl (by simp)) harr⟩
      | outgrown => exact ⟨_, a₁, w₁, ⟨T, hq, ht⟩, .pass (x := .inLoop c) rfl (fun _ _ => .inl (by simp)) harr⟩
  obtain ⟨e, a', w', hq, harr⟩ := key _ i₀ a w rfl (h₀ E a w hs)
  exact ⟨e, a', w', hq, .of_steps (.one step_loop) harr⟩
/-- The same, where something is known of the family's index. -/
theorem awp_loopI {c : Code} {ι : Type} (I : ι → Prop) (st : ι → St) (m : ι → Nat) (i₀ : ι) (hI : I i₀) (h₀ : S.le (st i₀))
    (hr : ∀ i, I i → AWP P E c (st i) (thenQ (fun T => ∃ j, I j ∧ m j < m i ∧ T.le (st j)) Q)) : AWP P E (.loop c) S Q := by
  refine awp_loop (ι := { i : ι // I i }) (fun i => st i.1) (fun i => m i.1) ⟨i₀, hI⟩ h₀ fun i => ?_
  refine awp_mono (hr i.1 i.2) fun e T hq => ?_
  cases e with
  | normal => obtain ⟨j, h1, h2, h3⟩ := hq; exact ⟨⟨j, h1⟩, h2, h3⟩
  | _ => exact hq
end
end Go.Fw
namespace Go.Fw
open Go
set_option linter.unusedVariables false

abbrev ab (b : Bool) : AVal := .d (.v (.bool b))
abbrev ai (n : Int) : AVal := .d (.v (.int .i64 n))
abbrev au8 (n : Int) : AVal := .d (.v (.int .u8 n))
abbrev as (s : ByteArray) : AVal := .d (.v (.string s))
abbrev ani : AVal := .d (.v (.slice none 0 0))

def satR (g : Gh) (a : Act) : List (Operand × AVal) → Prop
  | [] => True
  | p :: r => p.2.sat g (a.eval p.1) ∧ satR g a r

theorem satR_of {E : Env} {S : St} {g : Gh} {a : Act} {w : World} (h : holdsG E S g a w) : ∀ l, readsOk S l → satR g a l
  | [], _ => trivial
  | p :: r, hr => ⟨by have := sat_ev h p.1; rw [hr.1] at this; exact this, satR_of h r hr.2⟩

def Valid' (P : Program) (o : Oper) (c : Cert) : Prop :=
  ∀ E S a w g, holdsG E S g a w → c.ok S → ∀ (Q : Exit → Act → World → Prop) (K : Act → World → Prop), (∀ a' w', holds E (c.app S) a' w' → K a' w') → o.wp P a w K Q

def dstOf (ops : Array Oper) (j : Nat) : Nat := ((ops[j]?).bind (·.dst)).getD 0
def guardReads (ops : Array Oper) : Option (Nat × Bool) → List (Operand × AVal)
  | none => []
  | some (j, b) => [(.tmp (dstOf ops j), ab b)]
def guardOk (ops : Array Oper) (S : St) : Option (Nat × Bool) → Prop
  | none => True
  | some (j, b) => ((ops[j]?).bind (·.dst)).isSome = true ∧ S.get (dstOf ops j) = ab b
def guardNot (ops : Array Oper) (S : St) : Option (Nat × Bool) → Prop
  | none => False
  | some (j, true) => ((ops[j]?).bind (·.dst)).isSome = true ∧ S.get (dstOf ops j) = ab false
  | some (j, false) => ((ops[j]?).bind (·.dst)).isSome = true ∧ S.get (dstOf ops j) = ab true
theorem guardNot_spec {ops : Array Oper} {S : St} {j : Nat} {b : Bool} (h : guardNot ops S (some (j, b))) : ((ops[j]?).bind (·.dst)).isSome = true ∧ S.get (dstOf ops j) = ab (!b) := by
  cases b <;> exact h

theorem yielded_of {E : Env} {ops : Array Oper} {S : St} {g : Gh} {a : Act} {w : World} {j : Nat} {b : Bool} (h : holdsG E S g a w)
    (hd : ((ops[j]?).bind (·.dst)).isSome = true) (hb : S.get (dstOf ops j) = ab b) : yielded ops a.tmps j = some b := by
  obtain ⟨t, ht⟩ := Option.isSome_iff_exists.1 hd
  have hdst : dstOf ops j = t := by simp [dstOf, ht]
  have hs := h.2.2.2 t
  rw [← hdst, hb, hdst] at hs
  simp only [AVal.sat, D.rep] at hs
  have hs := hs.1
  unfold yielded
  rw [ht]
  simp only [Option.bind_some]
  cases hq : a.tmps[t]? with
  | none => simp [hq, undef] at hs
  | some v => simp [hq] at hs; subst hs; rfl

section
variable {P : Program} {ops : Array Oper} {draw : Bool} {K : St → Prop} {rest : List Oper} {l : Line} {S : St}

theorem walk_op {o : Oper} (c : Cert) (hv : Valid' P o c) (hg : guardOk ops S o.guard) (hc : c.ok S)
    (h : Walk P ops draw K rest ((l.length, o, { c with reads := guardReads ops o.guard ++ c.reads }) :: l) (c.app S)) : Walk P ops draw K (o :: rest) l S := by
  refine .step { c with reads := guardReads ops o.guard ++ c.reads } (fun E S' a w hs hok Q K' hK => ?_) ?_ h
  · obtain ⟨g, hs⟩ := hs
    have hok' : c.ok S' := by
      refine ⟨?_, hok.2⟩
      have := hok.1
      rw [readsOk_iff] at this ⊢
      exact fun p hp => this p (by simp [hp])
    have hw : Region.wanted o (yielded ops a.tmps) = true := by
      unfold Region.wanted
      cases hgd : o.guard with
      | none => rfl
      | some jb =>
        obtain ⟨j, b⟩ := jb
        rw [hgd] at hg
        have h1 := hok.1
        rw [hgd] at h1
        simp [yielded_of hs hg.1 h1.1]
    rw [if_pos hw]
    exact hv E S' a w g hs hok' Q K' hK
  · refine ⟨?_, hc.2⟩
    have := hc.1
    rw [readsOk_iff] at this ⊢
    intro p hp
    rcases List.mem_append.1 hp with h' | h'
    · cases hgd : o.guard with
      | none => rw [hgd] at h'; simp [guardReads] at h'
      | some jb =>
        rw [hgd] at h' hg
        simp [guardReads] at h'
        subst h'
        exact hg.2
    · exact this p h'

theorem holds_put {E : Env} {L' : List (Nat × AObj)} {g' : Gh} {w' : World} {a : Act} {x : AVal} {v : Value} {d : Nat}
    (hi : Inv E (look .dead L') g' w') (hd : a.defers = []) (hn : a.tmps.size = S.n) (hs : ∀ t, (S.get t).sat g' (a.tmps.getD t undef)) (hx : x.sat g' v)
    (hlt : Nat.blt d S.n = true) : holds E ⟨S.n, (d, x) :: S.τ, L'⟩ (a.put (some d) v) w' := by
  have hlt' : d < a.tmps.size := by rw [hn]; simpa using hlt
  refine ⟨g', hi, hd, by simp [Act.put, hn], fun t => ?_⟩
  by_cases h : t = d
  · subst h
    show AVal.sat g' (look _ _ _) _
    rw [look_same]
    simpa [Act.put, hlt'] using hx
  · show AVal.sat g' (look _ _ _) _
    rw [look_ne _ _ _ (Ne.symm h)]
    have : (a.put (some d) v).tmps.getD t undef = a.tmps.getD t undef := by
      simp [Act.put, Array.getElem?_setIfInBounds_ne (Ne.symm h)]
    rw [this]; exact hs t

theorem undef_sat {g : Gh} : (AVal.tup []).sat g undef := by
  simp only [AVal.sat]
  exact ⟨#[], rfl, by simp only [satL]⟩
/-- An operation that is not wanted. -/
theorem w_skip {d : Option Nat} {op : Op} {ty : TypeId} {pos : String} {aft : Array Edge} {gd : Option (Nat × Bool)}
    (hg : guardNot ops S gd) (hd : dstOk S (d.map fun t => (t, AVal.tup [])))
    (h : Walk P ops draw K rest ((l.length, ⟨d, op, ty, pos, aft, gd⟩, ⟨guardReads ops (gd.map fun p => (p.1, !p.2)), d.map fun t => (t, .tup []), [], [], []⟩) :: l)
      (S.skip d)) :
    Walk P ops draw K (⟨d, op, ty, pos, aft, gd⟩ :: rest) l S := by
  cases gd with
  | none => exact hg.elim
  | some jb =>
    obtain ⟨j, b⟩ := jb
    have hg := guardNot_spec hg
    refine .step ⟨guardReads ops (some (j, !b)), d.map fun t => (t, .tup []), [], [], []⟩ (fun E S' a w hs hok Q K' hK => ?_) ⟨⟨hg.2, trivial⟩, trivial, trivial, hd⟩ h
    obtain ⟨g, hs⟩ := hs
    have hy := yielded_of (b := !b) hs hg.1 hok.1.1
    have hw : Region.wanted ⟨d, op, ty, pos, aft, some (j, b)⟩ (yielded ops a.tmps) = false := by
      simp only [Region.wanted, hy]
      cases b <;> rfl
    rw [hw]
    simp only [Bool.false_eq_true, if_false]
    refine hK _ _ ?_
    cases d with
    | none => exact ⟨g, hs⟩
    | some d => exact holds_put hs.1 hs.2.1 hs.2.2.1 hs.2.2.2 undef_sat hok.2.2.2

/-- An operation whose guard was not run either. -/
theorem w_skip_u {d : Option Nat} {op : Op} {ty : TypeId} {pos : String} {aft : Array Edge} {gd : Option (Nat × Bool)} {t : Nat} {j : Nat} {b : Bool} (hgd : gd = some (j, b))
    (hj : (ops[j]?).bind (·.dst) = some t) (ht : S.get t = .tup []) (hd : dstOk S (d.map fun t => (t, AVal.tup [])))
    (h : Walk P ops draw K rest ((l.length, ⟨d, op, ty, pos, aft, gd⟩, ⟨[(.tmp t, .tup [])], d.map fun t => (t, .tup []), [], [], []⟩) :: l) (S.skip d)) :
    Walk P ops draw K (⟨d, op, ty, pos, aft, gd⟩ :: rest) l S := by
  subst hgd
  refine .step ⟨[(.tmp t, .tup [])], d.map fun t => (t, .tup []), [], [], []⟩ (fun E S' a w hs hok Q K' hK => ?_) ⟨⟨ht, trivial⟩, trivial, trivial, hd⟩ h
  obtain ⟨g, hs⟩ := hs
  have hv := hs.2.2.2 t
  have h1 : S'.get t = .tup [] := hok.1.1
  rw [h1] at hv
  simp only [AVal.sat] at hv
  obtain ⟨vs, hv, _⟩ := hv
  have hw : Region.wanted ⟨d, op, ty, pos, aft, some (j, b)⟩ (yielded ops a.tmps) = false := by
    simp only [Region.wanted, yielded, hj, Option.bind_some]
    cases hq : a.tmps[t]? with
    | none => rfl
    | some v => simp [hq] at hv; subst hv; rfl
  rw [hw]
  simp only [Bool.false_eq_true, if_false]
  refine hK _ _ ?_
  cases d with
  | none => exact ⟨g, hs⟩
  | some d => exact holds_put hs.1 hs.2.1 hs.2.2.1 hs.2.2.2 undef_sat hok.2.2.2

theorem valid_val {o : Oper} {reads : List (Operand × AVal)} {d : Nat} {x : AVal} {lrd : List (Nat × AObj)} (hdst : o.dst = some d)
    (h : ∀ E S g a w, holdsG E S g a w → satR g a reads → lrdOk S lrd → ∃ v, (execOp a.eval o).run P w = .ok (.value v) w ∧ x.sat g v) :
    Valid' P o ⟨reads, some (d, x), lrd, [], []⟩ := by
  intro E S a w g hs hok Q K hK
  obtain ⟨v, h1, h2⟩ := h E S g a w hs (satR_of hs _ hok.1) hok.2.1
  unfold Oper.wp
  rw [h1, Oper.upon_value, hdst]
  exact hK _ _ (holds_put hs.1 hs.2.1 hs.2.2.1 hs.2.2.2 h2 hok.2.2.2)

variable {d : Nat} {ty : TypeId} {pos : String} {aft : Array Edge} {gd : Option (Nat × Bool)}

theorem w_move {x : Operand} {y : AVal} (hx : S.ev x = y) (hd : Nat.blt d S.n = true) (hg : guardOk ops S gd)
    (h : Walk P ops draw K rest ((l.length, ⟨some d, .move x, ty, pos, aft, gd⟩, ⟨guardReads ops gd ++ [(x, y)], some (d, y), [], [], []⟩) :: l) (S.set d (y))) :
    Walk P ops draw K (⟨some d, .move x, ty, pos, aft, gd⟩ :: rest) l S :=
  walk_op ⟨[(x, y)], some (d, y), [], [], []⟩ (valid_val rfl fun E S g a w hs hr _ => ⟨_, rfl, hr.1⟩) hg ⟨⟨hx, trivial⟩, trivial, trivial, hd⟩ h
theorem w_assign {x : Operand} {y : AVal} (hx : S.ev x = y) (hd : Nat.blt d S.n = true) (hg : guardOk ops S gd)
    (h : Walk P ops draw K rest ((l.length, ⟨some d, .assign x, ty, pos, aft, gd⟩, ⟨guardReads ops gd ++ [(x, y)], some (d, y), [], [], []⟩) :: l) (S.set d (y))) :
    Walk P ops draw K (⟨some d, .assign x, ty, pos, aft, gd⟩ :: rest) l S :=
  walk_op ⟨[(x, y)], some (d, y), [], [], []⟩ (valid_val rfl fun E S g a w hs hr _ => ⟨_, rfl, hr.1⟩) hg ⟨⟨hx, trivial⟩, trivial, trivial, hd⟩ h

theorem sat_bool {g : Gh} {b : Bool} {v : Value} (h : (ab b).sat g v) : v = .bool b := by simp only [AVal.sat, D.rep] at h; exact h.1
theorem sat_v {g : Gh} {x v : Value} (h : (AVal.d (.v x)).sat g v) : v = x := by simp only [AVal.sat, D.rep] at h; exact h.1
theorem sat_mk {g : Gh} {x : Value} (h : x.oneCell' = true) : (AVal.d (.v x)).sat g x := by simpa [AVal.sat, D.rep] using h

theorem w_pick_t {c x z : Operand} {b : Bool} {y : AVal} (hc : S.ev c = ab b) (hb : b = true) (hx : S.ev x = y) (hd : Nat.blt d S.n = true) (hg : guardOk ops S gd)
    (h : Walk P ops draw K rest ((l.length, ⟨some d, .pick c x z, ty, pos, aft, gd⟩, ⟨guardReads ops gd ++ [(c, ab true), (x, y)], some (d, y), [], [], []⟩) :: l) (S.set d (y))) :
    Walk P ops draw K (⟨some d, .pick c x z, ty, pos, aft, gd⟩ :: rest) l S :=
  walk_op ⟨[(c, ab true), (x, y)], some (d, y), [], [], []⟩ (valid_val rfl fun E S g a w hs hr _ => by
    refine ⟨a.eval x, ?_, hr.2.1⟩
    simp [execOp, sat_bool hr.1, asBool]) hg ⟨⟨hb ▸ hc, hx, trivial⟩, trivial, trivial, hd⟩ h
theorem w_pick_f {c x z : Operand} {b : Bool} {y : AVal} (hc : S.ev c = ab b) (hb : b = false) (hx : S.ev z = y) (hd : Nat.blt d S.n = true) (hg : guardOk ops S gd)
    (h : Walk P ops draw K rest ((l.length, ⟨some d, .pick c x z, ty, pos, aft, gd⟩, ⟨guardReads ops gd ++ [(c, ab false), (z, y)], some (d, y), [], [], []⟩) :: l) (S.set d (y))) :
    Walk P ops draw K (⟨some d, .pick c x z, ty, pos, aft, gd⟩ :: rest) l S :=
  walk_op ⟨[(c, ab false), (z, y)], some (d, y), [], [], []⟩ (valid_val rfl fun E S g a w hs hr _ => by
    refine ⟨a.eval z, ?_, hr.2.1⟩
    simp [execOp, sat_bool hr.1, asBool]) hg ⟨⟨hb ▸ hc, hx, trivial⟩, trivial, trivial, hd⟩ h

/-- A binary operation on two known scalars, by its run. -/
theorem w_bin {op : BinOp} {xt yt : TypeId} {x y : Operand} {u v r : Value} (hx : S.ev x = .d (.v u)) (hy : S.ev y = .d (.v v))
    (hr : ∀ w, (do eqGuard op xt x y u v; binOp op xt u v : Sem Value).run P w = .ok r w) (h1 : r.oneCell' = true) (hd : Nat.blt d S.n = true) (hg : guardOk ops S gd)
    (h : Walk P ops draw K rest ((l.length, ⟨some d, .binOp op xt x y yt, ty, pos, aft, gd⟩, ⟨guardReads ops gd ++ [(x, .d (.v u)), (y, .d (.v v))], some (d, .d (.v r)), [], [], []⟩) :: l) (S.set d (.d (.v r)))) :
    Walk P ops draw K (⟨some d, .binOp op xt x y yt, ty, pos, aft, gd⟩ :: rest) l S :=
  walk_op ⟨[(x, .d (.v u)), (y, .d (.v v))], some (d, .d (.v r)), [], [], []⟩ (valid_val rfl fun E S g a w hs hq _ => by
    refine ⟨r, ?_, sat_mk h1⟩
    have := hr w
    simp only [execOp, sat_v hq.1, sat_v hq.2.1, Sem.run_bind, Sem.run_pure] at this ⊢
    rw [this]; rfl) hg ⟨⟨hx, hy, trivial⟩, trivial, trivial, hd⟩ h

theorem rb_lss {t : TypeId} {x y : Operand} {k : IntKind} {a b : Int} (w : World) : (do eqGuard .lss t x y (.int k a) (.int k b); binOp .lss t (.int k a) (.int k b) : Sem Value).run P w = .ok (.bool (decide (a < b))) w := by simp [go_sem]
theorem rb_leq {t : TypeId} {x y : Operand} {k : IntKind} {a b : Int} (w : World) : (do eqGuard .leq t x y (.int k a) (.int k b); binOp .leq t (.int k a) (.int k b) : Sem Value).run P w = .ok (.bool (decide (a ≤ b))) w := by simp [go_sem]
theorem rb_gtr {t : TypeId} {x y : Operand} {k : IntKind} {a b : Int} (w : World) : (do eqGuard .gtr t x y (.int k a) (.int k b); binOp .gtr t (.int k a) (.int k b) : Sem Value).run P w = .ok (.bool (decide (b < a))) w := by simp [go_sem]
theorem rb_geq {t : TypeId} {x y : Operand} {k : IntKind} {a b : Int} (w : World) : (do eqGuard .geq t x y (.int k a) (.int k b); binOp .geq t (.int k a) (.int k b) : Sem Value).run P w = .ok (.bool (decide (b ≤ a))) w := by simp [go_sem]
theorem rb_eql {t : TypeId} {x y : Operand} {k : IntKind} {a b : Int} (w : World) : (do eqGuard .eql t x y (.int k a) (.int k b); binOp .eql t (.int k a) (.int k b) : Sem Value).run P w = .ok (.bool (decide (a = b))) w := by
  simp [go_sem]; exact Bool.beq_eq_decide_eq a b
theorem rb_neq {t : TypeId} {x y : Operand} {k : IntKind} {a b : Int} (w : World) : (do eqGuard .neq t x y (.int k a) (.int k b); binOp .neq t (.int k a) (.int k b) : Sem Value).run P w = .ok (.bool (decide (a ≠ b))) w := by
  simp [go_sem, bne, Bool.beq_eq_decide_eq]
theorem rb_add {t : TypeId} {x y : Operand} {k : IntKind} {a b : Int} (w : World) : (do eqGuard .add t x y (.int k a) (.int k b); binOp .add t (.int k a) (.int k b) : Sem Value).run P w = .ok (.int k (k.wrap (a + b))) w := by simp [go_sem]
theorem rb_sub {t : TypeId} {x y : Operand} {k : IntKind} {a b : Int} (w : World) : (do eqGuard .sub t x y (.int k a) (.int k b); binOp .sub t (.int k a) (.int k b) : Sem Value).run P w = .ok (.int k (k.wrap (a - b))) w := by simp [go_sem]
theorem rb_mul {t : TypeId} {x y : Operand} {k : IntKind} {a b : Int} (w : World) : (do eqGuard .mul t x y (.int k a) (.int k b); binOp .mul t (.int k a) (.int k b) : Sem Value).run P w = .ok (.int k (k.wrap (a * b))) w := by simp [go_sem]
/-- The three again, where nothing wraps. -/
def in64 (n : Int) : Prop := -9223372036854775808 ≤ n ∧ n ≤ 9223372036854775807
theorem rb_add64 {t : TypeId} {x y : Operand} {a b : Int} (h : in64 (a + b)) (w : World) : (do eqGuard .add t x y (.int .i64 a) (.int .i64 b); binOp .add t (.int .i64 a) (.int .i64 b) : Sem Value).run P w = .ok (.int .i64 (a + b)) w := by
  rw [rb_add, IntWalk.i64_in _ h]
theorem rb_sub64 {t : TypeId} {x y : Operand} {a b : Int} (h : in64 (a - b)) (w : World) : (do eqGuard .sub t x y (.int .i64 a) (.int .i64 b); binOp .sub t (.int .i64 a) (.int .i64 b) : Sem Value).run P w = .ok (.int .i64 (a - b)) w := by
  rw [rb_sub, IntWalk.i64_in _ h]
theorem rb_mul64 {t : TypeId} {x y : Operand} {a b : Int} (h : in64 (a * b)) (w : World) : (do eqGuard .mul t x y (.int .i64 a) (.int .i64 b); binOp .mul t (.int .i64 a) (.int .i64 b) : Sem Value).run P w = .ok (.int .i64 (a * b)) w := by
  rw [rb_mul, IntWalk.i64_in _ h]

theorem w_un {op : UnOp} {xt : TypeId} {x : Operand} {u r : Value} (hx : S.ev x = .d (.v u))
    (hr : ∀ w, (Op.unary op u).run P w = .ok r w) (h1 : r.oneCell' = true) (hd : Nat.blt d S.n = true) (hg : guardOk ops S gd)
    (h : Walk P ops draw K rest ((l.length, ⟨some d, .unOp op xt x, ty, pos, aft, gd⟩, ⟨guardReads ops gd ++ [(x, .d (.v u))], some (d, .d (.v r)), [], [], []⟩) :: l) (S.set d (.d (.v r)))) :
    Walk P ops draw K (⟨some d, .unOp op xt x, ty, pos, aft, gd⟩ :: rest) l S :=
  walk_op ⟨[(x, .d (.v u))], some (d, .d (.v r)), [], [], []⟩ (valid_val rfl fun E S g a w hs hq _ => by
    refine ⟨r, ?_, sat_mk h1⟩
    simp only [execOp, sat_v hq.1, Sem.run_bind, hr w]; rfl) hg ⟨⟨hx, trivial⟩, trivial, trivial, hd⟩ h
theorem ru_not {b : Bool} (w : World) : (Op.unary .not (.bool b)).run P w = .ok (.bool (!b)) w := rfl

theorem w_conv {src dst : TypeId} {x : Operand} {u r : Value} (hx : S.ev x = .d (.v u))
    (hr : ∀ w, (convert src dst u).run P w = .ok r w) (h1 : r.oneCell' = true) (hd : Nat.blt d S.n = true) (hg : guardOk ops S gd)
    (h : Walk P ops draw K rest ((l.length, ⟨some d, .convert src dst x, ty, pos, aft, gd⟩, ⟨guardReads ops gd ++ [(x, .d (.v u))], some (d, .d (.v r)), [], [], []⟩) :: l) (S.set d (.d (.v r)))) :
    Walk P ops draw K (⟨some d, .convert src dst x, ty, pos, aft, gd⟩ :: rest) l S :=
  walk_op ⟨[(x, .d (.v u))], some (d, .d (.v r)), [], [], []⟩ (valid_val rfl fun E S g a w hs hq _ => by
    refine ⟨r, ?_, sat_mk h1⟩
    simp only [execOp, sat_v hq.1, Sem.run_bind, hr w]; rfl) hg ⟨⟨hx, trivial⟩, trivial, trivial, hd⟩ h
def isInt (P : Program) (t : TypeId) (k : IntKind) : Bool := match P.underlying t with | some (.int q) => decide (q = k) | _ => false
theorem rc_int {src dst : TypeId} {k q : IntKind} {n : Int} (hs : (P.underlying src).isSome = true) (hd : isInt P dst q = true) (w : World) :
    (convert src dst (.int k n)).run P w = .ok (.int q (q.wrap n)) w := by
  have h1 : P.underlying dst = some (.int q) := by
    unfold isInt at hd
    cases hu : P.underlying dst with
    | none => rw [hu] at hd; simp at hd
    | some t => cases t <;> rw [hu] at hd <;> simp at hd; subst hd; rfl
  have h2 : P.intKind dst = q := by simp [Program.intKind, h1]
  have := run_convert_int (P := P) w src dst k n hs (by rw [h2]; exact h1)
  rwa [h2] at this

/-! Types. -/
def tyIs (P : Program) (t : TypeId) (agg : Bool) (sz : Nat) : Bool :=
  match P.underlying t, P.info? t with
  | some d, some i => ((match d with | .struct _ => agg | .array _ _ => agg | _ => !agg) && Nat.beq i.size sz)
  | _, _ => false
def tySz (P : Program) (t : TypeId) : Nat := match P.info? t with | some i => i.size | none => 0
def fldOff (P : Program) (s : TypeId) (f : Nat) : Nat :=
  match P.underlying s with
  | some (.struct fs) => (match fs[f]? with | some q => q.offset | none => 0)
  | _ => 0
def fldSz (P : Program) (s : TypeId) (f : Nat) : Nat :=
  match P.underlying s with
  | some (.struct fs) => (match fs[f]? with | some q => tySz P q.type | none => 0)
  | _ => 0
def isSl (P : Program) (t : TypeId) : Bool := match P.underlying t with | some (.slice _) => true | _ => false
theorem isSl_spec {t : TypeId} (h : isSl P t = true) : ∃ e, P.underlying t = some (.slice e) := by
  unfold isSl at h
  cases hu : P.underlying t with
  | none => simp [hu] at h
  | some de => rw [hu] at h; cases de <;> simp at h; exact ⟨_, rfl⟩
def slIs (P : Program) (t : TypeId) (sz : Nat) : Bool :=
  match P.underlying t with
  | some (.slice e) => (match P.info? e with | some i => Nat.beq i.size sz | none => false)
  | _ => false
def fldIs (P : Program) (s : TypeId) (f off : Nat) : Bool :=
  match P.underlying s with
  | some (.struct fs) => (match fs[f]? with | some q => Nat.beq q.offset off && (match P.info? q.type with | some i => !Nat.beq i.size 0 | none => false) | none => false)
  | _ => false
def fldTy (P : Program) (s : TypeId) (f off : Nat) (agg : Bool) (sz : Nat) : Bool :=
  match P.underlying s with
  | some (.struct fs) => (match fs[f]? with | some q => Nat.beq q.offset off && tyIs P q.type agg sz | none => false)
  | _ => false

theorem tyIs_spec {t : TypeId} {agg : Bool} {sz : Nat} (h : tyIs P t agg sz = true) :
    (∀ w, (isAgg t).run P w = .ok agg w) ∧ (∀ w, (sizeOf t).run P w = .ok sz w) := by
  unfold tyIs at h
  cases hu : P.underlying t with
  | none => simp [hu] at h
  | some de =>
    cases hq : P.info? t with
    | none => simp [hq] at h
    | some i =>
      rw [hu, hq] at h
      simp only [Bool.and_eq_true] at h
      have h2 : i.size = sz := Nat.eq_of_beq_eq_true h.2
      refine ⟨fun w => ?_, fun w => by simp [sizeOf, typeInfo, hq, h2]⟩
      unfold isAgg
      rw [Sem.run_bind, run_underlying hu w]
      have h1 := h.1
      cases de <;> cases agg <;> simp_all
theorem slIs_spec {t : TypeId} {sz : Nat} (h : slIs P t sz = true) : ∃ e, P.underlying t = some (.slice e) ∧ (∀ w, (sizeOf e).run P w = .ok sz w) ∧ P.elem t = e := by
  unfold slIs at h
  cases hu : P.underlying t with
  | none => simp [hu] at h
  | some de =>
    cases de <;> rw [hu] at h <;> simp at h
    rename_i e
    cases hq : P.info? e with
    | none => simp [hq] at h
    | some i =>
      rw [hq] at h
      have h2 : i.size = sz := by simpa using h
      exact ⟨e, rfl, fun w => by simp [sizeOf, typeInfo, hq, h2], by simp [Program.elem, hu]⟩

theorem run_loadVar_one {t : TypeId} {p : Addr} {v : Value} {w : World} (ht : tyIs P t false 1 = true) (h : w.cell? p = some v) : (loadVar t p).run P w = .ok v w := by
  have := (tyIs_spec ht).1 w
  simp [loadVar, this, h]
theorem run_loadVar_agg {t : TypeId} {p : Addr} {vs : List Value} {w : World} (ht : tyIs P t true vs.length = true) (h : ∀ j v, vs[j]? = some v → w.cell? (p.add j) = some v) :
    (loadVar t p).run P w = .ok (.agg vs.toArray) w := by
  have h1 := (tyIs_spec ht).1 w
  have h2 := (tyIs_spec ht).2 w
  have h3 := run_loadCells_list (P := P) w p vs h
  simp [loadVar, h1, h2, h3]

theorem add_at (b o j : Nat) : (⟨b, o, none⟩ : Addr).add j = ⟨b, o + j, none⟩ := Addr.add_lit b o j

theorem w_load_box {t : TypeId} {x : Operand} {γ o : Nat} {cs : List AVal} {y : AVal} (hx : S.ev x = .ptr γ o) (hL : S.obj γ = .box cs) (hy : cs[o]? = some y)
    (ht : tyIs P t false 1 = true) (hd : Nat.blt d S.n = true) (hg : guardOk ops S gd)
    (h : Walk P ops draw K rest ((l.length, ⟨some d, .load t x, ty, pos, aft, gd⟩, ⟨guardReads ops gd ++ [(x, .ptr γ o)], some (d, y), [(γ, .box cs)], [], []⟩) :: l) (S.set d (y))) :
    Walk P ops draw K (⟨some d, .load t x, ty, pos, aft, gd⟩ :: rest) l S :=
  walk_op ⟨[(x, .ptr γ o)], some (d, y), [(γ, .box cs)], [], []⟩ (valid_val rfl fun E S g a w hs hq hl => by
    have ho := hs.1.obj γ
    rw [hl.1] at ho
    obtain ⟨vs, e, fr, h1, h2, h3, h4⟩ := ho
    obtain ⟨u, hu, hsu⟩ := satL_get h3 o y hy
    refine ⟨u, ?_, hsu⟩
    have hp : a.eval x = .pointer (some ⟨g.blk γ, o, none⟩) := by have := hq.1; simpa only [AVal.sat] using this
    have hc : w.cell? ⟨g.blk γ, o, none⟩ = some u := by rw [cell_of_row w _ o vs e fr h1]; simpa using hu
    simp [execOp, hp, Instr.loadAt, Instr.sureAddr, run_loadVar_one ht hc]) hg ⟨⟨hx, trivial⟩, ⟨hL, trivial⟩, trivial, hd⟩ h
theorem w_load_boxagg {t : TypeId} {x : Operand} {γ o sz : Nat} {cs ys : List AVal} (hx : S.ev x = .ptr γ o) (hL : S.obj γ = .box cs)
    (hsz : tySz P t = sz) (ht : tyIs P t true sz = true) (hy : (cs.drop o).take sz = ys) (hlen : Nat.beq ys.length sz = true) (hd : Nat.blt d S.n = true) (hg : guardOk ops S gd)
    (h : Walk P ops draw K rest ((l.length, ⟨some d, .load t x, ty, pos, aft, gd⟩, ⟨guardReads ops gd ++ [(x, .ptr γ o)], some (d, .agg ys), [(γ, .box cs)], [], []⟩) :: l) (S.set d (.agg ys))) :
    Walk P ops draw K (⟨some d, .load t x, ty, pos, aft, gd⟩ :: rest) l S :=
  walk_op ⟨[(x, .ptr γ o)], some (d, .agg ys), [(γ, .box cs)], [], []⟩ (valid_val rfl fun E S g a w hs hq hl => by
    have ho := hs.1.obj γ
    rw [hl.1] at ho
    obtain ⟨vs, e, fr, h1, h2, h3, h4⟩ := ho
    have hsub := satL_take (satL_drop h3 o) sz
    rw [hy] at hsub
    have hl1 := satL_length hsub
    have hl2 : ys.length = sz := Nat.eq_of_beq_eq_true hlen
    refine ⟨.agg ((vs.toList.drop o).take sz).toArray, ?_, by simp only [AVal.sat]; exact ⟨_, rfl, hsub⟩⟩
    have hp : a.eval x = .pointer (some ⟨g.blk γ, o, none⟩) := by have := hq.1; simpa only [AVal.sat] using this
    have := run_loadVar_agg (P := P) (p := ⟨g.blk γ, o, none⟩) (w := w) (vs := (vs.toList.drop o).take sz) (t := t) (by rw [hl1, hl2]; exact ht) (fun j v hv => by
      rw [add_at, cell_of_row w _ _ vs e fr h1]
      rw [List.getElem?_take] at hv
      split at hv
      · rw [List.getElem?_drop] at hv; simpa using hv
      · simp at hv)
    simp [execOp, hp, Instr.loadAt, Instr.sureAddr, this]) hg ⟨⟨hx, trivial⟩, ⟨hL, trivial⟩, trivial, hd⟩ h
theorem w_load_d {t : TypeId} {x : Operand} {y : D} {r : List D} (hx : S.ev x = .dptr (y :: r))
    (ht : tyIs P t false 1 = true) (hd : Nat.blt d S.n = true) (hg : guardOk ops S gd)
    (h : Walk P ops draw K rest ((l.length, ⟨some d, .load t x, ty, pos, aft, gd⟩, ⟨guardReads ops gd ++ [(x, .dptr (y :: r))], some (d, .d y), [], [], []⟩) :: l) (S.set d (.d y))) :
    Walk P ops draw K (⟨some d, .load t x, ty, pos, aft, gd⟩ :: rest) l S :=
  walk_op ⟨[(x, .dptr (y :: r))], some (d, .d y), [], [], []⟩ (valid_val rfl fun E S g a w hs hq hl => by
    have := hq.1
    simp only [AVal.sat] at this
    obtain ⟨b, o, hp, hr⟩ := this
    simp only [repCells] at hr
    obtain ⟨⟨u, hu, hsu⟩, _⟩ := hr
    refine ⟨u, ?_, by simp only [AVal.sat]; exact hsu⟩
    have hc := hs.1.mem _ _ hu
    simp [execOp, hp, Instr.loadAt, Instr.sureAddr, run_loadVar_one ht hc]) hg ⟨⟨hx, trivial⟩, trivial, trivial, hd⟩ h

theorem rep_values {M : Mem} {w : World} (hm : ∀ a v, M a = some v → w.cell? a = some v) : ∀ (ds : List D) (b o : Nat), repCells M ds b o →
    ∃ vs : List Value, vs.length = ds.length ∧ (∀ (j : Nat) (v : Value), vs[j]? = some v → w.cell? ⟨b, o + j, none⟩ = some v) ∧ (∀ (j : Nat) (d : D) (v : Value), ds[j]? = some d → vs[j]? = some v → d.rep M v)
  | [], _, _, _ => ⟨[], rfl, by simp, by simp⟩
  | d :: ds, b, o, h => by
    simp only [repCells] at h
    obtain ⟨⟨u, h1, h2⟩, h3⟩ := h
    obtain ⟨vs, k1, k2, k3⟩ := rep_values hm ds b (o + 1) h3
    refine ⟨u :: vs, by simp [k1], fun j v hv => ?_, fun j d' v hd' hv => ?_⟩
    · cases j with
      | zero => simp at hv; subst hv; exact hm _ _ h1
      | succ j => have := k2 j v (by simpa using hv); rwa [show o + 1 + j = o + (j + 1) by omega] at this
    · cases j with
      | zero => simp at hv hd'; subst hv hd'; exact h2
      | succ j => exact k3 j d' v (by simpa using hd') (by simpa using hv)

theorem w_load_dagg {t : TypeId} {x : Operand} {row : List D} {sz : Nat} {ys : List AVal} (hx : S.ev x = .dptr row)
    (hsz : tySz P t = sz) (ht : tyIs P t true sz = true) (hy : (row.take sz).map .d = ys) (hlen : Nat.beq ys.length sz = true) (hd : Nat.blt d S.n = true) (hg : guardOk ops S gd)
    (h : Walk P ops draw K rest ((l.length, ⟨some d, .load t x, ty, pos, aft, gd⟩, ⟨guardReads ops gd ++ [(x, .dptr row)], some (d, .agg ys), [], [], []⟩) :: l) (S.set d (.agg ys))) :
    Walk P ops draw K (⟨some d, .load t x, ty, pos, aft, gd⟩ :: rest) l S :=
  walk_op ⟨[(x, .dptr row)], some (d, .agg ys), [], [], []⟩ (valid_val rfl fun E S g a w hs hq hl => by
    have := hq.1
    simp only [AVal.sat] at this
    obtain ⟨b, o, hp, hr⟩ := this
    obtain ⟨vs, k1, k2, k3⟩ := rep_values hs.1.mem _ _ _ (repCells_take hr sz)
    have hl2 : ys.length = sz := Nat.eq_of_beq_eq_true hlen
    have hl3 : vs.length = sz := by rw [k1, ← hl2, ← hy]; simp
    refine ⟨.agg vs.toArray, ?_, ?_⟩
    · have := run_loadVar_agg (P := P) (p := ⟨b, o, none⟩) (w := w) (vs := vs) (t := t) (by rw [hl3]; exact ht) (fun j v hv => by rw [add_at]; exact k2 j v hv)
      simp [execOp, hp, Instr.loadAt, Instr.sureAddr, this]
    · simp only [AVal.sat]
      refine ⟨_, rfl, satL_of (by simp [hl2, hl3]) fun i z u hz hu => ?_⟩
      rw [← hy] at hz
      simp only [List.getElem?_map, Option.map_eq_some_iff] at hz
      obtain ⟨d', hd', rfl⟩ := hz
      simp only [AVal.sat]
      exact k3 i d' u hd' (by simpa using hu)) hg ⟨⟨hx, trivial⟩, trivial, trivial, hd⟩ h

theorem fldIs_spec {s : TypeId} {f off : Nat} (h : fldIs P s f off = true) : ∃ fs q i, P.underlying s = some (.struct fs) ∧ fs[f]? = some q ∧ q.offset = off ∧ P.info? q.type = some i ∧ i.size ≠ 0 := by
  unfold fldIs at h
  cases hu : P.underlying s with
  | none => simp [hu] at h
  | some de =>
    cases de <;> rw [hu] at h <;> simp at h
    rename_i fs
    cases hq : fs[f]? with
    | none => simp [hq] at h
    | some q =>
      rw [hq] at h
      cases hi : P.info? q.type with
      | none => simp [hi] at h
      | some i => simp [hi] at h; exact ⟨fs, q, i, rfl, hq, h.1, hi, ne_of_beq h.2⟩

theorem run_fieldAt {s : TypeId} {f off b o : Nat} (h : fldIs P s f off = true) (w : World) : (Instr.fieldAt s (.pointer (some ⟨b, o, none⟩)) f).run P w = .ok (.pointer (some ⟨b, o + off, none⟩)) w := by
  obtain ⟨fs, q, i, h1, h2, h3, h4, h5⟩ := fldIs_spec h
  simp [Instr.fieldAt, run_underlying h1, h2, Instr.sureAddr, fieldPlace, h3, add_at, sizeOf, typeInfo, h4, h5]

theorem w_field_box {s : TypeId} {x : Operand} {f γ o off : Nat} (hx : S.ev x = .ptr γ o) (hoff : fldOff P s f = off) (hf : fldIs P s f off = true) (hd : Nat.blt d S.n = true) (hg : guardOk ops S gd)
    (h : Walk P ops draw K rest ((l.length, ⟨some d, .fieldAddr s x f, ty, pos, aft, gd⟩, ⟨guardReads ops gd ++ [(x, .ptr γ o)], some (d, .ptr γ (o + off)), [], [], []⟩) :: l) (S.set d (.ptr γ (o + off)))) :
    Walk P ops draw K (⟨some d, .fieldAddr s x f, ty, pos, aft, gd⟩ :: rest) l S :=
  walk_op ⟨[(x, .ptr γ o)], some (d, .ptr γ (o + off)), [], [], []⟩ (valid_val rfl fun E S g a w hs hq hl => by
    have hp : a.eval x = .pointer (some ⟨g.blk γ, o, none⟩) := by have := hq.1; simpa only [AVal.sat] using this
    exact ⟨.pointer (some ⟨g.blk γ, o + off, none⟩), by simp [execOp, hp, run_fieldAt hf], by simp only [AVal.sat]⟩) hg ⟨⟨hx, trivial⟩, trivial, trivial, hd⟩ h
theorem w_field_d {s : TypeId} {x : Operand} {f off : Nat} {row : List D} (hx : S.ev x = .dptr row) (hoff : fldOff P s f = off) (hf : fldIs P s f off = true) (hd : Nat.blt d S.n = true) (hg : guardOk ops S gd)
    (h : Walk P ops draw K rest ((l.length, ⟨some d, .fieldAddr s x f, ty, pos, aft, gd⟩, ⟨guardReads ops gd ++ [(x, .dptr row)], some (d, .dptr (row.drop off)), [], [], []⟩) :: l) (S.set d (.dptr (row.drop off)))) :
    Walk P ops draw K (⟨some d, .fieldAddr s x f, ty, pos, aft, gd⟩ :: rest) l S :=
  walk_op ⟨[(x, .dptr row)], some (d, .dptr (row.drop off)), [], [], []⟩ (valid_val rfl fun E S g a w hs hq hl => by
    have := hq.1
    simp only [AVal.sat] at this
    obtain ⟨b, o, hp, hr⟩ := this
    exact ⟨.pointer (some ⟨b, o + off, none⟩), by simp [execOp, hp, run_fieldAt hf], by simp only [AVal.sat]; exact ⟨b, o + off, rfl, repCells_drop hr off⟩⟩) hg ⟨⟨hx, trivial⟩, trivial, trivial, hd⟩ h

theorem run_part {t : TypeId} {agg : Bool} {sz : Nat} (ht : tyIs P t agg sz = true) (vs : Array Value) (off : Nat) (w : World) :
    (part t vs off).run P w = if agg then .ok (.agg (vs.extract off (off + sz))) w else match vs[off]? with | some v => .ok v w | none => .halt (.stuck "part: no such cell") w := by
  have h1 := (tyIs_spec ht).1 w
  have h2 := (tyIs_spec ht).2 w
  cases agg with
  | true => simp [part, h1, h2]
  | false =>
    simp only [part, Sem.run_bind, h1, Result.andThen_ok, Bool.false_eq_true, if_false]
    cases vs[off]? <;> rfl
theorem fldTy_spec {s : TypeId} {f off : Nat} {agg : Bool} {sz : Nat} (h : fldTy P s f off agg sz = true) : ∃ fs q, P.underlying s = some (.struct fs) ∧ fs[f]? = some q ∧ q.offset = off ∧ tyIs P q.type agg sz = true := by
  unfold fldTy at h
  cases hu : P.underlying s with
  | none => simp [hu] at h
  | some de =>
    cases de <;> rw [hu] at h <;> simp at h
    rename_i fs
    cases hq : fs[f]? with
    | none => simp [hq] at h
    | some q => rw [hq] at h; simp at h; exact ⟨fs, q, rfl, hq, h.1, h.2⟩
theorem w_fieldv {s : TypeId} {x : Operand} {f off sz : Nat} {cs : List AVal} {y : AVal} (hx : S.ev x = .agg cs) (hoff : fldOff P s f = off) (hsz : fldSz P s f = sz) (hf : fldTy P s f off false sz = true) (hy : cs[off]? = some y)
    (hd : Nat.blt d S.n = true) (hg : guardOk ops S gd)
    (h : Walk P ops draw K rest ((l.length, ⟨some d, .field s x f, ty, pos, aft, gd⟩, ⟨guardReads ops gd ++ [(x, .agg cs)], some (d, y), [], [], []⟩) :: l) (S.set d (y))) :
    Walk P ops draw K (⟨some d, .field s x f, ty, pos, aft, gd⟩ :: rest) l S :=
  walk_op ⟨[(x, .agg cs)], some (d, y), [], [], []⟩ (valid_val rfl fun E S g a w hs hq hl => by
    have := hq.1
    simp only [AVal.sat] at this
    obtain ⟨vs, hp, hr⟩ := this
    obtain ⟨fs, q, h1, h2, h3, h4⟩ := fldTy_spec hf
    obtain ⟨u, hu, hsu⟩ := satL_get hr off y hy
    have hu' : vs[off]? = some u := by simpa using hu
    exact ⟨u, by simp [execOp, hp, Instr.field, run_underlying h1, h2, asAgg, run_part h4, h3, hu'], hsu⟩) hg ⟨⟨hx, trivial⟩, trivial, trivial, hd⟩ h
theorem w_fieldv_agg {s : TypeId} {x : Operand} {f off sz : Nat} {cs ys : List AVal} (hx : S.ev x = .agg cs) (hoff : fldOff P s f = off) (hsz : fldSz P s f = sz) (hf : fldTy P s f off true sz = true) (hy : (cs.drop off).take sz = ys)
    (hd : Nat.blt d S.n = true) (hg : guardOk ops S gd)
    (h : Walk P ops draw K rest ((l.length, ⟨some d, .field s x f, ty, pos, aft, gd⟩, ⟨guardReads ops gd ++ [(x, .agg cs)], some (d, .agg ys), [], [], []⟩) :: l) (S.set d (.agg ys))) :
    Walk P ops draw K (⟨some d, .field s x f, ty, pos, aft, gd⟩ :: rest) l S :=
  walk_op ⟨[(x, .agg cs)], some (d, .agg ys), [], [], []⟩ (valid_val rfl fun E S g a w hs hq hl => by
    have := hq.1
    simp only [AVal.sat] at this
    obtain ⟨vs, hp, hr⟩ := this
    obtain ⟨fs, q, h1, h2, h3, h4⟩ := fldTy_spec hf
    have hsub := satL_take (satL_drop hr off) sz
    rw [hy] at hsub
    refine ⟨.agg (vs.extract off (off + sz)), by simp [execOp, hp, Instr.field, run_underlying h1, h2, asAgg, run_part h4, h3], ?_⟩
    simp only [AVal.sat]
    refine ⟨_, rfl, ?_⟩
    have e : (vs.extract off (off + sz)).toList = (vs.toList.drop off).take sz := by simp [List.extract_eq_take_drop]
    rw [e]; exact hsub) hg ⟨⟨hx, trivial⟩, trivial, trivial, hd⟩ h
theorem w_extract {x : Operand} {i : Nat} {vs : List AVal} {y : AVal} (hx : S.ev x = .tup vs) (hy : vs[i]? = some y) (hd : Nat.blt d S.n = true) (hg : guardOk ops S gd)
    (h : Walk P ops draw K rest ((l.length, ⟨some d, .extract x i, ty, pos, aft, gd⟩, ⟨guardReads ops gd ++ [(x, .tup vs)], some (d, y), [], [], []⟩) :: l) (S.set d (y))) :
    Walk P ops draw K (⟨some d, .extract x i, ty, pos, aft, gd⟩ :: rest) l S :=
  walk_op ⟨[(x, .tup vs)], some (d, y), [], [], []⟩ (valid_val rfl fun E S g a w hs hq hl => by
    have := hq.1
    simp only [AVal.sat] at this
    obtain ⟨us, hp, hr⟩ := this
    obtain ⟨u, hu, hsu⟩ := satL_get hr i y hy
    have hu' : us[i]? = some u := by simpa using hu
    exact ⟨u, by simp [execOp, hp, Instr.extract, hu'], hsu⟩) hg ⟨⟨hx, trivial⟩, trivial, trivial, hd⟩ h
end
end Go.Fw
namespace Go.Fw
open Go
set_option linter.unusedVariables false
set_option linter.unusedSimpArgs false

theorem look_mem {α : Type} (z : α) (l : List (Nat × α)) (t : Nat) : look z l t = z ∨ ∃ p ∈ l, p.2 = look z l t := by
  induction l with
  | nil => exact .inl rfl
  | cons p r ih =>
    obtain ⟨k, x⟩ := p
    simp only [look]
    cases hb : Nat.beq k t with
    | true => exact .inr ⟨(k, x), by simp, rfl⟩
    | false =>
      simp only [cond_false]
      rcases ih with h | ⟨q, hq, he⟩
      · exact .inl h
      · exact .inr ⟨q, by simp [hq], he⟩
theorem get_free {S : St} {γ : Nat} (h : S.free γ = true) (t : Nat) : (S.get t).ment γ = false := by
  simp only [St.free, Bool.and_eq_true, freeT_iff, freeL_iff] at h
  have h := h.2
  rcases look_mem AVal.any S.τ t with e | ⟨p, hp, e⟩
  · show AVal.ment γ (look _ _ _) = false
    rw [e]; rfl
  · show AVal.ment γ (look _ _ _) = false
    rw [← e]; exact h.1 p hp
theorem obj_free {S : St} {γ : Nat} (h : S.free γ = true) (k : Nat) : (S.obj k).ment γ = false := by
  simp only [St.free, Bool.and_eq_true, freeT_iff, freeL_iff] at h
  have h := h.2
  rcases look_mem AObj.dead S.L k with e | ⟨p, hp, e⟩
  · show AObj.ment γ (look _ _ _) = false
    rw [e]; rfl
  · show AObj.ment γ (look _ _ _) = false
    rw [← e]; exact h.2 p hp

def Gh.put (g : Gh) (γ : Nat) (b : Nat) (hv : Value) : Gh :=
  { blk := fun k => if k = γ then b else g.blk k, hd := fun k => if k = γ then hv else g.hd k, ihd := g.ihd, M := g.M }
theorem put_keeps {g : Gh} {γ b : Nat} {hv : Value} {k : Nat} (h : k ≠ γ) : g.keeps (g.put γ b hv) k := by
  exact Gh.keeps_of (by simp [Gh.put, h]) (by simp [Gh.put, h]) rfl
theorem sat_put {g : Gh} {γ b : Nat} {hv : Value} {x : AVal} {u : Value} (hm : x.ment γ = false) (h : x.sat g u) : x.sat (g.put γ b hv) u :=
  AVal.sat_mono (g := g) (g' := g.put γ b hv) (MemLe.refl _) x u (fun k hk => put_keeps (fun e => by rw [e, hm] at hk; simp at hk)) h
theorem satL_put {g : Gh} {γ b : Nat} {hv : Value} {xs : List AVal} {us : List Value} (hm : mentL γ xs = false) (h : satL g xs us) : satL (g.put γ b hv) xs us :=
  satL_mono (g := g) (g' := g.put γ b hv) (MemLe.refl _) xs us (fun k hk => put_keeps (fun e => by rw [e, hm] at hk; simp at hk)) h

/-- A new object under a key that is not spoken of. -/
theorem inv_new {E : Env} {S : St} {g : Gh} {w : World} (hi : Inv E S.obj g w) (γ : Nat) (hf : S.free γ = true) (hdead : S.obj γ = .dead)
    (obj : AObj) (b : Nat) (hv : Value) {w' : World} (hheap : ∀ b, b < w.heap.size → w'.heap[b]? = w.heap[b]?) (hsize : w.heap.size ≤ w'.heap.size)
    (hos : w'.os = w.os) (hout : w'.output = w.output) (hobj : objSat (g.put γ b hv) w' γ obj)
    (hlive : ∀ k, lives (g.put γ b hv) obj γ k → w.heap.size ≤ k) :
    Inv E (look .dead ((γ, obj) :: S.L)) (g.put γ b hv) w' := by
  refine Inv.upd hi γ obj (look_same _ _ _ _) (fun k hk => look_ne _ _ _ (Ne.symm hk)) (fun b hb _ => hheap b hb) hsize hos hout rfl
    (fun k hk => ⟨by simp [Gh.put, hk], by simp [Gh.put, hk], rfl⟩) (fun k cs us hk hL hs => satL_put ?_ hs) hobj (fun k hk => .inr (hlive k hk)) (fun hlt => by simp only [St.free, Bool.and_eq_true, Nat.ble_eq] at hf; omega)
  have := obj_free hf k
  rw [hL] at this
  exact this

theorem tmps_put {S : St} {γ : Nat} (hf : S.free γ = true) {g : Gh} {a : Act} {b : Nat} {hv : Value} (hs : ∀ t, (S.get t).sat g (a.tmps.getD t undef)) :
    ∀ t, (S.get t).sat (g.put γ b hv) (a.tmps.getD t undef) := fun t => sat_put (get_free hf t) (hs t)

theorem world_push (w : World) (o : Obj) : ∀ b, b < w.heap.size → (w.alloc o).heap[b]? = w.heap[b]? := fun b hb => heap_alloc_old w o b hb
theorem world_push_size (w : World) (o : Obj) : w.heap.size ≤ (w.alloc o).heap.size := by simp

def newGh (g : Gh) (w : World) (γ : Nat) : Gh := g.put γ w.heap.size undef

theorem thaw00 (n : Nat) : thaw (0, 0) n := fun i hi => by simp

/-- A new box. -/
theorem inv_box {E : Env} {S : St} {g : Gh} {w : World} (hi : Inv E S.obj g w) (γ : Nat) (hf : S.free γ = true) (hdead : S.obj γ = .dead) (e : TypeId)
    {cs : List AVal} {vs : Array Value} (hs : satL g cs vs.toList) (hm : mentL γ cs = false) (hc : ∀ c ∈ cs, c.cellish = true) :
    Inv E (look .dead ((γ, .box cs) :: S.L)) (newGh g w γ) (w.alloc (.cells vs e)) := by
  refine inv_new hi γ hf hdead _ _ _ (world_push _ _) (world_push_size _ _) rfl rfl ?_ (fun k hk => ?_)
  · refine ⟨vs, e, (0, 0), ?_, thaw00 _, satL_put hm hs, hc⟩
    simp only [newGh, Gh.put, if_true]
    exact heap_alloc_new w _
  · simp only [lives, Gh.put, if_true] at hk; omega

def cellishL : List AVal → Bool
  | [] => true
  | c :: r => c.cellish && cellishL r
theorem cellishL_iff : ∀ l, cellishL l = true ↔ ∀ c ∈ l, c.cellish = true
  | [] => by simp [cellishL]
  | c :: r => by simp [cellishL, cellishL_iff r]

/-- The cells of what is put into memory. -/
def AVal.parts : AVal → List AVal
  | .agg cs => cs
  | x => [x]
theorem parts_sat {g : Gh} {x : AVal} {v : Value} (h : x.sat g v) (hc : cellishL x.parts = true) : satL g x.parts v.cells.toList := by
  rw [cellishL_iff] at hc
  cases x with
  | agg cs => simp only [AVal.sat] at h; obtain ⟨vs, rfl, h⟩ := h; exact h
  | any => have := hc .any (by simp [AVal.parts]); simp [AVal.cellish] at this
  | tup vs => have := hc (.tup vs) (by simp [AVal.parts]); simp [AVal.cellish] at this
  | _ =>
    all_goals
      have h1 := AVal.sat_one (by exact hc _ (by simp [AVal.parts])) h
      have e : v.cells = #[v] := by cases v <;> simp [Value.oneCell'] at h1 <;> rfl
      rw [e]
      simp only [AVal.parts]
      exact ⟨h, by simp only [satL]⟩
theorem parts_one {g : Gh} {x : AVal} {v : Value} (h : x.sat g v) (hc : cellishL x.parts = true) : ∀ (i : Nat) (c : AVal) (u : Value), x.parts[i]? = some c → v.cells.toList[i]? = some u → u.oneCell' = true := by
  intro i c u hci hui
  obtain ⟨u', h1, h2⟩ := satL_get (parts_sat h hc) i c hci
  rw [h1] at hui; cases hui
  exact AVal.sat_one ((cellishL_iff _).1 hc c (List.mem_of_getElem? hci)) h2

section
variable {P : Program} {ops : Array Oper} {draw : Bool} {K : St → Prop} {rest : List Oper} {l : Line} {S : St}
variable {d : Nat} {ty : TypeId} {pos : String} {aft : Array Edge} {gd : Option (Nat × Bool)}

theorem valid_new {o : Oper} {reads : List (Operand × AVal)} {d : Nat} {x : AVal} {lrd : List (Nat × AObj)} {γ : Nat} {obj : AObj} {new : List Nat} (hdst : o.dst = some d)
    (h : ∀ E S g a w, holdsG E S g a w → satR g a reads → lrdOk S lrd → newOk S new → ∃ v g' w', (execOp a.eval o).run P w = .ok (.value v) w' ∧ x.sat g' v ∧
      Inv E (look .dead ((γ, obj) :: S.L)) g' w' ∧ ∀ t, (S.get t).sat g' (a.tmps.getD t undef)) :
    Valid' P o ⟨reads, some (d, x), lrd, [(γ, obj)], new⟩ := by
  intro E S a w g hs hok Q K hK
  obtain ⟨v, g', w', h1, h2, h3, h4⟩ := h E S g a w hs (satR_of hs _ hok.1) hok.2.1 hok.2.2.1
  unfold Oper.wp
  rw [h1, Oper.upon_value, hdst]
  exact hK _ _ (holds_put h3 hs.2.1 hs.2.2.1 h4 h2 hok.2.2.2)
theorem valid_unit {o : Oper} {reads : List (Operand × AVal)} {lrd : List (Nat × AObj)} {γ : Nat} {obj : AObj} {new : List Nat} (hdst : o.dst = none)
    (h : ∀ E S g a w, holdsG E S g a w → satR g a reads → lrdOk S lrd → newOk S new → ∃ g' w', (execOp a.eval o).run P w = .ok .skip w' ∧
      Inv E (look .dead ((γ, obj) :: S.L)) g' w' ∧ ∀ t, (S.get t).sat g' (a.tmps.getD t undef)) :
    Valid' P o ⟨reads, none, lrd, [(γ, obj)], new⟩ := by
  intro E S a w g hs hok Q K hK
  obtain ⟨g', w', h1, h3, h4⟩ := h E S g a w hs (satR_of hs _ hok.1) hok.2.1 hok.2.2.1
  unfold Oper.wp
  rw [h1, Oper.upon_skip, hdst]
  exact hK _ _ ⟨g', h3, hs.2.1, hs.2.2.1, h4⟩

/-- A key that is not yet in use. -/
def St.next (S : St) : Nat := S.L.foldl (fun m p => bif Nat.ble m p.1 then p.1 + 1 else m) 100

def zerosOf (P : Program) (t : TypeId) : Option (List Value) :=
  match P.info? t with
  | some i => (match i.zero with | some z => some z.cells.toList | none => none)
  | none => none
def onesL : List Value → Bool
  | [] => true
  | v :: r => v.oneCell' && onesL r
theorem onesL_iff : ∀ l, onesL l = true ↔ ∀ v ∈ l, v.oneCell' = true
  | [] => by simp [onesL]
  | v :: r => by simp [onesL, onesL_iff r]
def dvL : List Value → List AVal
  | [] => []
  | v :: r => .d (.v v) :: dvL r
theorem dvL_sat {g : Gh} : ∀ {vs : List Value}, onesL vs = true → satL g (dvL vs) vs
  | [], _ => by simp only [dvL, satL]
  | v :: r, h => by
    simp only [onesL, Bool.and_eq_true] at h
    simp only [dvL, satL]
    exact ⟨sat_mk h.1, dvL_sat h.2⟩
theorem dvL_ment (γ : Nat) : ∀ vs : List Value, mentL γ (dvL vs) = false
  | [] => rfl
  | v :: r => by simp [dvL, mentL, AVal.ment, dvL_ment γ r]
theorem dvL_cellish : ∀ vs : List Value, ∀ c ∈ dvL vs, c.cellish = true
  | [], _, h => by simp [dvL] at h
  | v :: r, c, h => by
    simp only [dvL, List.mem_cons] at h
    rcases h with rfl | h
    · rfl
    · exact dvL_cellish r c h

theorem zerosOf_spec {t : TypeId} {zs : List Value} (h : zerosOf P t = some zs) : ∃ z : Value, z.cells.toList = zs ∧ ∀ w, (zeroValue t).run P w = .ok z w := by
  unfold zerosOf at h
  cases hi : P.info? t with
  | none => rw [hi] at h; simp at h
  | some i =>
    rw [hi] at h
    cases hz : i.zero with
    | none => simp [hz] at h
    | some z => simp [hz] at h; exact ⟨z, h, fun w => by simp [zeroValue, typeInfo, hi, hz]⟩

theorem w_alloc {t : TypeId} {γ : Nat} {zs : List Value} (hz : zerosOf P t = some zs) (h1 : onesL zs = true) (hdead : S.obj γ = .dead) (hf : S.free γ = true)
    (hd : Nat.blt d S.n = true) (hg : guardOk ops S gd)
    (h : Walk P ops draw K rest ((l.length, ⟨some d, .alloc t, ty, pos, aft, gd⟩, ⟨guardReads ops gd ++ [], some (d, .ptr γ 0), [(γ, .dead)], [(γ, .box (dvL zs))], [γ]⟩) :: l)
      ((S.set d (.ptr γ 0)).own γ (.box (dvL zs)))) :
    Walk P ops draw K (⟨some d, .alloc t, ty, pos, aft, gd⟩ :: rest) l S :=
  walk_op ⟨[], some (d, .ptr γ 0), [(γ, .dead)], [(γ, .box (dvL zs))], [γ]⟩ (valid_new rfl fun E S g a w hs hq hl hn => by
    obtain ⟨z, hzc, hzr⟩ := zerosOf_spec hz
    refine ⟨.pointer (some ⟨w.heap.size, 0, none⟩), newGh g w γ, w.alloc (.cells z.cells t), ?_, ?_, ?_, tmps_put hn.1 hs.2.2.2⟩
    · simp [execOp, Instr.alloc, hzr, newVar, newRow]
    · simp [AVal.sat, newGh, Gh.put]
    · exact inv_box hs.1 γ hn.1 hl.1 t (by rw [hzc]; exact dvL_sat h1) (dvL_ment _ _) (dvL_cellish _)) hg ⟨trivial, ⟨hdead, trivial⟩, ⟨hf, trivial⟩, hd⟩ h

theorem w_box {t : TypeId} {γ : Nat} {x : Operand} {y : AVal} (hx : S.ev x = y) (hc : cellishL y.parts = true) (hdead : S.obj γ = .dead) (hf : S.free γ = true) (hm : mentL γ y.parts = false)
    (hd : Nat.blt d S.n = true) (hg : guardOk ops S gd)
    (h : Walk P ops draw K rest ((l.length, ⟨some d, .box t x, ty, pos, aft, gd⟩, ⟨guardReads ops gd ++ [(x, y)], some (d, .ptr γ 0), [(γ, .dead)], [(γ, .box y.parts)], [γ]⟩) :: l)
      ((S.set d (.ptr γ 0)).own γ (.box y.parts))) :
    Walk P ops draw K (⟨some d, .box t x, ty, pos, aft, gd⟩ :: rest) l S :=
  walk_op ⟨[(x, y)], some (d, .ptr γ 0), [(γ, .dead)], [(γ, .box y.parts)], [γ]⟩ (valid_new rfl fun E S g a w hs hq hl hn => by
    refine ⟨.pointer (some ⟨w.heap.size, 0, none⟩), newGh g w γ, w.alloc (.cells (a.eval x).cells t), ?_, ?_, ?_, tmps_put hn.1 hs.2.2.2⟩
    · simp [execOp, Instr.box, newVar, newRow]
    · simp [AVal.sat, newGh, Gh.put]
    · exact inv_box hs.1 γ hn.1 hl.1 t (parts_sat hq.1 hc) hm ((cellishL_iff _).1 hc)) hg ⟨⟨hx, trivial⟩, ⟨hdead, trivial⟩, ⟨hf, trivial⟩, hd⟩ h

/-! Stores. -/
theorem run_storeCells_row (b : Nat) (e : TypeId) (fr : Nat × Nat) (n : Nat) (hfr : thaw fr n) : ∀ (us : List Value) (o i : Nat) (vs : Array Value) (w : World), w.heap[b]? = some (.cells vs e fr) → vs.size = n →
    o + i + us.length ≤ vs.size → (∀ u ∈ us, u.oneCell' = true) →
    ∃ vs' : Array Value, (storeCells ⟨b, o, none⟩ us i).run P w = .ok () (w.setRow b vs') ∧ vs'.toList = vs.toList.take (o + i) ++ us ++ vs.toList.drop (o + i + us.length)
  | [], o, i, vs, w, h, hn, hl, h1 => ⟨vs, by
      have : w.setRow b vs = w := by
        cases w with
        | mk heap tape drawn os output =>
          simp only [World.setRow]
          congr 1
          apply Array.ext_getElem?
          intro k
          simp only [Array.getElem?_modify]
          split
          · rename_i hk; subst hk; simp at h; simp [h]
          · rfl
      simp [storeCells, this], by simp⟩
  | u :: us, o, i, vs, w, h, hn, hl, h1 => by
    have hlt : o + i < vs.size := by simp at hl; omega
    have hc : w.cell? ⟨b, o + i, none⟩ = some vs[o + i] := by rw [cell_of_row w _ _ vs e fr h]; simp [hlt]
    have hf : w.frozen? ⟨b, o + i, none⟩ = false := by
      simp only [World.frozen?, h]
      have := hfr (o + i) (by omega)
      simpa using this
    have hset := setCell_eq_setRow w b (o + i) vs e fr u h
    have hw' : (w.setRow b (vs.setIfInBounds (o + i) u)).heap[b]? = some (.cells (vs.setIfInBounds (o + i) u) e fr) := setRow_heap w b vs _ e fr h
    obtain ⟨vs', k1, k2⟩ := run_storeCells_row b e fr n hfr us o (i + 1) (vs.setIfInBounds (o + i) u) _ hw' (by simp [hn]) (by simp at hl ⊢; omega) (fun x hx => h1 x (by simp [hx]))
    refine ⟨vs', ?_, ?_⟩
    · simp only [storeCells, Sem.run_bind, add_at, run_store P w _ u .plain (h1 u (by simp)), hc, hf, hset, Bool.false_eq_true, if_false, Result.andThen_ok, k1, setRow_setRow]
    · rw [k2]
      apply List.ext_getElem?
      intro k
      simp only [List.getElem?_append, List.length_append, List.length_take, List.length_drop, Array.length_toList, Array.size_setIfInBounds, List.length_cons, List.getElem?_take, List.getElem?_drop, Array.getElem?_toList, Array.getElem?_setIfInBounds, List.getElem?_cons]
      have hm1 : min (o + (i + 1)) vs.size = o + i + 1 := by simp at hl; omega
      have hm2 : min (o + i) vs.size = o + i := by omega
      rw [hm1, hm2]
      by_cases c1 : k < o + i
      · simp [c1, show k < o + i + 1 by omega, show k < o + i + 1 + us.length by omega, show k < o + i + (us.length + 1) by omega, show k < o + (i + 1) by omega, show o + i ≠ k by omega]
      · by_cases c2 : k = o + i
        · subst c2
          simp [show o + i < o + (i + 1) by omega, hlt]
          omega
        · by_cases c3 : k < o + i + (us.length + 1)
          · simp [c1, c3, show ¬ k < o + i + 1 by omega, show k < o + i + 1 + us.length by omega, show k - (o + i) ≠ 0 by omega, show k - (o + i + 1) = k - (o + i) - 1 by omega]
          · simp [c3, show ¬ k < o + i + 1 + us.length by omega,
              show o + (i + 1) + us.length + (k - (o + i + 1 + us.length)) = o + i + (us.length + 1) + (k - (o + i + (us.length + 1))) by omega]
            intro hh; exfalso; omega

def tySize (P : Program) (t : TypeId) (sz : Nat) : Bool := match P.info? t with | some i => Nat.beq i.size sz | none => false
theorem tySize_spec {t : TypeId} {sz : Nat} (h : tySize P t sz = true) (w : World) : (sizeOf t).run P w = .ok sz w := by
  unfold tySize at h
  cases hi : P.info? t with
  | none => simp [hi] at h
  | some i => rw [hi] at h; have : i.size = sz := by simpa using h
              simp [sizeOf, typeInfo, hi, this]

theorem w_store {t : TypeId} {x v : Operand} {γ o : Nat} {cs : List AVal} {y : AVal} (hx : S.ev x = .ptr γ o) (hL : S.obj γ = .box cs) (hv : S.ev v = y) (hc : cellishL y.parts = true)
    (ht : tySize P t y.parts.length = true) (hb : Nat.ble (o + y.parts.length) cs.length = true) (hg : guardOk ops S gd)
    (h : Walk P ops draw K rest ((l.length, ⟨none, .store t x v, ty, pos, aft, gd⟩, ⟨guardReads ops gd ++ [(x, .ptr γ o), (v, y)], none, [(γ, .box cs)], [(γ, .box (cs.take o ++ y.parts ++ cs.drop (o + y.parts.length)))], []⟩) :: l)
      (S.own γ (.box (cs.take o ++ y.parts ++ cs.drop (o + y.parts.length))))) :
    Walk P ops draw K (⟨none, .store t x v, ty, pos, aft, gd⟩ :: rest) l S :=
  walk_op ⟨[(x, .ptr γ o), (v, y)], none, [(γ, .box cs)], [(γ, .box (cs.take o ++ y.parts ++ cs.drop (o + y.parts.length)))], []⟩ (valid_unit rfl fun E S g a w hs hq hl hn => by
    have ho := hs.1.obj γ
    rw [hl.1] at ho
    obtain ⟨vs, e, fr, h1, h2, h3, h4⟩ := ho
    have hp : a.eval x = .pointer (some ⟨g.blk γ, o, none⟩) := by have := hq.1; simpa only [AVal.sat] using this
    have hps := parts_sat hq.2.1 hc
    have hlen : (a.eval v).cells.toList.length = y.parts.length := satL_length hps
    have hvl : vs.size = cs.length := by have := satL_length h3; simpa using this
    have hb' : o + y.parts.length ≤ cs.length := by simpa using hb
    obtain ⟨vs', k1, k2⟩ := run_storeCells_row (P := P) (g.blk γ) e fr vs.size h2 (a.eval v).cells.toList o 0 vs w h1 rfl (by rw [hlen]; omega) (fun u hu => by
      obtain ⟨i, hi, rfl⟩ := List.getElem_of_mem hu
      have hi' : i < y.parts.length := by rw [← hlen]; exact hi
      exact parts_one hq.2.1 hc i _ _ (List.getElem?_eq_getElem hi') (List.getElem?_eq_getElem hi))
    simp only [Nat.add_zero, hlen] at k2
    refine ⟨g, w.setRow (g.blk γ) vs', ?_, ?_, hs.2.2.2⟩
    · have hsz := tySize_spec ht w
      simp only [Array.length_toList] at hlen
      simp [execOp, hp, Instr.storeAt, Instr.sureAddr, storeVar, hsz, hlen, k1]
    · have hsz' : vs'.size = vs.size := by
        have := congrArg List.length k2
        simp [hlen] at this
        simp at hlen
        omega
      refine Inv.upd hs.1 γ _ (look_same _ _ _ _) (fun k hk => look_ne _ _ _ (Ne.symm hk)) (fun b hb hnl => ?_) (by simp) rfl rfl rfl (fun k hk => ⟨rfl, rfl, rfl⟩) (fun k cs us _ _ h => h) ?_ (fun b hb => .inl (by rw [hl.1]; exact hb)) (fun _ => Gh.keeps_refl _ _)
      · refine setRow_other w _ b vs' (fun e => hnl ?_)
        rw [hl.1, e]; rfl
      · refine ⟨vs', e, fr, setRow_heap w _ vs _ e fr h1, by rw [hsz']; exact h2, ?_, fun c hcm => ?_⟩
        · rw [k2]
          exact satL_append (satL_append (satL_take h3 o) hps) (satL_drop h3 _)
        · simp only [List.mem_append] at hcm
          rcases hcm with (h' | h') | h'
          · exact h4 c (List.mem_of_mem_take h')
          · exact (cellishL_iff _).1 hc c h'
          · exact h4 c (List.mem_of_mem_drop h')) hg ⟨⟨hx, hv, trivial⟩, ⟨hL, trivial⟩, trivial, trivial⟩ h

/-! Aggregates. -/
def setAt (cs ys : List AVal) (o : Nat) : List AVal := cs.take o ++ ys ++ cs.drop (o + ys.length)
def fillA (place : Nat → Option (Nat × Nat)) (cs : List AVal) : List (Nat × AVal) → Option (List AVal)
  | [] => some cs
  | (i, x) :: r =>
    match place i with
    | none => none
    | some (off, sz) => bif Nat.beq x.parts.length sz && Nat.ble (off + sz) cs.length && cellishL x.parts then fillA place (setAt cs x.parts off) r else none

theorem foldl_set (xs : List Value) : ∀ (k : Nat) (cs : Array Value) (off : Nat), off + k + xs.length ≤ cs.size →
    ((xs.zipIdx k).foldl (fun cs (p : Value × Nat) => cs.setIfInBounds (off + p.2) p.1) cs).toList = cs.toList.take (off + k) ++ xs ++ cs.toList.drop (off + k + xs.length) := by
  induction xs with
  | nil => intro k cs off h; simp
  | cons x xs ih =>
    intro k cs off h
    simp only [List.zipIdx_cons, List.foldl_cons]
    rw [ih (k + 1) _ off (by simp at h ⊢; omega)]
    apply List.ext_getElem?
    intro j
    simp only [List.length_cons] at h
    simp only [List.getElem?_append, List.length_append, List.length_take, Array.length_toList, Array.size_setIfInBounds, List.length_cons, List.getElem?_take, List.getElem?_drop, Array.getElem?_toList, Array.getElem?_setIfInBounds, List.getElem?_cons]
    have hm1 : min (off + (k + 1)) cs.size = off + k + 1 := by omega
    have hm2 : min (off + k) cs.size = off + k := by omega
    rw [hm1, hm2]
    by_cases c1 : j < off + k
    · simp [c1, show j < off + k + 1 by omega, show j < off + k + 1 + xs.length by omega, show j < off + k + (xs.length + 1) by omega, show j < off + (k + 1) by omega, show off + k ≠ j by omega]
    · by_cases c2 : j = off + k
      · subst c2
        simp [show off + k < off + (k + 1) by omega, show off + k < cs.size by omega]
        omega
      · by_cases c3 : j < off + k + (xs.length + 1)
        · simp [c1, c3, show ¬ j < off + k + 1 by omega, show j < off + k + 1 + xs.length by omega, show j - (off + k) ≠ 0 by omega, show j - (off + k + 1) = j - (off + k) - 1 by omega]
        · simp [c3, show ¬ j < off + k + 1 + xs.length by omega,
            show off + (k + 1) + xs.length + (j - (off + k + 1 + xs.length)) = off + k + (xs.length + 1) + (j - (off + k + (xs.length + 1))) by omega]
          intro hh; exfalso; omega

def evL (S : St) : List (Nat × Operand) → List (Nat × AVal)
  | [] => []
  | p :: r => (p.1, S.ev p.2) :: evL S r
def readsL : List (Nat × Operand) → List (Nat × AVal) → List (Operand × AVal)
  | p :: r, q :: s => (p.2, q.2) :: readsL r s
  | _, _ => []

theorem fill_sat {g : Gh} {a : Act} {place : Nat → Option (Nat × Nat)} : ∀ {parts : List (Nat × Operand)} {ps : List (Nat × AVal)} {cs out : List AVal} {vs : Array Value},
    ps.map (·.1) = parts.map (·.1) → satR g a (readsL parts ps) → satL g cs vs.toList → fillA place cs ps = some out →
    ∃ us : Array Value, Instr.fill place vs (parts.map fun p => (p.1, a.eval p.2)) = some us ∧ satL g out us.toList
  | [], [], cs, out, vs, _, _, hs, hf => by
    simp only [fillA, Option.some.injEq] at hf; subst hf
    exact ⟨vs, rfl, hs⟩
  | [], _ :: _, _, _, _, hm, _, _, _ => by simp at hm
  | _ :: _, [], _, _, _, hm, _, _, _ => by simp at hm
  | p :: parts, (i, x) :: ps, cs, out, vs, hm, hr, hs, hf => by
    simp only [List.map_cons, List.cons.injEq] at hm
    obtain ⟨hm1, hm2⟩ := hm
    simp only [fillA] at hf
    cases hp : place i with
    | none => rw [hp] at hf; simp at hf
    | some os =>
      obtain ⟨off, sz⟩ := os
      rw [hp] at hf
      simp only at hf
      cases hb : (Nat.beq x.parts.length sz && Nat.ble (off + sz) cs.length && cellishL x.parts) with
      | false => rw [hb] at hf; simp at hf
      | true =>
        rw [hb] at hf
        simp only [Bool.and_eq_true] at hb
        obtain ⟨⟨b1, b2⟩, b3⟩ := hb
        have b1' : x.parts.length = sz := by simpa using b1
        have b2' : off + sz ≤ cs.length := by simpa using b2
        obtain ⟨hr1, hr2⟩ := hr
        have hps := parts_sat hr1 b3
        have hl1 := satL_length hps
        have hl2 := satL_length hs
        simp only [Array.length_toList] at hl1 hl2
        have hfold := foldl_set (a.eval p.2).cells.toList 0 vs off (by simp; omega)
        simp only [Nat.add_zero, Array.length_toList, hl1] at hfold
        let vs' : Array Value := (a.eval p.2).cells.zipIdx.foldl (fun cs (p : Value × Nat) => cs.setIfInBounds (off + p.2) p.1) vs
        have hvs' : vs'.toList = vs.toList.take off ++ (a.eval p.2).cells.toList ++ vs.toList.drop (off + x.parts.length) := by
          rw [← hfold]
          simp only [vs']
          rw [← Array.foldl_toList, Array.toList_zipIdx]
        have hsat' : satL g (setAt cs x.parts off) vs'.toList := by
          rw [hvs']
          exact satL_append (satL_append (satL_take hs off) hps) (satL_drop hs _)
        obtain ⟨us, k1, k2⟩ := fill_sat (vs := vs') hm2 hr2 hsat' hf
        refine ⟨us, ?_, k2⟩
        simp only [List.map_cons, Instr.fill, ← hm1, hp]
        rw [if_neg (by simp [hl1, b1']; omega)]
        exact k1

/-- The places of a struct's fields. -/
def placeOf (P : Program) (t : TypeId) (i : Nat) : Option (Nat × Nat) :=
  match P.underlying t with
  | some (.struct fs) => (match fs[i]? with | some q => (match P.info? q.type with | some y => some (q.offset, y.size) | none => none) | none => none)
  | some (.array _ e) => (match P.info? e with | some y => some (i * y.size, y.size) | none => none)
  | _ => none
def aggOk (P : Program) (t : TypeId) : Bool :=
  match P.underlying t with
  | some (.struct fs) => fs.toList.all fun f => (P.info? f.type).isSome
  | some (.array _ e) => (P.info? e).isSome
  | _ => false

theorem run_places (fs : List Field) (w : World) (h : ∀ f ∈ fs, (P.info? f.type).isSome = true) :
    (fs.mapM fun f => do pure (f.offset, ← sizeOf f.type) : Sem (List (Nat × Nat))).run P w = .ok (fs.map fun f => (f.offset, P.cellsOf f.type)) w := by
  induction fs with
  | nil => simp
  | cons f fs ih =>
    obtain ⟨i, hi⟩ := Option.isSome_iff_exists.1 (h f (by simp))
    have ih := ih (fun x hx => h x (by simp [hx]))
    have hsz : (sizeOf f.type).run P w = .ok i.size w := by simp [sizeOf, typeInfo, hi]
    rw [List.mapM_cons]
    simp only [Sem.run_bind, hsz, Result.andThen_ok, Sem.run_pure, ih, List.map_cons]
    simp [Program.cellsOf, hi]

theorem fill_congr {f f' : Nat → Option (Nat × Nat)} (h : ∀ i, f i = f' i) (cs : Array Value) (l : List (Nat × Value)) : Instr.fill f cs l = Instr.fill f' cs l := by
  have : f = f' := funext h
  rw [this]

theorem w_build {t : TypeId} {parts : Array (Nat × Operand)} {pl : List (Nat × Operand)} {zs : List Value} {ps : List (Nat × AVal)} {out : List AVal} (hpl : parts.toList = pl) (hps : evL S pl = ps)
    (hz : zerosOf P t = some zs) (h1 : onesL zs = true) (ht : aggOk P t = true) (hout : fillA (placeOf P t) (dvL zs) ps = some out)
    (hd : Nat.blt d S.n = true) (hg : guardOk ops S gd)
    (h : Walk P ops draw K rest ((l.length, ⟨some d, .build t parts, ty, pos, aft, gd⟩, ⟨guardReads ops gd ++ readsL pl ps, some (d, .agg out), [], [], []⟩) :: l) (S.set d (.agg out))) :
    Walk P ops draw K (⟨some d, .build t parts, ty, pos, aft, gd⟩ :: rest) l S := by
  have hkeys : ps.map (·.1) = pl.map (·.1) := by
    rw [← hps]; clear hps hpl h; induction pl with
    | nil => rfl
    | cons p r ih => simp [evL, ih]
  refine walk_op ⟨readsL pl ps, some (d, .agg out), [], [], []⟩ (valid_val rfl fun E S g a w hs hq hl => ?_) hg ⟨?_, trivial, trivial, hd⟩ h
  · obtain ⟨z, hzc, hzr⟩ := zerosOf_spec hz
    obtain ⟨us, k1, k2⟩ := fill_sat (vs := z.cells) hkeys hq (by rw [hzc]; exact dvL_sat h1) hout
    refine ⟨.agg us, ?_, by simp only [AVal.sat]; exact ⟨us, rfl, k2⟩⟩
    have hparts : (parts.map fun p => (p.1, a.eval p.2)).toList = pl.map fun p => (p.1, a.eval p.2) := by simp [hpl]
    unfold aggOk at ht
    cases hu : P.underlying t with
    | none => rw [hu] at ht; simp at ht
    | some de =>
      rw [hu] at ht
      cases de with
      | struct fs =>
        simp only [List.all_eq_true] at ht
        have hrp := run_places (P := P) fs.toList w ht
        have hpm : (fs.mapM fun f => do pure (f.offset, ← sizeOf f.type) : Sem (Array (Nat × Nat))).run P w = .ok (fs.map fun f => (f.offset, P.cellsOf f.type)) w := by
          have e : (fs.mapM fun f => do pure (f.offset, ← sizeOf f.type) : Sem (Array (Nat × Nat))) = (List.toArray <$> (fs.toList.mapM fun f => do pure (f.offset, ← sizeOf f.type))) := by
            rw [Array.mapM_eq_mapM_toList]
          rw [e, Sem.run_map, hrp, Result.andThen_ok]
          congr 1
          apply Array.ext'
          simp
        have hf : Instr.fill (fun x => (fs.map fun f => (f.offset, P.cellsOf f.type))[x]?) z.cells (parts.map fun p => (p.1, a.eval p.2)).toList = some us := by
          rw [hparts, ← k1]
          refine fill_congr (fun i => ?_) _ _
          simp only [placeOf, hu, Array.getElem?_map]
          cases hfi : fs[i]? with
          | none => rfl
          | some q =>
            obtain ⟨y, hy⟩ := Option.isSome_iff_exists.1 (ht q (by simpa using Array.mem_of_getElem? hfi))
            simp [hy, Program.cellsOf]
        simp only [execOp, Instr.build, Sem.run_bind, hzr, Result.andThen_ok, run_underlying hu, hpm, hf, Sem.run_pure]
      | array n e =>
        simp only at ht
        obtain ⟨y, hy⟩ := Option.isSome_iff_exists.1 ht
        have hf : Instr.fill (fun i => some (i * y.size, y.size)) z.cells (parts.map fun p => (p.1, a.eval p.2)).toList = some us := by
          rw [hparts, ← k1]
          refine fill_congr (fun i => ?_) _ _
          simp only [placeOf, hu, hy]
        simp only [execOp, Instr.build, Sem.run_bind, hzr, Result.andThen_ok, run_underlying hu, sizeOf, typeInfo, run_program, hy, hf, Sem.run_pure]
      | _ => simp at ht
  · rw [readsOk_iff]
    rw [← hps]
    clear hkeys hps hpl hout h
    induction pl with
    | nil => simp [readsL, evL]
    | cons p r ih => simp only [evL, readsL, List.mem_cons]; exact fun q hq => hq.elim (fun e => by rw [e]) (ih q)
end
end Go.Fw
namespace Go.Fw
open Go
set_option linter.unusedVariables false
set_option linter.unusedSimpArgs false

theorem dmap_ment (γ : Nat) : ∀ l : List D, mentL γ (l.map .d) = false
  | [] => rfl
  | x :: l => by simp [mentL, AVal.ment, dmap_ment γ l]
theorem dmap_sat {g : Gh} : ∀ {ds : List D} {vs : List Value}, satL g (ds.map .d) vs → vs.length = ds.length ∧ ∀ (i : Nat) (d : D), ds[i]? = some d → ∃ u, vs[i]? = some u ∧ d.rep g.M u := by
  intro ds vs h
  refine ⟨by simpa using satL_length h, fun i d hd => ?_⟩
  obtain ⟨u, h1, h2⟩ := satL_get h i (.d d) (by simp [hd])
  exact ⟨u, h1, by simpa only [AVal.sat] using h2⟩

theorem rows_of_flat {M : Mem} {sz b : Nat} : ∀ (xs : List (List D)) (o : Nat), (∀ x ∈ xs, x.length = sz) →
    (∀ (i : Nat) (d : D), xs.flatten[i]? = some d → ∃ u, M ⟨b, o + i, none⟩ = some u ∧ d.rep M u) → repRows M sz xs b o
  | [], _, _, _ => by simp only [repRows]
  | r :: rs, o, hl, h => by
    have hr := hl r (by simp)
    simp only [repRows]
    refine ⟨hr, repCells_of _ _ _ fun i d hd => ?_, rows_of_flat rs (o + sz) (fun x hx => hl x (by simp [hx])) fun i d hd => ?_⟩
    · refine h i d ?_
      have hi : i < r.length := (List.getElem?_eq_some_iff.1 hd).1
      simp [List.getElem?_append, hi]; simpa [hi] using hd
    · have := h (sz + i) d (by simp [List.getElem?_append, ← hr]; exact hd)
      rwa [show o + (sz + i) = o + sz + i by omega] at this

theorem flat_length {sz : Nat} : ∀ (xs : List (List D)), (∀ x ∈ xs, x.length = sz) → xs.flatten.length = xs.length * sz
  | [], _ => by simp
  | r :: rs, h => by
    have := flat_length rs (fun x hx => h x (by simp [hx]))
    simp [this, h r (by simp), Nat.add_mul]; omega

/-- The cells of a slice of data, as they lie in memory. -/
theorem sl_cells {M : Mem} {w : World} (hm : ∀ a v, M a = some v → w.cell? a = some v) {sz : Nat} : ∀ (xs : List (List D)) (b o : Nat), repRows M sz xs b o →
    ∃ vs : List Value, vs.length = xs.length * sz ∧ (∀ (j : Nat) (v : Value), vs[j]? = some v → w.cell? ⟨b, o + j, none⟩ = some v) ∧
      (∀ (j : Nat) (d : D) (v : Value), xs.flatten[j]? = some d → vs[j]? = some v → d.rep M v) := by
  intro xs b o h
  have hl : ∀ x ∈ xs, x.length = sz := fun x hx => by
    obtain ⟨i, hi⟩ := List.getElem?_of_mem hx
    exact (repRows_get xs b o i x h hi).1
  have hcells : repCells M xs.flatten b o := by
    clear hl
    induction xs generalizing o with
    | nil => simp [repCells]
    | cons r rs ih =>
      simp only [repRows] at h
      simp only [List.flatten_cons]
      exact repCells_append h.2.1 (by rw [h.1]; exact ih _ h.2.2)
  obtain ⟨vs, k1, k2, k3⟩ := rep_values hm _ _ _ hcells
  exact ⟨vs, by rw [k1, flat_length xs hl], k2, k3⟩

/-- A new block of data, at once immutable. -/
def Gh.lay (g : Gh) (b : Nat) (vs : Array Value) : Gh :=
  { blk := g.blk, hd := g.hd, ihd := g.ihd, M := fun p => if p.block = b ∧ p.spot = none then vs[p.off]? else g.M p }

theorem lay_le {E : Env} {L : Nat → AObj} {g : Gh} {w : World} (hi : Inv E L g w) (vs : Array Value) : MemLe g.M (g.lay w.heap.size vs).M := by
  intro p v h
  have := block_lt_of_cell (hi.mem p v h)
  show (if _ then _ else _) = _
  rw [if_neg (by omega)]; exact h

theorem sat_lay {g g' : Gh} (hM : MemLe g.M g'.M) (hb : g'.blk = g.blk) (hh : g'.hd = g.hd) (hih : g'.ihd = g.ihd) {x : AVal} {u : Value} (h : x.sat g u) : x.sat g' u :=
  AVal.sat_mono hM x u (fun k _ => Gh.keeps_of (by rw [hb]) (by rw [hh]) (by rw [hih])) h
theorem satL_lay {g g' : Gh} (hM : MemLe g.M g'.M) (hb : g'.blk = g.blk) (hh : g'.hd = g.hd) (hih : g'.ihd = g.ihd) {xs : List AVal} {us : List Value} (h : satL g xs us) : satL g' xs us :=
  satL_mono hM xs us (fun k _ => Gh.keeps_of (by rw [hb]) (by rw [hh]) (by rw [hih])) h

theorem objSat_lay {g g' : Gh} (hM : MemLe g.M g'.M) (hb : g'.blk = g.blk) (hh : g'.hd = g.hd) (hih : g'.ihd = g.ihd) {w w' : World} {γ : Nat} {x : AObj} (hheap : ∀ b, lives g x γ b → w'.heap[b]? = w.heap[b]?)
    (h : objSat g w γ x) : objSat g' w' γ x :=
  objSat_move hM (by rw [hb]) (by rw [hh]) (by rw [hih]) hheap (fun cs us _ h => satL_lay hM hb hh hih h) h

theorem inv_lay {E : Env} {L : Nat → AObj} {g : Gh} {w : World} (hi : Inv E L g w) (vs : Array Value) (e : TypeId) (fr : Nat × Nat) :
    Inv E L (g.lay w.heap.size vs) (w.alloc (.cells vs e fr)) := by
  have hle := lay_le hi vs
  refine ⟨fun γ => objSat_lay (g' := g.lay w.heap.size vs) hle rfl rfl rfl (fun b hb => world_push w _ b (live_lt hi hb)) (hi.obj γ), fun γ γ' b h h' => ?_, fun a v h => ?_, fun γ b h a v ha => ?_, fun γ b h => ?_, hi.ext.trans hle, fun a v h => ?_, fun b hb hA => ?_, ?_, hi.os, hi.out, fun k hk => (hi.kp k hk).trans' (Gh.keeps_of rfl rfl rfl)⟩
  · rw [lives_move (g := g) (g' := g.lay w.heap.size vs) rfl rfl rfl] at h h'
    exact hi.inj γ γ' b h h'
  · have h' : (if a.block = w.heap.size ∧ a.spot = none then vs[a.off]? else g.M a) = some v := h
    split at h'
    · rename_i hc
      obtain ⟨b, o, s⟩ := a
      simp only at hc
      obtain ⟨rfl, rfl⟩ := hc
      rw [cell_of_row _ _ _ vs e fr (heap_alloc_new w _)]; exact h'
    · have hc := hi.mem a v h'
      simp only [World.cell?] at hc ⊢
      rw [world_push w _ _ (block_lt_of_cell (hi.mem a v h'))]; exact hc
  · rw [lives_move (g := g) (g' := g.lay w.heap.size vs) rfl rfl rfl] at h
    have h' : (if a.block = w.heap.size ∧ a.spot = none then vs[a.off]? else g.M a) = some v := ha
    split at h'
    · rename_i hc; have := live_lt hi h; omega
    · exact hi.sep γ b h a v h'
  · rw [lives_move (g := g) (g' := g.lay w.heap.size vs) rfl rfl rfl] at h
    exact hi.new γ b h
  · have h' : (if a.block = w.heap.size ∧ a.spot = none then vs[a.off]? else g.M a) = some v := h
    split at h'
    · rename_i hc; have := hi.size; exact .inr (.inl (by omega))
    · exact hi.lim a v h'
  · have := hi.size
    rw [world_push w _ b (by omega)]; exact hi.frame b hb hA
  · have := hi.size; simp; omega

theorem inv_drew {E : Env} {L : Nat → AObj} {g : Gh} {w : World} (hi : Inv E L g w) : Inv E L g w.drew :=
  ⟨fun γ => by
    have := hi.obj γ
    revert this
    cases L γ <;> exact id, hi.inj, hi.mem, hi.sep, hi.new, hi.ext, hi.lim, hi.frame, hi.size, hi.os, hi.out, hi.kp⟩

/-- Rows read off flat cells. -/
def unDs : List AVal → Option (List D)
  | [] => some []
  | .d x :: r => (match unDs r with | some y => some (x :: y) | none => none)
  | _ => none
def toRows (sz : Nat) : Nat → List AVal → Option (List (List D))
  | 0, [] => some []
  | n + 1, l => (match unDs (l.take sz), toRows sz n (l.drop sz) with | some r, some q => bif Nat.beq r.length sz then some (r :: q) else none | _, _ => none)
  | 0, _ :: _ => none
theorem unDs_spec : ∀ {l : List AVal} {r : List D}, unDs l = some r → r.map .d = l
  | [], r, h => by simp [unDs] at h; subst h; rfl
  | x :: l, r, h => by
    cases x <;> simp only [unDs] at h <;> try (simp at h; done)
    rename_i y
    cases hu : unDs l with
    | none => simp [hu] at h
    | some q => simp [hu] at h; subst h; simp [unDs_spec hu]
theorem toRows_spec {sz : Nat} : ∀ {n : Nat} {l : List AVal} {xs : List (List D)}, toRows sz n l = some xs → xs.flatten.map .d = l ∧ xs.length = n ∧ ∀ x ∈ xs, x.length = sz
  | 0, [], xs, h => by simp [toRows] at h; subst h; simp
  | 0, _ :: _, xs, h => by simp [toRows] at h
  | n + 1, l, xs, h => by
    simp only [toRows] at h
    cases hu : unDs (l.take sz) with
    | none => simp [hu] at h
    | some r =>
      cases hq : toRows sz n (l.drop sz) with
      | none => simp [hu, hq] at h
      | some q =>
        rw [hu, hq] at h
        simp only at h
        cases hb : Nat.beq r.length sz with
        | false => simp [hb] at h
        | true =>
          simp [hb] at h
          subst h
          obtain ⟨k1, k2, k3⟩ := toRows_spec hq
          refine ⟨?_, by simp [k2], ?_⟩
          · simp only [List.flatten_cons, List.map_append, unDs_spec hu, k1, List.take_append_drop]
          · intro x hx
            rcases List.mem_cons.1 hx with rfl | hx
            · simpa using hb
            · exact k3 x hx

/-- The element type of a slice type: its cells, bytes, zero. -/
def elIs (P : Program) (t : TypeId) (sz bytes : Nat) : Bool :=
  match P.underlying t with
  | some (.slice e) => (match P.info? e with | some i => Nat.beq i.size sz && Nat.beq i.bytes bytes && (match i.zero with | some z => Nat.beq z.cells.size sz && onesL z.cells.toList | none => false) | none => false)
  | _ => false
def elB (P : Program) (t : TypeId) : Nat :=
  match P.underlying t with
  | some (.slice e) => (match P.info? e with | some i => i.bytes | none => 0)
  | _ => 0
theorem elIs_spec {P : Program} {t : TypeId} {sz bytes : Nat} (h : elIs P t sz bytes = true) :
    ∃ e i z, P.underlying t = some (.slice e) ∧ P.info? e = some i ∧ i.size = sz ∧ i.bytes = bytes ∧ i.zero = some z ∧ z.cells.size = sz ∧ onesL z.cells.toList = true := by
  unfold elIs at h
  cases hu : P.underlying t with
  | none => simp [hu] at h
  | some de =>
    rw [hu] at h
    cases de with
    | slice e =>
      simp only at h
      cases hi : P.info? e with
      | none => simp [hi] at h
      | some i =>
        rw [hi] at h
        simp only [Bool.and_eq_true] at h
        obtain ⟨⟨h1, h2⟩, h3⟩ := h
        cases hz : i.zero with
        | none => simp [hz] at h3
        | some z =>
          rw [hz] at h3
          simp only [Bool.and_eq_true] at h3
          exact ⟨e, i, z, rfl, hi, Nat.eq_of_beq_eq_true h1, Nat.eq_of_beq_eq_true h2, hz, Nat.eq_of_beq_eq_true h3.1, h3.2⟩
    | _ => simp at h

def srcTy (P : Program) (t : TypeId) : Bool := match P.underlying t with | some (.slice _) => true | some .string => true | _ => false
theorem srcTy_spec {P : Program} {t : TypeId} (h : srcTy P t = true) : (∃ e, P.underlying t = some (.slice e)) ∨ P.underlying t = some .string := by
  unfold srcTy at h
  cases hu : P.underlying t with
  | none => simp [hu] at h
  | some u => rw [hu] at h; cases u <;> simp_all

theorem cut_append (need old : Nat) (e : TypeId) (t : Nat) (h : need < 2 ^ 63) : need ≤ (Question.appendCap need old e).cut t ∧ (Question.appendCap need old e).cut t ≤ maxLen := by
  simp only [Question.cut, maxLen]
  have : t % (2 ^ 63 - need) < 2 ^ 63 - need := Nat.mod_lt _ (by omega)
  omega

/-- What a value brings to an append. -/
def Src (P : Program) (w : World) (sz : Nat) (x : Value) (m : Nat) (news : Array Value) : Prop :=
  (∀ w' : World, w'.heap = w.heap → (Builtin.lenOf x).run P w' = .ok m w' ∧ (Builtin.firstCells sz m x).run P w' = .ok news w') ∧ news.size = m * sz

theorem run_append_room {P : Program} {w : World} {T T2 ty e : TypeId} {i : TypeInfo} {base : Option Addr} {n cap m : Nat} {x : Value} {news : Array Value}
    (hT : P.underlying T = some (.slice e)) (hi : P.info? e = some i) (h2 : (∃ e, P.underlying T2 = some (.slice e)) ∨ P.underlying T2 = some .string)
    (hsrc : Src P w i.size x m news) (hroom : n + m ≤ cap) :
    (Builtin.append_ #[T, T2] ty #[.slice base n cap, x]).run P w =
      match base with
      | some a => ((storeCells (a.add (n * i.size)) news.toList).run P w).andThen fun _ w => .ok (.slice base (n + m) cap) w
      | none => .ok (.slice base (n + m) cap) w := by
  have hs := hsrc.1 w rfl
  rcases h2 with ⟨e2, h2⟩ | h2 <;> cases base <;>
  simp [Builtin.append_, run_underlying hT, sizeOf, typeInfo, hi, run_underlying h2, hs.1, hs.2, hroom]

theorem run_append_grow {P : Program} {w : World} {T T2 ty e : TypeId} {i : TypeInfo} {z : Value} {base : Option Addr} {n cap m : Nat} {x : Value} {olds news : Array Value}
    (hT : P.underlying T = some (.slice e)) (hi : P.info? e = some i) (hz : i.zero = some z) (h2 : (∃ e, P.underlying T2 = some (.slice e)) ∨ P.underlying T2 = some .string)
    (hbytes : i.bytes ≠ 0)
    (hsrc : Src P w i.size x m news) (hold : ∀ w' : World, w'.heap = w.heap → (Builtin.firstCells i.size n (.slice base n cap)).run P w' = .ok olds w') (hroom : ¬ n + m ≤ cap)
    (hcap : Builtin.nextslicecap (n + m) cap * i.bytes ≤ 2 ^ 48) :
    let newCap := (Question.appendCap (n + m) cap e).cut (w.tape w.drawn (.appendCap (n + m) cap e))
    (Builtin.append_ #[T, T2] ty #[.slice base n cap, x]).run P w =
      .ok (.slice (some ⟨w.heap.size, 0, none⟩) (n + m) newCap) (w.drew.alloc (.cells (olds ++ news ++ Builtin.zeroCells z.cells (newCap - (n + m))) e)) := by
  have hs := hsrc.1 w rfl
  have hs' := hsrc.1 w.drew rfl
  have ho := hold w.drew rfl
  rcases h2 with ⟨e2, h2⟩ | h2 <;>
  simp [Builtin.append_, run_underlying hT, sizeOf, typeInfo, hi, run_underlying h2, hs.1, hroom, hbytes, Nat.not_lt.2 hcap, Question.forced, ho, hs'.2, zeroValue, hz, newRow]
end Go.Fw
namespace Go.Fw
open Go
set_option linter.unusedVariables false
set_option linter.unusedSimpArgs false

def Gh.rehd (g : Gh) (γ : Nat) (v : Value) : Gh := { blk := g.blk, hd := fun k => if k = γ then v else g.hd k, ihd := g.ihd, M := g.M }
theorem rehd_keeps {g : Gh} {γ : Nat} {a a' : Option Addr} {m m' c c' : Nat} (h1 : g.hd γ = .slice a m c) (h2 : Value.slice a' m' c' = .slice a m c ∨ m < m') (k : Nat) : g.keeps (g.rehd γ (.slice a' m' c')) k := by
  refine ⟨rfl, ?_, fun _ _ _ _ _ _ => rfl⟩
  by_cases hk : k = γ
  · subst hk
    rcases h2 with h2 | h2
    · left; simp [Gh.rehd, h1, h2]
    · right; exact ⟨a, m, c, a', m', c', h1, by simp [Gh.rehd], h2⟩
  · left; simp [Gh.rehd, hk]

theorem zeroCells_size (z : Array Value) (n : Nat) : (Builtin.zeroCells z n).size = n * z.size := by simp [Builtin.zeroCells]

theorem satL_dmap_append {g : Gh} {xs ys : List D} {us vs : List Value} (h : satL g (xs.map .d) us) (h' : satL g (ys.map .d) vs) : satL g ((xs ++ ys).map .d) (us ++ vs) := by
  rw [List.map_append]; exact satL_append h h'

theorem append_core {P : Program} {E : Env} {S : St} {g : Gh} {a : Act} {w : World} (hs : holdsG E S g a w) {γ sz bytes m : Nat} {xs ys : List (List D)} (hL : S.obj γ = .row sz xs)
    {T T2 ty : TypeId} (hT : elIs P T sz bytes = true) (h2 : srcTy P T2 = true) (hb0 : bytes ≠ 0) {x : Value} {news : Array Value} (hsrc : Src P w sz x m news)
    (hm : m = ys.length) (hy : ∀ y ∈ ys, y.length = sz) (hnews : satL g (ys.flatten.map .d) news.toList) (hroom : (xs.length + m) * bytes ≤ 2 ^ 47) :
    ∃ v g' w', (Builtin.append_ #[T, T2] ty #[g.hd γ, x]).run P w = .ok v w' ∧ (AVal.own γ (xs.length + m)).sat g' v ∧
      Inv E (look .dead ((γ, .row sz (xs ++ ys)) :: S.L)) g' w' ∧ ∀ t, (S.get t).sat g' (a.tmps.getD t undef) := by
  obtain ⟨e, i, z, hu, hi, hsz, hbt, hz, hzs, hz1⟩ := elIs_spec hT
  have hsrcT := srcTy_spec h2
  have ho := hs.1.obj γ
  rw [hL] at ho
  obtain ⟨hlen, ho⟩ := ho
  have hflat := flat_length xs hlen
  have hflat2 := flat_length ys hy
  have hlen' : ∀ r ∈ xs ++ ys, r.length = sz := fun r hr => (List.mem_append.1 hr).elim (hlen r) (hy r)
  have hnsz : news.size = m * sz := hsrc.2
  -- the two ways' common end
  have fin : ∀ (a0 : Option Addr) (c0 : Nat) (b cap' : Nat) (vs' : Array Value) (e' : TypeId) (fr : Nat × Nat) (w' : World),
      g.hd γ = .slice a0 xs.length c0 →
      (Value.slice (some ⟨b, 0, none⟩) (xs.length + m) cap' = .slice a0 xs.length c0 ∨ xs.length < xs.length + m) →
      (∀ k, k < w.heap.size → ¬ lives g (S.obj γ) γ k → w'.heap[k]? = w.heap[k]?) → w.heap.size ≤ w'.heap.size → w'.os = w.os → w'.output = w.output →
      w'.heap[b]? = some (.cells vs' e' fr) → thaw fr vs'.size → xs.length + m ≤ cap' → cap' ≤ maxLen → cap' * sz ≤ vs'.size →
      satL g ((xs ++ ys).flatten.map .d) (vs'.toList.take ((xs ++ ys).length * sz)) → (lives g (S.obj γ) γ b ∨ w.heap.size ≤ b) →
      let g' := g.rehd γ (.slice (some ⟨b, 0, none⟩) (xs.length + m) cap')
      (AVal.own γ (xs.length + m)).sat g' (.slice (some ⟨b, 0, none⟩) (xs.length + m) cap') ∧
      Inv E (look .dead ((γ, .row sz (xs ++ ys)) :: S.L)) g' w' ∧ ∀ t, (S.get t).sat g' (a.tmps.getD t undef) := by
    intro a0 c0 b cap' vs' e' fr w' hhd hgrow hheap hsize hos hout hb hth hcap hmax hcs hsat hlv g'
    have hk : ∀ k, g.keeps g' k := rehd_keeps hhd hgrow
    have hM : MemLe g.M g'.M := MemLe.refl _
    refine ⟨?_, ?_, fun t => AVal.sat_mono hM _ _ (fun k _ => hk k) (hs.2.2.2 t)⟩
    · simp only [AVal.sat]
      exact ⟨rfl, some ⟨b, 0, none⟩, xs.length + m, cap', by simp [g', Gh.rehd], Nat.le_refl _, fun _ => rfl⟩
    · refine Inv.upd hs.1 γ _ (look_same _ _ _ _) (fun k hkγ => look_ne _ _ _ (Ne.symm hkγ)) hheap hsize hos hout rfl (fun k hkγ => ⟨rfl, by simp [g', Gh.rehd, hkγ], rfl⟩)
        (fun k cs us _ _ h => satL_mono hM _ _ (fun k _ => hk k) h) ?_ (fun k hkl => ?_) (fun _ => hk γ)
      · refine ⟨hlen', .inr ⟨b, cap', vs', e', fr, by simp [g', Gh.rehd, hm], by simp [← hm]; exact hcap, hmax, hb, hth, hcs, satL_mono hM _ _ (fun k _ => hk k) hsat⟩⟩
      · simp only [lives, g', Gh.rehd, if_true] at hkl
        obtain ⟨a1, n1, c1, e1, rfl⟩ := hkl
        cases e1; exact hlv
  have hgrowcap : ∀ cap, xs.length + m > cap → Builtin.nextslicecap (xs.length + m) cap * i.bytes ≤ 2 ^ 48 := by
    intro cap hc
    have h1 := nextslicecap_le (need := xs.length + m) (old := cap) hc
    have h2 : Builtin.nextslicecap (xs.length + m) cap * i.bytes ≤ 2 * (xs.length + m) * i.bytes := Nat.mul_le_mul_right _ h1
    rw [hbt] at h2 ⊢
    have h3 : 2 * (xs.length + m) * bytes = 2 * ((xs.length + m) * bytes) := Nat.mul_assoc _ _ _
    omega
  have hneed : xs.length + m < 2 ^ 63 := by
    have : xs.length + m ≤ (xs.length + m) * bytes := Nat.le_mul_of_pos_right _ (by omega)
    omega
  rcases ho with ⟨hnil, rfl⟩ | ⟨b, cap, vs, e', fr, h1, h2', h3, h4, h5, h6, h7⟩
  · by_cases hm0 : m = 0
    · -- nothing to nothing
      have hys : ys = [] := by cases ys with | nil => rfl | cons => simp at hm; omega
      subst hys
      have hr := run_append_room (P := P) (w := w) (T := T) (T2 := T2) (ty := ty) (base := none) (n := 0) (cap := 0) (x := x) (news := news) (m := m) hu hi hsrcT (by rw [hsz]; exact hsrc) (by omega)
      refine ⟨_, g, w, by rw [hnil]; exact hr, ?_, ?_, hs.2.2.2⟩
      · simp only [AVal.sat]
        exact ⟨rfl, none, 0, 0, hnil, by simp [hm0], fun _ => by simp [hm0]⟩
      · have e1 : look .dead ((γ, .row sz ([] ++ [])) :: S.L) = S.obj := by
          funext k
          by_cases hk : k = γ
          · subst hk; rw [look_same]; exact hL.symm
          · rw [look_ne _ _ _ (Ne.symm hk)]; rfl
        rw [e1]; exact hs.1
    · have hr := run_append_grow (P := P) (w := w) (T := T) (T2 := T2) (ty := ty) (base := none) (n := 0) (cap := 0) (x := x) (olds := #[]) (news := news) (m := m) hu hi hz hsrcT (by rw [hbt]; exact hb0) (by rw [hsz]; exact hsrc)
        (fun w' _ => by simp [Builtin.firstCells]) (by omega) (by have := hgrowcap 0 (by simp; omega); simpa using this)
      obtain ⟨c1, c2⟩ := cut_append (0 + m) 0 e (w.tape w.drawn (.appendCap (0 + m) 0 e)) (by simpa using hneed)
      revert hr c1 c2
      generalize (Question.appendCap (0 + m) 0 e).cut (w.tape w.drawn (.appendCap (0 + m) 0 e)) = nc
      intro hr c1 c2
      have := fin none 0 w.heap.size nc (#[] ++ news ++ Builtin.zeroCells z.cells (nc - (0 + m))) e (0, 0) _ (by simpa using hnil) (.inr (by simp; omega))
        (fun k hk _ => world_push w.drew _ k hk) (world_push_size w.drew _) rfl rfl (heap_alloc_new w.drew _) (thaw00 _) (by simpa using c1) c2
        (by simp [zeroCells_size, hnsz, hzs, ← Nat.add_mul]; rw [show m + (nc - m) = nc by omega]; exact Nat.le_refl _)
        (by
          simp only [List.nil_append]
          have e1 : ((#[] ++ news ++ Builtin.zeroCells z.cells (nc - (0 + m))).toList.take (ys.length * sz)) = news.toList := by
            rw [← hm, ← hnsz]; simp
          rw [e1]; exact hnews) (.inr (Nat.le_refl _))
      exact ⟨_, _, _, by rw [hnil]; exact hr, by simpa using this⟩
  · have hfc : ∀ w' : World, w'.heap = w.heap → (Builtin.firstCells i.size xs.length (.slice (some ⟨b, 0, none⟩) xs.length cap)).run P w' = .ok (vs.toList.take (xs.length * sz)).toArray w' := by
      intro w' hw'
      have hl := satL_length h7
      have := run_loadCells_list (P := P) w' ⟨b, 0, none⟩ (vs.toList.take (xs.length * sz)) (fun j v hv => by
        rw [add_at, cell_of_row w' _ _ vs e' fr (by rw [hw']; exact h4)]
        rw [List.getElem?_take] at hv
        split at hv
        · simpa using hv
        · simp at hv)
      rw [hl] at this
      simp only [List.length_map, hflat] at this
      simp only [Builtin.firstCells, hsz]
      exact this
    have htl : (vs.toList.take (xs.length * sz)).length = xs.length * sz := by have := satL_length h7; simp only [List.length_map, hflat] at this; exact this
    have hta : (vs.toList.take (xs.length * sz)).toArray.toList = vs.toList.take (xs.length * sz) := rfl
    by_cases hc : xs.length + m ≤ cap
    · have hr := run_append_room (P := P) (w := w) (T := T) (T2 := T2) (ty := ty) (base := some ⟨b, 0, none⟩) (n := xs.length) (cap := cap) (x := x) (news := news) (m := m) hu hi hsrcT (by rw [hsz]; exact hsrc) hc
      have hsz1 : xs.length * sz + news.size ≤ vs.size := by
        rw [hnsz, ← Nat.add_mul]; exact Nat.le_trans (Nat.mul_le_mul_right _ hc) h6
      obtain ⟨vs', k1, k2⟩ := run_storeCells_row (P := P) b e' fr vs.size h5 news.toList (xs.length * sz) 0 vs w h4 rfl (by simpa using hsz1) (fun u hu' => by
        obtain ⟨j, hj, rfl⟩ := List.getElem_of_mem hu'
        have hjl : j < ys.flatten.length := by rw [hflat2, ← hm, ← hnsz]; simpa using hj
        obtain ⟨_, hrep⟩ := dmap_sat hnews
        obtain ⟨u, hu1, hu2⟩ := hrep j _ (List.getElem?_eq_getElem hjl)
        rw [List.getElem?_eq_getElem hj] at hu1; cases hu1
        exact D.rep_one hu2)
      simp only [Nat.add_zero, Array.length_toList] at k2
      simp only at hr
      rw [show (⟨b, 0, none⟩ : Addr).add (xs.length * i.size) = ⟨b, xs.length * sz, none⟩ by rw [add_at, hsz]; simp] at hr
      simp only [k1, Result.andThen_ok] at hr
      have hvs' : vs'.size = vs.size := by
        have := congrArg List.length k2
        simp at this; omega
      have hlv : lives g (S.obj γ) γ b := by rw [hL]; exact ⟨_, _, _, h1, rfl⟩
      have := fin (some ⟨b, 0, none⟩) cap b cap vs' e' fr (w.setRow b vs') h1 (by by_cases hm0 : m = 0; exact .inl (by rw [hm0]; simp); exact .inr (by omega))
        (fun k hk hne => setRow_other w b k vs' (fun e => hne (by rw [e]; exact hlv))) (by simp) rfl rfl (setRow_heap w b vs _ e' fr h4) (by rw [hvs']; exact h5) hc h3 (by rw [hvs']; exact h6)
        (by
          have e1 : vs'.toList.take ((xs ++ ys).length * sz) = vs.toList.take (xs.length * sz) ++ news.toList := by
            rw [k2, List.length_append, ← hm, Nat.add_mul, ← hnsz]
            rw [List.take_append_of_le_length (by rw [List.length_append, htl]; simp)]
            rw [List.take_of_length_le (by rw [List.length_append, htl]; simp)]
          rw [e1, List.flatten_append]
          exact satL_dmap_append h7 hnews) (.inl hlv)
      exact ⟨_, _, _, by rw [h1]; exact hr, this⟩
    · have hr := run_append_grow (P := P) (w := w) (T := T) (T2 := T2) (ty := ty) (base := some ⟨b, 0, none⟩) (n := xs.length) (cap := cap) (x := x) (olds := (vs.toList.take (xs.length * sz)).toArray) (news := news) (m := m) hu hi hz hsrcT (by rw [hbt]; exact hb0)
        (by rw [hsz]; exact hsrc) hfc hc (hgrowcap cap (by omega))
      obtain ⟨c1, c2⟩ := cut_append (xs.length + m) cap e (w.tape w.drawn (.appendCap (xs.length + m) cap e)) hneed
      revert hr c1 c2
      generalize (Question.appendCap (xs.length + m) cap e).cut (w.tape w.drawn (.appendCap (xs.length + m) cap e)) = nc
      intro hr c1 c2
      have := fin (some ⟨b, 0, none⟩) cap w.heap.size nc ((vs.toList.take (xs.length * sz)).toArray ++ news ++ Builtin.zeroCells z.cells (nc - (xs.length + m))) e (0, 0) _ h1 (.inr (by omega))
        (fun k hk _ => world_push w.drew _ k hk) (world_push_size w.drew _) rfl rfl (heap_alloc_new w.drew _) (thaw00 _) c1 c2
        (by
          have : ((vs.toList.take (xs.length * sz)).toArray ++ news ++ Builtin.zeroCells z.cells (nc - (xs.length + m))).size = nc * sz := by
            rw [Array.size_append, Array.size_append, zeroCells_size, hnsz, hzs, List.size_toArray, htl, ← Nat.add_mul, ← Nat.add_mul]
            congr 1; omega
          omega)
        (by
          have e1 : (((vs.toList.take (xs.length * sz)).toArray ++ news ++ Builtin.zeroCells z.cells (nc - (xs.length + m))).toList.take ((xs ++ ys).length * sz)) = vs.toList.take (xs.length * sz) ++ news.toList := by
            rw [Array.toList_append, Array.toList_append, List.length_append, ← hm, Nat.add_mul, ← hnsz]
            rw [List.take_append_of_le_length (by rw [List.length_append, hta, htl]; simp)]
            rw [List.take_of_length_le (by rw [List.length_append, hta, htl]; simp), hta]
          rw [e1, List.flatten_append]
          exact satL_dmap_append h7 hnews) (.inr (Nat.le_refl _))
      exact ⟨_, _, _, by rw [h1]; exact hr, this⟩

/-! Sources. -/
theorem src_data {P : Program} {E : Env} {L : Nat → AObj} {g : Gh} {w : World} (hi : Inv E L g w) {sz : Nat} {ys : List (List D)} {x : Value} (h : (D.sl sz ys).rep g.M x) :
    ∃ news, Src P w sz x ys.length news ∧ satL g (ys.flatten.map .d) news.toList ∧ (ys = [] ∨ ∀ y ∈ ys, y.length = sz) := by
  simp only [D.rep] at h
  obtain ⟨a, cap, rfl, h2, h3, h4⟩ := h
  rcases h4 with rfl | ⟨b, o, rfl, hr⟩
  · refine ⟨#[], ⟨fun w' _ => ⟨by simp [Builtin.lenOf], ?_⟩, by simp⟩, by simp [satL], .inl rfl⟩
    cases a with
    | none => simp [Builtin.firstCells]
    | some a => simp [Builtin.firstCells, loadCells, loadCellsFrom]
  · obtain ⟨vs, k1, k2, k3⟩ := sl_cells hi.mem ys b o hr
    have hl : ∀ y ∈ ys, y.length = sz := fun y hy => by
      obtain ⟨i, hi⟩ := List.getElem?_of_mem hy
      exact (repRows_get ys b o i y hr hi).1
    refine ⟨vs.toArray, ⟨fun w' hw' => ⟨by simp [Builtin.lenOf], ?_⟩, by simp [k1]⟩, ?_, .inr hl⟩
    · have := run_loadCells_list (P := P) w' ⟨b, o, none⟩ vs (fun j v hv => by
        rw [add_at]
        have := k2 j v hv
        simp only [World.cell?] at this ⊢
        rw [hw']; exact this)
      rw [k1] at this
      simp only [Builtin.firstCells]; exact this
    · refine satL_of (by rw [List.length_map, flat_length ys hl, ← k1]) fun i z u hz hu => ?_
      simp only [List.getElem?_map, Option.map_eq_some_iff] at hz
      obtain ⟨d, hd, rfl⟩ := hz
      simp only [AVal.sat]
      exact k3 i d u hd (by simpa using hu)

/-- The bytes of a string, as data. -/
def bytesD (s : ByteArray) : List (List D) := s.data.toList.map fun b => [.v (.int .u8 b.toNat)]
theorem bytesD_length (s : ByteArray) : (bytesD s).length = s.size := by
  unfold bytesD; rw [List.length_map]; exact Array.length_toList
theorem src_string {P : Program} {g : Gh} {w : World} (s : ByteArray) : ∃ news, Src P w 1 (.string s) (bytesD s).length news ∧ satL g ((bytesD s).flatten.map .d) news.toList ∧ ∀ y ∈ bytesD s, y.length = 1 := by
  have hl := bytesD_length s
  refine ⟨s.data.map fun b => .int .u8 b.toNat, ⟨fun w' _ => ⟨by simp [Builtin.lenOf, hl], ?_⟩, by rw [hl, Array.size_map, Nat.mul_one]; rfl⟩, ?_, by simp [bytesD]⟩
  · simp only [Builtin.firstCells, hl, Sem.run_pure]
    congr 2
    have : s.extract 0 s.size = s := by simp
    rw [this]
  · have hf : (bytesD s).flatten = s.data.toList.map fun b => D.v (.int .u8 b.toNat) := by
      simp only [bytesD]
      induction s.data.toList with
      | nil => rfl
      | cons b r ih => simp [ih]
    rw [hf]
    simp only [Array.toList_map]
    induction s.data.toList with
    | nil => simp [satL]
    | cons b r ih => simp only [List.map_cons, satL]; exact ⟨sat_mk rfl, ih⟩

section
variable {P : Program} {ops : Array Oper} {draw : Bool} {K : St → Prop} {rest : List Oper} {l : Line} {S : St}
variable {d : Nat} {ty : TypeId} {pos : String} {aft : Array Edge} {gd : Option (Nat × Bool)}

theorem own_sat {g : Gh} {γ n : Nat} {v : Value} (h : (AVal.own γ n).sat g v) {sz : Nat} {xs : List (List D)} {w : World} (ho : objSat g w γ (.row sz xs)) (hn : n = xs.length) : v = g.hd γ := by
  simp only [AVal.sat] at h
  obtain ⟨_, a, m, c, h1, h2, h3⟩ := h
  have : g.hd γ = .slice a n c := by
    rcases ho.2 with ⟨e, rfl⟩ | ⟨b, cap, vs, e', fr, e, _⟩
    · rw [e] at h1; cases h1; rw [e]; simp [hn]
    · rw [e] at h1; cases h1; rw [e]; simp [hn]
  rw [this] at h1; cases h1
  rw [h3 rfl, this]

theorem run_builtin_append {ρ : Operand → Value} {x y : Operand} {T T2 : TypeId} {w w' : World} {v : Value} {o : Oper} (ho : o.op = .call ⟨.builtin .append, #[x, y], #[T, T2]⟩)
    (h : (Builtin.append_ #[T, T2] o.type #[ρ x, ρ y]).run P w = .ok v w') : (execOp ρ o).run P w = .ok (.value v) w' := by
  simp [execOp, ho, resolve, invoke, builtin, h]

theorem w_append {x y : Operand} {T T2 : TypeId} {γ n sz bytes : Nat} {xs ys : List (List D)} (hx : S.ev x = .own γ n) (hL : S.obj γ = .row sz xs) (hy : S.ev y = .d (.sl sz ys)) (hn : n = xs.length)
    (hB : elB P T = bytes) (hT : elIs P T sz bytes = true) (hT2 : srcTy P T2 = true) (hb0 : Nat.beq bytes 0 = false) (hroom : (xs.length + ys.length) * bytes ≤ 140737488355328)
    (hd : Nat.blt d S.n = true) (hg : guardOk ops S gd)
    (h : Walk P ops draw K rest ((l.length, ⟨some d, .call ⟨.builtin .append, #[x, y], #[T, T2]⟩, ty, pos, aft, gd⟩, ⟨guardReads ops gd ++ [(x, .own γ n), (y, .d (.sl sz ys))], some (d, .own γ (xs.length + ys.length)), [(γ, .row sz xs)], [(γ, .row sz (xs ++ ys))], []⟩) :: l)
      ((S.set d (.own γ (xs.length + ys.length))).own γ (.row sz (xs ++ ys)))) :
    Walk P ops draw K (⟨some d, .call ⟨.builtin .append, #[x, y], #[T, T2]⟩, ty, pos, aft, gd⟩ :: rest) l S :=
  walk_op ⟨[(x, .own γ n), (y, .d (.sl sz ys))], some (d, .own γ (xs.length + ys.length)), [(γ, .row sz xs)], [(γ, .row sz (xs ++ ys))], []⟩ (valid_new rfl fun E S g a w hs hq hl hnw => by
    have ho := hs.1.obj γ
    rw [hl.1] at ho
    have hv := own_sat hq.1 ho hn
    have hsy : (D.sl sz ys).rep g.M (a.eval y) := by have := hq.2.1; simpa only [AVal.sat] using this
    obtain ⟨news, k1, k2, k3⟩ := src_data (P := P) hs.1 hsy
    have hyl : ∀ r ∈ ys, r.length = sz := by rcases k3 with rfl | k3; simp; exact k3
    obtain ⟨v, g', w', r1, r2, r3, r4⟩ := append_core hs hl.1 (ty := ty) hT hT2 (ne_of_beq hb0) k1 rfl hyl k2 (by simpa using hroom)
    exact ⟨v, g', w', run_builtin_append rfl (by rw [hv]; exact r1), r2, r3, r4⟩) hg ⟨⟨hx, hy, trivial⟩, ⟨hL, trivial⟩, trivial, hd⟩ h

theorem w_append_str {x y : Operand} {T T2 : TypeId} {γ n bytes : Nat} {xs : List (List D)} {s : ByteArray} (hx : S.ev x = .own γ n) (hL : S.obj γ = .row 1 xs) (hy : S.ev y = as s) (hn : n = xs.length)
    (hB : elB P T = bytes) (hT : elIs P T 1 bytes = true) (hT2 : srcTy P T2 = true) (hb0 : Nat.beq bytes 0 = false) (hroom : (xs.length + s.size) * bytes ≤ 140737488355328)
    (hd : Nat.blt d S.n = true) (hg : guardOk ops S gd)
    (h : Walk P ops draw K rest ((l.length, ⟨some d, .call ⟨.builtin .append, #[x, y], #[T, T2]⟩, ty, pos, aft, gd⟩, ⟨guardReads ops gd ++ [(x, .own γ n), (y, as s)], some (d, .own γ (xs.length + (bytesD s).length)), [(γ, .row 1 xs)], [(γ, .row 1 (xs ++ bytesD s))], []⟩) :: l)
      ((S.set d (.own γ (xs.length + (bytesD s).length))).own γ (.row 1 (xs ++ bytesD s)))) :
    Walk P ops draw K (⟨some d, .call ⟨.builtin .append, #[x, y], #[T, T2]⟩, ty, pos, aft, gd⟩ :: rest) l S :=
  walk_op ⟨[(x, .own γ n), (y, as s)], some (d, .own γ (xs.length + (bytesD s).length)), [(γ, .row 1 xs)], [(γ, .row 1 (xs ++ bytesD s))], []⟩ (valid_new rfl fun E S g a w hs hq hl hnw => by
    have ho := hs.1.obj γ
    rw [hl.1] at ho
    have hv := own_sat hq.1 ho hn
    obtain ⟨news, k1, k2, k3⟩ := src_string (P := P) (g := g) (w := w) s
    have hbl := bytesD_length s
    obtain ⟨v, g', w', r1, r2, r3, r4⟩ := append_core hs hl.1 (ty := ty) hT hT2 (ne_of_beq hb0) k1 rfl k3 k2 (by rw [hbl]; simpa using hroom)
    exact ⟨v, g', w', run_builtin_append rfl (by rw [hv, sat_v hq.2.1]; exact r1), r2, r3, r4⟩) hg ⟨⟨hx, hy, trivial⟩, ⟨hL, trivial⟩, trivial, hd⟩ h

/-! Reading. -/
theorem w_len_data {x : Operand} {T : TypeId} {sz : Nat} {xs : List (List D)} (hx : S.ev x = .d (.sl sz xs)) (hT : isSl P T = true)
    (hd : Nat.blt d S.n = true) (hg : guardOk ops S gd)
    (h : Walk P ops draw K rest ((l.length, ⟨some d, .call ⟨.builtin .len, #[x], #[T]⟩, ty, pos, aft, gd⟩, ⟨guardReads ops gd ++ [(x, .d (.sl sz xs))], some (d, ai xs.length), [], [], []⟩) :: l) (S.set d (ai xs.length))) :
    Walk P ops draw K (⟨some d, .call ⟨.builtin .len, #[x], #[T]⟩, ty, pos, aft, gd⟩ :: rest) l S :=
  walk_op ⟨[(x, .d (.sl sz xs))], some (d, ai xs.length), [], [], []⟩ (valid_val rfl fun E S g a w hs hq hl => by
    obtain ⟨e, h1⟩ := isSl_spec hT
    have := hq.1
    simp only [AVal.sat, D.rep] at this
    obtain ⟨b, cap, hv, _⟩ := this
    refine ⟨.int .i64 xs.length, ?_, sat_mk rfl⟩
    simp [execOp, resolve, invoke, builtin, hv, Builtin.len_, run_underlying h1, goInt]) hg ⟨⟨hx, trivial⟩, trivial, trivial, hd⟩ h
theorem w_len_own {x : Operand} {T : TypeId} {sz γ n : Nat} {xs : List (List D)} (hx : S.ev x = .own γ n) (hL : S.obj γ = .row sz xs) (hn : n = xs.length) (hT : isSl P T = true)
    (hd : Nat.blt d S.n = true) (hg : guardOk ops S gd)
    (h : Walk P ops draw K rest ((l.length, ⟨some d, .call ⟨.builtin .len, #[x], #[T]⟩, ty, pos, aft, gd⟩, ⟨guardReads ops gd ++ [(x, .own γ n)], some (d, ai xs.length), [(γ, .row sz xs)], [], []⟩) :: l) (S.set d (ai xs.length))) :
    Walk P ops draw K (⟨some d, .call ⟨.builtin .len, #[x], #[T]⟩, ty, pos, aft, gd⟩ :: rest) l S :=
  walk_op ⟨[(x, .own γ n)], some (d, ai xs.length), [(γ, .row sz xs)], [], []⟩ (valid_val rfl fun E S g a w hs hq hl => by
    obtain ⟨e, h1⟩ := isSl_spec hT
    have ho := hs.1.obj γ
    rw [hl.1] at ho
    have hv := own_sat hq.1 ho hn
    have hv' : ∃ b c, a.eval x = .slice b xs.length c := by
      rw [hv]
      rcases ho.2 with ⟨e, rfl⟩ | ⟨b, cap, vs, e', fr, e, _⟩
      · exact ⟨_, _, e⟩
      · exact ⟨_, _, e⟩
    obtain ⟨b, c, hv'⟩ := hv'
    refine ⟨.int .i64 xs.length, ?_, sat_mk rfl⟩
    simp [execOp, resolve, invoke, builtin, hv', Builtin.len_, run_underlying h1, goInt]) hg ⟨⟨hx, trivial⟩, ⟨hL, trivial⟩, trivial, hd⟩ h
def isStr (P : Program) (t : TypeId) : Bool := match P.underlying t with | some .string => true | _ => false
theorem isStr_spec {t : TypeId} (h : isStr P t = true) : P.underlying t = some .string := by
  unfold isStr at h
  cases hu : P.underlying t with
  | none => simp [hu] at h
  | some u => rw [hu] at h; cases u <;> simp_all
theorem w_len_str {x : Operand} {T : TypeId} {s : ByteArray} (hx : S.ev x = as s) (hT : isStr P T = true)
    (hd : Nat.blt d S.n = true) (hg : guardOk ops S gd)
    (h : Walk P ops draw K rest ((l.length, ⟨some d, .call ⟨.builtin .len, #[x], #[T]⟩, ty, pos, aft, gd⟩, ⟨guardReads ops gd ++ [(x, as s)], some (d, ai s.size), [], [], []⟩) :: l) (S.set d (ai s.size))) :
    Walk P ops draw K (⟨some d, .call ⟨.builtin .len, #[x], #[T]⟩, ty, pos, aft, gd⟩ :: rest) l S :=
  walk_op ⟨[(x, as s)], some (d, ai s.size), [], [], []⟩ (valid_val rfl fun E S g a w hs hq hl => by
    refine ⟨.int .i64 s.size, ?_, sat_mk rfl⟩
    simp [execOp, resolve, invoke, builtin, sat_v hq.1, Builtin.len_, run_underlying (isStr_spec hT), goInt]) hg ⟨⟨hx, trivial⟩, trivial, trivial, hd⟩ h

theorem w_index_data {x i : Operand} {T : TypeId} {sz k : Nat} {kd : IntKind} {n : Int} {xs : List (List D)} {r : List D} (hx : S.ev x = .d (.sl sz xs)) (hi : S.ev i = .d (.v (.int kd n))) (hk : n = (k : Nat)) (hr : xs[k]? = some r)
    (hT : slIs P T sz = true) (hd : Nat.blt d S.n = true) (hg : guardOk ops S gd)
    (h : Walk P ops draw K rest ((l.length, ⟨some d, .indexAddr T x i, ty, pos, aft, gd⟩, ⟨guardReads ops gd ++ [(x, .d (.sl sz xs)), (i, .d (.v (.int kd n)))], some (d, .dptr r), [], [], []⟩) :: l) (S.set d (.dptr r))) :
    Walk P ops draw K (⟨some d, .indexAddr T x i, ty, pos, aft, gd⟩ :: rest) l S :=
  walk_op ⟨[(x, .d (.sl sz xs)), (i, .d (.v (.int kd n)))], some (d, .dptr r), [], [], []⟩ (valid_val rfl fun E S g a w hs hq hl => by
    obtain ⟨e, h1, h2, h3⟩ := slIs_spec hT
    have hlt : k < xs.length := (List.getElem?_eq_some_iff.1 hr).1
    have hx' := hq.1
    simp only [AVal.sat, D.rep] at hx'
    obtain ⟨b, cap, hv, _, _, hrows⟩ := hx'
    rcases hrows with rfl | ⟨b', o, rfl, hrows⟩
    · simp at hlt
    · obtain ⟨q1, q2⟩ := repRows_get xs b' o k r hrows hr
      refine ⟨.pointer (some ⟨b', o + k * sz, none⟩), ?_, by simp only [AVal.sat]; exact ⟨b', _, rfl, q2⟩⟩
      have hb : (0 : Int) ≤ n ∧ n < (xs.length : Int) := by omega
      have hn : n.toNat = k := by omega
      have := run_indexAt_slice (P := P) w T ⟨b', o, none⟩ xs.length cap kd n (by rw [h3]; exact h1)
      rw [if_pos hb, h3, h2 w, Result.andThen_ok, add_at, hn] at this
      simp only [execOp, hv, sat_v hq.2.1, Sem.run_bind, this]; rfl) hg ⟨⟨hx, hi, trivial⟩, trivial, trivial, hd⟩ h
end
end Go.Fw
namespace Go.Fw
open Go
set_option linter.unusedVariables false
set_option linter.unusedSimpArgs false

def envOf (g : Gh) (w : World) (Li : List (Nat × AObj)) : Env :=
  { W := w, M := g.M, A := fun b => ∃ γ, lives g (look .dead Li γ) γ b, g0 := g }

/-- Called with such arguments, owning 'Li', the function returns 'res' and leaves 'Lo'. -/
def Con (P : Program) (f : FuncId) (Li : List (Nat × AObj)) (args : List AVal) (Lo : List (Nat × AObj)) (res : AVal) : Prop :=
  ∀ (g : Gh) (w : World) (vs : List Value), Inv (envOf g w Li) (look .dead Li) g w → satL g args vs →
    Calls P f vs.toArray w fun e w' => ∃ v g', e = .returned v ∧ res.sat g' v ∧ Inv { envOf g w Li with g0 := g' } (look .dead Lo) g' w' ∧ ∀ γ, hasKey γ Li = true → g.keeps g' γ

theorem Inv.free {E : Env} {L : Nat → AObj} {g g0 : Gh} {w : World} (hi : Inv E L g w) (h : ∀ γ, γ < 100 → g0.keeps g γ) : Inv { E with g0 := g0 } L g w :=
  ⟨hi.obj, hi.inj, hi.mem, hi.sep, hi.new, hi.ext, hi.lim, hi.frame, hi.size, hi.os, hi.out, h⟩
theorem Inv.sub {E : Env} {L L' : Nat → AObj} {g : Gh} {w : World} (hi : Inv E L g w) (h : ∀ γ, L' γ = L γ ∨ L' γ = .dead) : Inv E L' g w := by
  have hl : ∀ γ b, lives g (L' γ) γ b → lives g (L γ) γ b := by
    intro γ b hb
    rcases h γ with e | e
    · rw [← e]; exact hb
    · rw [e] at hb; exact hb.elim
  refine ⟨fun γ => ?_, fun γ γ' b k k' => hi.inj γ γ' b (hl _ _ k) (hl _ _ k'), hi.mem, fun γ b k => hi.sep γ b (hl _ _ k), fun γ b k => hi.new γ b (hl _ _ k), hi.ext, hi.lim, hi.frame, hi.size, hi.os, hi.out, hi.kp⟩
  rcases h γ with e | e
  · rw [e]; exact hi.obj γ
  · rw [e]; trivial

/-! The body's start and end. -/
def startT : Nat → List AVal → List (Nat × AVal)
  | _, [] => []
  | i, x :: r => (i, x) :: startT (i + 1) r
theorem look_startT : ∀ (l : List AVal) (i t : Nat), look .any (startT i l) t = if i ≤ t then (l[t - i]?).getD .any else .any
  | [], i, t => by simp [startT, look]
  | x :: r, i, t => by
    simp only [startT, look]
    by_cases h : i = t
    · subst h; simp
    · have hb : Nat.beq i t = false := by
        cases hb : Nat.beq i t with
        | false => rfl
        | true => exact absurd (Nat.eq_of_beq_eq_true hb) h
      rw [hb, cond_false, look_startT r (i + 1) t]
      by_cases h1 : i ≤ t
      · rw [if_pos (by omega), if_pos h1, show t - i = (t - (i + 1)) + 1 by omega, List.getElem?_cons_succ]
      · rw [if_neg (by omega), if_neg h1]

def startSt (n : Nat) (args : List AVal) (Li : List (Nat × AObj)) : St := ⟨n, startT 0 args, Li⟩

/-- One result. -/
def resAt (P : Program) (S : St) (rv : ResultVar) (x : AVal) : Prop :=
  match rv with
  | .tmp t => S.get t = x
  | .cell t ty => ∃ γ o cs, S.get t = .ptr γ o ∧ S.obj γ = .box cs ∧
      ((tyIs P ty false 1 = true ∧ cs[o]? = some x) ∨ ∃ sz ys, tyIs P ty true sz = true ∧ (cs.drop o).take sz = ys ∧ Nat.beq ys.length sz = true ∧ x = .agg ys)
def resL (P : Program) (S : St) : List ResultVar → List AVal → Prop
  | [], [] => True
  | r :: rs, x :: xs => resAt P S r x ∧ resL P S rs xs
  | _, _ => False
def resOf : List AVal → AVal
  | [x] => x
  | xs => .tup xs

def readRes (tmps : Array Value) : ResultVar → Sem Value
  | .tmp t => pure (tmps.getD t undef)
  | .cell t ty => do loadVar ty (← asAddr (tmps.getD t undef))
theorem results_eq (fn : Func) (tmps : Array Value) : results fn tmps = (do
    let vs ← fn.results.mapM (readRes tmps)
    pure (if h : vs.size = 1 then vs[0] else .tuple vs)) := rfl

theorem resAt_run {P : Program} {E : Env} {S : St} {g : Gh} {a : Act} {w : World} (hs : holdsG E S g a w) {rv : ResultVar} {x : AVal} (h : resAt P S rv x) :
    ∃ v, (readRes a.tmps rv).run P w = .ok v w ∧ x.sat g v := by
  cases rv with
  | tmp t => exact ⟨_, rfl, by have := hs.2.2.2 t; rw [h] at this; exact this⟩
  | cell t ty =>
    obtain ⟨γ, o, cs, h1, h2, h3⟩ := h
    have hp := hs.2.2.2 t
    rw [h1] at hp
    simp only [AVal.sat] at hp
    have ho := hs.1.obj γ
    rw [h2] at ho
    obtain ⟨vs, e, fr, k1, k2, k3, k4⟩ := ho
    rcases h3 with ⟨ht, hy⟩ | ⟨sz, ys, ht, hy, hlen, rfl⟩
    · obtain ⟨u, hu, hsu⟩ := satL_get k3 o x hy
      have hc : w.cell? ⟨g.blk γ, o, none⟩ = some u := by rw [cell_of_row w _ o vs e fr k1]; simpa using hu
      exact ⟨u, by simp only [readRes, hp, asAddr, Sem.run_bind, Sem.run_pure, Result.andThen_ok, run_loadVar_one ht hc], hsu⟩
    · have hsub := satL_take (satL_drop k3 o) sz
      rw [hy] at hsub
      have hl1 := satL_length hsub
      have hl2 : ys.length = sz := Nat.eq_of_beq_eq_true hlen
      have := run_loadVar_agg (P := P) (p := ⟨g.blk γ, o, none⟩) (w := w) (vs := (vs.toList.drop o).take sz) (t := ty) (by rw [hl1, hl2]; exact ht) (fun j v hv => by
        rw [add_at, cell_of_row w _ _ vs e fr k1]
        rw [List.getElem?_take] at hv
        split at hv
        · rw [List.getElem?_drop] at hv; simpa using hv
        · simp at hv)
      exact ⟨.agg ((vs.toList.drop o).take sz).toArray, by simp only [readRes, hp, asAddr, Sem.run_bind, Sem.run_pure, Result.andThen_ok, this], by simp only [AVal.sat]; exact ⟨_, rfl, hsub⟩⟩

theorem resL_run {P : Program} {E : Env} {S : St} {g : Gh} {a : Act} {w : World} (hs : holdsG E S g a w) : ∀ (rs : List ResultVar) (xs : List AVal), resL P S rs xs →
    ∃ vs : List Value, (rs.mapM (readRes a.tmps) : Sem (List Value)).run P w = .ok vs w ∧ satL g xs vs
  | [], [], _ => ⟨[], by simp, by simp only [satL]⟩
  | [], _ :: _, h => h.elim
  | _ :: _, [], h => h.elim
  | r :: rs, x :: xs, h => by
    obtain ⟨v, k1, k2⟩ := resAt_run hs h.1
    obtain ⟨vs, k3, k4⟩ := resL_run hs rs xs h.2
    refine ⟨v :: vs, ?_, by simp only [satL]; exact ⟨k2, k4⟩⟩
    rw [List.mapM_cons]
    simp only [Sem.run_bind, k1, k3, Result.andThen_ok, Sem.run_pure]

theorem results_run {P : Program} {E : Env} {S : St} {g : Gh} {a : Act} {w : World} (hs : holdsG E S g a w) {fn : Func} {rs : List ResultVar} {xs : List AVal} (hr : fn.results.toList = rs) (h : resL P S rs xs) :
    ∃ v, (results fn a.tmps).run P w = .ok v w ∧ (resOf xs).sat g v := by
  obtain ⟨vs, k1, k2⟩ := resL_run hs rs xs h
  have e : (fn.results.mapM (readRes a.tmps) : Sem (Array Value)).run P w = .ok vs.toArray w := by
    rw [Array.mapM_eq_mapM_toList, hr, Sem.run_map, k1]; rfl
  have hl := satL_length k2
  rw [results_eq, Sem.run_bind, e]
  simp only [Result.andThen_ok, Sem.run_pure]
  refine ⟨_, rfl, ?_⟩
  cases vs with
  | nil =>
    cases xs with
    | nil => simp only [resOf]; rw [dif_neg (by simp)]; simp only [AVal.sat]; exact ⟨_, rfl, k2⟩
    | cons => simp at hl
  | cons v vs =>
    cases vs with
    | nil =>
      match xs, hl, k2 with
      | [x], _, k2 =>
        simp only [resOf]; rw [dif_pos (by simp)]
        simp only [satL] at k2; exact k2.1
    | cons v' vs =>
      match xs, hl, k2 with
      | x :: y :: xs, _, k2 =>
        simp only [resOf]; rw [dif_neg (by simp)]; simp only [AVal.sat]; exact ⟨_, rfl, k2⟩

def subL (Lo : List (Nat × AObj)) (T : St) : Prop := ∀ γ, look .dead Lo γ = T.obj γ ∨ look .dead Lo γ = .dead
theorem subL_nil (T : St) : subL [] T := fun γ => .inr rfl
theorem subL_of {Lo : List (Nat × AObj)} {T : St} (h : lrdOk T Lo) : subL Lo T := by
  intro γ
  rcases look_mem AObj.dead Lo γ with e | ⟨p, hp, e⟩
  · exact .inr e
  · by_cases hk : hasKey γ Lo = true
    · clear hp e p
      induction Lo with
      | nil => simp [hasKey] at hk
      | cons q r ih =>
        obtain ⟨k, x⟩ := q
        by_cases hkγ : k = γ
        · subst hkγ; rw [look_same]; exact .inl h.1.symm
        · rw [look_ne _ _ _ hkγ]
          simp only [hasKey, Bool.or_eq_true] at hk
          exact ih h.2 (hk.resolve_left fun e => hkγ (Nat.eq_of_beq_eq_true e))
    · right
      have : ∀ (l : List (Nat × AObj)), ¬ hasKey γ l = true → look .dead l γ = .dead := by
        intro l hl
        induction l with
        | nil => rfl
        | cons q r ih =>
          obtain ⟨k, x⟩ := q
          simp only [hasKey, Bool.or_eq_true, not_or] at hl
          rw [look_ne _ _ _ (fun e => hl.1 (by simp [e]))]
          exact ih hl.2
      exact this Lo hk

/-- What a function's end must show. -/
def Ends (P : Program) (rs : List ResultVar) (Lo : List (Nat × AObj)) (xs : List AVal) (T : St) : Prop :=
  ∃ U, T.le U ∧ resL P U rs xs ∧ subL Lo U

def keysLow : List (Nat × AObj) → Bool
  | [] => true
  | p :: r => Nat.blt p.1 100 && keysLow r
theorem keysLow_spec : ∀ (l : List (Nat × AObj)) (γ : Nat), keysLow l = true → hasKey γ l = true → γ < 100
  | [], _, _, h => by simp [hasKey] at h
  | p :: r, γ, h, hk => by
    simp only [keysLow, Bool.and_eq_true] at h
    simp only [hasKey, Bool.or_eq_true] at hk
    rcases hk with e | e
    · rw [← Nat.eq_of_beq_eq_true e]; simpa using h.1
    · exact keysLow_spec r γ h.2 e

theorem con_of {P : Program} {f : FuncId} {fn : Func} {c : Code} {n : Nat} {rs : List ResultVar} {Li Lo : List (Nat × AObj)} {args xs : List AVal} (hf : P.funcs[f]? = some fn) (hb : fn.body = some c) (hn : fn.ntmps = n) (hr : fn.results.toList = rs)
    (hle : Nat.ble args.length n = true) (hlow : keysLow Li = true)
    (h : ∀ E, AWP P E c (startSt n args Li) (retQ (Ends P rs Lo xs))) : Con P f Li args Lo (resOf xs) := by
  intro g w vs hi hs
  have hl := satL_length hs
  refine calls_of_wp hf hb ?_
  have hstart : holds (envOf g w Li) (startSt n args Li) { tmps := vs.toArray ++ Array.replicate (fn.ntmps - vs.toArray.size) undef, defers := [] } w := by
    refine ⟨g, hi, rfl, ?_, fun t => ?_⟩
    · have : args.length ≤ n := by simpa using hle
      simp [startSt, hn, hl]; omega
    · show AVal.sat g (look _ _ _) _
      simp only [startSt]
      rw [look_startT]
      simp only [Nat.zero_le, if_true, Nat.sub_zero]
      cases hx : args[t]? with
      | none => simp [AVal.sat]
      | some x =>
        obtain ⟨u, hu, hsu⟩ := satL_get hs t x hx
        have hlt : t < vs.length := (List.getElem?_eq_some_iff.1 hu).1
        have : (vs.toArray ++ Array.replicate (fn.ntmps - vs.toArray.size) undef).getD t undef = u := by
          rw [Array.getD_eq_getD_getElem?, Array.getElem?_append_left (by simpa using hlt)]
          simp [hu]
        rw [this]; exact hsu
  refine wp_mono ((h (envOf g w Li)).run _ w hstart) ?_
  rintro e a' w' ⟨T, hq, ht⟩
  have fin : Ends P rs Lo xs T → a'.defers = [] ∧ ∃ v, (results fn a'.tmps).run P w' = .ok v w' ∧ ∃ v' g', Ending.returned v = .returned v' ∧ (resOf xs).sat g' v' ∧ Inv { envOf g w Li with g0 := g' } (look .dead Lo) g' w' ∧ ∀ γ, hasKey γ Li = true → g.keeps g' γ := by
    rintro ⟨U, hU, hres, hsub⟩
    obtain ⟨g', hg'⟩ := hU _ _ _ ht
    obtain ⟨v, r1, r2⟩ := results_run hg' hr hres
    exact ⟨hg'.2.1, v, r1, v, g', rfl, r2, (hg'.1.sub hsub).free (fun γ _ => Gh.keeps_refl _ _), fun γ hγ => hg'.1.kp γ (keysLow_spec Li γ hlow hγ)⟩
  cases e with
  | normal => exact fin hq
  | ret => exact fin hq
  | _ => exact hq.elim

/-! Calls. -/
mutual
def AVal.within (Lo : List (Nat × AObj)) : AVal → Bool
  | .ptr k _ => hasKey k Lo
  | .own k _ => hasKey k Lo
  | .rptr k _ _ => hasKey k Lo
  | .inn k _ => hasKey k Lo
  | .bsl k _ => hasKey k Lo
  | .mptr k _ _ => hasKey k Lo
  | .cut k _ _ _ => hasKey k Lo
  | .agg cs => withinL Lo cs
  | .tup cs => withinL Lo cs
  | .fn _ cs => withinL Lo cs
  | .any => true
  | .d _ => true
  | .dptr _ => true
  | .bq _ _ => true
def withinL (Lo : List (Nat × AObj)) : List AVal → Bool
  | [] => true
  | x :: r => x.within Lo && withinL Lo r
end
mutual
theorem AVal.within_spec {Lo : List (Nat × AObj)} {γ : Nat} : ∀ (x : AVal), x.within Lo = true → x.ment γ = true → hasKey γ Lo = true
  | .ptr k o, h, hm => by simp only [AVal.ment] at hm; rw [← Nat.eq_of_beq_eq_true hm]; exact h
  | .own k o, h, hm => by simp only [AVal.ment] at hm; rw [← Nat.eq_of_beq_eq_true hm]; exact h
  | .rptr k _ o, h, hm => by simp only [AVal.ment] at hm; rw [← Nat.eq_of_beq_eq_true hm]; exact h
  | .bsl k _, h, hm => by simp only [AVal.ment] at hm; rw [← Nat.eq_of_beq_eq_true hm]; exact h
  | .inn k _, h, hm => by simp only [AVal.ment] at hm; rw [← Nat.eq_of_beq_eq_true hm]; exact h
  | .mptr k _ _, h, hm => by simp only [AVal.ment] at hm; rw [← Nat.eq_of_beq_eq_true hm]; exact h
  | .cut k _ _ _, h, hm => by simp only [AVal.ment] at hm; rw [← Nat.eq_of_beq_eq_true hm]; exact h
  | .agg cs, h, hm => withinL_spec cs (by simpa only [AVal.within] using h) (by simpa only [AVal.ment] using hm)
  | .tup cs, h, hm => withinL_spec cs (by simpa only [AVal.within] using h) (by simpa only [AVal.ment] using hm)
  | .fn _ cs, h, hm => withinL_spec cs (by simpa only [AVal.within] using h) (by simpa only [AVal.ment] using hm)
  | .any, _, hm => by simp [AVal.ment] at hm
  | .d _, _, hm => by simp [AVal.ment] at hm
  | .dptr _, _, hm => by simp [AVal.ment] at hm
  | .bq _ _, _, hm => by simp [AVal.ment] at hm
theorem withinL_spec {Lo : List (Nat × AObj)} {γ : Nat} : ∀ (xs : List AVal), withinL Lo xs = true → mentL γ xs = true → hasKey γ Lo = true
  | [], _, hm => by simp [mentL] at hm
  | x :: r, h, hm => by
    simp only [withinL, Bool.and_eq_true] at h
    simp only [mentL, Bool.or_eq_true] at hm
    exact hm.elim (AVal.within_spec x h.1) (withinL_spec r h.2)
end
def boxesIn (Lo : List (Nat × AObj)) : List (Nat × AObj) → Bool
  | [] => true
  | (_, .box cs) :: r => withinL Lo cs && boxesIn Lo r
  | _ :: r => boxesIn Lo r
theorem boxesIn_spec {Lo : List (Nat × AObj)} : ∀ (l : List (Nat × AObj)), boxesIn Lo l = true → ∀ (k : Nat) (cs : List AVal), (k, AObj.box cs) ∈ l → withinL Lo cs = true
  | [], _, _, _, h => by simp at h
  | (j, x) :: r, h, k, cs, hm => by
    have hr : boxesIn Lo r = true := by cases x <;> simp only [boxesIn, Bool.and_eq_true] at h <;> first | exact h.2 | exact h
    rcases List.mem_cons.1 hm with e | hm
    · cases e; simp only [boxesIn, Bool.and_eq_true] at h; exact h.1
    · exact boxesIn_spec r hr k cs hm

def keysIn (Li Lo : List (Nat × AObj)) : Bool :=
  match Li with
  | [] => true
  | p :: r => hasKey p.1 Lo && keysIn r Lo
theorem keysIn_spec {Lo : List (Nat × AObj)} {γ : Nat} : ∀ (Li : List (Nat × AObj)), keysIn Li Lo = true → hasKey γ Li = true → hasKey γ Lo = true
  | [], _, h => by simp [hasKey] at h
  | p :: r, h, hk => by
    simp only [keysIn, Bool.and_eq_true] at h
    simp only [hasKey, Bool.or_eq_true] at hk
    rcases hk with e | e
    · rw [← Nat.eq_of_beq_eq_true e]; exact h.1
    · exact keysIn_spec r h.2 e
/-- The keys that the call adds. -/
def newKeys (Li : List (Nat × AObj)) : List (Nat × AObj) → List Nat
  | [] => []
  | p :: r => bif hasKey p.1 Li then newKeys Li r else p.1 :: newKeys Li r
theorem newKeys_spec {Li : List (Nat × AObj)} {γ : Nat} : ∀ (Lo : List (Nat × AObj)), hasKey γ Lo = true → hasKey γ Li = false → γ ∈ newKeys Li Lo
  | [], h, _ => by simp [hasKey] at h
  | p :: r, h, hk => by
    simp only [hasKey, Bool.or_eq_true] at h
    simp only [newKeys]
    rcases h with e | e
    · have := Nat.eq_of_beq_eq_true e
      subst this
      simp [hk]
    · cases hasKey p.1 Li with
      | true => exact newKeys_spec r e hk
      | false => exact List.mem_cons_of_mem _ (newKeys_spec r e hk)
def deadL : List Nat → List (Nat × AObj)
  | [] => []
  | k :: r => (k, .dead) :: deadL r
theorem deadL_mem {γ : Nat} : ∀ (l : List Nat), γ ∈ l → (γ, AObj.dead) ∈ deadL l
  | [], h => by simp at h
  | k :: r, h => by
    simp only [deadL, List.mem_cons] at h ⊢
    rcases h with rfl | h
    · exact .inl rfl
    · exact .inr (deadL_mem r h)

theorem look_of_not {α : Type} (z : α) (γ : Nat) : ∀ (l : List (Nat × α)), hasKey γ l = false → look z l γ = z
  | [], _ => rfl
  | (k, x) :: r, h => by
    simp only [hasKey, Bool.or_eq_false_iff] at h
    simp only [look, h.1, cond_false]
    exact look_of_not z γ r h.2
theorem look_mem' {α : Type} (z : α) (γ : Nat) : ∀ (l : List (Nat × α)), hasKey γ l = true → (γ, look z l γ) ∈ l
  | [], h => by simp [hasKey] at h
  | (k, x) :: r, h => by
    by_cases hk : k = γ
    · subst hk; rw [look_same]; simp
    · rw [look_ne z x r hk]
      simp only [hasKey, Bool.or_eq_true] at h
      exact List.mem_cons_of_mem _ (look_mem' z γ r (h.resolve_left fun e => hk (Nat.eq_of_beq_eq_true e)))

/-- The two ghosts joined behind a call. -/
def Gh.join (g g' : Gh) (Lo : List (Nat × AObj)) : Gh :=
  { blk := fun k => if hasKey k Lo then g'.blk k else g.blk k, hd := fun k => if hasKey k Lo then g'.hd k else g.hd k, ihd := fun k => if hasKey k Lo then g'.ihd k else g.ihd k, M := g'.M }

theorem inv_call {E : Env} {S : St} {g g' : Gh} {w w' : World} (hi : Inv E S.obj g w) {Li Lo : List (Nat × AObj)} (hLi : lrdOk S Li) (hin : keysIn Li Lo = true) (hbox : boxesIn Lo Lo = true)
    (hnew : newOk S (newKeys Li Lo)) (hdead : lrdOk S (deadL (newKeys Li Lo))) (hc : Inv { envOf g w Li with g0 := g' } (look .dead Lo) g' w') (hk : ∀ γ, hasKey γ Li = true → g.keeps g' γ) :
    Inv E (look .dead (Lo ++ S.L)) (g.join g' Lo) w' ∧ (∀ x u, x.within Lo = true → AVal.sat g' x u → AVal.sat (g.join g' Lo) x u) ∧ (∀ t u, AVal.sat g (S.get t) u → AVal.sat (g.join g' Lo) (S.get t) u) := by
  rw [newOk_iff] at hnew
  rw [lrdOk_iff] at hdead
  have hsubLi : subL Li S := subL_of hLi
  have hM : MemLe g.M g'.M := hc.ext
  have hA : ∀ b, (envOf g w Li).A b → ∃ γ, hasKey γ Li = true ∧ lives g (S.obj γ) γ b := by
    rintro b ⟨γ, hγ⟩
    cases hkey : hasKey γ Li with
    | false => rw [look_of_not _ _ _ hkey] at hγ; exact hγ.elim
    | true =>
      rcases hsubLi γ with e | e
      · rw [e] at hγ; exact ⟨γ, hkey, hγ⟩
      · rw [e] at hγ; exact hγ.elim
  have hlook : ∀ k, look .dead (Lo ++ S.L) k = if hasKey k Lo then look .dead Lo k else S.obj k := fun k => look_append _ _ _ _
  have hjk : ∀ k, hasKey k Lo = true → g'.keeps (g.join g' Lo) k := fun k h => Gh.keeps_of (by simp [Gh.join, h]) (by simp [Gh.join, h]) (by simp [Gh.join, h])
  have hgk : ∀ k, (hasKey k Lo = true → hasKey k Li = true) → g.keeps (g.join g' Lo) k := by
    intro k h
    cases hkl : hasKey k Lo with
    | true => exact (hk k (h hkl)).trans' (hjk k hkl)
    | false => exact Gh.keeps_of (by simp [Gh.join, hkl]) (by simp [Gh.join, hkl]) (by simp [Gh.join, hkl])
  have hsatR : ∀ x u, x.within Lo = true → AVal.sat g' x u → AVal.sat (g.join g' Lo) x u :=
    fun x u hx h => AVal.sat_mono (g := g') (g' := g.join g' Lo) (MemLe.refl _) x u (fun γ hm => hjk γ (AVal.within_spec x hx hm)) h
  have hment : ∀ k x, (∀ γ ∈ newKeys Li Lo, AVal.ment γ x = false) → AVal.ment k x = true → g.keeps (g.join g' Lo) k := by
    intro k x hx hm
    refine hgk k fun hkl => ?_
    cases hli : hasKey k Li with
    | true => rfl
    | false => rw [hx k (newKeys_spec Lo hkl hli)] at hm; simp at hm
  have hmentL : ∀ k xs, (∀ γ ∈ newKeys Li Lo, mentL γ xs = false) → mentL k xs = true → g.keeps (g.join g' Lo) k := by
    intro k x hx hm
    refine hgk k fun hkl => ?_
    cases hli : hasKey k Li with
    | true => rfl
    | false => rw [hx k (newKeys_spec Lo hkl hli)] at hm; simp at hm
  have hlv1 : ∀ k b, hasKey k Lo = true → (lives (g.join g' Lo) (look .dead (Lo ++ S.L) k) k b ↔ lives g' (look .dead Lo k) k b) := by
    intro k b h
    rw [hlook, if_pos h]
    exact lives_move (by simp [Gh.join, h]) (by simp [Gh.join, h]) (by simp [Gh.join, h]) _ _
  have hlv2 : ∀ k b, hasKey k Lo = false → (lives (g.join g' Lo) (look .dead (Lo ++ S.L) k) k b ↔ lives g (S.obj k) k b) := by
    intro k b h
    rw [hlook, if_neg (by simp [h])]
    exact lives_move (by simp [Gh.join, h]) (by simp [Gh.join, h]) (by simp [Gh.join, h]) _ _
  have hnotA : ∀ k b, hasKey k Lo = false → lives g (S.obj k) k b → ¬ (envOf g w Li).A b := by
    intro k b hkl hb hAb
    obtain ⟨γ, h1, h2⟩ := hA b hAb
    have := hi.inj _ _ _ hb h2
    subst this
    rw [keysIn_spec Li hin h1] at hkl; simp at hkl
  have hheap : ∀ k b, hasKey k Lo = false → lives g (S.obj k) k b → w'.heap[b]? = w.heap[b]? := fun k b hkl hb =>
    hc.frame b (live_lt hi hb) (hnotA k b hkl hb)
  refine ⟨⟨fun k => ?_, fun k k' b h h' => ?_, hc.mem, fun k b h a v ha => ?_, fun k b h => ?_, hi.ext.trans hM, fun a v ha => ?_, fun b hb hAb => ?_, Nat.le_trans hi.size hc.size, hc.os.trans hi.os, hc.out.trans hi.out, fun k hk100 => ?_⟩, hsatR, fun t u h => ?_⟩
  · cases hkl : hasKey k Lo with
    | true =>
      rw [hlook, if_pos hkl]
      have hmem := look_mem' AObj.dead k Lo hkl
      refine objSat_move (g := g') (g' := g.join g' Lo) (MemLe.refl _) (by simp [Gh.join, hkl]) (by simp [Gh.join, hkl]) (by simp [Gh.join, hkl]) (fun _ _ => rfl) (fun cs us e h => ?_) (hc.obj k)
      rw [e] at hmem
      exact satL_mono (g := g') (g' := g.join g' Lo) (MemLe.refl _) _ _ (fun γ hm => hjk γ (withinL_spec cs (boxesIn_spec Lo hbox k cs hmem) hm)) h
    | false =>
      rw [hlook, if_neg (by simp [hkl])]
      refine objSat_move (g := g) (g' := g.join g' Lo) hM (by simp [Gh.join, hkl]) (by simp [Gh.join, hkl]) (by simp [Gh.join, hkl]) (fun b hb => hheap k b hkl hb) (fun cs us e h => ?_) (hi.obj k)
      refine satL_mono (g := g) (g' := g.join g' Lo) hM _ _ (fun γ hm => hmentL γ cs (fun γ' hγ' => ?_) hm) h
      have := obj_free (hnew γ' hγ') k
      rw [e] at this; exact this
  · cases hkl : hasKey k Lo with
    | true =>
      rw [hlv1 k _ hkl] at h
      cases hkl' : hasKey k' Lo with
      | true => rw [hlv1 k' _ hkl'] at h'; exact hc.inj _ _ _ h h'
      | false =>
        rw [hlv2 k' _ hkl'] at h'
        exfalso
        rcases hc.new k b h with h1 | h1
        · have h1 : w.heap.size ≤ b := h1
          have := live_lt hi h'; omega
        · exact hnotA k' b hkl' h' h1
    | false =>
      rw [hlv2 k _ hkl] at h
      cases hkl' : hasKey k' Lo with
      | false => rw [hlv2 k' _ hkl'] at h'; exact hi.inj _ _ _ h h'
      | true =>
        rw [hlv1 k' _ hkl'] at h'
        exfalso
        rcases hc.new k' b h' with h1 | h1
        · have h1 : w.heap.size ≤ b := h1
          have := live_lt hi h; omega
        · exact hnotA k b hkl h h1
  · cases hkl : hasKey k Lo with
    | true => rw [hlv1 k _ hkl] at h; exact hc.sep k b h a v ha
    | false =>
      rw [hlv2 k _ hkl] at h
      intro e
      rcases hc.lim a v ha with ⟨v', h1⟩ | h1 | h1
      · exact hi.sep k b h a v' h1 e
      · have h1 : w.heap.size ≤ a.block := h1
        have := live_lt hi h; omega
      · rw [e] at h1; exact hnotA k b hkl h h1
  · cases hkl : hasKey k Lo with
    | true =>
      rw [hlv1 k _ hkl] at h
      rcases hc.new k b h with h1 | h1
      · have h1 : w.heap.size ≤ b := h1
        have := hi.size; exact .inl (by omega)
      · obtain ⟨γ, _, h2⟩ := hA b h1
        exact hi.new γ b h2
    | false => rw [hlv2 k _ hkl] at h; exact hi.new k b h
  · rcases hc.lim a v ha with ⟨v', h1⟩ | h1 | h1
    · exact hi.lim a v' h1
    · have h1 : w.heap.size ≤ a.block := h1
      have := hi.size; exact .inr (.inl (by omega))
    · obtain ⟨γ, _, h2⟩ := hA _ h1
      exact .inr (hi.new γ _ h2)
  · have hs := hi.size
    rw [hc.frame b (by show b < w.heap.size; omega) (fun hAb' => by
      obtain ⟨γ, _, h2⟩ := hA b hAb'
      exact (hi.new γ b h2).elim (fun h => by omega) hAb)]
    exact hi.frame b hb hAb
  · refine (hi.kp k hk100).trans' (hgk k fun hkl => ?_)
    cases hli : hasKey k Li with
    | true => rfl
    | false =>
      have := hnew k (newKeys_spec Lo hkl hli)
      simp only [St.free, Bool.and_eq_true, Nat.ble_eq] at this; omega
  · exact AVal.sat_mono (g := g) (g' := g.join g' Lo) hM _ _ (fun k hm => hment k _ (fun γ hγ => get_free (hnew γ hγ) t) hm) h
end Go.Fw
namespace Go.Fw
open Go
set_option linter.unusedVariables false
set_option linter.unusedSimpArgs false

def evA (S : St) : List Operand → List AVal
  | [] => []
  | x :: r => S.ev x :: evA S r
def readsA : List Operand → List AVal → List (Operand × AVal)
  | x :: r, y :: s => (x, y) :: readsA r s
  | _, _ => []
theorem readsA_sat {g : Gh} {a : Act} : ∀ {xs : List Operand} {ys : List AVal}, ys.length = xs.length → satR g a (readsA xs ys) → satL g ys (xs.map a.eval)
  | [], [], _, _ => by simp only [List.map_nil, satL]
  | x :: xs, y :: ys, h, hs => by
    simp only [List.map_cons, satL]
    exact ⟨hs.1, readsA_sat (by simpa using h) hs.2⟩
  | [], _ :: _, h, _ => by simp at h
  | _ :: _, [], h, _ => by simp at h
theorem evA_ok (S : St) : ∀ (xs : List Operand), readsOk S (readsA xs (evA S xs))
  | [] => trivial
  | x :: r => ⟨rfl, evA_ok S r⟩

/-- What is known may be known less exactly. -/
def AVal.le (x y : AVal) : Prop := ∀ g u, x.sat g u → y.sat g u
theorem AVal.le_refl (x : AVal) : x.le x := fun _ _ h => h
theorem AVal.le_any (x : AVal) : x.le .any := fun _ _ _ => by simp only [AVal.sat]
theorem AVal.le_nil (sz : Nat) : AVal.le ani (.d (.sl sz [])) := fun g u h => by
  simp only [AVal.sat, D.rep] at h ⊢
  exact ⟨none, 0, h.1, by simp, by simp, by simp⟩
theorem AVal.le_of_eq {x y : AVal} (h : x = y) : x.le y := h ▸ AVal.le_refl x
def leL : List AVal → List AVal → Prop
  | [], [] => True
  | x :: r, y :: s => x.le y ∧ leL r s
  | _, _ => False
theorem leL_sat {g : Gh} : ∀ {xs ys : List AVal} {us : List Value}, leL xs ys → satL g xs us → satL g ys us
  | [], [], _, _, h => h
  | x :: xs, y :: ys, u :: us, hl, h => by
    simp only [satL] at h ⊢
    exact ⟨hl.1 g u h.1, leL_sat hl.2 h.2⟩
  | _ :: _, _ :: _, [], _, h => by simp only [satL] at h
  | [], _ :: _, _, hl, _ => hl.elim
  | _ :: _, [], _, hl, _ => hl.elim
theorem AVal.le_agg {xs ys : List AVal} (h : leL xs ys) : AVal.le (.agg xs) (.agg ys) := fun g u hs => by
  simp only [AVal.sat] at hs ⊢
  obtain ⟨vs, h1, h2⟩ := hs
  exact ⟨vs, h1, leL_sat h h2⟩

def callable (P : Program) (f : FuncId) : Bool := match P.funcs[f]? with | some fn => !(fn.name == "runtime.NumGoroutine") && fn.body.isSome | none => false
theorem run_callFunc {P : Program} {f : FuncId} (h : callable P f = true) (args : Array Value) (w : World) : (callFunc f args).run P w = .ok (.enter f args) w := by
  unfold callable at h
  cases hf : P.funcs[f]? with
  | none => simp [hf] at h
  | some fn =>
    rw [hf] at h
    simp only [Bool.and_eq_true, Bool.not_eq_true'] at h
    have hb : fn.body.isNone = false := by
      cases hb : fn.body with
      | none => have := h.2; simp [hb] at this
      | some c => rfl
    simp only [callFunc, Sem.run_bind, run_program, Result.andThen_ok, hf, h.1, hb, Bool.false_eq_true, if_false, Sem.run_pure]

section
variable {P : Program} {ops : Array Oper} {draw : Bool} {K : St → Prop} {rest : List Oper} {l : Line} {S : St}
variable {d : Nat} {ty : TypeId} {pos : String} {aft : Array Edge} {gd : Option (Nat × Bool)}

/-- A call, by its contract. 'ys': what the slots hold; 'zs': what the contract speaks of. -/
theorem w_call {f : FuncId} {args : Array Operand} {tys : Array TypeId} {xs : List Operand} {ys zs : List AVal} {Li Lo : List (Nat × AObj)} {res : AVal}
    (hxs : args.toList = xs) (hys : evA S xs = ys) (hle : leL ys zs) (hcon : Con P f Li zs Lo res) (hf : callable P f = true)
    (hLi : lrdOk S Li) (hin : keysIn Li Lo = true) (hbox : boxesIn Lo Lo = true) (hres : res.within Lo = true) (hnew : newOk S (newKeys Li Lo)) (hdead : lrdOk S (deadL (newKeys Li Lo)))
    (hd : Nat.blt d S.n = true) (hg : guardOk ops S gd)
    (h : Walk P ops draw K rest ((l.length, ⟨some d, .call ⟨.value (.func f), args, tys⟩, ty, pos, aft, gd⟩, ⟨guardReads ops gd ++ readsA xs ys, some (d, res), Li ++ deadL (newKeys Li Lo), Lo, newKeys Li Lo⟩) :: l)
      ((S.set d res).cat Lo)) :
    Walk P ops draw K (⟨some d, .call ⟨.value (.func f), args, tys⟩, ty, pos, aft, gd⟩ :: rest) l S := by
  have hap : ∀ (A B : List (Nat × AObj)) (T : St), lrdOk T (A ++ B) ↔ lrdOk T A ∧ lrdOk T B := by
    intro A B T
    simp only [lrdOk_iff, List.mem_append]
    exact ⟨fun h => ⟨fun p hp => h p (.inl hp), fun p hp => h p (.inr hp)⟩, fun h p hp => hp.elim (h.1 p) (h.2 p)⟩
  have hlen : ys.length = xs.length := by
    rw [← hys]; clear hys hxs h hle
    induction xs with
    | nil => rfl
    | cons x r ih => simp [evA, ih]
  refine walk_op ⟨readsA xs ys, some (d, res), Li ++ deadL (newKeys Li Lo), Lo, newKeys Li Lo⟩ ?_ hg ⟨by rw [← hys]; exact evA_ok S xs, (hap _ _ _).2 ⟨hLi, hdead⟩, hnew, hd⟩ h
  intro E S a w g hs hok Q K hK
  obtain ⟨ok1, ok2, ok3, ok4⟩ := hok
  rw [hap] at ok2
  have hsat := leL_sat hle (readsA_sat hlen (satR_of hs _ ok1))
  have hinv : Inv (envOf g w Li) (look .dead Li) g w := by
    have hsub := subL_of ok2.1
    have hl : ∀ γ b, lives g (look .dead Li γ) γ b → lives g (S.obj γ) γ b := by
      intro γ b hb
      rcases hsub γ with e | e
      · rw [← e]; exact hb
      · rw [e] at hb; exact hb.elim
    refine ⟨fun γ => ?_, fun γ γ' b k k' => hs.1.inj γ γ' b (hl _ _ k) (hl _ _ k'), hs.1.mem, fun γ b k => hs.1.sep γ b (hl _ _ k), fun γ b k => .inr ⟨γ, k⟩, MemLe.refl _, fun a v ha => .inl ⟨v, ha⟩, fun _ _ _ => rfl, Nat.le_refl _, rfl, rfl, fun γ _ => Gh.keeps_refl _ _⟩
    rcases hsub γ with e | e
    · rw [e]; exact hs.1.obj γ
    · rw [e]; trivial
  have hcall := hcon g w (xs.map a.eval) hinv hsat
  have hrun : (execOp a.eval ⟨some d, .call ⟨.value (.func f), args, tys⟩, ty, pos, aft, gd⟩).run P w = .ok (.enter f (xs.map a.eval).toArray) w := by
    have e1 : (#[] ++ args.map a.eval ++ #[] : Array Value) = (xs.map a.eval).toArray := by
      apply Array.ext'; simp [← hxs]
    simp only [execOp, resolve, Act.eval, Deferred.ofValue, Sem.run_bind, Sem.run_pure, Result.andThen_ok, invoke]
    rw [run_callFunc hf]
    congr 2
  unfold Oper.wp
  rw [hrun, Oper.upon_enter]
  refine hcall.mono ?_
  rintro e w' ⟨v, g', rfl, hv, hi', hk⟩
  obtain ⟨j1, j2, j3⟩ := inv_call hs.1 ok2.1 hin hbox ok3 ok2.2 hi' hk
  exact hK _ _ (holds_put j1 hs.2.1 hs.2.2.1 (fun t => j3 t _ (hs.2.2.2 t)) (j2 _ _ hres hv) ok4)
end

/-! Weakening. -/
def leT (S : St) : List (Nat × AVal) → Prop
  | [] => True
  | p :: r => (S.get p.1).le p.2 ∧ leT S r
theorem leT_spec {S : St} {t : Nat} : ∀ (l : List (Nat × AVal)), leT S l → (look .any l t = .any ∨ (S.get t).le (look .any l t))
  | [], _ => .inl rfl
  | (k, x) :: r, h => by
    by_cases hk : k = t
    · subst hk; rw [look_same]; exact .inr h.1
    · rw [look_ne _ _ _ hk]; exact leT_spec r h.2
theorem le_mk {S : St} {n : Nat} {τ : List (Nat × AVal)} {L : List (Nat × AObj)} (hn : S.n = n) (ht : leT S τ) (hL : lrdOk S L) : S.le ⟨n, τ, L⟩ := by
  rintro E a w ⟨g, h1, h2, h3, h4⟩
  refine ⟨g, h1.sub (subL_of hL), h2, h3.trans hn, fun t => ?_⟩
  show AVal.sat g (look .any τ t) _
  rcases leT_spec τ ht with e | e
  · rw [e]; simp only [AVal.sat]
  · exact e g _ (h4 t)

/-- What is data has a length that a slice can have. -/
theorem len_of_rep {M : Mem} {sz : Nat} {xs : List (List D)} {u : Value} (h : (D.sl sz xs).rep M u) : xs.length ≤ 9223372036854775807 := by
  simp only [D.rep] at h
  obtain ⟨a, cap, _, h2, h3, _⟩ := h
  unfold maxLen at h3; omega
theorem awp_bound {P : Program} {E : Env} {c : Code} {S : St} {Q : Exit → St → Prop} (t : Nat) {sz : Nat} {xs : List (List D)} (ht : S.get t = .d (.sl sz xs)) (h : xs.length ≤ 9223372036854775807 → AWP P E c S Q) : AWP P E c S Q := by
  refine ⟨fun a w hs => ?_⟩
  obtain ⟨g, hg⟩ := hs
  have := hg.2.2.2 t
  rw [ht] at this
  simp only [AVal.sat] at this
  exact (h (len_of_rep this)).run a w ⟨g, hg⟩
theorem awp_bound_box {P : Program} {E : Env} {c : Code} {S : St} {Q : Exit → St → Prop} (γ j : Nat) {sz : Nat} {cs : List AVal} {xs : List (List D)} (hL : S.obj γ = .box cs) (hj : cs[j]? = some (.d (.sl sz xs))) (h : xs.length ≤ 9223372036854775807 → AWP P E c S Q) : AWP P E c S Q := by
  refine ⟨fun a w hs => ?_⟩
  obtain ⟨g, hg⟩ := hs
  have ho := hg.1.obj γ
  rw [hL] at ho
  obtain ⟨vs, e, fr, _, _, h3, _⟩ := ho
  obtain ⟨u, _, hu⟩ := satL_get h3 j _ hj
  simp only [AVal.sat] at hu
  exact (h (len_of_rep hu)).run a w ⟨g, hg⟩
theorem awp_bound_agg {P : Program} {E : Env} {c : Code} {S : St} {Q : Exit → St → Prop} (t j : Nat) {sz : Nat} {cs : List AVal} {xs : List (List D)} (ht : S.get t = .agg cs) (hj : cs[j]? = some (.d (.sl sz xs))) (h : xs.length ≤ 9223372036854775807 → AWP P E c S Q) : AWP P E c S Q := by
  refine ⟨fun a w hs => ?_⟩
  obtain ⟨g, hg⟩ := hs
  have := hg.2.2.2 t
  rw [ht] at this
  simp only [AVal.sat] at this
  obtain ⟨vs, _, h3⟩ := this
  obtain ⟨u, _, hu⟩ := satL_get h3 j _ hj
  simp only [AVal.sat] at hu
  exact (h (len_of_rep hu)).run a w ⟨g, hg⟩

theorem holds_ghost {E : Env} {S T : St} {g g' : Gh} {a : Act} {w : World} (hs : holdsG E S g a w) (hi : Inv E T.obj g' w) (hn : T.n = S.n) (ht : ∀ t, (T.get t).sat g' (a.tmps.getD t undef)) : holds E T a w :=
  ⟨g', hi, hs.2.1, by rw [hs.2.2.1, hn], ht⟩

/-- A nil slice in a slot, taken as a row of one's own. -/
theorem le_adopt {S : St} (t γ sz : Nat) (ht : S.get t = ani) (hdead : S.obj γ = .dead) (hf : S.free γ = true) :
    S.le ((S.set t (.own γ 0)).own γ (.row sz [])) := by
  rintro E a w ⟨g, hs⟩
  have hi := inv_new hs.1 γ hf hdead (.row sz []) 0 (.slice none 0 0) (w' := w) (fun _ _ => rfl) (Nat.le_refl _) rfl rfl
    ⟨by simp, .inl ⟨by simp [Gh.put], rfl⟩⟩ (fun k hk => by obtain ⟨a, n, c, e, _⟩ := hk; simp [Gh.put] at e)
  refine holds_ghost hs hi rfl fun k => ?_
  by_cases hk : k = t
  · subst hk
    show AVal.sat _ (look .any ((k, _) :: S.τ) k) _
    rw [look_same]
    have := hs.2.2.2 k
    rw [ht] at this
    rw [sat_v this]
    simp only [AVal.sat]
    exact ⟨rfl, none, 0, 0, by simp [Gh.put], Nat.le_refl _, fun _ => rfl⟩
  · show AVal.sat _ (look .any ((t, _) :: S.τ) k) _
    rw [look_ne _ _ _ (Ne.symm hk)]
    exact tmps_put hf hs.2.2.2 k
/-- A nil slice in a cell of a box, taken as a row of one's own. -/
theorem le_adopt_box {S : St} (β j γ sz : Nat) {cs : List AVal} (hb : S.obj β = .box cs) (hj : cs[j]? = some ani) (hdead : S.obj γ = .dead) (hf : S.free γ = true) (hne : Nat.beq γ β = false) :
    S.le ((S.own γ (.row sz [])).own β (.box (cs.set j (.own γ 0)))) := by
  rintro E a w ⟨g, hs⟩
  have hi := inv_new hs.1 γ hf hdead (.row sz []) 0 (.slice none 0 0) (w' := w) (fun _ _ => rfl) (Nat.le_refl _) rfl rfl
    ⟨by simp, .inl ⟨by simp [Gh.put], rfl⟩⟩ (fun k hk => by obtain ⟨a, n, c, e, _⟩ := hk; simp [Gh.put] at e)
  have hne' : γ ≠ β := ne_of_beq hne
  have hob : look .dead ((γ, .row sz []) :: S.L) β = .box cs := by rw [look_ne _ _ _ hne']; exact hb
  have ho := hi.obj β
  rw [hob] at ho
  obtain ⟨vs, e, fr, h1, h2, h3, h4⟩ := ho
  have hi2 : Inv E (look .dead ((β, .box (cs.set j (.own γ 0))) :: (γ, .row sz []) :: S.L)) (g.put γ 0 (.slice none 0 0)) w := by
    refine Inv.upd hi β _ (look_same _ _ _ _) (fun k hk => look_ne _ _ _ (Ne.symm hk)) (fun _ _ _ => rfl) (Nat.le_refl _) rfl rfl rfl (fun _ _ => ⟨rfl, rfl, rfl⟩) (fun _ _ _ _ _ h => h) ?_ (fun b hb' => .inl (by rw [hob]; exact hb')) (fun _ => Gh.keeps_refl _ _)
    have hlen := satL_length h3
    refine ⟨vs, e, fr, h1, h2, satL_of (by simp [hlen]) fun i x u hx hu => ?_, fun c hc => ?_⟩
    · rw [List.getElem?_set] at hx
      split at hx
      · rename_i hij
        subst hij
        obtain ⟨u', k1, k2⟩ := satL_get h3 j ani hj
        rw [k1] at hu; cases hu
        split at hx
        · cases hx
          rw [sat_v k2]
          simp only [AVal.sat]
          exact ⟨rfl, none, 0, 0, by simp [Gh.put], Nat.le_refl _, fun _ => rfl⟩
        · simp at hx
      · obtain ⟨u', k1, k2⟩ := satL_get h3 i x hx
        rw [k1] at hu; cases hu; exact k2
    · rcases List.mem_or_eq_of_mem_set hc with h | h
      · exact h4 c h
      · rw [h]; rfl
  exact holds_ghost hs hi2 rfl (tmps_put hf hs.2.2.2)

/-- A row let go: from here on it is data. -/
theorem inv_froz {E : Env} {S : St} {g : Gh} {w : World} (hi : Inv E S.obj g w) {γ sz : Nat} {xs : List (List D)} (hL : S.obj γ = .row sz xs) :
    ∃ M', MemLe g.M M' ∧ Inv E (look .dead ((γ, .froz sz xs) :: S.L)) { g with M := M' } w := by
  have ho := hi.obj γ
  rw [hL] at ho
  obtain ⟨hlen, ho⟩ := ho
  have key : ∀ (M' : Mem), MemLe g.M M' → (D.sl sz xs).rep M' (g.hd γ) → (∀ a v, M' a = some v → g.M a = some v ∨ (w.cell? a = some v ∧ lives g (S.obj γ) γ a.block)) →
      Inv E (look .dead ((γ, .froz sz xs) :: S.L)) { g with M := M' } w := by
    intro M' hle hrep hM'
    have hlook : ∀ k, look .dead ((γ, .froz sz xs) :: S.L) k = if k = γ then .froz sz xs else S.obj k := by
      intro k
      by_cases hk : k = γ
      · subst hk; rw [look_same, if_pos rfl]
      · rw [look_ne _ _ _ (Ne.symm hk), if_neg hk]; rfl
    have hlv : ∀ k b, lives { g with M := M' } (look .dead ((γ, .froz sz xs) :: S.L) k) k b → k ≠ γ ∧ lives g (S.obj k) k b := by
      intro k b h
      rw [hlook] at h
      by_cases hk : k = γ
      · rw [if_pos hk] at h; exact h.elim
      · rw [if_neg hk] at h
        refine ⟨hk, ?_⟩
        rwa [lives_move (g := g) (g' := { g with M := M' }) rfl rfl rfl] at h
    refine ⟨fun k => ?_, fun k k' b h h' => hi.inj k k' b (hlv _ _ h).2 (hlv _ _ h').2, fun a v h => ?_, fun k b h a v ha => ?_, fun k b h => hi.new k b (hlv _ _ h).2, hi.ext.trans hle, fun a v h => ?_, hi.frame, hi.size, hi.os, hi.out, fun k hk => (hi.kp k hk).trans' (Gh.keeps_of rfl rfl rfl)⟩
    · rw [hlook]
      by_cases hk : k = γ
      · subst hk; rw [if_pos rfl]; exact hrep
      · rw [if_neg hk]; exact objSat_lay (g := g) (g' := { g with M := M' }) hle rfl rfl rfl (fun _ _ => rfl) (hi.obj k)
    · rcases hM' a v h with h1 | h1
      · exact hi.mem a v h1
      · exact h1.1
    · obtain ⟨hk, hb⟩ := hlv k b h
      rcases hM' a v ha with h1 | h1
      · exact hi.sep k b hb a v h1
      · intro e
        rw [e] at h1
        exact hk (hi.inj _ _ _ hb h1.2)
    · rcases hM' a v h with h1 | h1
      · exact hi.lim a v h1
      · exact .inr (hi.new γ _ h1.2)
  rcases ho with ⟨h1, rfl⟩ | ⟨b, cap, vs, e, fr, h1, h2, h3, h4, h5, h6, h7⟩
  · refine ⟨g.M, MemLe.refl _, key g.M (MemLe.refl _) ?_ (fun a v h => .inl h)⟩
    simp only [D.rep]
    exact ⟨none, 0, h1, by simp, by simp, by simp⟩
  · have hlv : lives g (S.obj γ) γ b := by rw [hL]; exact ⟨_, _, _, h1, rfl⟩
    have hle : MemLe g.M (fun p => if p.block = b ∧ p.spot = none then vs[p.off]? else g.M p) := by
      intro a v h
      have := hi.sep γ b hlv a v h
      show (if _ then _ else _) = _
      rw [if_neg (fun hc => this hc.1)]; exact h
    refine ⟨_, hle, key _ hle ?_ (fun a v h => ?_)⟩
    · simp only [D.rep]
      refine ⟨_, cap, h1, h2, h3, .inr ⟨b, 0, rfl, rows_of_flat xs 0 hlen fun i d hd => ?_⟩⟩
      obtain ⟨hl, hr⟩ := dmap_sat h7
      obtain ⟨u, hu, hsu⟩ := hr i d hd
      refine ⟨u, ?_, D.rep_mono hle _ _ hsu⟩
      show (if _ then _ else _) = _
      rw [if_pos ⟨rfl, rfl⟩, Nat.zero_add]
      rw [List.getElem?_take] at hu
      split at hu
      · simpa using hu
      · simp at hu
    · have h' : (if a.block = b ∧ a.spot = none then vs[a.off]? else g.M a) = some v := h
      split at h'
      · rename_i hc
        obtain ⟨b', o, s⟩ := a
        simp only at hc
        obtain ⟨rfl, rfl⟩ := hc
        right
        exact ⟨by rw [cell_of_row w _ _ vs e fr h4]; exact h', hlv⟩
      · exact .inl h'

theorem le_freeze {S : St} (γ : Nat) {sz : Nat} {xs : List (List D)} (hL : S.obj γ = .row sz xs) : S.le (S.own γ (.froz sz xs)) := by
  rintro E a w ⟨g, hs⟩
  obtain ⟨M', hle, hi⟩ := inv_froz hs.1 hL
  exact holds_ghost hs hi rfl fun t => sat_lay (g := g) (g' := { g with M := M' }) hle rfl rfl rfl (hs.2.2.2 t)
theorem own_froz {g : Gh} {w : World} {γ sz n : Nat} {xs : List (List D)} {u : Value} (ho : objSat g w γ (.froz sz xs)) (hn : n = xs.length) (h : (AVal.own γ n).sat g u) : (AVal.d (.sl sz xs)).sat g u := by
  simp only [AVal.sat] at h ⊢
  obtain ⟨_, a, m, c, h1, h2, h3⟩ := h
  have ho' := ho
  simp only [objSat, D.rep] at ho
  obtain ⟨a', cap, k1, _⟩ := ho
  rw [k1] at h1; cases h1
  rw [h3 hn, ← k1]; exact ho'
theorem le_data {S : St} (t γ : Nat) {n sz : Nat} {xs : List (List D)} (ht : S.get t = .own γ n) (hL : S.obj γ = .froz sz xs) (hn : n = xs.length) : S.le (S.set t (.d (.sl sz xs))) := by
  rintro E a w ⟨g, hs⟩
  refine holds_ghost hs hs.1 rfl fun k => ?_
  by_cases hk : k = t
  · subst hk
    show AVal.sat _ (look .any ((k, _) :: S.τ) k) _
    rw [look_same]
    have := hs.2.2.2 k
    rw [ht] at this
    have ho := hs.1.obj γ
    rw [hL] at ho
    exact own_froz ho hn this
  · show AVal.sat _ (look .any ((t, _) :: S.τ) k) _
    rw [look_ne _ _ _ (Ne.symm hk)]
    exact hs.2.2.2 k
theorem le_data_box {S : St} (β j γ : Nat) {cs : List AVal} {n sz : Nat} {xs : List (List D)} (hb : S.obj β = .box cs) (hj : cs[j]? = some (.own γ n)) (hL : S.obj γ = .froz sz xs) (hn : n = xs.length) :
    S.le (S.own β (.box (cs.set j (.d (.sl sz xs))))) := by
  rintro E a w ⟨g, hs⟩
  have ho := hs.1.obj β
  rw [hb] at ho
  obtain ⟨vs, e, fr, h1, h2, h3, h4⟩ := ho
  have hf := hs.1.obj γ
  rw [hL] at hf
  have hi2 : Inv E (look .dead ((β, .box (cs.set j (.d (.sl sz xs)))) :: S.L)) g w := by
    refine Inv.upd hs.1 β _ (look_same _ _ _ _) (fun k hk => look_ne _ _ _ (Ne.symm hk)) (fun _ _ _ => rfl) (Nat.le_refl _) rfl rfl rfl (fun _ _ => ⟨rfl, rfl, rfl⟩) (fun _ _ _ _ _ h => h) ?_ (fun b hb' => .inl (by rw [hb]; exact hb')) (fun _ => Gh.keeps_refl _ _)
    have hlen := satL_length h3
    refine ⟨vs, e, fr, h1, h2, satL_of (by simp [hlen]) fun i x u hx hu => ?_, fun c hc => ?_⟩
    · rw [List.getElem?_set] at hx
      split at hx
      · rename_i hij
        subst hij
        obtain ⟨u', k1, k2⟩ := satL_get h3 j _ hj
        rw [k1] at hu; cases hu
        split at hx
        · cases hx; exact own_froz hf hn k2
        · simp at hx
      · obtain ⟨u', k1, k2⟩ := satL_get h3 i x hx
        rw [k1] at hu; cases hu; exact k2
    · rcases List.mem_or_eq_of_mem_set hc with h | h
      · exact h4 c h
      · rw [h]; rfl
  exact holds_ghost hs hi2 rfl hs.2.2.2
end Go.Fw

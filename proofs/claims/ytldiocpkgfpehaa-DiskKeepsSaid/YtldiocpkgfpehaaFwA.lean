/- A small separation calculus over the model: immutable data, owned boxes and rows. First part: data, abstract values, the invariant. -/
import Derived.Calls
import Derived.Orders
import Derived.Laws.Entries
import Derived.Laws.Rows
import Derived.RowKit3
namespace Go.Fw
open Go

abbrev Mem := Addr → Option Value

/-- Immutable data: one cell each. -/
inductive D where
  | v (x : Value)
  | sl (sz : Nat) (xs : List (List D))

mutual
def D.rep (M : Mem) : D → Value → Prop
  | .v x, u => u = x ∧ x.oneCell' = true
  | .sl sz xs, u => ∃ (a : Option Addr) (cap : Nat), u = .slice a xs.length cap ∧ xs.length ≤ cap ∧ cap ≤ maxLen ∧
      (xs = [] ∨ ∃ b o, a = some ⟨b, o, none⟩ ∧ repRows M sz xs b o)
def repCells (M : Mem) : List D → Nat → Nat → Prop
  | [], _, _ => True
  | d :: ds, b, o => (∃ u, M ⟨b, o, none⟩ = some u ∧ D.rep M d u) ∧ repCells M ds b (o + 1)
def repRows (M : Mem) (sz : Nat) : List (List D) → Nat → Nat → Prop
  | [], _, _ => True
  | r :: rs, b, o => r.length = sz ∧ repCells M r b o ∧ repRows M sz rs b (o + sz)
end

def MemLe (M M' : Mem) : Prop := ∀ a v, M a = some v → M' a = some v
theorem MemLe.refl (M : Mem) : MemLe M M := fun _ _ h => h
theorem MemLe.trans {A B C : Mem} (h : MemLe A B) (k : MemLe B C) : MemLe A C := fun _ _ x => k _ _ (h _ _ x)

mutual
theorem D.rep_mono {M M' : Mem} (h : MemLe M M') : ∀ (d : D) (u : Value), d.rep M u → d.rep M' u
  | .v x, u, hr => by simpa only [D.rep] using hr
  | .sl sz xs, u, hr => by
    simp only [D.rep] at hr ⊢
    obtain ⟨a, cap, h1, h2, h3, h4⟩ := hr
    refine ⟨a, cap, h1, h2, h3, ?_⟩
    rcases h4 with h4 | ⟨b, o, h5, h6⟩
    · exact .inl h4
    · exact .inr ⟨b, o, h5, repRows_mono h sz xs b o h6⟩
theorem repCells_mono {M M' : Mem} (h : MemLe M M') : ∀ (ds : List D) (b o : Nat), repCells M ds b o → repCells M' ds b o
  | [], _, _, _ => by simp only [repCells]
  | d :: ds, b, o, hr => by
    simp only [repCells] at hr ⊢
    obtain ⟨⟨u, h1, h2⟩, h3⟩ := hr
    exact ⟨⟨u, h _ _ h1, D.rep_mono h d u h2⟩, repCells_mono h ds b (o + 1) h3⟩
theorem repRows_mono {M M' : Mem} (h : MemLe M M') (sz : Nat) : ∀ (xs : List (List D)) (b o : Nat), repRows M sz xs b o → repRows M' sz xs b o
  | [], _, _, _ => by simp only [repRows]
  | r :: rs, b, o, hr => by
    simp only [repRows] at hr ⊢
    exact ⟨hr.1, repCells_mono h r b o hr.2.1, repRows_mono h sz rs b (o + sz) hr.2.2⟩
end

theorem repCells_get {M : Mem} : ∀ (ds : List D) (b o i : Nat) (d : D), repCells M ds b o → ds[i]? = some d → ∃ u, M ⟨b, o + i, none⟩ = some u ∧ d.rep M u
  | [], _, _, _, _, _, h => by simp at h
  | e :: ds, b, o, 0, d, hr, h => by
    simp only [repCells] at hr
    simp at h; subst h
    exact hr.1
  | e :: ds, b, o, i + 1, d, hr, h => by
    simp only [repCells] at hr
    have := repCells_get ds b (o + 1) i d hr.2 (by simpa using h)
    rwa [show o + 1 + i = o + (i + 1) by omega] at this

theorem repCells_of {M : Mem} : ∀ (ds : List D) (b o : Nat), (∀ i d, ds[i]? = some d → ∃ u, M ⟨b, o + i, none⟩ = some u ∧ d.rep M u) → repCells M ds b o
  | [], _, _, _ => by simp only [repCells]
  | e :: ds, b, o, h => by
    simp only [repCells]
    refine ⟨by simpa using h 0 e (by simp), repCells_of ds b (o + 1) fun i d hd => ?_⟩
    have := h (i + 1) d (by simpa using hd)
    rwa [show o + (i + 1) = o + 1 + i by omega] at this

theorem repCells_drop {M : Mem} {ds : List D} {b o : Nat} (h : repCells M ds b o) (k : Nat) : repCells M (ds.drop k) b (o + k) := by
  refine repCells_of _ _ _ fun i d hd => ?_
  rw [List.getElem?_drop] at hd
  have := repCells_get ds b o (k + i) d h hd
  rwa [show o + (k + i) = o + k + i by omega] at this
theorem repCells_take {M : Mem} {ds : List D} {b o : Nat} (h : repCells M ds b o) (k : Nat) : repCells M (ds.take k) b o := by
  refine repCells_of _ _ _ fun i d hd => ?_
  rw [List.getElem?_take] at hd
  split at hd
  · exact repCells_get ds b o i d h hd
  · simp at hd
theorem repCells_append {M : Mem} {ds es : List D} {b o : Nat} (h : repCells M ds b o) (h' : repCells M es b (o + ds.length)) : repCells M (ds ++ es) b o := by
  refine repCells_of _ _ _ fun i d hd => ?_
  rw [List.getElem?_append] at hd
  split at hd
  · exact repCells_get ds b o i d h hd
  · have := repCells_get es b _ _ d h' hd
    rwa [show o + ds.length + (i - ds.length) = o + i by omega] at this

theorem repRows_get {M : Mem} {sz : Nat} : ∀ (xs : List (List D)) (b o i : Nat) (r : List D), repRows M sz xs b o → xs[i]? = some r → r.length = sz ∧ repCells M r b (o + i * sz)
  | [], _, _, _, _, _, h => by simp at h
  | e :: xs, b, o, 0, r, hr, h => by
    simp only [repRows] at hr
    simp at h; subst h
    exact ⟨hr.1, by simpa using hr.2.1⟩
  | e :: xs, b, o, i + 1, r, hr, h => by
    simp only [repRows] at hr
    have := repRows_get xs b (o + sz) i r hr.2.2 (by simpa using h)
    rwa [show o + sz + i * sz = o + (i + 1) * sz by rw [Nat.add_mul]; omega] at this
theorem repRows_of {M : Mem} {sz : Nat} : ∀ (xs : List (List D)) (b o : Nat), (∀ i r, xs[i]? = some r → r.length = sz ∧ repCells M r b (o + i * sz)) → repRows M sz xs b o
  | [], _, _, _ => by simp only [repRows]
  | e :: xs, b, o, h => by
    simp only [repRows]
    have h0 := h 0 e (by simp)
    refine ⟨h0.1, by simpa using h0.2, repRows_of xs b (o + sz) fun i r hr => ?_⟩
    have := h (i + 1) r (by simpa using hr)
    rwa [show o + (i + 1) * sz = o + sz + i * sz by rw [Nat.add_mul]; omega] at this
theorem repRows_drop {M : Mem} {sz : Nat} {xs : List (List D)} {b o : Nat} (h : repRows M sz xs b o) (k : Nat) : repRows M sz (xs.drop k) b (o + k * sz) := by
  refine repRows_of _ _ _ fun i r hr => ?_
  rw [List.getElem?_drop] at hr
  have := repRows_get xs b o (k + i) r h hr
  rwa [show o + (k + i) * sz = o + k * sz + i * sz by rw [Nat.add_mul]; omega] at this
theorem repRows_take {M : Mem} {sz : Nat} {xs : List (List D)} {b o : Nat} (h : repRows M sz xs b o) (k : Nat) : repRows M sz (xs.take k) b o := by
  refine repRows_of _ _ _ fun i r hr => ?_
  rw [List.getElem?_take] at hr
  split at hr
  · exact repRows_get xs b o i r h hr
  · simp at hr

/-- What a slot, or a cell of a box, is known to hold. -/
inductive AVal where
  | any
  | d (x : D)
  | ptr (γ o : Nat)
  | own (γ n : Nat)
  | rptr (γ n o : Nat)
  | inn (γ i : Nat)
  | bsl (γ n : Nat)
  | mptr (γ n i : Nat)
  | dptr (row : List D)
  | bq (p q : Prop)
  | agg (cs : List AVal)
  | tup (vs : List AVal)
  | fn (f : FuncId) (caps : List AVal)

structure Gh where
  blk : Nat → Nat
  hd : Nat → Value
  ihd : Nat → Nat → Value
  M : Mem

mutual
def AVal.sat (g : Gh) : AVal → Value → Prop
  | .any, _ => True
  | .d x, u => x.rep g.M u
  | .ptr γ o, u => u = .pointer (some ⟨g.blk γ, o, none⟩)
  | .own γ n, u => u.oneCell' = true ∧ ∃ a m c, g.hd γ = .slice a m c ∧ n ≤ m ∧ (n = m → u = .slice a m c)
  | .rptr γ n o, u => u.oneCell' = true ∧ ∃ a m c, g.hd γ = .slice a m c ∧ n ≤ m ∧ (n = m → ∃ b, a = some b ∧ u = .pointer (some ⟨b.block, o, none⟩))
  | .bsl γ n, u => u = .slice (some ⟨g.blk γ, 0, none⟩) n n
  | .inn γ i, u => u.oneCell' = true ∧ u = g.ihd γ i ∧ ∃ a m c, g.hd γ = .slice a m c ∧ i < m
  | .mptr γ n i, u => u.oneCell' = true ∧ ∃ a m c, g.hd γ = .slice a m c ∧ n ≤ m ∧ (n = m → ∃ b, a = some b ∧ u = .pointer (some ⟨b.block, i, none⟩))
  | .dptr row, u => ∃ b o, u = .pointer (some ⟨b, o, none⟩) ∧ repCells g.M row b o
  | .bq p q, u => ∃ b : Bool, u = .bool b ∧ (b = true → p) ∧ (b = false → q)
  | .agg cs, u => ∃ vs, u = .agg vs ∧ satL g cs vs.toList
  | .tup cs, u => ∃ vs, u = .tuple vs ∧ satL g cs vs.toList
  | .fn f cs, u => ∃ vs, u = .func (.func f) #[] vs ∧ satL g cs vs.toList
def satL (g : Gh) : List AVal → List Value → Prop
  | [], [] => True
  | x :: xs, u :: us => x.sat g u ∧ satL g xs us
  | _, _ => False
end

mutual
def AVal.ment (γ : Nat) : AVal → Bool
  | .ptr k _ => Nat.beq k γ
  | .own k _ => Nat.beq k γ
  | .rptr k _ _ => Nat.beq k γ
  | .inn k _ => Nat.beq k γ
  | .bsl k _ => Nat.beq k γ
  | .mptr k _ _ => Nat.beq k γ
  | .agg cs => mentL γ cs
  | .tup cs => mentL γ cs
  | .fn _ cs => mentL γ cs
  | .any => false
  | .d _ => false
  | .dptr _ => false
  | .bq _ _ => false
def mentL (γ : Nat) : List AVal → Bool
  | [] => false
  | x :: xs => x.ment γ || mentL γ xs
end

/-- 'g'' holds of the key γ all that was said over 'g'. -/
def Gh.keeps (g g' : Gh) (γ : Nat) : Prop :=
  g'.blk γ = g.blk γ ∧ (g'.hd γ = g.hd γ ∨ ∃ a m c a' m' c', g.hd γ = .slice a m c ∧ g'.hd γ = .slice a' m' c' ∧ m < m') ∧
    ∀ i a m c, g.hd γ = .slice a m c → i < m → g'.ihd γ i = g.ihd γ i

theorem Gh.keeps_refl (g : Gh) (γ : Nat) : g.keeps g γ := ⟨rfl, .inl rfl, fun _ _ _ _ _ _ => rfl⟩
theorem Gh.keeps_of {g g' : Gh} {γ : Nat} (h1 : g'.blk γ = g.blk γ) (h2 : g'.hd γ = g.hd γ) (h3 : g'.ihd γ = g.ihd γ) : g.keeps g' γ := ⟨h1, .inl h2, fun i _ _ _ _ _ => by rw [h3]⟩
theorem Gh.keeps_trans {g g' g'' : Gh} {γ : Nat} (h : g.keeps g' γ) (k : g'.keeps g'' γ) : g.keeps g'' γ := by
  refine ⟨k.1.trans h.1, ?_, fun i a m c ha hi => ?_⟩
  · rcases h.2.1 with e | ⟨a, m, c, a', m', c', e1, e2, e3⟩
    · rw [← e]; exact k.2.1
    · rcases k.2.1 with e | ⟨b, n, d, b', n', d', f1, f2, f3⟩
      · exact .inr ⟨a, m, c, a', m', c', e1, e.trans e2, e3⟩
      · rw [e2] at f1; cases f1
        exact .inr ⟨a, m, c, b', n', d', e1, f2, by omega⟩
  · refine Eq.trans ?_ (h.2.2 i a m c ha hi)
    rcases h.2.1 with e | ⟨a', m', c', a'', m'', c'', e1, e2, e3⟩
    · exact k.2.2 i a m c (e.trans ha) hi
    · rw [ha] at e1; cases e1
      exact k.2.2 i _ _ _ e2 (by omega)

mutual
theorem AVal.sat_mono {g g' : Gh} (h : MemLe g.M g'.M) : ∀ (x : AVal) (u : Value), (∀ γ, x.ment γ = true → g.keeps g' γ) → x.sat g u → x.sat g' u
  | .any, _, _, _ => by simp only [AVal.sat]
  | .d x, u, _, hs => by simp only [AVal.sat] at hs ⊢; exact D.rep_mono h x u hs
  | .ptr γ o, u, hk, hs => by
    simp only [AVal.sat] at hs ⊢
    rw [(hk γ (by simp [AVal.ment])).1]; exact hs
  | .own γ n, u, hk, hs => by
    simp only [AVal.sat] at hs ⊢
    obtain ⟨h1, a, m, c, h2, h3, h4⟩ := hs
    refine ⟨h1, ?_⟩
    rcases (hk γ (by simp [AVal.ment])).2.1 with e | ⟨a0, m0, c0, a', m', c', e1, e2, e3⟩
    · exact ⟨a, m, c, e.trans h2, h3, h4⟩
    · rw [h2] at e1; cases e1
      exact ⟨a', m', c', e2, by omega, fun e => by omega⟩
  | .rptr γ n o, u, hk, hs => by
    simp only [AVal.sat] at hs ⊢
    obtain ⟨h1, a, m, c, h2, h3, h4⟩ := hs
    refine ⟨h1, ?_⟩
    rcases (hk γ (by simp [AVal.ment])).2.1 with e | ⟨a0, m0, c0, a', m', c', e1, e2, e3⟩
    · exact ⟨a, m, c, e.trans h2, h3, h4⟩
    · rw [h2] at e1; cases e1
      exact ⟨a', m', c', e2, by omega, fun e => by omega⟩
  | .bsl γ n, u, hk, hs => by
    simp only [AVal.sat] at hs ⊢
    rw [(hk γ (by simp [AVal.ment])).1]; exact hs
  | .inn γ i, u, hk, hs => by
    simp only [AVal.sat] at hs ⊢
    obtain ⟨h1, h2, a, m, c, h3, h4⟩ := hs
    have hkk := hk γ (by simp [AVal.ment])
    refine ⟨h1, h2.trans (hkk.2.2 i a m c h3 h4).symm, ?_⟩
    rcases hkk.2.1 with e | ⟨a0, m0, c0, a', m', c', e1, e2, e3⟩
    · exact ⟨a, m, c, e.trans h3, h4⟩
    · rw [h3] at e1; cases e1
      exact ⟨a', m', c', e2, by omega⟩
  | .mptr γ n i, u, hk, hs => by
    simp only [AVal.sat] at hs ⊢
    obtain ⟨h1, a, m, c, h2, h3, h4⟩ := hs
    refine ⟨h1, ?_⟩
    rcases (hk γ (by simp [AVal.ment])).2.1 with e | ⟨a0, m0, c0, a', m', c', e1, e2, e3⟩
    · exact ⟨a, m, c, e.trans h2, h3, h4⟩
    · rw [h2] at e1; cases e1
      exact ⟨a', m', c', e2, by omega, fun e => by omega⟩
  | .dptr row, u, _, hs => by
    simp only [AVal.sat] at hs ⊢
    obtain ⟨b, o, h1, h2⟩ := hs
    exact ⟨b, o, h1, repCells_mono h _ _ _ h2⟩
  | .bq p q, u, _, hs => by simp only [AVal.sat] at hs ⊢; exact hs
  | .agg cs, u, hk, hs => by
    simp only [AVal.sat] at hs ⊢
    obtain ⟨vs, h1, h2⟩ := hs
    exact ⟨vs, h1, satL_mono h cs _ (fun γ hm => hk γ (by simpa only [AVal.ment] using hm)) h2⟩
  | .tup cs, u, hk, hs => by
    simp only [AVal.sat] at hs ⊢
    obtain ⟨vs, h1, h2⟩ := hs
    exact ⟨vs, h1, satL_mono h cs _ (fun γ hm => hk γ (by simpa only [AVal.ment] using hm)) h2⟩
  | .fn f cs, u, hk, hs => by
    simp only [AVal.sat] at hs ⊢
    obtain ⟨vs, h1, h2⟩ := hs
    exact ⟨vs, h1, satL_mono h cs _ (fun γ hm => hk γ (by simpa only [AVal.ment] using hm)) h2⟩
theorem satL_mono {g g' : Gh} (h : MemLe g.M g'.M) : ∀ (xs : List AVal) (us : List Value), (∀ γ, mentL γ xs = true → g.keeps g' γ) → satL g xs us → satL g' xs us
  | [], [], _, _ => by simp only [satL]
  | [], _ :: _, _, hs => by simp only [satL] at hs
  | _ :: _, [], _, hs => by simp only [satL] at hs
  | x :: xs, u :: us, hk, hs => by
    simp only [satL] at hs ⊢
    exact ⟨AVal.sat_mono h x u (fun γ hm => hk γ (by simp [mentL, hm])) hs.1, satL_mono h xs us (fun γ hm => hk γ (by simp [mentL, hm])) hs.2⟩
end

def AVal.cellish : AVal → Bool
  | .any => false
  | .agg _ => false
  | .tup _ => false
  | _ => true

theorem D.rep_one {M : Mem} {d : D} {u : Value} (h : d.rep M u) : u.oneCell' = true := by
  cases d with
  | v x => simp only [D.rep] at h; rw [h.1]; exact h.2
  | sl sz xs => simp only [D.rep] at h; obtain ⟨a, cap, rfl, _⟩ := h; rfl
theorem AVal.sat_one {g : Gh} {x : AVal} {u : Value} (hc : x.cellish = true) (h : x.sat g u) : u.oneCell' = true := by
  cases x with
  | any => simp [AVal.cellish] at hc
  | agg _ => simp [AVal.cellish] at hc
  | tup _ => simp [AVal.cellish] at hc
  | d x => simp only [AVal.sat] at h; exact D.rep_one h
  | ptr γ o => simp only [AVal.sat] at h; rw [h]; rfl
  | own γ n => simp only [AVal.sat] at h; exact h.1
  | rptr γ n o => simp only [AVal.sat] at h; exact h.1
  | inn γ i => simp only [AVal.sat] at h; exact h.1
  | bsl γ n => simp only [AVal.sat] at h; rw [h]; rfl
  | mptr γ n i => simp only [AVal.sat] at h; exact h.1
  | dptr row => simp only [AVal.sat] at h; obtain ⟨b, o, rfl, _⟩ := h; rfl
  | bq p q => simp only [AVal.sat] at h; obtain ⟨b, rfl, _⟩ := h; rfl
  | fn f cs => simp only [AVal.sat] at h; obtain ⟨vs, rfl, _⟩ := h; rfl

theorem satL_length {g : Gh} : ∀ {xs : List AVal} {us : List Value}, satL g xs us → us.length = xs.length
  | [], [], _ => rfl
  | [], _ :: _, h => by simp only [satL] at h
  | _ :: _, [], h => by simp only [satL] at h
  | x :: xs, u :: us, h => by simp only [satL] at h; simp [satL_length h.2]
theorem satL_get {g : Gh} : ∀ {xs : List AVal} {us : List Value}, satL g xs us → ∀ (i : Nat) (x : AVal), xs[i]? = some x → ∃ u, us[i]? = some u ∧ x.sat g u
  | [], [], _, _, _, h => by simp at h
  | [], _ :: _, h, _, _, _ => by simp only [satL] at h
  | _ :: _, [], h, _, _, _ => by simp only [satL] at h
  | x :: xs, u :: us, h, 0, y, hy => by simp only [satL] at h; simp at hy; subst hy; exact ⟨u, by simp, h.1⟩
  | x :: xs, u :: us, h, i + 1, y, hy => by
    simp only [satL] at h
    simpa using satL_get h.2 i y (by simpa using hy)
theorem satL_of {g : Gh} : ∀ {xs : List AVal} {us : List Value}, us.length = xs.length → (∀ (i : Nat) (x : AVal) (u : Value), xs[i]? = some x → us[i]? = some u → x.sat g u) → satL g xs us
  | [], [], _, _ => by simp only [satL]
  | [], _ :: _, h, _ => by simp at h
  | _ :: _, [], h, _ => by simp at h
  | x :: xs, u :: us, h, hs => by
    simp only [satL]
    exact ⟨hs 0 x u (by simp) (by simp), satL_of (by simpa using h) fun i y v hy hv => hs (i + 1) y v (by simpa using hy) (by simpa using hv)⟩
theorem satL_drop {g : Gh} {xs : List AVal} {us : List Value} (h : satL g xs us) (k : Nat) : satL g (xs.drop k) (us.drop k) := by
  have hl := satL_length h
  refine satL_of (by simp [hl]) fun i x u hx hu => ?_
  rw [List.getElem?_drop] at hx hu
  obtain ⟨u', h1, h2⟩ := satL_get h _ _ hx
  rw [h1] at hu; cases hu; exact h2
theorem satL_take {g : Gh} {xs : List AVal} {us : List Value} (h : satL g xs us) (k : Nat) : satL g (xs.take k) (us.take k) := by
  have hl := satL_length h
  refine satL_of (by simp [hl]) fun i x u hx hu => ?_
  rw [List.getElem?_take] at hx hu
  split at hx
  · rename_i hk
    rw [if_pos hk] at hu
    obtain ⟨u', h1, h2⟩ := satL_get h _ _ hx
    rw [h1] at hu; cases hu; exact h2
  · simp at hx
theorem satL_append {g : Gh} {xs ys : List AVal} {us vs : List Value} (h : satL g xs us) (h' : satL g ys vs) : satL g (xs ++ ys) (us ++ vs) := by
  have hl := satL_length h
  have hl' := satL_length h'
  refine satL_of (by simp [hl, hl']) fun i x u hx hu => ?_
  rw [List.getElem?_append] at hx hu
  rw [hl] at hu
  split at hx
  · rename_i hk
    rw [if_pos hk] at hu
    obtain ⟨u', h1, h2⟩ := satL_get h _ _ hx
    rw [h1] at hu; cases hu; exact h2
  · rename_i hk
    rw [if_neg hk] at hu
    obtain ⟨u', h1, h2⟩ := satL_get h' _ _ hx
    rw [h1] at hu; cases hu; exact h2

/-- What is owned: a box of cells; a row with room behind it; a row that was let go. -/
inductive AObj where
  | dead
  | box (cs : List AVal)
  | row (sz : Nat) (xs : List (List D))
  | froz (sz : Nat) (xs : List (List D))
  | mat (sz : Nat) (rows : List (List (List D)))

def AObj.ment (γ : Nat) : AObj → Bool
  | .box cs => mentL γ cs
  | .dead => false
  | .row _ _ => false
  | .froz _ _ => false
  | .mat _ _ => false

/-- No cell of the first n is frozen. -/
def thaw (fr : Nat × Nat) (n : Nat) : Prop := ∀ i, i < n → ¬ (fr.1 ≤ i ∧ i < fr.2)
/-- A slice's header whose row is one's own. -/
def rowSat (g : Gh) (w : World) (h : Value) (sz : Nat) (xs : List (List D)) : Prop :=
  (∀ x ∈ xs, x.length = sz) ∧
    ((h = .slice none 0 0 ∧ xs = []) ∨
     ∃ b cap vs e fr, h = .slice (some ⟨b, 0, none⟩) xs.length cap ∧ xs.length ≤ cap ∧ cap ≤ maxLen ∧
       w.heap[b]? = some (.cells vs e fr) ∧ thaw fr vs.size ∧ cap * sz ≤ vs.size ∧
       satL g (xs.flatten.map .d) (vs.toList.take (xs.length * sz)))
/-- The header lies in block b. -/
def hdBlk (h : Value) (b : Nat) : Prop := ∃ a n c, h = .slice (some a) n c ∧ a.block = b
def matSat (g : Gh) (w : World) (γ sz : Nat) (rows : List (List (List D))) : Prop :=
  ((g.hd γ = .slice none 0 0 ∧ rows = []) ∨
   ∃ b cap vs e fr, g.hd γ = .slice (some ⟨b, 0, none⟩) rows.length cap ∧ rows.length ≤ cap ∧ cap ≤ maxLen ∧
     w.heap[b]? = some (.cells vs e fr) ∧ thaw fr vs.size ∧ cap ≤ vs.size ∧ (∀ i, i < rows.length → vs[i]? = some (g.ihd γ i)) ∧
     ∀ i, i < rows.length → ¬ hdBlk (g.ihd γ i) b) ∧
  (∀ i r, rows[i]? = some r → rowSat g w (g.ihd γ i) sz r) ∧
  ∀ i j b, i < rows.length → j < rows.length → hdBlk (g.ihd γ i) b → hdBlk (g.ihd γ j) b → i = j
def objSat (g : Gh) (w : World) (γ : Nat) : AObj → Prop
  | .dead => True
  | .box cs => ∃ vs e fr, w.heap[g.blk γ]? = some (.cells vs e fr) ∧ thaw fr vs.size ∧ satL g cs vs.toList ∧ ∀ c ∈ cs, c.cellish = true
  | .row sz xs => rowSat g w (g.hd γ) sz xs
  | .froz sz xs => (D.sl sz xs).rep g.M (g.hd γ)
  | .mat sz rows => matSat g w γ sz rows

/-- The blocks that an object owns. -/
def lives (g : Gh) : AObj → Nat → Nat → Prop
  | .dead, _, _ => False
  | .froz _ _, _, _ => False
  | .box _, γ, b => g.blk γ = b
  | .row _ _, γ, b => hdBlk (g.hd γ) b
  | .mat _ rows, γ, b => hdBlk (g.hd γ) b ∨ ∃ i, i < rows.length ∧ hdBlk (g.ihd γ i) b

theorem lives_move {g g' : Gh} {γ : Nat} (hb : g'.blk γ = g.blk γ) (hh : g'.hd γ = g.hd γ) (hi : g'.ihd γ = g.ihd γ) (x : AObj) (b : Nat) : lives g' x γ b ↔ lives g x γ b := by
  cases x <;> simp only [lives, hb, hh, hi]
theorem dmapL_ment (γ : Nat) : ∀ l : List D, mentL γ (l.map .d) = false
  | [] => rfl
  | x :: l => by simp [mentL, AVal.ment, dmapL_ment γ l]
theorem rowSat_move {g g' : Gh} {w w' : World} (hM : MemLe g.M g'.M) {h : Value} {sz : Nat} {xs : List (List D)} (hheap : ∀ b, hdBlk h b → w'.heap[b]? = w.heap[b]?) (hr : rowSat g w h sz xs) : rowSat g' w' h sz xs := by
  refine ⟨hr.1, ?_⟩
  rcases hr.2 with h' | ⟨b, cap, vs, e, fr, h1, h2, h3, h4, h5, h6, h7⟩
  · exact .inl h'
  · refine .inr ⟨b, cap, vs, e, fr, h1, h2, h3, ?_, h5, h6, satL_mono hM _ _ (fun γ hm => by rw [dmapL_ment] at hm; simp at hm) h7⟩
    rw [hheap b ⟨_, _, _, h1, rfl⟩]; exact h4
/-- An object stays what it was where its blocks, its headers and what its cells say stay. -/
theorem objSat_move {g g' : Gh} {w w' : World} {γ : Nat} (hM : MemLe g.M g'.M) (hb : g'.blk γ = g.blk γ) (hh : g'.hd γ = g.hd γ) (hi : g'.ihd γ = g.ihd γ) {x : AObj}
    (hheap : ∀ b, lives g x γ b → w'.heap[b]? = w.heap[b]?) (hsat : ∀ cs us, x = .box cs → satL g cs us → satL g' cs us) (h : objSat g w γ x) : objSat g' w' γ x := by
  cases x with
  | dead => trivial
  | froz sz xs => simp only [objSat] at h ⊢; rw [hh]; exact D.rep_mono hM _ _ h
  | box cs =>
    obtain ⟨vs, e, fr, h1, h2, h3, h4⟩ := h
    refine ⟨vs, e, fr, ?_, h2, hsat cs _ rfl h3, h4⟩
    rw [hb, hheap _ rfl]; exact h1
  | row sz xs =>
    simp only [objSat] at h ⊢
    rw [hh]; exact rowSat_move hM (fun b hb' => hheap b hb') h
  | mat sz rows =>
    simp only [objSat, matSat] at h ⊢
    rw [hh, hi]
    refine ⟨?_, fun i r hr => rowSat_move hM (fun b hb' => hheap b (.inr ⟨i, (List.getElem?_eq_some_iff.1 hr).1, hb'⟩)) (h.2.1 i r hr), h.2.2⟩
    rcases h.1 with h' | ⟨b, cap, vs, e, fr, h1, h2, h3, h4, h5, h6, h7⟩
    · exact .inl h'
    · refine .inr ⟨b, cap, vs, e, fr, h1, h2, h3, ?_, h5, h6, h7⟩
      rw [hheap b (.inl ⟨_, _, _, h1, rfl⟩)]; exact h4

structure Env where
  W : World
  M : Mem
  A : Nat → Prop
  g0 : Gh

structure Inv (E : Env) (L : Nat → AObj) (g : Gh) (w : World) : Prop where
  obj : ∀ γ, objSat g w γ (L γ)
  inj : ∀ γ γ' b, lives g (L γ) γ b → lives g (L γ') γ' b → γ = γ'
  mem : ∀ a v, g.M a = some v → w.cell? a = some v
  sep : ∀ γ b, lives g (L γ) γ b → ∀ a v, g.M a = some v → a.block ≠ b
  new : ∀ γ b, lives g (L γ) γ b → E.W.heap.size ≤ b ∨ E.A b
  ext : MemLe E.M g.M
  lim : ∀ a v, g.M a = some v → (∃ v', E.M a = some v') ∨ E.W.heap.size ≤ a.block ∨ E.A a.block
  frame : ∀ b, b < E.W.heap.size → ¬ E.A b → w.heap[b]? = E.W.heap[b]?
  size : E.W.heap.size ≤ w.heap.size
  os : w.os = E.W.os
  out : w.output = E.W.output
  kp : ∀ γ, γ < 100 → E.g0.keeps g γ

def look {α : Type} (z : α) : List (Nat × α) → Nat → α
  | [], _ => z
  | (k, x) :: r, t => bif Nat.beq k t then x else look z r t

theorem look_same {α : Type} (z : α) (k : Nat) (x : α) (r : List (Nat × α)) : look z ((k, x) :: r) k = x := by simp [look]
theorem look_ne {α : Type} (z : α) {k t : Nat} (x : α) (r : List (Nat × α)) (h : k ≠ t) : look z ((k, x) :: r) t = look z r t := by
  have : Nat.beq k t = false := by
    cases hb : Nat.beq k t with
    | false => rfl
    | true => exact absurd (Nat.eq_of_beq_eq_true hb) h
  simp [look, this]

structure St where
  n : Nat
  τ : List (Nat × AVal)
  L : List (Nat × AObj)

def St.get (S : St) (t : Nat) : AVal := look .any S.τ t
def St.obj (S : St) (γ : Nat) : AObj := look .dead S.L γ

def holdsG (E : Env) (S : St) (g : Gh) (a : Act) (w : World) : Prop :=
  Inv E S.obj g w ∧ a.defers = [] ∧ a.tmps.size = S.n ∧ ∀ t, (S.get t).sat g (a.tmps.getD t undef)
def holds (E : Env) (S : St) (a : Act) (w : World) : Prop := ∃ g, holdsG E S g a w

def St.ev (S : St) : Operand → AVal
  | .tmp t => S.get t
  | .const v => bif v.oneCell' then .d (.v v) else .any
  | .global _ => .any
  | .func f => .fn f []

theorem sat_ev {E : Env} {S : St} {g : Gh} {a : Act} {w : World} (h : holdsG E S g a w) (x : Operand) : (S.ev x).sat g (a.eval x) := by
  cases x with
  | tmp t => exact h.2.2.2 t
  | const v =>
    show (bif v.oneCell' then AVal.d (.v v) else AVal.any).sat g v
    cases hv : v.oneCell' with
    | true => simp [AVal.sat, D.rep, hv]
    | false => simp [AVal.sat]
  | global g => simp only [St.ev, AVal.sat]
  | func f => exact ⟨#[], rfl, by simp [satL]⟩
end Go.Fw

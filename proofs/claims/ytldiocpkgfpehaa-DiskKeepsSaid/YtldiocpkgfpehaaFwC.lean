/- Third part: how the invariant goes through a change of one object; rules for code. -/
import Derived.Test.YtldiocpkgfpehaaFwB
import Derived.Scope
namespace Go.Fw
open Go
set_option linter.unusedVariables false

theorem Gh.keeps.trans' {g g' g'' : Gh} {γ : Nat} (h : g.keeps g' γ) (k : g'.keeps g'' γ) : g.keeps g'' γ := Gh.keeps_trans h k

theorem rowSat_lt {g : Gh} {w : World} {h : Value} {sz : Nat} {xs : List (List D)} (hr : rowSat g w h sz xs) {b : Nat} (hb : hdBlk h b) : b < w.heap.size := by
  obtain ⟨a, n, c, rfl, rfl⟩ := hb
  rcases hr.2 with ⟨e, _⟩ | ⟨b', cap, vs, e', fr, e, _, _, h4, _⟩
  · simp at e
  · cases e; exact (Array.getElem?_eq_some_iff.1 h4).1
theorem live_lt {E : Env} {L : Nat → AObj} {g : Gh} {w : World} (hi : Inv E L g w) {γ b : Nat} (h : lives g (L γ) γ b) : b < w.heap.size := by
  have ho := hi.obj γ
  cases hL : L γ with
  | dead => rw [hL] at h; exact h.elim
  | froz sz xs => rw [hL] at h; exact h.elim
  | box cs =>
    rw [hL] at h ho
    obtain ⟨vs, e, fr, h1, _⟩ := ho
    have h : g.blk γ = b := h
    rw [h] at h1
    exact (Array.getElem?_eq_some_iff.1 h1).1
  | row sz xs =>
    rw [hL] at h ho
    exact rowSat_lt ho h
  | mat sz rows =>
    rw [hL] at h ho
    obtain ⟨h1, h2, h3⟩ := ho
    rcases h with h | ⟨i, hi', hb⟩
    · rcases h1 with ⟨e, _⟩ | ⟨b', cap, vs, e', fr, e, _, _, h4, _⟩
      · obtain ⟨a, n, c, e', _⟩ := h; rw [e] at e'; simp at e'
      · obtain ⟨a, n, c, e'', rfl⟩ := h; rw [e] at e''; cases e''
        exact (Array.getElem?_eq_some_iff.1 h4).1
    · exact rowSat_lt (h2 i _ (List.getElem?_eq_getElem hi')) hb

/-- What one object's change leaves of all others. -/
theorem Inv.updX {E : Env} {L L' : Nat → AObj} {g g' : Gh} {w w' : World} (hi : Inv E L g w) (γ : Nat) (obj' : AObj)
    (hL : L' γ = obj') (hL' : ∀ k, k ≠ γ → L' k = L k)
    (hheap : ∀ b, b < w.heap.size → ¬ lives g (L γ) γ b → w'.heap[b]? = w.heap[b]?)
    (hsize : w.heap.size ≤ w'.heap.size) (hos : w'.os = w.os) (hout : w'.output = w.output)
    (hM : g'.M = g.M) (hk : ∀ k, k ≠ γ → g'.blk k = g.blk k ∧ g'.hd k = g.hd k ∧ g'.ihd k = g.ihd k)
    (hsat : ∀ k cs us, k ≠ γ → L k = .box cs → satL g cs us → satL g' cs us)
    (hobj : objSat g' w' γ obj')
    (hlive : ∀ b, lives g' obj' γ b → lives g (L γ) γ b ∨ w.heap.size ≤ b ∨ ((∀ k, k ≠ γ → ¬ lives g (L k) k b) ∧ (∀ a v, g.M a = some v → a.block ≠ b) ∧ (E.W.heap.size ≤ b ∨ E.A b))) (hkp : γ < 100 → g.keeps g' γ) : Inv E L' g' w' := by
  have hlv : ∀ k b, k ≠ γ → (lives g' (L' k) k b ↔ lives g (L k) k b) := by
    intro k b hkγ
    rw [hL' k hkγ]
    exact lives_move (hk k hkγ).1 (hk k hkγ).2.1 (hk k hkγ).2.2 _ _
  have hold : ∀ k b, k ≠ γ → lives g (L k) k b → w'.heap[b]? = w.heap[b]? := by
    intro k b hkγ hb
    refine hheap b (live_lt hi hb) fun h => hkγ (hi.inj _ _ _ hb h)
  refine ⟨fun k => ?_, fun k k' b h h' => ?_, fun a v h => ?_, fun k b h a v hm => ?_, fun k b h => ?_, hM ▸ hi.ext, hM ▸ hi.lim, fun b hb hA => ?_, Nat.le_trans hi.size hsize, hos.trans hi.os, hout.trans hi.out, fun k hk100 => ?_⟩
  · by_cases hkγ : k = γ
    · subst hkγ; rw [hL]; exact hobj
    · rw [hL' k hkγ]
      exact objSat_move (by rw [hM]; exact MemLe.refl _) (hk k hkγ).1 (hk k hkγ).2.1 (hk k hkγ).2.2 (fun b hb => hold k b hkγ hb) (fun cs us e h => hsat k cs us hkγ e h) (hi.obj k)
  · by_cases h1 : k = γ <;> by_cases h2 : k' = γ
    · rw [h1, h2]
    · subst h1
      rw [hL] at h; rw [hlv k' _ h2] at h'
      rcases hlive b h with h3 | h3 | h3
      · exact hi.inj _ _ _ h3 h'
      · have := live_lt hi h'; omega
      · exact (h3.1 k' h2 h').elim
    · subst h2
      rw [hL] at h'; rw [hlv k _ h1] at h
      rcases hlive b h' with h3 | h3 | h3
      · exact hi.inj _ _ _ h h3
      · have := live_lt hi h; omega
      · exact (h3.1 k h1 h).elim
    · rw [hlv k _ h1] at h; rw [hlv k' _ h2] at h'
      exact hi.inj _ _ _ h h'
  · rw [hM] at h
    have hc := hi.mem a v h
    have hlt := block_lt_of_cell hc
    have := hheap a.block hlt (fun hlv => hi.sep _ _ hlv a v h rfl)
    simp only [World.cell?] at hc ⊢
    rw [this]; exact hc
  · rw [hM] at hm
    by_cases h1 : k = γ
    · subst h1
      rw [hL] at h
      rcases hlive b h with h3 | h3 | h3
      · exact hi.sep _ _ h3 a v hm
      · have := block_lt_of_cell (hi.mem a v hm); omega
      · exact h3.2.1 a v hm
    · rw [hlv k _ h1] at h
      exact hi.sep _ _ h a v hm
  · by_cases h1 : k = γ
    · subst h1
      rw [hL] at h
      rcases hlive b h with h3 | h3 | h3
      · exact hi.new _ _ h3
      · have := hi.size; exact .inl (by omega)
      · exact h3.2.2
    · rw [hlv k _ h1] at h
      exact hi.new _ _ h
  · have := hi.size
    rw [hheap b (by omega) (fun hlv => (hi.new _ _ hlv).elim (fun h => by omega) hA)]
    exact hi.frame b hb hA
  · by_cases hkγ : k = γ
    · subst hkγ; exact (hi.kp k hk100).trans' (hkp hk100)
    · exact (hi.kp k hk100).trans' (Gh.keeps_of (hk k hkγ).1 (hk k hkγ).2.1 (hk k hkγ).2.2)

/-- What one object's change leaves of all others. -/
theorem Inv.upd {E : Env} {L L' : Nat → AObj} {g g' : Gh} {w w' : World} (hi : Inv E L g w) (γ : Nat) (obj' : AObj)
    (hL : L' γ = obj') (hL' : ∀ k, k ≠ γ → L' k = L k)
    (hheap : ∀ b, b < w.heap.size → ¬ lives g (L γ) γ b → w'.heap[b]? = w.heap[b]?)
    (hsize : w.heap.size ≤ w'.heap.size) (hos : w'.os = w.os) (hout : w'.output = w.output)
    (hM : g'.M = g.M) (hk : ∀ k, k ≠ γ → g'.blk k = g.blk k ∧ g'.hd k = g.hd k ∧ g'.ihd k = g.ihd k)
    (hsat : ∀ k cs us, k ≠ γ → L k = .box cs → satL g cs us → satL g' cs us)
    (hobj : objSat g' w' γ obj')
    (hlive : ∀ b, lives g' obj' γ b → lives g (L γ) γ b ∨ w.heap.size ≤ b) (hkp : γ < 100 → g.keeps g' γ) : Inv E L' g' w' :=
  Inv.updX hi γ obj' hL hL' hheap hsize hos hout hM hk hsat hobj (fun b h => (hlive b h).imp id .inl) hkp

/-! Rules for code. -/

structure AWP (P : Program) (E : Env) (c : Code) (S : St) (Q : Exit → St → Prop) : Prop where
  run : ∀ a w, holds E S a w → c.wp P (fun e a' w' => ∃ T, Q e T ∧ holds E T a' w') a w

def thenQ (next : St → Prop) (Q : Exit → St → Prop) : Exit → St → Prop
  | .normal, T => next T
  | e, T => Q e T
def blockQ (id : Nat) (Q : Exit → St → Prop) : Exit → St → Prop
  | .exit k, T => bif Nat.beq k id then Q .normal T else Q (.exit k) T
  | e, T => Q e T
def scopeQ (Q : Exit → St → Prop) : Exit → St → Prop
  | .goto _, _ => False
  | e, T => Q e T
/-- What holds where the body has ended. -/
def retQ (R : St → Prop) : Exit → St → Prop
  | .normal, T => R T
  | .ret, T => R T
  | _, _ => False

section
variable {P : Program} {E : Env} {S : St} {Q : Exit → St → Prop}

theorem awp_skip (h : Q .normal S) : AWP P E .skip S Q := ⟨fun a w hs => wp_skip ⟨S, h, hs⟩⟩
theorem awp_ret (h : Q .ret S) : AWP P E .ret S Q := ⟨fun a w hs => wp_ret ⟨S, h, hs⟩⟩
theorem awp_exit {id : Nat} (h : Q (.exit id) S) : AWP P E (.exit id) S Q := ⟨fun a w hs => wp_exit ⟨S, h, hs⟩⟩
theorem awp_seq {x y : Code} (h : AWP P E x S (thenQ (fun T => AWP P E y T Q) Q)) : AWP P E (.seq x y) S Q := by
  refine ⟨fun a w hs => ?_⟩
  refine wp_seq (wp_mono (h.run a w hs) ?_)
  rintro e a' w' ⟨T, hq, ht⟩
  cases e <;> first | exact hq.run a' w' ht | exact ⟨T, hq, ht⟩
theorem awp_block {id : Nat} {c : Code} (h : AWP P E c S (blockQ id Q)) : AWP P E (.block id c) S Q := by
  refine ⟨fun a w hs => ?_⟩
  refine wp_block (wp_mono (h.run a w hs) ?_)
  rintro e a' w' ⟨T, hq, ht⟩
  cases e with
  | exit k =>
    simp only [blockQ] at hq
    simp only [Exit.inBlock]
    by_cases hk : k = id
    · subst hk
      simp at hq
      simp; exact ⟨T, hq, ht⟩
    · have : Nat.beq k id = false := by
        cases hb : Nat.beq k id with
        | false => rfl
        | true => exact absurd (Nat.eq_of_beq_eq_true hb) hk
      rw [this] at hq
      rw [if_neg hk]
      exact ⟨T, hq, ht⟩
  | _ => exact ⟨T, hq, ht⟩
theorem awp_scope {c : Code} (h : AWP P E c S (scopeQ Q)) : AWP P E (.scope c) S Q := by
  refine ⟨fun a w hs => ?_⟩
  refine wp_scope_straight (wp_mono (h.run a w hs) ?_)
  rintro e a' w' ⟨T, hq, ht⟩
  cases e <;> first | exact hq.elim | exact ⟨T, hq, ht⟩
theorem awp_cond {c : Operand} {x y : Code} {b : Bool} (hc : S.ev c = .d (.v (.bool b))) (ht : b = true → AWP P E x S Q) (hf : b = false → AWP P E y S Q) :
    AWP P E (.cond c x y) S Q := by
  refine ⟨fun a w hs => ?_⟩
  obtain ⟨g, hg⟩ := hs
  have he := sat_ev hg c
  rw [hc] at he
  simp only [AVal.sat, D.rep] at he
  exact wp_cond_split he.1 (fun h => (ht h).run a w ⟨g, hg⟩) (fun h => (hf h).run a w ⟨g, hg⟩)
theorem awp_cond_t {c : Operand} {x y : Code} {b : Bool} (hc : S.ev c = .d (.v (.bool b))) (hb : b = true) (ht : AWP P E x S Q) : AWP P E (.cond c x y) S Q :=
  awp_cond hc (fun _ => ht) (fun h => by rw [hb] at h; cases h)
theorem awp_cond_f {c : Operand} {x y : Code} {b : Bool} (hc : S.ev c = .d (.v (.bool b))) (hb : b = false) (hf : AWP P E y S Q) : AWP P E (.cond c x y) S Q :=
  awp_cond hc (fun h => by rw [hb] at h; cases h) (fun _ => hf)
/-- A test whose outcome is not known, but what it tells. -/
theorem awp_cond_q {c : Operand} {x y : Code} {p q : Prop} (hc : S.ev c = .bq p q) (ht : p → AWP P E x S Q) (hf : q → AWP P E y S Q) :
    AWP P E (.cond c x y) S Q := by
  refine ⟨fun a w hs => ?_⟩
  obtain ⟨g, hg⟩ := hs
  have he := sat_ev hg c
  rw [hc] at he
  simp only [AVal.sat] at he
  obtain ⟨b, hb, hp, hq⟩ := he
  exact wp_cond_split hb (fun h => (ht (hp h)).run a w ⟨g, hg⟩) (fun h => (hf (hq h)).run a w ⟨g, hg⟩)
theorem awp_region {id : Nat} {ops : Array Oper} {draw : Bool} (hm : P.follows .mixedOrders = true)
    (h : Walk P ops draw (Q .normal) ops.toList [] S) : AWP P E (.region id ops draw) S Q :=
  ⟨fun a w hs => wp_walk (fun _ => hm) h (fun T hT a' w' h' => ⟨T, hT, h'⟩) hs⟩

def St.le (S T : St) : Prop := ∀ E a w, holds E S a w → holds E T a w
theorem St.le_refl (S : St) : S.le S := fun _ _ _ h => h
theorem St.le_trans {S T U : St} (h : S.le T) (k : T.le U) : S.le U := fun E a w x => k E a w (h E a w x)
theorem awp_le {c : Code} {T : St} (h : S.le T) (k : AWP P E c T Q) : AWP P E c S Q := ⟨fun a w hs => k.run a w (h E a w hs)⟩
theorem awp_mono {c : Code} {Q' : Exit → St → Prop} (h : AWP P E c S Q) (hq : ∀ e T, Q e T → Q' e T) : AWP P E c S Q' :=
  ⟨fun a w hs => wp_mono (h.run a w hs) fun e a' w' ⟨T, h1, h2⟩ => ⟨T, hq e T h1, h2⟩⟩

/-- Where ways meet again: what holds there, once. -/
theorem awp_cut {x y : Code} (U : St) (h : AWP P E x S (thenQ (fun T => T.le U) Q)) (k : AWP P E y U Q) : AWP P E (.seq x y) S Q := by
  refine awp_seq (awp_mono h ?_)
  intro e T hq
  cases e <;> first | exact awp_le hq k | exact hq
/-- A loop: its head's states, a family, and a number that falls. -/
theorem awp_loop {c : Code} {ι : Type} (st : ι → St) (m : ι → Nat) (i₀ : ι) (h₀ : S.le (st i₀))
    (hr : ∀ i, AWP P E c (st i) (thenQ (fun T => ∃ j, m j < m i ∧ T.le (st j)) Q)) : AWP P E (.loop c) S Q := by
  refine ⟨fun a w hs b k cs => ?_⟩
  have key : ∀ n i a w, m i = n → holds E (st i) a w →
      ∃ e a' w', (∃ T, Q e T ∧ holds E T a' w') ∧ Arrives P (lone (b.at a (.code c :: .inLoop c :: k)) cs w) b k cs e a' w' := by
    intro n
    induction n using Nat.strongRecOn with
    | _ n ih =>
      intro i a w hn hh
      obtain ⟨e, a₁, w₁, ⟨T, hq, ht⟩, harr⟩ := (hr i).run a w hh b (.inLoop c :: k) cs
      cases e with
      | normal =>
        obtain ⟨j, hj, hle⟩ := hq
        obtain ⟨e₂, a₂, w₂, hq₂, harr₂⟩ := ih (m j) (hn ▸ hj) j a₁ w₁ rfl (hle E a₁ w₁ ht)
        exact ⟨e₂, a₂, w₂, hq₂, .of_steps (Steps.trans harr (.one step_inLoop)) harr₂⟩
      | exit id => exact ⟨_, a₁, w₁, ⟨T, hq, ht⟩, .pass (x := .inLoop c) rfl (fun _ _ => .inl (by simp)) harr⟩
      | goto l => exact ⟨_, a₁, w₁, ⟨T, hq, ht⟩, .pass (x := .inLoop c) rfl (fun _ _ => .inl (by simp)) harr⟩
      | ret => exact ⟨_, a₁, w₁, ⟨T, hq, ht⟩, .pass (x := .inLoop c) rfl (fun _ _ => .inl (by simp)) harr⟩
      | panic ch => exact ⟨_, a₁, w₁, ⟨T, hq, ht⟩, .pass (x := .inLoop c) rfl (fun _ _ => .inl (by simp)) harr⟩
      | outgrown => exact ⟨_, a₁, w₁, ⟨T, hq, ht⟩, .pass (x := .inLoop c) rfl (fun _ _ => .inl (by simp)) harr⟩
  obtain ⟨e, a', w', hq, harr⟩ := key _ i₀ a w rfl (h₀ E a w hs)
  exact ⟨e, a', w', hq, .of_steps (.one step_loop) harr⟩
/-- The same, where something is known of the family's index. -/
theorem awp_loopI {c : Code} {ι : Type} (I : ι → Prop) (st : ι → St) (m : ι → Nat) (i₀ : ι) (hI : I i₀) (h₀ : S.le (st i₀))
    (hr : ∀ i, I i → AWP P E c (st i) (thenQ (fun T => ∃ j, I j ∧ m j < m i ∧ T.le (st j)) Q)) : AWP P E (.loop c) S Q := by
  refine awp_loop (ι := { i : ι // I i }) (fun i => st i.1) (fun i => m i.1) ⟨i₀, hI⟩ h₀ fun i => ?_
  refine awp_mono (hr i.1 i.2) fun e T hq => ?_
  cases e with
  | normal => obtain ⟨j, h1, h2, h3⟩ := hq; exact ⟨⟨j, h1⟩, h2, h3⟩
  | _ => exact hq
end
end Go.Fw

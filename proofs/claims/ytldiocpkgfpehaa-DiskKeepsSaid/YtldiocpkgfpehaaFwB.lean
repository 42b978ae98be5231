/- Second part: certificates of operations; a region whose order is open is walked in the order of the text. -/
import Derived.Test.YtldiocpkgfpehaaFwA
namespace Go.Fw
open Go
set_option linter.unusedVariables false

structure Cert where
  reads : List (Operand × AVal)
  dst : Option (Nat × AVal)
  lrd : List (Nat × AObj)
  lwr : List (Nat × AObj)
  new : List Nat

def St.set (S : St) (d : Nat) (y : AVal) : St := ⟨S.n, (d, y) :: S.τ, S.L⟩
def St.own (S : St) (γ : Nat) (o : AObj) : St := ⟨S.n, S.τ, (γ, o) :: S.L⟩
def St.cat (S : St) (Lo : List (Nat × AObj)) : St := ⟨S.n, S.τ, Lo ++ S.L⟩
def St.skip (S : St) (d : Option Nat) : St := ⟨S.n, (d.map fun t => (t, AVal.tup [])).toList ++ S.τ, S.L⟩

def freeT (γ : Nat) : List (Nat × AVal) → Bool
  | [] => true
  | p :: r => !p.2.ment γ && freeT γ r
def freeL (γ : Nat) : List (Nat × AObj) → Bool
  | [] => true
  | p :: r => !p.2.ment γ && freeL γ r
def St.free (S : St) (γ : Nat) : Bool := Nat.ble 100 γ && (freeT γ S.τ && freeL γ S.L)

theorem freeT_iff (γ : Nat) : ∀ l, freeT γ l = true ↔ ∀ p ∈ l, p.2.ment γ = false
  | [] => by simp [freeT]
  | p :: r => by simp [freeT, freeT_iff γ r]
theorem freeL_iff (γ : Nat) : ∀ l, freeL γ l = true ↔ ∀ p ∈ l, p.2.ment γ = false
  | [] => by simp [freeL]
  | p :: r => by simp [freeL, freeL_iff γ r]

def Cert.app (c : Cert) (S : St) : St := { n := S.n, τ := c.dst.toList ++ S.τ, L := c.lwr ++ S.L }
def readsOk (S : St) : List (Operand × AVal) → Prop
  | [] => True
  | p :: r => S.ev p.1 = p.2 ∧ readsOk S r
def lrdOk (S : St) : List (Nat × AObj) → Prop
  | [] => True
  | p :: r => S.obj p.1 = p.2 ∧ lrdOk S r
def newOk (S : St) : List Nat → Prop
  | [] => True
  | γ :: r => S.free γ = true ∧ newOk S r
def dstOk (S : St) : Option (Nat × AVal) → Prop
  | none => True
  | some p => Nat.blt p.1 S.n = true
def Cert.ok (c : Cert) (S : St) : Prop := readsOk S c.reads ∧ lrdOk S c.lrd ∧ newOk S c.new ∧ dstOk S c.dst

theorem readsOk_iff (S : St) : ∀ l, readsOk S l ↔ ∀ p ∈ l, S.ev p.1 = p.2
  | [] => by simp [readsOk]
  | p :: r => by simp [readsOk, readsOk_iff S r]
theorem lrdOk_iff (S : St) : ∀ l, lrdOk S l ↔ ∀ p ∈ l, S.obj p.1 = p.2
  | [] => by simp [lrdOk]
  | p :: r => by simp [lrdOk, lrdOk_iff S r]
theorem newOk_iff (S : St) : ∀ l, newOk S l ↔ ∀ γ ∈ l, S.free γ = true
  | [] => by simp [newOk]
  | p :: r => by simp [newOk, newOk_iff S r]

def hasKey {α : Type} (k : Nat) : List (Nat × α) → Bool
  | [] => false
  | p :: r => Nat.beq p.1 k || hasKey k r
theorem hasKey_iff {α : Type} (k : Nat) : ∀ l : List (Nat × α), hasKey k l = true ↔ ∃ p ∈ l, p.1 = k
  | [] => by simp [hasKey]
  | p :: r => by simp [hasKey, hasKey_iff k r]
def noKeys {α β : Type} (l : List (Nat × α)) : List (Nat × β) → Bool
  | [] => true
  | p :: r => !hasKey p.1 l && noKeys l r
theorem noKeys_iff {α β : Type} (l : List (Nat × α)) : ∀ m : List (Nat × β), noKeys l m = true ↔ ∀ p ∈ m, ∀ q ∈ l, q.1 ≠ p.1
  | [] => by simp [noKeys]
  | p :: r => by
    simp only [noKeys, Bool.and_eq_true, Bool.not_eq_true', noKeys_iff l r, List.mem_cons, forall_eq_or_imp]
    refine and_congr_left fun _ => ?_
    rw [← Bool.not_eq_true, hasKey_iff]
    exact ⟨fun h q hq e => h ⟨q, hq, e⟩, fun h ⟨q, hq, e⟩ => h q hq e⟩
theorem ne_of_beq {a b : Nat} (h : Nat.beq a b = false) : a ≠ b := by
  intro e; subst e; simp at h
def noRead (d : Nat) : List (Operand × AVal) → Bool
  | [] => true
  | (.tmp t, _) :: r => !Nat.beq t d && noRead d r
  | _ :: r => noRead d r
theorem noRead_iff (d : Nat) : ∀ l, noRead d l = true → ∀ p ∈ l, p.1 ≠ .tmp d
  | [], _, _, h => by simp at h
  | (x, _) :: r, h, q, hq => by
    have hr : noRead d r = true := by
      cases x <;> simp [noRead] at h <;> first | exact h.2 | exact h
    rcases List.mem_cons.1 hq with rfl | hq
    · cases x with
      | tmp t => simp only [noRead, Bool.and_eq_true, Bool.not_eq_true'] at h; intro e; cases e; exact ne_of_beq h.1 rfl
      | _ => simp
    · exact noRead_iff d r hr q hq
def dstApart (x : Option (Nat × AVal)) (c : Cert) : Bool :=
  match x with
  | none => true
  | some p => noRead p.1 c.reads && (match c.dst with | none => true | some q => !Nat.beq p.1 q.1)
def noMent (c : Cert) : List Nat → Bool
  | [] => true
  | γ :: r => (freeT γ c.dst.toList && freeL γ c.lwr) && noMent c r
theorem noMent_iff (c : Cert) : ∀ l, noMent c l = true ↔ ∀ γ ∈ l, freeT γ c.dst.toList = true ∧ freeL γ c.lwr = true
  | [] => by simp [noMent]
  | γ :: r => by simp [noMent, noMent_iff c r]

def indep (c d : Cert) : Bool :=
  dstApart c.dst d && dstApart d.dst c && noKeys c.lwr d.lrd && noKeys c.lwr d.lwr && noKeys d.lwr c.lrd && noMent d c.new && noMent c d.new

/-- Two states that say the same. -/
structure St.Eqv (S T : St) : Prop where
  n : S.n = T.n
  get : ∀ t, S.get t = T.get t
  obj : ∀ γ, S.obj γ = T.obj γ
  memT : ∀ p, p ∈ S.τ ↔ p ∈ T.τ
  memL : ∀ p, p ∈ S.L ↔ p ∈ T.L

theorem St.Eqv.refl (S : St) : S.Eqv S := ⟨rfl, fun _ => rfl, fun _ => rfl, fun _ => Iff.rfl, fun _ => Iff.rfl⟩
theorem St.Eqv.symm {S T : St} (h : S.Eqv T) : T.Eqv S := ⟨h.n.symm, fun t => (h.get t).symm, fun t => (h.obj t).symm, fun p => (h.memT p).symm, fun p => (h.memL p).symm⟩
theorem St.Eqv.trans {S T U : St} (h : S.Eqv T) (k : T.Eqv U) : S.Eqv U :=
  ⟨h.n.trans k.n, fun t => (h.get t).trans (k.get t), fun t => (h.obj t).trans (k.obj t), fun p => (h.memT p).trans (k.memT p), fun p => (h.memL p).trans (k.memL p)⟩
theorem St.Eqv.ev {S T : St} (h : S.Eqv T) (x : Operand) : S.ev x = T.ev x := by
  cases x <;> first | rfl | exact h.get _
theorem St.Eqv.free {S T : St} (h : S.Eqv T) (γ : Nat) : S.free γ = T.free γ := by
  rw [Bool.eq_iff_iff]
  simp only [St.free, Bool.and_eq_true, freeT_iff, freeL_iff]
  exact and_congr_right fun _ => and_congr ⟨fun k p hp => k p ((h.memT p).2 hp), fun k p hp => k p ((h.memT p).1 hp)⟩ ⟨fun k p hp => k p ((h.memL p).2 hp), fun k p hp => k p ((h.memL p).1 hp)⟩
theorem St.Eqv.holds {S T : St} (h : S.Eqv T) {E : Env} {a : Act} {w : World} (hs : holds E S a w) : holds E T a w := by
  obtain ⟨g, h1, h2, h3, h4⟩ := hs
  have : S.obj = T.obj := funext h.obj
  exact ⟨g, this ▸ h1, h2, h.n ▸ h3, fun t => by rw [← h.get]; exact h4 t⟩
theorem Cert.ok_eqv {c : Cert} {S T : St} (h : S.Eqv T) (hc : c.ok S) : c.ok T := by
  obtain ⟨h1, h2, h3, h4⟩ := hc
  rw [readsOk_iff] at h1; rw [lrdOk_iff] at h2; rw [newOk_iff] at h3
  refine ⟨(readsOk_iff _ _).2 fun p hp => (h.ev _).symm.trans (h1 p hp), (lrdOk_iff _ _).2 fun p hp => (h.obj _).symm.trans (h2 p hp), (newOk_iff _ _).2 fun γ hγ => (h.free γ).symm.trans (h3 γ hγ), ?_⟩
  cases hd : c.dst with
  | none => trivial
  | some p => rw [hd] at h4; simp only [dstOk] at h4 ⊢; rw [← h.n]; exact h4

theorem look_append {α : Type} (z : α) (l m : List (Nat × α)) (k : Nat) : look z (l ++ m) k = if hasKey k l then look z l k else look z m k := by
  induction l with
  | nil => simp [hasKey]
  | cons p r ih =>
    obtain ⟨j, x⟩ := p
    by_cases h : j = k
    · subst h; simp [look, hasKey]
    · have hb : Nat.beq j k = false := by
        cases hb : Nat.beq j k with
        | false => rfl
        | true => exact absurd (Nat.eq_of_beq_eq_true hb) h
      simp [look, hasKey, hb, ih]

theorem St.Eqv.app {S T : St} (h : S.Eqv T) (c : Cert) : (c.app S).Eqv (c.app T) := by
  refine ⟨h.n, fun t => ?_, fun γ => ?_, fun p => ?_, fun p => ?_⟩
  · show look _ _ _ = look _ _ _
    simp only [Cert.app, look_append]; split
    · rfl
    · exact h.get t
  · show look _ _ _ = look _ _ _
    simp only [Cert.app, look_append]; split
    · rfl
    · exact h.obj γ
  · simp only [Cert.app, List.mem_append, h.memT]
  · simp only [Cert.app, List.mem_append, h.memL]

theorem app_comm {c d : Cert} (hi : indep c d = true) (S : St) : (d.app (c.app S)).Eqv (c.app (d.app S)) := by
  simp only [indep, Bool.and_eq_true] at hi
  obtain ⟨⟨⟨⟨⟨⟨h1, h2⟩, h3⟩, h4⟩, h5⟩, h6⟩, h7⟩ := hi
  rw [noKeys_iff] at h4
  have hd : ∀ t, hasKey t c.dst.toList = true → hasKey t d.dst.toList = true → False := by
    intro t ht ht'
    rw [hasKey_iff] at ht ht'
    obtain ⟨p, hp, rfl⟩ := ht
    obtain ⟨q, hq, hqp⟩ := ht'
    cases hc : c.dst with
    | none => simp [hc] at hp
    | some p' =>
      cases hdd : d.dst with
      | none => simp [hdd] at hq
      | some q' =>
        simp only [hc, Option.toList_some, List.mem_singleton] at hp
        simp only [hdd, Option.toList_some, List.mem_singleton] at hq
        subst hp hq
        simp only [dstApart, Bool.and_eq_true, Bool.not_eq_true', hdd, hc] at h1
        have := h1.2
        rw [← hqp] at this
        simp at this
  refine ⟨rfl, fun t => ?_, fun γ => ?_, fun p => ?_, fun p => ?_⟩
  · show look _ _ _ = look _ _ _
    simp only [Cert.app, look_append]
    by_cases k1 : hasKey t d.dst.toList = true
    · by_cases k2 : hasKey t c.dst.toList = true
      · exact (hd t k2 k1).elim
      · simp [k1, k2]
    · by_cases k2 : hasKey t c.dst.toList = true <;> simp [k1, k2]
  · show look _ _ _ = look _ _ _
    simp only [Cert.app, look_append]
    by_cases k1 : hasKey γ d.lwr = true
    · by_cases k2 : hasKey γ c.lwr = true
      · rw [hasKey_iff] at k1 k2
        obtain ⟨p, hp, rfl⟩ := k1
        obtain ⟨q, hq, hqp⟩ := k2
        exact absurd hqp (h4 p hp q hq)
      · simp [k1, k2]
    · by_cases k2 : hasKey γ c.lwr = true <;> simp [k1, k2]
  · simp only [Cert.app, List.mem_append]; constructor <;> (rintro (h | h | h) <;> simp [h])
  · simp only [Cert.app, List.mem_append]; constructor <;> (rintro (h | h | h) <;> simp [h])

theorem ev_app {c : Cert} {S : St} {x : Operand} (h : ∀ p, c.dst = some p → x ≠ .tmp p.1) : (c.app S).ev x = S.ev x := by
  cases x with
  | tmp t =>
    show look _ _ _ = look _ _ _
    simp only [Cert.app, look_append]
    have : hasKey t c.dst.toList = false := by
      rw [← Bool.not_eq_true, hasKey_iff]
      rintro ⟨p, hp, rfl⟩
      exact h p (by simpa using hp) rfl
    simp [this]
  | _ => rfl
theorem obj_app {c : Cert} {S : St} {γ : Nat} (h : ∀ p ∈ c.lwr, p.1 ≠ γ) : (c.app S).obj γ = S.obj γ := by
  show look _ _ _ = look _ _ _
  simp only [Cert.app, look_append]
  have : hasKey γ c.lwr = false := by
    rw [← Bool.not_eq_true, hasKey_iff]
    rintro ⟨p, hp, e⟩
    exact h p hp e
  simp [this]

/-- Two certificates that do not meddle may change places. -/
theorem ok_swap {c d : Cert} (hi : indep c d = true) {S : St} (hc : c.ok S) (hd : d.ok (c.app S)) : d.ok S ∧ c.ok (d.app S) := by
  have hi' := hi
  simp only [indep, Bool.and_eq_true] at hi
  obtain ⟨⟨⟨⟨⟨⟨h1, h2⟩, h3⟩, h4⟩, h5⟩, h6⟩, h7⟩ := hi
  rw [noKeys_iff] at h3 h4 h5
  rw [noMent_iff] at h6 h7
  obtain ⟨c1, c2, c3, c4⟩ := hc
  obtain ⟨d1, d2, d3, d4⟩ := hd
  rw [readsOk_iff] at c1 d1; rw [lrdOk_iff] at c2 d2; rw [newOk_iff] at c3 d3
  refine ⟨⟨(readsOk_iff _ _).2 fun p hp => ?_, (lrdOk_iff _ _).2 fun p hp => ?_, (newOk_iff _ _).2 fun γ hγ => ?_, ?_⟩,
    (readsOk_iff _ _).2 fun p hp => ?_, (lrdOk_iff _ _).2 fun p hp => ?_, (newOk_iff _ _).2 fun γ hγ => ?_, ?_⟩
  · rw [← d1 p hp]
    refine (ev_app fun q hq => ?_).symm
    rw [hq] at h1
    simp only [dstApart, Bool.and_eq_true] at h1
    exact noRead_iff _ _ h1.1 p hp
  · rw [← d2 p hp]
    exact (obj_app fun q hq => h3 p hp q hq).symm
  · have := d3 γ hγ
    simp only [St.free, Cert.app, Bool.and_eq_true, freeT_iff, freeL_iff, List.mem_append] at this ⊢
    exact ⟨this.1, fun p hp => this.2.1 p (.inr hp), fun p hp => this.2.2 p (.inr hp)⟩
  · exact d4
  · rw [← c1 p hp]
    refine ev_app fun q hq => ?_
    rw [hq] at h2
    simp only [dstApart, Bool.and_eq_true] at h2
    exact noRead_iff _ _ h2.1 p hp
  · rw [← c2 p hp]
    exact obj_app fun q hq => h5 p hp q hq
  · have := c3 γ hγ
    have hm := h6 γ hγ
    simp only [St.free, Cert.app, Bool.and_eq_true, freeT_iff, freeL_iff, List.mem_append] at this hm ⊢
    exact ⟨this.1, fun p hp => hp.elim (hm.1 p) (this.2.1 p), fun p hp => hp.elim (hm.2 p) (this.2.2 p)⟩
  · exact c4

def Valid (P : Program) (ops : Array Oper) (o : Oper) (c : Cert) : Prop :=
  ∀ (E : Env) (S : St) (a : Act) (w : World), holds E S a w → c.ok S →
    ∀ (Q : Exit → Act → World → Prop) (K : Act → World → Prop), (∀ a' w', holds E (c.app S) a' w' → K a' w') →
      if Region.wanted o (yielded ops a.tmps) then o.wp P a w K Q else K (a.put o.dst undef) w

abbrev Line := List (Nat × Oper × Cert)

def Chain (P : Program) (ops : Array Oper) : Line → St → St → Prop
  | [], S, T => S.Eqv T
  | x :: r, S, T => Valid P ops x.2.1 x.2.2 ∧ x.2.2.ok S ∧ Chain P ops r (x.2.2.app S) T

theorem Chain.eqv {P : Program} {ops : Array Oper} : ∀ {l : Line} {S S' T : St}, S.Eqv S' → Chain P ops l S T → Chain P ops l S' T
  | [], _, _, _, h, hc => h.symm.trans hc
  | x :: r, _, _, _, h, hc => ⟨hc.1, Cert.ok_eqv h hc.2.1, Chain.eqv (h.app _) hc.2.2⟩

theorem Chain.front {P : Program} {ops : Array Oper} {k : Nat × Oper × Cert} {l₂ : Line} {T : St} : ∀ {l₁ : Line} {S : St},
    (∀ x ∈ l₁, indep x.2.2 k.2.2 = true) → Chain P ops (l₁ ++ k :: l₂) S T → Chain P ops (k :: (l₁ ++ l₂)) S T
  | [], _, _, h => h
  | x :: l₁, S, hi, h => by
    obtain ⟨hx, hxo, hr⟩ := h
    have hr' := Chain.front (l₁ := l₁) (fun y hy => hi y (by simp [hy])) hr
    obtain ⟨hk, hko, hrest⟩ := hr'
    have hsw := ok_swap (hi x (by simp)) hxo hko
    exact ⟨hk, hsw.1, hx, hsw.2, Chain.eqv (app_comm (hi x (by simp)) S) hrest⟩

/-- Is the operation 'x' sure to be done before 'i'? -/
def reach (ops : Array Oper) : Nat → Nat → Nat → Bool
  | 0, _, _ => false
  | n + 1, i, x => ((ops[i]?).map fun o => o.after.toList.any fun e => Region.binds .any e && (Nat.beq e.on x || reach ops n e.on x)).getD false

def pairsOk (ops : Array Oper) (k : Nat × Oper × Cert) : Line → Bool
  | [] => true
  | x :: r => (indep x.2.2 k.2.2 || reach ops ops.size k.1 x.1) && pairsOk ops k r
def edgesOk (k : Nat × Oper × Cert) : Bool := k.2.1.after.toList.all fun e => !Region.binds .any e || Nat.blt e.on k.1
/-- The line backwards: each against all before it. -/
def orderOk (ops : Array Oper) : Line → Bool
  | [] => true
  | k :: r => pairsOk ops k r && edgesOk k && orderOk ops r

theorem pairsOk_iff (ops : Array Oper) (k : Nat × Oper × Cert) : ∀ l, pairsOk ops k l = true ↔ ∀ x ∈ l, indep x.2.2 k.2.2 = true ∨ reach ops ops.size k.1 x.1 = true
  | [] => by simp [pairsOk]
  | x :: r => by simp [pairsOk, pairsOk_iff ops k r]

theorem reach_listed {ops : Array Oper} {listed : Array Bool}
    (hcl : ∀ j o, ops[j]? = some o → listed.getD j false = true → ∀ e ∈ o.after, Region.binds .any e = true → listed.getD e.on false = true) :
    ∀ (n i x : Nat) (o : Oper), ops[i]? = some o → (∀ e ∈ o.after, Region.binds .any e = true → listed.getD e.on false = true) → reach ops n i x = true → listed.getD x false = true
  | 0, _, _, _, _, _, h => by simp [reach] at h
  | n + 1, i, x, o, ho, he, h => by
    simp only [reach, ho, Option.map_some, Option.getD_some, List.any_eq_true, Bool.and_eq_true, Bool.or_eq_true] at h
    obtain ⟨e, hm, hb, hx⟩ := h
    have hl := he e (by simpa using hm) hb
    rcases hx with hx | hx
    · rw [← Nat.eq_of_beq_eq_true hx]; exact hl
    · cases ho' : ops[e.on]? with
      | none => cases n <;> simp [reach, ho'] at hx
      | some o' => exact reach_listed hcl n e.on x o' ho' (fun e' h1 h2 => hcl _ _ ho' hl e' h1 h2) hx

/-- The operations that are still to come, in the order of the text. -/
structure Rest (ops : Array Oper) (l : Line) (listed : Array Bool) : Prop where
  at_ : ∀ x ∈ l, ops[x.1]? = some x.2.1
  inc : l.Pairwise fun x y => x.1 < y.1
  all : ∀ i, listed.getD i true = false ↔ ∃ x ∈ l, x.1 = i
  closed : ∀ j o, ops[j]? = some o → listed.getD j false = true → ∀ e ∈ o.after, Region.binds .any e = true → listed.getD e.on false = true
  size : listed.size = ops.size
  pairs : ∀ x ∈ l, ∀ y ∈ l, x.1 < y.1 → indep x.2.2 y.2.2 = true ∨ reach ops ops.size y.1 x.1 = true
  edges : ∀ x ∈ l, ∀ e ∈ x.2.1.after, Region.binds .any e = true → e.on < x.1

theorem any_of_chain {P : Program} {ops : Array Oper} {Q : Exit → Act → World → Prop} {E : Env} {T : St} (hQ : ∀ a w, holds E T a w → Q .normal a w) :
    ∀ (fuel : Nat) (l : Line) (listed : Array Bool) (S : St) (a : Act) (w : World), l.length = fuel → Rest ops l listed → Chain P ops l S T → holds E S a w →
      wpAny P .any ops Q fuel listed a w := by
  intro fuel
  induction fuel with
  | zero =>
    intro l listed S a w hl hr hc hs
    have hl' : l = [] := by cases l with | nil => rfl | cons => simp at hl
    subst hl'
    refine ⟨?_, hQ _ _ (St.Eqv.holds hc hs)⟩
    rw [List.eq_nil_iff_forall_not_mem]
    intro i hi
    rw [mem_ready] at hi
    obtain ⟨x, hx, _⟩ := (hr.all i).1 hi.1
    simp at hx
  | succ fuel ih =>
    intro l listed S a w hl hr hc hs
    refine ⟨fun hnil => ?_, fun i hi => ?_⟩
    · exfalso
      cases l with
      | nil => simp at hl
      | cons x r =>
        have hx : x.1 ∈ Region.ready .any ops listed := by
          rw [mem_ready]
          refine ⟨(hr.all x.1).2 ⟨x, by simp, rfl⟩, x.2.1, hr.at_ x (by simp), fun e he hb => ?_⟩
          have hlt := hr.edges x (by simp) e he hb
          cases hle : listed.getD e.on true with
          | false =>
            obtain ⟨y, hy, hye⟩ := (hr.all e.on).1 hle
            rcases List.mem_cons.1 hy with rfl | hy
            · omega
            · have := (List.pairwise_cons.1 hr.inc).1 y hy; omega
          | true =>
            have hi : e.on < ops.size := by
              have := hr.at_ x (by simp)
              have := (Array.getElem?_eq_some_iff.1 this).1
              omega
            have hi' : e.on < listed.size := by rw [hr.size]; exact hi
            simpa [hi'] using hle
        rw [hnil] at hx; simp at hx
    · rw [mem_ready] at hi
      obtain ⟨hi0, o, ho, hall⟩ := hi
      obtain ⟨k, hk, rfl⟩ := (hr.all _).1 hi0
      have hko := hr.at_ k hk
      rw [ho] at hko; cases hko
      obtain ⟨l₁, l₂, rfl⟩ := List.append_of_mem hk
      have hinc := hr.inc
      rw [List.pairwise_append] at hinc
      have hlt : ∀ x ∈ l₁, x.1 < k.1 := fun x hx => hinc.2.2 x hx k (by simp)
      have hind : ∀ x ∈ l₁, indep x.2.2 k.2.2 = true := by
        intro x hx
        rcases hr.pairs x (by simp [hx]) k (by simp) (hlt x hx) with h | h
        · exact h
        · have h1 := reach_listed hr.closed _ _ _ _ ho hall h
          have h2 := (hr.all x.1).2 ⟨x, by simp [hx], rfl⟩
          exfalso
          have hi : x.1 < listed.size := by
            rw [hr.size]; exact (Array.getElem?_eq_some_iff.1 (hr.at_ x (by simp [hx]))).1
          simp [hi] at h1 h2
          rw [h1] at h2; simp at h2
      obtain ⟨hv, hok, hrest⟩ := Chain.front hind hc
      have hksz : k.1 < listed.size := by rw [hr.size]; exact (Array.getElem?_eq_some_iff.1 ho).1
      have hrl : Rest ops (l₁ ++ l₂) (listed.setIfInBounds k.1 true) := by
        refine ⟨fun x hx => hr.at_ x (by simp at hx ⊢; rcases hx with h | h <;> simp [h]), ?_, fun i => ?_, fun j o' hj hl' e he hb => ?_, by simp [hr.size], ?_, ?_⟩
        · rw [List.pairwise_append]
          exact ⟨hinc.1, (List.pairwise_cons.1 hinc.2.1).2, fun x hx y hy => hinc.2.2 x hx y (by simp [hy])⟩
        · by_cases hik : i = k.1
          · subst hik
            constructor
            · intro h; simp [hksz] at h
            · rintro ⟨x, hx, hxk⟩
              exfalso
              rcases List.mem_append.1 hx with h | h
              · have := hlt x h; omega
              · have := (List.pairwise_cons.1 hinc.2.1).1 x h; omega
          · rw [getD_set_ne true (Ne.symm hik), hr.all]
            constructor
            · rintro ⟨x, hx, rfl⟩
              refine ⟨x, ?_, rfl⟩
              simp at hx ⊢
              rcases hx with h | h | h
              · exact .inl h
              · subst h; exact absurd rfl hik
              · exact .inr h
            · rintro ⟨x, hx, rfl⟩
              refine ⟨x, ?_, rfl⟩
              simp at hx ⊢
              rcases hx with h | h <;> simp [h]
        · by_cases hjk : j = k.1
          · subst hjk
            rw [ho] at hj; cases hj
            exact getD_set_true (hall e he hb)
          · rw [getD_set_ne false (Ne.symm hjk)] at hl'
            exact getD_set_true (hr.closed j o' hj hl' e he hb)
        · intro x hx y hy hxy
          refine hr.pairs x ?_ y ?_ hxy
          · simp at hx ⊢; rcases hx with h | h <;> simp [h]
          · simp at hy ⊢; rcases hy with h | h <;> simp [h]
        · intro x hx
          exact hr.edges x (by simp at hx ⊢; rcases hx with h | h <;> simp [h])
      have hlen : (l₁ ++ l₂).length = fuel := by simp at hl ⊢; omega
      unfold wpOp
      simp only [ho]
      have hvk := hv E S a w hs hok Q (wpAny P .any ops Q fuel (listed.setIfInBounds k.1 true)) (fun a' w' h' => ih _ _ _ _ _ hlen hrl hrest h')
      split
      · rename_i hw; rw [if_pos hw] at hvk; exact .inl hvk
      · rename_i hw; rw [if_neg hw] at hvk; exact hvk

theorem ops_of_chain {P : Program} {ops : Array Oper} {Q : Exit → Act → World → Prop} {E : Env} {T : St} (hQ : ∀ a w, holds E T a w → Q .normal a w) :
    ∀ (l : Line) (S : St) (a : Act) (w : World), (∀ x ∈ l, ops[x.1]? = some x.2.1) → Chain P ops l S T → holds E S a w → wpOps P ops Q (l.map (·.1)) a w
  | [], S, a, w, _, hc, hs => hQ _ _ (St.Eqv.holds hc hs)
  | x :: r, S, a, w, ha, hc, hs => by
    obtain ⟨hv, hok, hr⟩ := hc
    rw [List.map_cons, wpOps_cons]
    unfold wpOp
    simp only [ha x (by simp)]
    have hvk := hv E S a w hs hok Q (wpOps P ops Q (r.map (·.1))) (fun a' w' h' => ops_of_chain hQ r _ _ _ (fun y hy => ha y (by simp [hy])) hr h')
    split
    · rename_i hw; rw [if_pos hw] at hvk; exact .inl hvk
    · rename_i hw; rw [if_neg hw] at hvk; exact hvk

/-- A region's walk, in the order of the text; 'done' backwards. -/
inductive Walk (P : Program) (ops : Array Oper) (draw : Bool) (K : St → Prop) : List Oper → Line → St → Prop
  | done {l : Line} {S : St} : (draw = true → orderOk ops l = true) → K S → Walk P ops draw K [] l S
  | step {o : Oper} {rest : List Oper} {l : Line} {S : St} (c : Cert) : Valid P ops o c → c.ok S →
      Walk P ops draw K rest ((l.length, o, c) :: l) (c.app S) → Walk P ops draw K (o :: rest) l S

theorem Walk.chain {P : Program} {ops : Array Oper} {draw : Bool} {K : St → Prop} {rest : List Oper} {l : Line} {S : St} (h : Walk P ops draw K rest l S) :
    ∃ (m : Line) (T : St), (draw = true → orderOk ops (m.reverse ++ l) = true) ∧ K T ∧ Chain P ops m S T ∧ m.map (·.2.1) = rest ∧ m.map (·.1) = List.range' l.length m.length := by
  induction h with
  | done hok hK => exact ⟨[], _, by simpa using hok, hK, St.Eqv.refl _, rfl, rfl⟩
  | step c hv hok _ ih =>
    rename_i o rest l S _
    obtain ⟨m, T, h1, h2, h3, h4, h5⟩ := ih
    refine ⟨(l.length, o, c) :: m, T, fun hd => ?_, h2, ⟨hv, hok, h3⟩, by simp [h4], ?_⟩
    · have := h1 hd
      simpa using this
    · simp [h5, List.range'_succ]

theorem orderOk_spec {ops : Array Oper} : ∀ (l : Line), orderOk ops l = true → (l.Pairwise fun y x => indep x.2.2 y.2.2 = true ∨ reach ops ops.size y.1 x.1 = true) ∧ ∀ x ∈ l, edgesOk x = true
  | [], _ => by simp
  | k :: r, h => by
    simp only [orderOk, Bool.and_eq_true, pairsOk_iff] at h
    obtain ⟨⟨h1, h2⟩, h3⟩ := h
    have ih := orderOk_spec r h3
    exact ⟨List.pairwise_cons.2 ⟨fun x hx => h1 x hx, ih.1⟩, fun x hx => (List.mem_cons.1 hx).elim (fun e => e ▸ h2) (ih.2 x)⟩

theorem holds_drew {E : Env} {S : St} {a : Act} {w : World} (h : holds E S a w) : holds E S a { w with drawn := w.drawn + 1 } := by
  obtain ⟨g, hi, h2⟩ := h
  exact ⟨g, ⟨fun γ => by
    have := hi.obj γ
    revert this
    cases S.obj γ <;> exact id, hi.inj, hi.mem, hi.sep, hi.new, hi.ext, hi.lim, hi.frame, hi.size, hi.os, hi.out, hi.kp⟩, h2⟩

theorem wp_walk {P : Program} {id : Nat} {ops : Array Oper} {draw : Bool} {K : St → Prop} {Q : Exit → Act → World → Prop} {E : Env} {S : St}
    (hm : draw = true → P.follows .mixedOrders = true)
    (h : Walk P ops draw K ops.toList [] S) (hQ : ∀ T, K T → ∀ a w, holds E T a w → Q .normal a w) {a : Act} {w : World} (hs : holds E S a w) :
    (Code.region id ops draw).wp P Q a w := by
  obtain ⟨m, T, h1, h2, h3, h4, h5⟩ := h.chain
  have hlen : m.length = ops.size := by have := congrArg List.length h4; simpa using this
  have hat : ∀ x ∈ m, ops[x.1]? = some x.2.1 := by
    intro x hx
    obtain ⟨i, hi, rfl⟩ := List.getElem_of_mem hx
    have e1 : (m[i]).1 = i := by
      have := congrArg (fun l => l[i]?) h5
      simpa [hi] using this
    have e2 := congrArg (fun l => l[i]?) h4
    simp [hi] at e2
    rw [e1]; simpa using e2.symm
  cases draw with
  | false =>
    refine wp_region ?_
    have := ops_of_chain (P := P) (Q := Q) (hQ T h2) m S a w hat h3 hs
    rwa [h5, hlen, List.length_nil, ← List.range_eq_range'] at this
  | true =>
    refine wp_region_any (hm rfl) ?_
    have hord := orderOk_spec _ (h1 rfl)
    simp only [List.append_nil] at hord
    refine any_of_chain (hQ T h2) ops.size m _ S a _ hlen ?_ h3 (holds_drew hs)
    have hinc : m.Pairwise fun x y => x.1 < y.1 := by
      have : (m.map (·.1)).Pairwise (· < ·) := by rw [h5]; exact List.pairwise_lt_range'
      exact List.pairwise_map.1 this
    refine ⟨hat, hinc, fun i => ?_, fun j o hj hl => ?_, by simp, ?_, ?_⟩
    · constructor
      · intro hi
        have hlt : i < ops.size := by
          rcases Nat.lt_or_ge i ops.size with h | h
          · exact h
          · simp [Nat.not_lt.2 h] at hi
        have : i ∈ m.map (·.1) := by rw [h5]; simp [hlen, hlt]
        simpa using this
      · rintro ⟨x, hx, rfl⟩
        have := (Array.getElem?_eq_some_iff.1 (hat x hx)).1
        simp [this]
    · exfalso
      have := (Array.getElem?_eq_some_iff.1 hj).1
      simp [this] at hl
    · intro x hx y hy hxy
      have hp := List.pairwise_reverse.1 hord.1
      obtain ⟨i, hi, rfl⟩ := List.getElem_of_mem hx
      obtain ⟨j, hj, rfl⟩ := List.getElem_of_mem hy
      have e : ∀ (k : Nat) (hk : k < m.length), (m[k]).1 = k := by
        intro k hk
        have := congrArg (fun l => l[k]?) h5
        simpa [hk] using this
      rw [e, e] at hxy
      exact (List.pairwise_iff_getElem.1 hp) i j hi hj hxy
    · intro x hx e he hb
      have := hord.2 x (by simpa using hx)
      simp only [edgesOk, List.all_eq_true] at this
      have := this e (by simpa using he)
      simp [hb] at this
      simpa using this
end Go.Fw

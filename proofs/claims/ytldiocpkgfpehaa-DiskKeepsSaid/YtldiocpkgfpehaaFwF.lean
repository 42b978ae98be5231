/- Sixth part: slices: literals, append, make, index, slice expressions, len; letting go of what is owned. -/
import Derived.Test.YtldiocpkgfpehaaFwE
namespace Go.Fw
open Go
set_option linter.unusedVariables false
set_option linter.unusedSimpArgs false

theorem dmap_ment (γ : Nat) : ∀ l : List D, mentL γ (l.map .d) = false
  | [] => rfl
  | x :: l => by simp [mentL, AVal.ment, dmap_ment γ l]
theorem dmap_sat {g : Gh} : ∀ {ds : List D} {vs : List Value}, satL g (ds.map .d) vs → vs.length = ds.length ∧ ∀ (i : Nat) (d : D), ds[i]? = some d → ∃ u, vs[i]? = some u ∧ d.rep g.M u := by
  intro ds vs h
  refine ⟨by simpa using satL_length h, fun i d hd => ?_⟩
  obtain ⟨u, h1, h2⟩ := satL_get h i (.d d) (by simp [hd])
  exact ⟨u, h1, by simpa only [AVal.sat] using h2⟩

theorem rows_of_flat {M : Mem} {sz b : Nat} : ∀ (xs : List (List D)) (o : Nat), (∀ x ∈ xs, x.length = sz) →
    (∀ (i : Nat) (d : D), xs.flatten[i]? = some d → ∃ u, M ⟨b, o + i, none⟩ = some u ∧ d.rep M u) → repRows M sz xs b o
  | [], _, _, _ => by simp only [repRows]
  | r :: rs, o, hl, h => by
    have hr := hl r (by simp)
    simp only [repRows]
    refine ⟨hr, repCells_of _ _ _ fun i d hd => ?_, rows_of_flat rs (o + sz) (fun x hx => hl x (by simp [hx])) fun i d hd => ?_⟩
    · refine h i d ?_
      have hi : i < r.length := (List.getElem?_eq_some_iff.1 hd).1
      simp [List.getElem?_append, hi]; simpa [hi] using hd
    · have := h (sz + i) d (by simp [List.getElem?_append, ← hr]; exact hd)
      rwa [show o + (sz + i) = o + sz + i by omega] at this

theorem flat_length {sz : Nat} : ∀ (xs : List (List D)), (∀ x ∈ xs, x.length = sz) → xs.flatten.length = xs.length * sz
  | [], _ => by simp
  | r :: rs, h => by
    have := flat_length rs (fun x hx => h x (by simp [hx]))
    simp [this, h r (by simp), Nat.add_mul]; omega

/-- The cells of a slice of data, as they lie in memory. -/
theorem sl_cells {M : Mem} {w : World} (hm : ∀ a v, M a = some v → w.cell? a = some v) {sz : Nat} : ∀ (xs : List (List D)) (b o : Nat), repRows M sz xs b o →
    ∃ vs : List Value, vs.length = xs.length * sz ∧ (∀ (j : Nat) (v : Value), vs[j]? = some v → w.cell? ⟨b, o + j, none⟩ = some v) ∧
      (∀ (j : Nat) (d : D) (v : Value), xs.flatten[j]? = some d → vs[j]? = some v → d.rep M v) := by
  intro xs b o h
  have hl : ∀ x ∈ xs, x.length = sz := fun x hx => by
    obtain ⟨i, hi⟩ := List.getElem?_of_mem hx
    exact (repRows_get xs b o i x h hi).1
  have hcells : repCells M xs.flatten b o := by
    clear hl
    induction xs generalizing o with
    | nil => simp [repCells]
    | cons r rs ih =>
      simp only [repRows] at h
      simp only [List.flatten_cons]
      exact repCells_append h.2.1 (by rw [h.1]; exact ih _ h.2.2)
  obtain ⟨vs, k1, k2, k3⟩ := rep_values hm _ _ _ hcells
  exact ⟨vs, by rw [k1, flat_length xs hl], k2, k3⟩

/-- A new block of data, at once immutable. -/
def Gh.lay (g : Gh) (b : Nat) (vs : Array Value) : Gh :=
  { blk := g.blk, hd := g.hd, ihd := g.ihd, M := fun p => if p.block = b ∧ p.spot = none then vs[p.off]? else g.M p }

theorem lay_le {E : Env} {L : Nat → AObj} {g : Gh} {w : World} (hi : Inv E L g w) (vs : Array Value) : MemLe g.M (g.lay w.heap.size vs).M := by
  intro p v h
  have := block_lt_of_cell (hi.mem p v h)
  show (if _ then _ else _) = _
  rw [if_neg (by omega)]; exact h

theorem sat_lay {g g' : Gh} (hM : MemLe g.M g'.M) (hb : g'.blk = g.blk) (hh : g'.hd = g.hd) (hih : g'.ihd = g.ihd) {x : AVal} {u : Value} (h : x.sat g u) : x.sat g' u :=
  AVal.sat_mono hM x u (fun k _ => Gh.keeps_of (by rw [hb]) (by rw [hh]) (by rw [hih])) h
theorem satL_lay {g g' : Gh} (hM : MemLe g.M g'.M) (hb : g'.blk = g.blk) (hh : g'.hd = g.hd) (hih : g'.ihd = g.ihd) {xs : List AVal} {us : List Value} (h : satL g xs us) : satL g' xs us :=
  satL_mono hM xs us (fun k _ => Gh.keeps_of (by rw [hb]) (by rw [hh]) (by rw [hih])) h

theorem objSat_lay {g g' : Gh} (hM : MemLe g.M g'.M) (hb : g'.blk = g.blk) (hh : g'.hd = g.hd) (hih : g'.ihd = g.ihd) {w w' : World} {γ : Nat} {x : AObj} (hheap : ∀ b, lives g x γ b → w'.heap[b]? = w.heap[b]?)
    (h : objSat g w γ x) : objSat g' w' γ x :=
  objSat_move hM (by rw [hb]) (by rw [hh]) (by rw [hih]) hheap (fun cs us _ h => satL_lay hM hb hh hih h) h

theorem inv_lay {E : Env} {L : Nat → AObj} {g : Gh} {w : World} (hi : Inv E L g w) (vs : Array Value) (e : TypeId) (fr : Nat × Nat) :
    Inv E L (g.lay w.heap.size vs) (w.alloc (.cells vs e fr)) := by
  have hle := lay_le hi vs
  refine ⟨fun γ => objSat_lay (g' := g.lay w.heap.size vs) hle rfl rfl rfl (fun b hb => world_push w _ b (live_lt hi hb)) (hi.obj γ), fun γ γ' b h h' => ?_, fun a v h => ?_, fun γ b h a v ha => ?_, fun γ b h => ?_, hi.ext.trans hle, fun a v h => ?_, fun b hb hA => ?_, ?_, hi.os, hi.out, fun k hk => (hi.kp k hk).trans' (Gh.keeps_of rfl rfl rfl)⟩
  · rw [lives_move (g := g) (g' := g.lay w.heap.size vs) rfl rfl rfl] at h h'
    exact hi.inj γ γ' b h h'
  · have h' : (if a.block = w.heap.size ∧ a.spot = none then vs[a.off]? else g.M a) = some v := h
    split at h'
    · rename_i hc
      obtain ⟨b, o, s⟩ := a
      simp only at hc
      obtain ⟨rfl, rfl⟩ := hc
      rw [cell_of_row _ _ _ vs e fr (heap_alloc_new w _)]; exact h'
    · have hc := hi.mem a v h'
      simp only [World.cell?] at hc ⊢
      rw [world_push w _ _ (block_lt_of_cell (hi.mem a v h'))]; exact hc
  · rw [lives_move (g := g) (g' := g.lay w.heap.size vs) rfl rfl rfl] at h
    have h' : (if a.block = w.heap.size ∧ a.spot = none then vs[a.off]? else g.M a) = some v := ha
    split at h'
    · rename_i hc; have := live_lt hi h; omega
    · exact hi.sep γ b h a v h'
  · rw [lives_move (g := g) (g' := g.lay w.heap.size vs) rfl rfl rfl] at h
    exact hi.new γ b h
  · have h' : (if a.block = w.heap.size ∧ a.spot = none then vs[a.off]? else g.M a) = some v := h
    split at h'
    · rename_i hc; have := hi.size; exact .inr (.inl (by omega))
    · exact hi.lim a v h'
  · have := hi.size
    rw [world_push w _ b (by omega)]; exact hi.frame b hb hA
  · have := hi.size; simp; omega

theorem inv_drew {E : Env} {L : Nat → AObj} {g : Gh} {w : World} (hi : Inv E L g w) : Inv E L g w.drew :=
  ⟨fun γ => by
    have := hi.obj γ
    revert this
    cases L γ <;> exact id, hi.inj, hi.mem, hi.sep, hi.new, hi.ext, hi.lim, hi.frame, hi.size, hi.os, hi.out, hi.kp⟩

/-- Rows read off flat cells. -/
def unDs : List AVal → Option (List D)
  | [] => some []
  | .d x :: r => (match unDs r with | some y => some (x :: y) | none => none)
  | _ => none
def toRows (sz : Nat) : Nat → List AVal → Option (List (List D))
  | 0, [] => some []
  | n + 1, l => (match unDs (l.take sz), toRows sz n (l.drop sz) with | some r, some q => bif Nat.beq r.length sz then some (r :: q) else none | _, _ => none)
  | 0, _ :: _ => none
theorem unDs_spec : ∀ {l : List AVal} {r : List D}, unDs l = some r → r.map .d = l
  | [], r, h => by simp [unDs] at h; subst h; rfl
  | x :: l, r, h => by
    cases x <;> simp only [unDs] at h <;> try (simp at h; done)
    rename_i y
    cases hu : unDs l with
    | none => simp [hu] at h
    | some q => simp [hu] at h; subst h; simp [unDs_spec hu]
theorem toRows_spec {sz : Nat} : ∀ {n : Nat} {l : List AVal} {xs : List (List D)}, toRows sz n l = some xs → xs.flatten.map .d = l ∧ xs.length = n ∧ ∀ x ∈ xs, x.length = sz
  | 0, [], xs, h => by simp [toRows] at h; subst h; simp
  | 0, _ :: _, xs, h => by simp [toRows] at h
  | n + 1, l, xs, h => by
    simp only [toRows] at h
    cases hu : unDs (l.take sz) with
    | none => simp [hu] at h
    | some r =>
      cases hq : toRows sz n (l.drop sz) with
      | none => simp [hu, hq] at h
      | some q =>
        rw [hu, hq] at h
        simp only at h
        cases hb : Nat.beq r.length sz with
        | false => simp [hb] at h
        | true =>
          simp [hb] at h
          subst h
          obtain ⟨k1, k2, k3⟩ := toRows_spec hq
          refine ⟨?_, by simp [k2], ?_⟩
          · simp only [List.flatten_cons, List.map_append, unDs_spec hu, k1, List.take_append_drop]
          · intro x hx
            rcases List.mem_cons.1 hx with rfl | hx
            · simpa using hb
            · exact k3 x hx

/-- The element type of a slice type: its cells, bytes, zero. -/
def elIs (P : Program) (t : TypeId) (sz bytes : Nat) : Bool :=
  match P.underlying t with
  | some (.slice e) => (match P.info? e with | some i => Nat.beq i.size sz && Nat.beq i.bytes bytes && (match i.zero with | some z => Nat.beq z.cells.size sz && onesL z.cells.toList | none => false) | none => false)
  | _ => false
def elB (P : Program) (t : TypeId) : Nat :=
  match P.underlying t with
  | some (.slice e) => (match P.info? e with | some i => i.bytes | none => 0)
  | _ => 0
theorem elIs_spec {P : Program} {t : TypeId} {sz bytes : Nat} (h : elIs P t sz bytes = true) :
    ∃ e i z, P.underlying t = some (.slice e) ∧ P.info? e = some i ∧ i.size = sz ∧ i.bytes = bytes ∧ i.zero = some z ∧ z.cells.size = sz ∧ onesL z.cells.toList = true := by
  unfold elIs at h
  cases hu : P.underlying t with
  | none => simp [hu] at h
  | some de =>
    rw [hu] at h
    cases de with
    | slice e =>
      simp only at h
      cases hi : P.info? e with
      | none => simp [hi] at h
      | some i =>
        rw [hi] at h
        simp only [Bool.and_eq_true] at h
        obtain ⟨⟨h1, h2⟩, h3⟩ := h
        cases hz : i.zero with
        | none => simp [hz] at h3
        | some z =>
          rw [hz] at h3
          simp only [Bool.and_eq_true] at h3
          exact ⟨e, i, z, rfl, hi, Nat.eq_of_beq_eq_true h1, Nat.eq_of_beq_eq_true h2, hz, Nat.eq_of_beq_eq_true h3.1, h3.2⟩
    | _ => simp at h

def srcTy (P : Program) (t : TypeId) : Bool := match P.underlying t with | some (.slice _) => true | some .string => true | _ => false
theorem srcTy_spec {P : Program} {t : TypeId} (h : srcTy P t = true) : (∃ e, P.underlying t = some (.slice e)) ∨ P.underlying t = some .string := by
  unfold srcTy at h
  cases hu : P.underlying t with
  | none => simp [hu] at h
  | some u => rw [hu] at h; cases u <;> simp_all

theorem cut_append (need old : Nat) (e : TypeId) (t : Nat) (h : need < 2 ^ 63) : need ≤ (Question.appendCap need old e).cut t ∧ (Question.appendCap need old e).cut t ≤ maxLen := by
  simp only [Question.cut, maxLen]
  have : t % (2 ^ 63 - need) < 2 ^ 63 - need := Nat.mod_lt _ (by omega)
  omega

/-- What a value brings to an append. -/
def Src (P : Program) (w : World) (sz : Nat) (x : Value) (m : Nat) (news : Array Value) : Prop :=
  (∀ w' : World, w'.heap = w.heap → (Builtin.lenOf x).run P w' = .ok m w' ∧ (Builtin.firstCells sz m x).run P w' = .ok news w') ∧ news.size = m * sz

theorem run_append_room {P : Program} {w : World} {T T2 ty e : TypeId} {i : TypeInfo} {base : Option Addr} {n cap m : Nat} {x : Value} {news : Array Value}
    (hT : P.underlying T = some (.slice e)) (hi : P.info? e = some i) (h2 : (∃ e, P.underlying T2 = some (.slice e)) ∨ P.underlying T2 = some .string)
    (hsrc : Src P w i.size x m news) (hroom : n + m ≤ cap) :
    (Builtin.append_ #[T, T2] ty #[.slice base n cap, x]).run P w =
      match base with
      | some a => ((storeCells (a.add (n * i.size)) news.toList).run P w).andThen fun _ w => .ok (.slice base (n + m) cap) w
      | none => .ok (.slice base (n + m) cap) w := by
  have hs := hsrc.1 w rfl
  rcases h2 with ⟨e2, h2⟩ | h2 <;> cases base <;>
  simp [Builtin.append_, run_underlying hT, sizeOf, typeInfo, hi, run_underlying h2, hs.1, hs.2, hroom]

theorem run_append_grow {P : Program} {w : World} {T T2 ty e : TypeId} {i : TypeInfo} {z : Value} {base : Option Addr} {n cap m : Nat} {x : Value} {olds news : Array Value}
    (hT : P.underlying T = some (.slice e)) (hi : P.info? e = some i) (hz : i.zero = some z) (h2 : (∃ e, P.underlying T2 = some (.slice e)) ∨ P.underlying T2 = some .string)
    (hbytes : i.bytes ≠ 0)
    (hsrc : Src P w i.size x m news) (hold : ∀ w' : World, w'.heap = w.heap → (Builtin.firstCells i.size n (.slice base n cap)).run P w' = .ok olds w') (hroom : ¬ n + m ≤ cap)
    (hcap : Builtin.nextslicecap (n + m) cap * i.bytes ≤ 2 ^ 48) :
    let newCap := (Question.appendCap (n + m) cap e).cut (w.tape w.drawn (.appendCap (n + m) cap e))
    (Builtin.append_ #[T, T2] ty #[.slice base n cap, x]).run P w =
      .ok (.slice (some ⟨w.heap.size, 0, none⟩) (n + m) newCap) (w.drew.alloc (.cells (olds ++ news ++ Builtin.zeroCells z.cells (newCap - (n + m))) e)) := by
  have hs := hsrc.1 w rfl
  have hs' := hsrc.1 w.drew rfl
  have ho := hold w.drew rfl
  rcases h2 with ⟨e2, h2⟩ | h2 <;>
  simp [Builtin.append_, run_underlying hT, sizeOf, typeInfo, hi, run_underlying h2, hs.1, hroom, hbytes, Nat.not_lt.2 hcap, Question.forced, ho, hs'.2, zeroValue, hz, newRow]
end Go.Fw

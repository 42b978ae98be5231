/- Tenth part: literals of slices, make, slice expressions, strings, rows that are read and written in place. -/
import Derived.Test.YtfejbhbfmhkndaaG1
import Derived.WalkSpells
import Derived.Laws.Strings
import Derived.Laws.BytesString
import Derived.WalkKit
import Derived.ProofKit
import Derived.ChangeSame
import Derived.Laws.StructEq
import Derived.OpenShut
import Derived.Deep.Slices
import Derived.Deep.Strs
import Derived.Laws.Entries
import Derived.Laws.BitsLemmas
namespace Go.Fw
open Go
set_option linter.unusedVariables false
set_option linter.unusedSimpArgs false

/-- The data of a new block. -/
theorem lay_rep {g : Gh} {w : World} {sz : Nat} {xs : List (List D)} {vs : Array Value} {cap : Nat} (hlen : ∀ x ∈ xs, x.length = sz) (hsat : satL g (xs.flatten.map .d) (vs.toList.take (xs.length * sz))) (hM : MemLe g.M (g.lay w.heap.size vs).M)
    (hcap : xs.length ≤ cap) (hmax : cap ≤ maxLen) : (AVal.d (.sl sz xs)).sat (g.lay w.heap.size vs) (.slice (some ⟨w.heap.size, 0, none⟩) xs.length cap) := by
  simp only [AVal.sat, D.rep]
  refine ⟨_, cap, rfl, hcap, hmax, .inr ⟨w.heap.size, 0, rfl, rows_of_flat xs 0 hlen fun i d hd => ?_⟩⟩
  obtain ⟨hl, hr⟩ := dmap_sat hsat
  obtain ⟨u, hu, hsu⟩ := hr i d hd
  refine ⟨u, ?_, D.rep_mono hM _ _ hsu⟩
  show (if _ then _ else _) = _
  rw [if_pos ⟨rfl, rfl⟩, Nat.zero_add]
  rw [List.getElem?_take] at hu
  split at hu
  · simpa using hu
  · simp at hu
/-- A new block as a row of one's own. -/
theorem inv_row_new {E : Env} {S : St} {g : Gh} {w : World} (hi : Inv E S.obj g w) (γ : Nat) (hf : S.free γ = true) (hdead : S.obj γ = .dead) {sz : Nat} {xs : List (List D)} {vs : Array Value} {e : TypeId} {fr : Nat × Nat} {cap : Nat}
    (hlen : ∀ x ∈ xs, x.length = sz) (hsat : satL g (xs.flatten.map .d) (vs.toList.take (xs.length * sz))) (hcap : xs.length ≤ cap) (hmax : cap ≤ maxLen) (hsz : cap * sz ≤ vs.size) (hfr : thaw fr vs.size) :
    Inv E (look .dead ((γ, .row sz xs) :: S.L)) (g.put γ 0 (.slice (some ⟨w.heap.size, 0, none⟩) xs.length cap)) (w.alloc (.cells vs e fr)) :=
  inv_new hi γ hf hdead _ _ _ (world_push w _) (world_push_size w _) rfl rfl
    ⟨hlen, .inr ⟨w.heap.size, cap, vs, e, fr, by simp [Gh.put], hcap, hmax, heap_alloc_new w _, hfr, hsz, satL_put (dmap_ment _ _) hsat⟩⟩
    (fun k hk => by obtain ⟨a, n, c, e, rfl⟩ := hk; simp only [Gh.put, if_true] at e; cases e; exact Nat.le_refl _)
theorem own_new {g : Gh} {w : World} {γ n cap : Nat} {a : Option Addr} : (AVal.own γ n).sat (g.put γ 0 (.slice a n cap)) (.slice a n cap) := by
  simp only [AVal.sat]
  exact ⟨rfl, a, n, cap, by simp [Gh.put], Nat.le_refl _, fun _ => rfl⟩

/-- The zero cells of so many elements. -/
def zrow (z : List Value) (n : Nat) : List Value := (List.replicate n z).flatten
def elZero (P : Program) (t : TypeId) : Option (List Value) :=
  match P.underlying t with
  | some (.slice e) => zerosOf P e
  | _ => none
theorem elZero_spec {P : Program} {t : TypeId} {zs : List Value} (h : elZero P t = some zs) : ∃ e, P.underlying t = some (.slice e) ∧ zerosOf P e = some zs := by
  unfold elZero at h
  cases hu : P.underlying t with
  | none => simp [hu] at h
  | some de => rw [hu] at h; cases de <;> simp at h; exact ⟨_, rfl, h⟩

theorem zrow_eq (z : Array Value) (n : Nat) : ((Array.range (n * z.size)).map (fun i => z[i % z.size]!)).toList = zrow z.toList n := by
  induction n with
  | zero => simp [zrow]
  | succ n ih =>
    have e1 : zrow z.toList (n + 1) = zrow z.toList n ++ z.toList := by
      simp [zrow, List.replicate_succ']
    rw [e1, ← ih]
    apply List.ext_getElem?
    intro j
    simp only [Array.toList_map, Array.toList_range, List.getElem?_map, List.getElem?_append, List.length_map, List.length_range]
    have hm : (n + 1) * z.size = n * z.size + z.size := Nat.succ_mul _ _
    by_cases h1 : j < n * z.size
    · rw [if_pos h1, List.getElem?_range (by omega), List.getElem?_range h1]
    · rw [if_neg h1]
      by_cases h2 : j < (n + 1) * z.size
      · rw [List.getElem?_range h2]
        have h3 : j - n * z.size < z.size := by omega
        have h4 : j % z.size = j - n * z.size := by
          have : j = (j - n * z.size) + n * z.size := by omega
          rw [this, Nat.add_mul_mod_self_right, Nat.mod_eq_of_lt h3]
          omega
        simp [h4, h3]
      · rw [List.getElem?_eq_none (by simp; omega)]
        symm
        rw [Option.map_none, List.getElem?_eq_none (by simp; omega)]

theorem run_zero {P : Program} {e : TypeId} {zs : List Value} (h : zerosOf P e = some zs) : ∃ z : Value, z.cells.toList = zs ∧ (∀ w, (zeroValue e).run P w = .ok z w) := zerosOf_spec h

section
variable {P : Program} {ops : Array Oper} {draw : Bool} {K : St → Prop} {rest : List Oper} {l : Line} {S : St}
variable {d : Nat} {ty : TypeId} {pos : String} {aft : Array Edge} {gd : Option (Nat × Bool)}

theorem run_buildSlice {T : TypeId} {len sz : Nat} {zs : List Value} {parts : Array (Nat × Value)} {us : Array Value} (hT : slIs P T sz = true) (hz : elZero P T = some zs) (hzl : zs.length = sz) (hsmall : len * sz ≤ 16777216)
    (hfill : Instr.fill (fun i => some (i * sz, sz)) (zrow zs len).toArray parts.toList = some us) (w : World) :
    ∃ e, (Instr.buildSlice T len parts).run P w = .ok (.slice (some ⟨w.heap.size, 0, none⟩) len len) (w.alloc (.cells us e)) := by
  obtain ⟨e, h1, h2, _⟩ := slIs_spec hT
  obtain ⟨e', h1', hze⟩ := elZero_spec hz
  rw [h1] at h1'; cases h1'
  obtain ⟨z, hz1, hz2⟩ := run_zero hze
  refine ⟨e, ?_⟩
  have hzs : z.cells.size = sz := by rw [← hzl, ← hz1]; simp
  have hsmall' : ¬ (16777216 < len * sz) := by omega
  have hfill' : Instr.fill (fun i => some (i * sz, sz)) ((Array.range (len * sz)).map (fun i => z.cells[i % z.cells.size]!)) parts.toList = some us := by
    rw [← hfill]
    congr 1
    apply Array.ext'
    have := zrow_eq z.cells len
    rw [hzs] at this ⊢
    rw [this, hz1]
  by_cases h0 : len * sz = 0
  · have hem : (zrow zs len).toArray = #[] := by
      apply Array.ext'
      simp only [zrow]
      rcases Nat.mul_eq_zero.1 h0 with h | h
      · subst h; simp
      · have : zs = [] := by rw [← hzl] at h; exact List.length_eq_zero_iff.1 h
        subst this; simp
    rw [hem] at hfill
    simp [Instr.buildSlice, run_underlying h1, h2 w, h0, hfill, newRow, Array.range_zero']
  · simp [Instr.buildSlice, run_underlying h1, h2 w, hsmall', h0, hz2 w, hfill', newRow]

theorem dvL_append : ∀ (a b : List Value), dvL (a ++ b) = dvL a ++ dvL b
  | [], b => rfl
  | x :: a, b => by simp [dvL, dvL_append a b]

theorem w_buildSlice_gen {T : TypeId} {len sz : Nat} {parts : Array (Nat × Operand)} {pl : List (Nat × Operand)} {zs : List Value} {ps : List (Nat × AVal)} {out : List AVal} {xs : List (List D)} (hpl : parts.toList = pl)
    (hkeys : ps.map (·.1) = pl.map (·.1)) (hT : slIs P T sz = true) (hz : elZero P T = some zs) (hzl : Nat.beq zs.length sz = true) (hz1 : onesL (zrow zs len) = true) (hsmall : Nat.ble (len * sz) 16777216 = true) (hsl : Nat.ble len 16777216 = true)
    (hout : fillA (fun i => some (i * sz, sz)) (dvL (zrow zs len)) ps = some out) (hxs : toRows sz len out = some xs) {g : Gh} {a : Act} (w : World) (hq : satR g a (readsL pl ps)) :
    ∃ e, ∃ us : Array Value, (Instr.buildSlice T len (parts.map fun p => (p.1, a.eval p.2))).run P w = .ok (.slice (some ⟨w.heap.size, 0, none⟩) len len) (w.alloc (.cells us e)) ∧
      us.toList.length = xs.length * sz ∧ satL g (xs.flatten.map .d) us.toList ∧ xs.length = len ∧ (∀ x ∈ xs, x.length = sz) ∧ len ≤ maxLen := by
  obtain ⟨us, k1, k2⟩ := fill_sat (vs := (zrow zs len).toArray) hkeys hq (by simpa using dvL_sat hz1) hout
  obtain ⟨r1, r2, r3⟩ := toRows_spec hxs
  have hsm : len * sz ≤ 16777216 := by simpa using hsmall
  obtain ⟨e, he⟩ := run_buildSlice (P := P) (T := T) (len := len) (parts := parts.map fun p => (p.1, a.eval p.2)) hT hz (by simpa using hzl) hsm (by
    have : (parts.map fun p => (p.1, a.eval p.2)).toList = pl.map fun p => (p.1, a.eval p.2) := by simp [hpl]
    rw [this]; exact k1) w
  rw [← r1] at k2
  have hl := satL_length k2
  simp only [List.length_map, flat_length xs r3] at hl
  refine ⟨e, us, he, hl, k2, r2, r3, ?_⟩
  unfold maxLen
  have : len ≤ 16777216 := by simpa using hsl
  omega

theorem evL_keys (S : St) : ∀ pl : List (Nat × Operand), (evL S pl).map (·.1) = pl.map (·.1)
  | [] => rfl
  | p :: r => by simp [evL, evL_keys S r]
theorem evL_ok (S : St) : ∀ pl : List (Nat × Operand), readsOk S (readsL pl (evL S pl))
  | [] => trivial
  | p :: r => ⟨rfl, evL_ok S r⟩

/-- A slice literal, at once data. -/
theorem w_lit {T : TypeId} {len sz : Nat} {parts : Array (Nat × Operand)} {pl : List (Nat × Operand)} {zs : List Value} {ps : List (Nat × AVal)} {out : List AVal} {xs : List (List D)} (hpl : parts.toList = pl)
    (hps : evL S pl = ps) (hz : elZero P T = some zs) (hS : zs.length = sz) (hT : slIs P T sz = true) (hzl : Nat.beq zs.length sz = true) (hz1 : onesL (zrow zs len) = true) (hsmall : Nat.ble (len * sz) 16777216 = true) (hsl : Nat.ble len 16777216 = true)
    (hout : fillA (fun i => some (i * sz, sz)) (dvL (zrow zs len)) ps = some out) (hxs : toRows sz len out = some xs) (hd : Nat.blt d S.n = true) (hg : guardOk ops S gd)
    (h : Walk P ops draw K rest ((l.length, ⟨some d, .buildSlice T len parts, ty, pos, aft, gd⟩, ⟨guardReads ops gd ++ readsL pl ps, some (d, .d (.sl sz xs)), [], [], []⟩) :: l) (S.set d (.d (.sl sz xs)))) :
    Walk P ops draw K (⟨some d, .buildSlice T len parts, ty, pos, aft, gd⟩ :: rest) l S := by
  have hkeys : ps.map (·.1) = pl.map (·.1) := by rw [← hps]; exact evL_keys S pl
  have hrd : readsOk S (readsL pl ps) := by rw [← hps]; exact evL_ok S pl
  refine walk_op ⟨readsL pl ps, some (d, .d (.sl sz xs)), [], [], []⟩ ?_ hg ⟨hrd, trivial, trivial, hd⟩ h
  intro E S a w g hs hok Q K hK
  obtain ⟨e, us, k1, k2, k3, k4, k5, k6⟩ := w_buildSlice_gen (P := P) hpl hkeys hT hz hzl hz1 hsmall hsl hout hxs w (satR_of hs _ hok.1)
  have hle := lay_le hs.1 us
  have hrun : (execOp a.eval ⟨some d, .buildSlice T len parts, ty, pos, aft, gd⟩).run P w = .ok (.value (.slice (some ⟨w.heap.size, 0, none⟩) len len)) (w.alloc (.cells us e)) := by
    simp only [execOp, Sem.run_bind, k1]; rfl
  unfold Oper.wp
  rw [hrun, Oper.upon_value]
  refine hK _ _ (holds_put (inv_lay hs.1 us e (0, 0)) hs.2.1 hs.2.2.1 (fun t => sat_lay (g := g) (g' := g.lay w.heap.size us) hle rfl rfl rfl (hs.2.2.2 t)) ?_ hok.2.2.2)
  have := lay_rep (g := g) (w := w) (cap := len) k5 (by rw [List.take_of_length_le (by omega)]; exact k3) hle (by omega) k6
  rwa [k4] at this
/-- A slice literal, as a row of one's own. -/
theorem w_lit_own {T : TypeId} {len sz γ : Nat} {parts : Array (Nat × Operand)} {pl : List (Nat × Operand)} {zs : List Value} {ps : List (Nat × AVal)} {out : List AVal} {xs : List (List D)} (hpl : parts.toList = pl)
    (hps : evL S pl = ps) (hz : elZero P T = some zs) (hS : zs.length = sz) (hT : slIs P T sz = true) (hzl : Nat.beq zs.length sz = true) (hz1 : onesL (zrow zs len) = true) (hsmall : Nat.ble (len * sz) 16777216 = true) (hsl : Nat.ble len 16777216 = true)
    (hout : fillA (fun i => some (i * sz, sz)) (dvL (zrow zs len)) ps = some out) (hxs : toRows sz len out = some xs) (hdead : S.obj γ = .dead) (hf : S.free γ = true) (hd : Nat.blt d S.n = true) (hg : guardOk ops S gd)
    (h : Walk P ops draw K rest ((l.length, ⟨some d, .buildSlice T len parts, ty, pos, aft, gd⟩, ⟨guardReads ops gd ++ readsL pl ps, some (d, .own γ len), [(γ, .dead)], [(γ, .row sz xs)], [γ]⟩) :: l) ((S.set d (.own γ len)).own γ (.row sz xs))) :
    Walk P ops draw K (⟨some d, .buildSlice T len parts, ty, pos, aft, gd⟩ :: rest) l S := by
  have hkeys : ps.map (·.1) = pl.map (·.1) := by rw [← hps]; exact evL_keys S pl
  have hrd : readsOk S (readsL pl ps) := by rw [← hps]; exact evL_ok S pl
  refine walk_op ⟨readsL pl ps, some (d, .own γ len), [(γ, .dead)], [(γ, .row sz xs)], [γ]⟩ (valid_new rfl fun E S g a w hs hq hl hn => ?_) hg ⟨hrd, ⟨hdead, trivial⟩, ⟨hf, trivial⟩, hd⟩ h
  obtain ⟨e, us, k1, k2, k3, k4, k5, k6⟩ := w_buildSlice_gen (P := P) hpl hkeys hT hz hzl hz1 hsmall hsl hout hxs w hq
  have hsz : us.size = len * sz := by rw [← k4]; simpa using k2
  refine ⟨.slice (some ⟨w.heap.size, 0, none⟩) xs.length len, _, w.alloc (.cells us e), by simp only [execOp, Sem.run_bind, k1]; rw [k4]; rfl, by rw [← k4]; exact own_new (w := w), inv_row_new hs.1 γ hn.1 hl.1 (cap := len) k5 (by rw [List.take_of_length_le (by omega)]; exact k3) (by omega) k6 (by omega) (thaw00 _), tmps_put hn.1 hs.2.2.2⟩

/-! make. -/
theorem run_makeSlice {T : TypeId} {sz bytes n : Nat} {zs : List Value} (hT : elIs P T sz bytes = true) (hz : elZero P T = some zs) (hroom : n * bytes ≤ 2 ^ 48) (hn : n < 2 ^ 63) (k1 k2 : IntKind) (w : World) :
    ∃ e, (Instr.makeSlice T (.int k1 n) (.int k2 n)).run P w = .ok (.slice (some ⟨w.heap.size, 0, none⟩) n n) (w.alloc (.cells (zrow zs n).toArray e)) := by
  obtain ⟨e, i, z, hu, hi, hsz, hbt, hz0, hzs, hz1⟩ := elIs_spec hT
  obtain ⟨e', h1', hze⟩ := elZero_spec hz
  rw [hu] at h1'; cases h1'
  have hzz : z.cells.toList = zs := by
    unfold zerosOf at hze
    simp [hi, hz0] at hze
    exact hze
  have hw : IntKind.i64.wrap (n : Int) = n := IntWalk.i64_in _ (by omega)
  have hnn : ¬ ((n : Int) < 0) := by omega
  have ha : ∀ k, (asInt (.int k (n : Int))).run P w = .ok (n : Int) w := fun k => by simp [asInt, asIntOf]
  have hbig : ¬ (281474976710656 < (i.bytes : Int) * (n : Int)) := by
    rw [hbt]
    have : (n * bytes : Nat) ≤ 2 ^ 48 := hroom
    have h2 : ((bytes : Int) * (n : Int)) = ((n * bytes : Nat) : Int) := by rw [Nat.mul_comm]; exact (Int.natCast_mul _ _).symm
    rw [h2]; omega
  have harr : (Array.range (n * sz)).map (fun x => z.cells[x % z.cells.size]!) = (zrow zs n).toArray := by
    apply Array.ext'
    have := zrow_eq z.cells n
    rw [hzs] at this ⊢
    rw [this, hzz]
  refine ⟨e, ?_⟩
  by_cases h0 : n * sz = 0
  · have hem : (zrow zs n).toArray = #[] := by rw [← harr, h0]; simp [Array.range_zero']
    rw [hem]
    simp [Instr.makeSlice, run_underlying hu, ha, typeInfo, hi, hw, hnn, hbig, sizeOf, hsz, h0, newRow, Array.range_zero']
  · simp [Instr.makeSlice, run_underlying hu, ha, typeInfo, hi, hw, hnn, hbig, sizeOf, hsz, h0, newRow, zeroValue, hz0, harr]

/-- The zero element, as data. -/
def zD : List Value → List D
  | [] => []
  | v :: r => .v v :: zD r
theorem zD_dvL : ∀ zs : List Value, (zD zs).map .d = dvL zs
  | [] => rfl
  | v :: r => by simp [zD, dvL, zD_dvL r]
theorem zD_length : ∀ zs : List Value, (zD zs).length = zs.length
  | [] => rfl
  | v :: r => by simp [zD, zD_length r]
theorem zrow_sat {g : Gh} {zs : List Value} (h1 : onesL zs = true) (n : Nat) : satL g ((List.replicate n (zD zs)).flatten.map .d) (zrow zs n) := by
  induction n with
  | zero => simp [zrow, satL]
  | succ n ih =>
    simp only [List.replicate_succ, List.flatten_cons, zrow, List.map_append, zD_dvL]
    exact satL_append (dvL_sat h1) ih

theorem w_make {T : TypeId} {sz bytes n : Nat} {k1 k2 : IntKind} {x y : Operand} {m m' : Int} {zs : List Value} (hx : S.ev x = .d (.v (.int k1 m))) (hy : S.ev y = .d (.v (.int k2 m'))) (hm : m = (n : Nat)) (hm' : m' = (n : Nat))
    (hz : elZero P T = some zs) (hB : elB P T = bytes) (hS : zs.length = sz) (hT : elIs P T sz bytes = true) (h1 : onesL zs = true) (hl : Nat.beq zs.length sz = true) (hroom : n * bytes ≤ 281474976710656) (hn : n < 9223372036854775808) (hd : Nat.blt d S.n = true) (hg : guardOk ops S gd)
    (h : Walk P ops draw K rest ((l.length, ⟨some d, .makeSlice T x y, ty, pos, aft, gd⟩, ⟨guardReads ops gd ++ [(x, .d (.v (.int k1 m))), (y, .d (.v (.int k2 m')))], some (d, .d (.sl sz (List.replicate n (zD zs)))), [], [], []⟩) :: l) (S.set d (.d (.sl sz (List.replicate n (zD zs)))))) :
    Walk P ops draw K (⟨some d, .makeSlice T x y, ty, pos, aft, gd⟩ :: rest) l S := by
  refine walk_op ⟨[(x, .d (.v (.int k1 m))), (y, .d (.v (.int k2 m')))], some (d, .d (.sl sz (List.replicate n (zD zs)))), [], [], []⟩ ?_ hg ⟨⟨hx, hy, trivial⟩, trivial, trivial, hd⟩ h
  intro E S a w g hs hok Q K hK
  have hq := satR_of hs _ hok.1
  obtain ⟨e, he⟩ := run_makeSlice (P := P) hT hz (by simpa using hroom) (by simpa using hn) k1 k2 w
  have hle := lay_le hs.1 (zrow zs n).toArray
  have hzl : zs.length = sz := by simpa using hl
  have hrun : (execOp a.eval ⟨some d, .makeSlice T x y, ty, pos, aft, gd⟩).run P w = .ok (.value (.slice (some ⟨w.heap.size, 0, none⟩) n n)) (w.alloc (.cells (zrow zs n).toArray e)) := by
    simp only [execOp, Sem.run_bind, sat_v hq.1, sat_v hq.2.1, hm, hm', he]; rfl
  unfold Oper.wp
  rw [hrun, Oper.upon_value]
  refine hK _ _ (holds_put (inv_lay hs.1 _ e (0, 0)) hs.2.1 hs.2.2.1 (fun t => sat_lay (g := g) (g' := g.lay w.heap.size (zrow zs n).toArray) hle rfl rfl rfl (hs.2.2.2 t)) ?_ hok.2.2.2)
  have hlen : ∀ x ∈ List.replicate n (zD zs), x.length = sz := fun x hx => by rw [(List.mem_replicate.1 hx).2, zD_length, hzl]
  have hs1 := zrow_sat (g := g) h1 n
  have := lay_rep (g := g) (w := w) (vs := (zrow zs n).toArray) (cap := n) hlen (by
    have hl := satL_length hs1
    rw [List.length_map, flat_length _ hlen] at hl
    rw [List.take_of_length_le (by simpa using Nat.le_of_eq hl)]; exact hs1) hle (by simp) (by unfold maxLen; omega)
  rwa [List.length_replicate] at this
theorem w_make_own {T : TypeId} {sz bytes n γ : Nat} {k1 k2 : IntKind} {x y : Operand} {m m' : Int} {zs : List Value} (hx : S.ev x = .d (.v (.int k1 m))) (hy : S.ev y = .d (.v (.int k2 m'))) (hm : m = (n : Nat)) (hm' : m' = (n : Nat))
    (hz : elZero P T = some zs) (hB : elB P T = bytes) (hS : zs.length = sz) (hT : elIs P T sz bytes = true) (h1 : onesL zs = true) (hl : Nat.beq zs.length sz = true) (hroom : n * bytes ≤ 281474976710656) (hn : n < 9223372036854775808) (hdead : S.obj γ = .dead) (hf : S.free γ = true) (hd : Nat.blt d S.n = true) (hg : guardOk ops S gd)
    (h : Walk P ops draw K rest ((l.length, ⟨some d, .makeSlice T x y, ty, pos, aft, gd⟩, ⟨guardReads ops gd ++ [(x, .d (.v (.int k1 m))), (y, .d (.v (.int k2 m')))], some (d, .own γ n), [(γ, .dead)], [(γ, .row sz (List.replicate n (zD zs)))], [γ]⟩) :: l) ((S.set d (.own γ n)).own γ (.row sz (List.replicate n (zD zs))))) :
    Walk P ops draw K (⟨some d, .makeSlice T x y, ty, pos, aft, gd⟩ :: rest) l S := by
  refine walk_op ⟨[(x, .d (.v (.int k1 m))), (y, .d (.v (.int k2 m')))], some (d, .own γ n), [(γ, .dead)], [(γ, .row sz (List.replicate n (zD zs)))], [γ]⟩ (valid_new rfl fun E S g a w hs hq hl' hn' => ?_) hg ⟨⟨hx, hy, trivial⟩, ⟨hdead, trivial⟩, ⟨hf, trivial⟩, hd⟩ h
  obtain ⟨e, he⟩ := run_makeSlice (P := P) hT hz (by simpa using hroom) (by simpa using hn) k1 k2 w
  have hzl : zs.length = sz := by simpa using hl
  have hlen : ∀ x ∈ List.replicate n (zD zs), x.length = sz := fun x hx => by rw [(List.mem_replicate.1 hx).2, zD_length, hzl]
  have hs1 := zrow_sat (g := g) h1 n
  have hl1 := satL_length hs1
  rw [List.length_map, flat_length _ hlen, List.length_replicate] at hl1
  have hinv := inv_row_new hs.1 γ hn'.1 hl'.1 (vs := (zrow zs n).toArray) (e := e) (fr := (0, 0)) (cap := n) hlen (by
    rw [List.take_of_length_le (by simp only [List.length_replicate]; omega)]; exact hs1) (by simp) (by unfold maxLen; omega) (by simp only [List.size_toArray]; omega) (thaw00 _)
  rw [List.length_replicate] at hinv
  exact ⟨_, _, _, by simp only [execOp, Sem.run_bind, sat_v hq.1, sat_v hq.2.1, hm, hm', he]; rfl, own_new (w := w), hinv, tmps_put hn'.1 hs.2.2.2⟩

/-! Slice expressions. -/
def loOk (S : St) : Option Operand → Nat → Prop
  | none, l => l = 0
  | some x, l => S.ev x = ai l
def hiOk (S : St) (len : Nat) : Option Operand → Nat → Prop
  | none, h => h = len
  | some x, h => S.ev x = ai h
def mxOk (S : St) (len h : Nat) : Option Operand → Option Operand → Prop
  | none, _ => True
  | some x, none => False
  | some x, some _ => ∃ m : Nat, S.ev x = ai m ∧ h ≤ m ∧ m ≤ len
def optReads : Option Operand → Nat → List (Operand × AVal)
  | none, _ => []
  | some x, n => [(x, ai n)]
theorem satR_append {g : Gh} {a : Act} : ∀ {l m : List (Operand × AVal)}, satR g a (l ++ m) ↔ satR g a l ∧ satR g a m
  | [], m => by simp [satR]
  | p :: r, m => by simp [satR, satR_append, and_assoc]
theorem readsOk_append {S : St} {l m : List (Operand × AVal)} : readsOk S (l ++ m) ↔ readsOk S l ∧ readsOk S m := by
  simp only [readsOk_iff, List.mem_append]
  exact ⟨fun h => ⟨fun p hp => h p (.inl hp), fun p hp => h p (.inr hp)⟩, fun h p hp => hp.elim (h.1 p) (h.2 p)⟩

theorem run_bounds {g : Gh} {a : Act} {lo hi : Option Operand} {l h len cap : Nat} {isSl : Bool} (h1 : lo = none → l = 0) (h2 : hi = none → h = len) (hlo : satR g a (optReads lo l)) (hhi : satR g a (optReads hi h)) (hlh : l ≤ h) (hc : h ≤ cap) (w : World) :
    (Instr.sliceBounds isSl len cap (lo.map a.eval) (hi.map a.eval) none).run P w = .ok (l, h, cap) w := by
  cases lo with
  | none =>
    have := h1 rfl; subst this
    cases hi with
    | none => have := h2 rfl; subst this; simp [Instr.sliceBounds]
    | some y =>
      have e2 := sat_v hhi.1
      simp [Instr.sliceBounds, e2, run_sliceBound, hc]
  | some x =>
    have e1 := sat_v hlo.1
    cases hi with
    | none => have := h2 rfl; subst this; simp [Instr.sliceBounds, e1, run_sliceBound, hlh]
    | some y =>
      have e2 := sat_v hhi.1
      simp [Instr.sliceBounds, e1, e2, run_sliceBound, hlh, hc]

theorem optReads_ok {S : St} {lo : Option Operand} {l : Nat} (h : ∀ x, lo = some x → S.ev x = ai l) : readsOk S (optReads lo l) := by
  cases lo with
  | none => trivial
  | some x => exact ⟨h x rfl, trivial⟩

theorem w_slice {T : TypeId} {x : Operand} {lo hi : Option Operand} {sz lb hb : Nat} {xs : List (List D)} (hx : S.ev x = .d (.sl sz xs)) (hlo : loOk S lo lb) (hhi : hiOk S xs.length hi hb) (hlh : lb ≤ hb) (hh : hb ≤ xs.length)
    (hT : slIs P T sz = true) (hd : Nat.blt d S.n = true) (hg : guardOk ops S gd)
    (h : Walk P ops draw K rest ((l.length, ⟨some d, .slice T x lo hi none, ty, pos, aft, gd⟩, ⟨guardReads ops gd ++ ((x, .d (.sl sz xs)) :: (optReads lo lb ++ optReads hi hb)), some (d, .d (.sl sz ((xs.take hb).drop lb))), [], [], []⟩) :: l) (S.set d (.d (.sl sz ((xs.take hb).drop lb))))) :
    Walk P ops draw K (⟨some d, .slice T x lo hi none, ty, pos, aft, gd⟩ :: rest) l S := by
  refine walk_op ⟨(x, .d (.sl sz xs)) :: (optReads lo lb ++ optReads hi hb), some (d, .d (.sl sz ((xs.take hb).drop lb))), [], [], []⟩ (valid_val rfl fun E S g a w hs hq hl => ?_) hg
    ⟨⟨hx, readsOk_append.2 ⟨optReads_ok fun y e => by subst e; exact hlo, optReads_ok fun y e => by subst e; exact hhi⟩⟩, trivial, trivial, hd⟩ h
  obtain ⟨e, h1, h2, h3⟩ := slIs_spec hT
  obtain ⟨hq1, hq2⟩ := hq
  rw [satR_append] at hq2
  simp only [AVal.sat, D.rep] at hq1
  obtain ⟨b, cap, hv, c1, c2, c3⟩ := hq1
  have hbd := run_bounds (P := P) (isSl := true) (len := xs.length) (cap := cap) (fun e => by subst e; exact hlo) (fun e => by subst e; exact hhi) hq2.1 hq2.2 hlh (Nat.le_trans hh c1) w
  have hrun := run_slice_any (P := P) w T b xs.length cap (by rw [h3]; exact h1) (lo.map a.eval) (hi.map a.eval) none
  rw [hbd, Result.andThen_ok, h3, h2 w, Result.andThen_ok] at hrun
  have hat : (Instr.sliceAt T (.slice b xs.length cap) (lo.map a.eval) (hi.map a.eval) none) = Instr.slice T (.slice b xs.length cap) (lo.map a.eval) (hi.map a.eval) none ∨ True := .inr trivial
  refine ⟨sliced b lb hb cap sz, ?_, ?_⟩
  · simp only [execOp, hv, Instr.sliceAt, Sem.run_bind, run_underlying h1, Result.andThen_ok, Option.map_none, hrun]; rfl
  · simp only [AVal.sat, D.rep, sliced]
    have hlen : ((xs.take hb).drop lb).length = hb - lb := by simp; omega
    refine ⟨if cap = lb then b else b.map fun p => p.add (lb * sz), cap - lb, by rw [hlen], by omega, by omega, ?_⟩
    rcases c3 with rfl | ⟨b', o, rfl, hr⟩
    · left; simp
    · by_cases hem : (xs.take hb).drop lb = []
      · exact .inl hem
      · right
        have hne : cap ≠ lb := by
          intro e
          apply hem
          apply List.eq_nil_of_length_eq_zero
          omega
        refine ⟨b', o + lb * sz, ?_, repRows_drop (repRows_take hr hb) lb⟩
        rw [if_neg hne, Option.map_some, add_at]

/-! A slice against nil. -/
theorem w_isnil {xt yt : TypeId} {x : Operand} {sz : Nat} {xs : List (List D)} (hx : S.ev x = .d (.sl sz xs)) (ht : isSl P xt = true) (hd : Nat.blt d S.n = true) (hg : guardOk ops S gd)
    (h : Walk P ops draw K rest ((l.length, ⟨some d, .binOp .eql xt x (.const (.slice none 0 0)) yt, ty, pos, aft, gd⟩, ⟨guardReads ops gd ++ [(x, .d (.sl sz xs))], some (d, .bq (xs = []) True), [], [], []⟩) :: l) (S.set d (.bq (xs = []) True))) :
    Walk P ops draw K (⟨some d, .binOp .eql xt x (.const (.slice none 0 0)) yt, ty, pos, aft, gd⟩ :: rest) l S :=
  walk_op ⟨[(x, .d (.sl sz xs))], some (d, .bq (xs = []) True), [], [], []⟩ (valid_val rfl fun E S g a w hs hq hl => by
    have hq1 := hq.1
    simp only [AVal.sat, D.rep] at hq1
    obtain ⟨b, cap, hv, c1, c2, c3⟩ := hq1
    refine ⟨.bool b.isNone, ?_, ?_⟩
    · obtain ⟨e, he⟩ := isSl_spec ht
      have e1 : eqGuard .eql xt x (.const (.slice none 0 0)) (.slice b xs.length cap) (.slice none 0 0) = pure () := eqGuard_at_slice _ _ _ _ _ _ _ _
      simp only [execOp, hv, show a.eval (.const (.slice none 0 0)) = .slice none 0 0 from rfl, e1, Sem.run_bind, Sem.run_pure, Result.andThen_ok, Lib.run_eql_slice_nil w xt e b xs.length cap 0 0 he]
    · simp only [AVal.sat]
      refine ⟨b.isNone, rfl, fun h => ?_, fun _ => trivial⟩
      rcases c3 with h' | ⟨b', o, rfl, _⟩
      · exact h'
      · simp at h) hg ⟨⟨hx, trivial⟩, trivial, trivial, hd⟩ h
theorem w_notnil {xt yt : TypeId} {x : Operand} {sz : Nat} {xs : List (List D)} (hx : S.ev x = .d (.sl sz xs)) (ht : isSl P xt = true) (hd : Nat.blt d S.n = true) (hg : guardOk ops S gd)
    (h : Walk P ops draw K rest ((l.length, ⟨some d, .binOp .neq xt x (.const (.slice none 0 0)) yt, ty, pos, aft, gd⟩, ⟨guardReads ops gd ++ [(x, .d (.sl sz xs))], some (d, .bq True (xs = [])), [], [], []⟩) :: l) (S.set d (.bq True (xs = [])))) :
    Walk P ops draw K (⟨some d, .binOp .neq xt x (.const (.slice none 0 0)) yt, ty, pos, aft, gd⟩ :: rest) l S :=
  walk_op ⟨[(x, .d (.sl sz xs))], some (d, .bq True (xs = [])), [], [], []⟩ (valid_val rfl fun E S g a w hs hq hl => by
    have hq1 := hq.1
    simp only [AVal.sat, D.rep] at hq1
    obtain ⟨b, cap, hv, c1, c2, c3⟩ := hq1
    refine ⟨.bool (!b.isNone), ?_, ?_⟩
    · obtain ⟨e, he⟩ := isSl_spec ht
      have e1 : eqGuard .neq xt x (.const (.slice none 0 0)) (.slice b xs.length cap) (.slice none 0 0) = pure () := eqGuard_at_slice _ _ _ _ _ _ _ _
      simp only [execOp, hv, show a.eval (.const (.slice none 0 0)) = .slice none 0 0 from rfl, e1, Sem.run_bind, Sem.run_pure, Result.andThen_ok, Go.run_neq_slice_nil_any w xt e b xs.length cap 0 0 he]
    · simp only [AVal.sat]
      refine ⟨!b.isNone, rfl, fun _ => trivial, fun h => ?_⟩
      rcases c3 with h' | ⟨b', o, rfl, _⟩
      · exact h'
      · simp at h) hg ⟨⟨hx, trivial⟩, trivial, trivial, hd⟩ h
end
theorem le_slot {S : St} (t : Nat) {y : AVal} (h : (S.get t).le y) : S.le (S.set t (y)) := by
  rintro E a w ⟨g, hs⟩
  refine holds_ghost hs hs.1 rfl fun k => ?_
  by_cases hk : k = t
  · subst hk
    show AVal.sat _ (look .any ((k, _) :: S.τ) k) _
    rw [look_same]; exact h g _ (hs.2.2.2 k)
  · show AVal.sat _ (look .any ((t, _) :: S.τ) k) _
    rw [look_ne _ _ _ (Ne.symm hk)]; exact hs.2.2.2 k
end Go.Fw
namespace Go.Fw
open Go
set_option linter.unusedVariables false
set_option linter.unusedSimpArgs false

theorem le_mat {S : St} (γ isz : Nat) (hL : S.obj γ = .row 1 []) : S.le (S.own γ (.mat isz [])) := by
  rintro E a w ⟨g, hs⟩
  have ho := hs.1.obj γ
  rw [hL] at ho
  have hi : Inv E (look .dead ((γ, .mat isz []) :: S.L)) g w := by
    refine Inv.upd hs.1 γ _ (look_same _ _ _ _) (fun k hk => look_ne _ _ _ (Ne.symm hk)) (fun _ _ _ => rfl) (Nat.le_refl _) rfl rfl rfl (fun _ _ => ⟨rfl, rfl, rfl⟩) (fun _ _ _ _ _ h => h) ?_ (fun b hb => .inl ?_) (fun _ => Gh.keeps_refl _ _)
    · refine ⟨?_, by simp, by simp⟩
      rcases ho.2 with ⟨h1, _⟩ | ⟨b, cap, vs, e, fr, h1, h2, h3, h4, h5, h6, h7⟩
      · exact .inl ⟨h1, rfl⟩
      · exact .inr ⟨b, cap, vs, e, fr, h1, h2, h3, h4, h5, by simpa using h6, by simp, by simp⟩
    · rw [hL]
      rcases hb with h | ⟨i, hi, _⟩
      · exact h
      · simp at hi
  exact holds_ghost hs hi rfl hs.2.2.2

theorem rowSat_rep {g : Gh} {w : World} {h : Value} {sz : Nat} {xs : List (List D)} (hr : rowSat g w h sz xs) {M' : Mem} (hM : MemLe g.M M') (hc : ∀ b o, hdBlk h b → M' ⟨b, o, none⟩ = w.cell? ⟨b, o, none⟩) : (D.sl sz xs).rep M' h := by
  simp only [D.rep]
  rcases hr.2 with ⟨h1, rfl⟩ | ⟨b, cap, vs, e, fr, h1, h2, h3, h4, h5, h6, h7⟩
  · exact ⟨none, 0, h1, by simp, by simp, by simp⟩
  · refine ⟨_, cap, h1, h2, h3, .inr ⟨b, 0, rfl, rows_of_flat xs 0 hr.1 fun i d hd => ?_⟩⟩
    obtain ⟨hl, hrr⟩ := dmap_sat h7
    obtain ⟨u, hu, hsu⟩ := hrr i d hd
    refine ⟨u, ?_, D.rep_mono hM _ _ hsu⟩
    rw [hc b _ ⟨_, _, _, h1, rfl⟩, cell_of_row w _ _ vs e fr h4, Nat.zero_add]
    rw [List.getElem?_take] at hu
    split at hu
    · simpa using hu
    · simp at hu

open Classical in
/-- The memory that an object's blocks make, once it is let go. -/
noncomputable def letGo (g : Gh) (w : World) (x : AObj) (γ : Nat) : Mem := fun p => if p.spot = none ∧ lives g x γ p.block then w.cell? p else g.M p

/-- Any object whose header reads as data may be let go. -/
theorem inv_letgo {E : Env} {S : St} {g : Gh} {w : World} (hi : Inv E S.obj g w) {γ sz : Nat} {xs : List (List D)} (hrep : (D.sl sz xs).rep (letGo g w (S.obj γ) γ) (g.hd γ)) :
    MemLe g.M (letGo g w (S.obj γ) γ) ∧ Inv E (look .dead ((γ, .froz sz xs) :: S.L)) { g with M := letGo g w (S.obj γ) γ } w := by
  have hle : MemLe g.M (letGo g w (S.obj γ) γ) := by
    intro a v h
    unfold letGo
    rw [if_neg (fun hc => hi.sep γ _ hc.2 a v h rfl)]; exact h
  refine ⟨hle, ?_⟩
  have hM' : ∀ a v, letGo g w (S.obj γ) γ a = some v → g.M a = some v ∨ (w.cell? a = some v ∧ lives g (S.obj γ) γ a.block) := by
    intro a v h
    unfold letGo at h
    split at h
    · rename_i hc; exact .inr ⟨h, hc.2⟩
    · exact .inl h
  have hlook : ∀ k, look .dead ((γ, .froz sz xs) :: S.L) k = if k = γ then .froz sz xs else S.obj k := by
    intro k
    by_cases hk : k = γ
    · subst hk; rw [look_same, if_pos rfl]
    · rw [look_ne _ _ _ (Ne.symm hk), if_neg hk]; rfl
  have hlv : ∀ k b, lives { g with M := letGo g w (S.obj γ) γ } (look .dead ((γ, .froz sz xs) :: S.L) k) k b → k ≠ γ ∧ lives g (S.obj k) k b := by
    intro k b h
    rw [hlook] at h
    by_cases hk : k = γ
    · rw [if_pos hk] at h; exact h.elim
    · rw [if_neg hk] at h
      refine ⟨hk, ?_⟩
      rwa [lives_move (g := g) (g' := { g with M := letGo g w (S.obj γ) γ }) rfl rfl rfl] at h
  refine ⟨fun k => ?_, fun k k' b h h' => hi.inj k k' b (hlv _ _ h).2 (hlv _ _ h').2, fun a v h => ?_, fun k b h a v ha => ?_, fun k b h => hi.new k b (hlv _ _ h).2, hi.ext.trans hle, fun a v h => ?_, hi.frame, hi.size, hi.os, hi.out, fun k hk => (hi.kp k hk).trans' (Gh.keeps_of rfl rfl rfl)⟩
  · rw [hlook]
    by_cases hk : k = γ
    · subst hk; rw [if_pos rfl]; exact hrep
    · rw [if_neg hk]; exact objSat_lay (g := g) (g' := { g with M := letGo g w (S.obj γ) γ }) hle rfl rfl rfl (fun _ _ => rfl) (hi.obj k)
  · rcases hM' a v h with h1 | h1
    · exact hi.mem a v h1
    · exact h1.1
  · obtain ⟨hk, hb⟩ := hlv k b h
    rcases hM' a v ha with h1 | h1
    · exact hi.sep k b hb a v h1
    · intro e
      rw [e] at h1
      exact hk (hi.inj _ _ _ hb h1.2)
  · rcases hM' a v h with h1 | h1
    · exact hi.lim a v h1
    · exact .inr (hi.new γ _ h1.2)

theorem le_freeze_mat {S : St} (γ : Nat) {isz : Nat} {rows : List (List (List D))} (hL : S.obj γ = .mat isz rows) : S.le (S.own γ (.froz 1 (rows.map fun r => [.sl isz r]))) := by
  rintro E a w ⟨g, hs⟩
  have ho := hs.1.obj γ
  rw [hL] at ho
  have hle : MemLe g.M (letGo g w (S.obj γ) γ) := by
    intro a v h
    unfold letGo
    rw [if_neg (fun hc => hs.1.sep γ _ hc.2 a v h rfl)]; exact h
  have hcell : ∀ b o, lives g (S.obj γ) γ b → letGo g w (S.obj γ) γ ⟨b, o, none⟩ = w.cell? ⟨b, o, none⟩ := by
    intro b o hb
    unfold letGo
    rw [if_pos ⟨rfl, hb⟩]
  have hrep : (D.sl 1 (rows.map fun r => [D.sl isz r])).rep (letGo g w (S.obj γ) γ) (g.hd γ) := by
    obtain ⟨h1, h2, h3⟩ := ho
    simp only [D.rep, List.length_map]
    rcases h1 with ⟨e, rfl⟩ | ⟨b, cap, vs, e, fr, k1, k2, k3, k4, k5, k6, k7, k8⟩
    · exact ⟨none, 0, e, by simp, by simp, by simp⟩
    · refine ⟨_, cap, k1, k2, k3, .inr ⟨b, 0, rfl, rows_of_flat _ 0 (by simp) fun i d hd => ?_⟩⟩
      have hfl : (rows.map fun r => [D.sl isz r]).flatten = rows.map fun r => D.sl isz r := by
        clear hd h2 h3 k1 k2 k7 k8 hL; induction rows with
        | nil => rfl
        | cons r rs ih => simp [ih]
      rw [hfl, List.getElem?_map, Option.map_eq_some_iff] at hd
      obtain ⟨r, hr, rfl⟩ := hd
      have hi : i < rows.length := (List.getElem?_eq_some_iff.1 hr).1
      refine ⟨g.ihd γ i, ?_, rowSat_rep (h2 i r hr) hle (fun b' o hb' => hcell b' o (by rw [hL]; exact .inr ⟨i, hi, hb'⟩))⟩
      rw [hcell b _ (by rw [hL]; exact .inl ⟨_, _, _, k1, rfl⟩), cell_of_row w _ _ vs e fr k4, Nat.zero_add]
      exact k7 i hi
  obtain ⟨_, hi⟩ := inv_letgo hs.1 hrep
  exact holds_ghost hs hi rfl fun t => sat_lay (g := g) (g' := { g with M := letGo g w (S.obj γ) γ }) hle rfl rfl rfl (hs.2.2.2 t)

section
variable {P : Program} {ops : Array Oper} {draw : Bool} {K : St → Prop} {rest : List Oper} {l : Line} {S : St}
variable {d : Nat} {ty : TypeId} {pos : String} {aft : Array Edge} {gd : Option (Nat × Bool)}

/-- A slice literal whose cells are not all data: a box, and its header. -/
theorem w_lit_box {T : TypeId} {len sz γ : Nat} {parts : Array (Nat × Operand)} {pl : List (Nat × Operand)} {zs : List Value} {ps : List (Nat × AVal)} {out : List AVal} (hpl : parts.toList = pl)
    (hps : evL S pl = ps) (hz : elZero P T = some zs) (hS : zs.length = sz) (hT : slIs P T sz = true) (hz1 : onesL (zrow zs len) = true) (hsmall : Nat.ble (len * sz) 16777216 = true)
    (hout : fillA (fun i => some (i * sz, sz)) (dvL (zrow zs len)) ps = some out) (hc : cellishL out = true) (hm : mentL γ out = false) (hdead : S.obj γ = .dead) (hf : S.free γ = true) (hd : Nat.blt d S.n = true) (hg : guardOk ops S gd)
    (h : Walk P ops draw K rest ((l.length, ⟨some d, .buildSlice T len parts, ty, pos, aft, gd⟩, ⟨guardReads ops gd ++ readsL pl ps, some (d, .bsl γ len), [(γ, .dead)], [(γ, .box out)], [γ]⟩) :: l) ((S.set d (.bsl γ len)).own γ (.box out))) :
    Walk P ops draw K (⟨some d, .buildSlice T len parts, ty, pos, aft, gd⟩ :: rest) l S := by
  have hkeys : ps.map (·.1) = pl.map (·.1) := by rw [← hps]; exact evL_keys S pl
  have hrd : readsOk S (readsL pl ps) := by rw [← hps]; exact evL_ok S pl
  refine walk_op ⟨readsL pl ps, some (d, .bsl γ len), [(γ, .dead)], [(γ, .box out)], [γ]⟩ (valid_new rfl fun E S g a w hs hq hl hn => ?_) hg ⟨hrd, ⟨hdead, trivial⟩, ⟨hf, trivial⟩, hd⟩ h
  obtain ⟨us, k1, k2⟩ := fill_sat (vs := (zrow zs len).toArray) hkeys hq (by simpa using dvL_sat hz1) hout
  have hsm : len * sz ≤ 16777216 := by simpa using hsmall
  obtain ⟨e, he⟩ := run_buildSlice (P := P) (T := T) (len := len) (parts := parts.map fun p => (p.1, a.eval p.2)) hT hz hS hsm (by
    have : (parts.map fun p => (p.1, a.eval p.2)).toList = pl.map fun p => (p.1, a.eval p.2) := by simp [hpl]
    rw [this]; exact k1) w
  refine ⟨.slice (some ⟨w.heap.size, 0, none⟩) len len, newGh g w γ, w.alloc (.cells us e), by simp only [execOp, Sem.run_bind, he]; rfl, by simp [AVal.sat, newGh, Gh.put], inv_box hs.1 γ hn.1 hl.1 e k2 hm ((cellishL_iff _).1 hc), tmps_put hn.1 hs.2.2.2⟩

end

/-- The header of an inner row. -/
def Gh.reinn (g : Gh) (γ i : Nat) (h v : Value) : Gh := { blk := g.blk, hd := fun k => if k = γ then h else g.hd k, ihd := fun k j => if k = γ ∧ j = i then v else g.ihd k j, M := g.M }

theorem append_mat {P : Program} {E : Env} {S : St} {g : Gh} {a : Act} {w : World} (hs : holdsG E S g a w) {γ β γ2 isz bytes n : Nat} {rows : List (List (List D))} {r : List (List D)} (hL : S.obj γ = .mat isz rows) (hβ : S.obj β = .box [.own γ2 n])
    (h2 : S.obj γ2 = .row isz r) (hn : n = r.length) {T T2 ty : TypeId} (hT : elIs P T 1 bytes = true) (hT2 : srcTy P T2 = true) (hb0 : bytes ≠ 0) (hroom : (rows.length + 1) * bytes ≤ 2 ^ 47) :
    ∃ v g' w', (Builtin.append_ #[T, T2] ty #[g.hd γ, .slice (some ⟨g.blk β, 0, none⟩) 1 1]).run P w = .ok v w' ∧ (AVal.own γ (rows.length + 1)).sat g' v ∧
      Inv E (look .dead ((γ, .mat isz (rows ++ [r])) :: (γ2, .dead) :: S.L)) g' w' ∧ ∀ t, (S.get t).sat g' (a.tmps.getD t undef) := by
  obtain ⟨e, i, z, hu, hi, hsz, hbt, hz, hzs, hz1⟩ := elIs_spec hT
  have hsrcT := srcTy_spec hT2
  have hne : γ2 ≠ γ := by intro e; rw [e, hL] at h2; cases h2
  -- the source
  have hob := hs.1.obj β
  rw [hβ] at hob
  obtain ⟨bv, be, bfr, hb1, hb2, hb3, hb4⟩ := hob
  obtain ⟨v0, hv0, hsv0⟩ := satL_get hb3 0 _ rfl
  have hbl := satL_length hb3
  have hro := hs.1.obj γ2
  rw [h2] at hro
  have hv0e : v0 = g.hd γ2 := own_sat hsv0 hro hn
  subst hv0e
  have hbv : bv = #[g.hd γ2] := by
    apply Array.ext'
    cases hbt' : bv.toList with
    | nil => rw [hbt'] at hbl; simp at hbl
    | cons x xs =>
      rw [hbt'] at hbl hv0
      simp at hbl hv0
      subst hbl; rw [hv0]
  have hv1 : (g.hd γ2).oneCell' = true := AVal.sat_one rfl hsv0
  have hsrc : Src P w 1 (.slice (some ⟨g.blk β, 0, none⟩) 1 1) 1 #[g.hd γ2] := by
    refine ⟨fun w' hw' => ⟨by simp [Builtin.lenOf], ?_⟩, by simp⟩
    have := run_loadCells_list (P := P) w' ⟨g.blk β, 0, none⟩ [g.hd γ2] (fun j v hv => by
      rw [add_at, cell_of_row w' _ _ bv be bfr (by rw [hw']; exact hb1), hbv]
      simpa using hv)
    simpa [Builtin.firstCells] using this
  -- without γ2
  have hi1 : Inv E (look .dead ((γ2, .dead) :: S.L)) g w := hs.1.sub fun k => by
    by_cases hk : k = γ2
    · subst hk; rw [look_same]; exact .inr rfl
    · rw [look_ne _ _ _ (Ne.symm hk)]; exact .inl rfl
  have hL1 : look .dead ((γ2, .dead) :: S.L) γ = .mat isz rows := by rw [look_ne _ _ _ hne]; exact hL
  have ho := hs.1.obj γ
  rw [hL] at ho
  obtain ⟨ho, hin, hdist⟩ := ho
  have hfree : ∀ c, hdBlk (g.hd γ2) c → (∀ k, ¬ lives g (look .dead ((γ2, .dead) :: S.L) k) k c) ∧ (∀ a v, g.M a = some v → a.block ≠ c) ∧ (E.W.heap.size ≤ c ∨ E.A c) := by
    intro c hc
    have hl2 : lives g (S.obj γ2) γ2 c := by rw [h2]; exact hc
    refine ⟨fun k hk => ?_, fun a v ha => hs.1.sep γ2 c hl2 a v ha, hs.1.new γ2 c hl2⟩
    by_cases hkγ : k = γ2
    · subst hkγ; rw [look_same] at hk; exact hk
    · rw [look_ne _ _ _ (Ne.symm hkγ)] at hk
      exact hkγ (hs.1.inj _ _ _ hk hl2)
  -- the two ways' common end
  have fin : ∀ (a0 : Option Addr) (c0 b cap' : Nat) (vs' : Array Value) (e' : TypeId) (fr : Nat × Nat) (w' : World),
      g.hd γ = .slice a0 rows.length c0 →
      (∀ k, k < w.heap.size → ¬ hdBlk (g.hd γ) k → w'.heap[k]? = w.heap[k]?) → w.heap.size ≤ w'.heap.size → w'.os = w.os → w'.output = w.output →
      w'.heap[b]? = some (.cells vs' e' fr) → thaw fr vs'.size → rows.length + 1 ≤ cap' → cap' ≤ maxLen → cap' ≤ vs'.size →
      (∀ j, j < rows.length → vs'[j]? = some (g.ihd γ j)) → vs'[rows.length]? = some (g.hd γ2) → (hdBlk (g.hd γ) b ∨ w.heap.size ≤ b) →
      let g' := g.reinn γ rows.length (.slice (some ⟨b, 0, none⟩) (rows.length + 1) cap') (g.hd γ2)
      (AVal.own γ (rows.length + 1)).sat g' (.slice (some ⟨b, 0, none⟩) (rows.length + 1) cap') ∧
      Inv E (look .dead ((γ, .mat isz (rows ++ [r])) :: (γ2, .dead) :: S.L)) g' w' ∧ ∀ t, (S.get t).sat g' (a.tmps.getD t undef) := by
    intro a0 c0 b cap' vs' e' fr w' hhd hheap hsize hos hout hb hth hcap hmax hcs hcells hlast hlv g'
    have hk : ∀ k, g.keeps g' k := by
      intro k
      by_cases hkγ : k = γ
      · subst hkγ
        refine ⟨rfl, .inr ⟨a0, _, c0, some ⟨b, 0, none⟩, rows.length + 1, cap', hhd, by simp [g', Gh.reinn], by omega⟩, fun j a m c he hj => ?_⟩
        rw [hhd] at he; cases he
        simp [g', Gh.reinn, show j ≠ rows.length by omega]
      · exact Gh.keeps_of rfl (by simp [g', Gh.reinn, hkγ]) (by funext j; simp [g', Gh.reinn, hkγ])
    have hM : MemLe g.M g'.M := MemLe.refl _
    have hih : ∀ j, j < rows.length → g'.ihd γ j = g.ihd γ j := fun j hj => by simp [g', Gh.reinn, show j ≠ rows.length by omega]
    have hihl : g'.ihd γ rows.length = g.hd γ2 := by simp [g', Gh.reinn]
    have hold : ∀ c, (∃ j, j < rows.length ∧ hdBlk (g.ihd γ j) c) → w'.heap[c]? = w.heap[c]? ∧ ¬ hdBlk (g.hd γ) c := by
      rintro c ⟨j, hj, hc⟩
      have hnb : ¬ hdBlk (g.hd γ) c := by
        rcases ho with ⟨_, he⟩ | ⟨b', cap, vs, e'', fr', q1, _, _, _, _, _, _, q8⟩
        · rw [he] at hj; simp at hj
        · rintro ⟨a1, n1, c1, e1, rfl⟩
          rw [q1] at e1; cases e1
          exact q8 j hj hc
      exact ⟨hheap c (rowSat_lt (hin j _ (List.getElem?_eq_getElem hj)) hc) hnb, hnb⟩
    have hnew2 : ∀ c, hdBlk (g.hd γ2) c → w'.heap[c]? = w.heap[c]? ∧ ¬ hdBlk (g.hd γ) c := by
      intro c hc
      have hnb : ¬ hdBlk (g.hd γ) c := fun h => (hfree c hc).1 γ (by rw [hL1]; exact .inl h)
      exact ⟨hheap c (rowSat_lt hro hc) hnb, hnb⟩
    refine ⟨?_, ?_, fun t => AVal.sat_mono hM _ _ (fun k _ => hk k) (hs.2.2.2 t)⟩
    · simp only [AVal.sat]
      exact ⟨rfl, some ⟨b, 0, none⟩, rows.length + 1, cap', by simp [g', Gh.reinn], Nat.le_refl _, fun _ => rfl⟩
    · refine Inv.updX hi1 γ _ (look_same _ _ _ _) (fun k hkγ => look_ne _ _ _ (Ne.symm hkγ)) (fun k hkl hnl => hheap k hkl (fun h => hnl (by rw [hL1]; exact .inl h))) hsize hos hout rfl
        (fun k hkγ => ⟨rfl, by simp [g', Gh.reinn, hkγ], by funext j; simp [g', Gh.reinn, hkγ]⟩)
        (fun k cs us _ _ h => satL_mono hM _ _ (fun k _ => hk k) h) ?_ (fun c hc => ?_) (fun _ => hk γ)
      · refine ⟨.inr ⟨b, cap', vs', e', fr, by simp [g', Gh.reinn], by simpa using hcap, hmax, hb, hth, hcs, fun j hj => ?_, fun j hj hjb => ?_⟩, fun j q hq => ?_, fun j k c hj hk' hjc hkc => ?_⟩
        · simp at hj
          by_cases hjl : j < rows.length
          · rw [hih j hjl]; exact hcells j hjl
          · have : j = rows.length := by omega
            subst this; rw [hihl]; exact hlast
        · simp at hj
          by_cases hjl : j < rows.length
          · rw [hih j hjl] at hjb
            obtain ⟨_, q2⟩ := hold b ⟨j, hjl, hjb⟩
            rcases hlv with h | h
            · exact q2 h
            · have := rowSat_lt (hin j _ (List.getElem?_eq_getElem hjl)) hjb; omega
          · have : j = rows.length := by omega
            subst this; rw [hihl] at hjb
            obtain ⟨_, q2⟩ := hnew2 b hjb
            rcases hlv with h | h
            · exact q2 h
            · have := rowSat_lt hro hjb; omega
        · by_cases hjl : j < rows.length
          · rw [List.getElem?_append_left hjl] at hq
            rw [hih j hjl]
            exact rowSat_move hM (fun c hc => (hold c ⟨j, hjl, hc⟩).1) (hin j q hq)
          · have hjr : j = rows.length := by
              have := (List.getElem?_eq_some_iff.1 hq).1; simp at this; omega
            subst hjr
            simp at hq; subst hq
            rw [hihl]
            exact rowSat_move hM (fun c hc => (hnew2 c hc).1) hro
        · simp at hj hk'
          by_cases hjl : j < rows.length <;> by_cases hkl : k < rows.length
          · rw [hih j hjl] at hjc; rw [hih k hkl] at hkc
            exact hdist j k c hjl hkl hjc hkc
          · have : k = rows.length := by omega
            subst this
            rw [hih j hjl] at hjc; rw [hihl] at hkc
            exact ((hfree c hkc).1 γ (by rw [hL1]; exact .inr ⟨j, hjl, hjc⟩)).elim
          · have : j = rows.length := by omega
            subst this
            rw [hih k hkl] at hkc; rw [hihl] at hjc
            exact ((hfree c hjc).1 γ (by rw [hL1]; exact .inr ⟨k, hkl, hkc⟩)).elim
          · omega
      · rw [hL1]
        rcases hc with hc | ⟨j, hj, hc⟩
        · simp only [g', Gh.reinn, if_true] at hc
          obtain ⟨a1, n1, c1, e1, rfl⟩ := hc
          cases e1
          rcases hlv with h | h
          · exact .inl (.inl h)
          · exact .inr (.inl h)
        · simp at hj
          by_cases hjl : j < rows.length
          · rw [hih j hjl] at hc
            exact .inl (.inr ⟨j, hjl, hc⟩)
          · have : j = rows.length := by omega
            subst this; rw [hihl] at hc
            obtain ⟨q1, q2, q3⟩ := hfree c hc
            exact .inr (.inr ⟨fun k _ => q1 k, q2, q3⟩)
  have hneed : rows.length + 1 < 2 ^ 63 := by
    have : rows.length + 1 ≤ (rows.length + 1) * bytes := Nat.le_mul_of_pos_right _ (by omega)
    omega
  have hgrowcap : ∀ cap, rows.length + 1 > cap → Builtin.nextslicecap (rows.length + 1) cap * i.bytes ≤ 2 ^ 48 := by
    intro cap hc
    have h1 := nextslicecap_le (need := rows.length + 1) (old := cap) hc
    have h2 : Builtin.nextslicecap (rows.length + 1) cap * i.bytes ≤ 2 * (rows.length + 1) * i.bytes := Nat.mul_le_mul_right _ h1
    rw [hbt] at h2 ⊢
    have h3 : 2 * (rows.length + 1) * bytes = 2 * ((rows.length + 1) * bytes) := Nat.mul_assoc _ _ _
    omega
  have grow : ∀ (base : Option Addr) (c0 : Nat) (olds : Array Value), g.hd γ = .slice base rows.length c0 → ¬ rows.length + 1 ≤ c0 → (∀ w' : World, w'.heap = w.heap → (Builtin.firstCells i.size rows.length (.slice base rows.length c0)).run P w' = .ok olds w') →
      olds.size = rows.length → (∀ j, j < rows.length → olds[j]? = some (g.ihd γ j)) →
      ∃ v g' w', (Builtin.append_ #[T, T2] ty #[g.hd γ, .slice (some ⟨g.blk β, 0, none⟩) 1 1]).run P w = .ok v w' ∧ (AVal.own γ (rows.length + 1)).sat g' v ∧
        Inv E (look .dead ((γ, .mat isz (rows ++ [r])) :: (γ2, .dead) :: S.L)) g' w' ∧ ∀ t, (S.get t).sat g' (a.tmps.getD t undef) := by
    intro base c0 olds hhd hc hfc hosz hol
    have hr := run_append_grow (P := P) (w := w) (T := T) (T2 := T2) (ty := ty) (base := base) (n := rows.length) (cap := c0) (m := 1) (olds := olds) (news := #[g.hd γ2]) hu hi hz hsrcT (by rw [hbt]; exact hb0)
      (by rw [hsz]; exact hsrc) hfc hc (hgrowcap c0 (by omega))
    obtain ⟨c1, c2⟩ := cut_append (rows.length + 1) c0 e (w.tape w.drawn (.appendCap (rows.length + 1) c0 e)) hneed
    revert hr c1 c2
    generalize (Question.appendCap (rows.length + 1) c0 e).cut (w.tape w.drawn (.appendCap (rows.length + 1) c0 e)) = nc
    intro hr c1 c2
    have := fin base c0 w.heap.size nc (olds ++ #[g.hd γ2] ++ Builtin.zeroCells z.cells (nc - (rows.length + 1))) e (0, 0) _ hhd
      (fun k hk _ => world_push w.drew _ k hk) (world_push_size w.drew _) rfl rfl (heap_alloc_new w.drew _) (thaw00 _) c1 c2
      (by rw [Array.size_append, Array.size_append, zeroCells_size, hosz, hzs]; simp; omega)
      (fun j hj => by rw [Array.append_assoc, Array.getElem?_append_left (by omega)]; exact hol j hj)
      (by rw [Array.append_assoc, Array.getElem?_append_right (by omega), hosz, Nat.sub_self]; rw [Array.getElem?_append_left (by simp)]; rfl) (.inr (Nat.le_refl _))
    exact ⟨_, _, _, by rw [hhd]; exact hr, this⟩
  rcases ho with ⟨hnil, rfl⟩ | ⟨b, cap, vs, e', fr, h1, h2', h3, h4, h5, h6, h7, h8⟩
  · exact grow none 0 #[] hnil (by simp) (fun w' _ => by simp [Builtin.firstCells]) rfl (by simp)
  · by_cases hc : rows.length + 1 ≤ cap
    · have hr := run_append_room (P := P) (w := w) (T := T) (T2 := T2) (ty := ty) (base := some ⟨b, 0, none⟩) (n := rows.length) (cap := cap) (m := 1) (news := #[g.hd γ2]) hu hi hsrcT (by rw [hsz]; exact hsrc) hc
      obtain ⟨vs', k1, k2⟩ := run_storeCells_row (P := P) b e' fr vs.size h5 [g.hd γ2] rows.length 0 vs w h4 rfl (by simp; omega) (by simpa using hv1)
      simp only [Nat.add_zero, List.length_singleton] at k2
      simp only at hr
      rw [show (⟨b, 0, none⟩ : Addr).add (rows.length * i.size) = ⟨b, rows.length, none⟩ by rw [add_at, hsz]; simp] at hr
      simp only [k1, Result.andThen_ok] at hr
      have hvs' : vs'.size = vs.size := by
        have := congrArg List.length k2
        simp at this; omega
      have hat : ∀ j, vs'[j]? = (vs.toList.take rows.length ++ [g.hd γ2] ++ vs.toList.drop (rows.length + 1))[j]? := fun j => by rw [← k2]; exact Array.getElem?_toList.symm
      have := fin (some ⟨b, 0, none⟩) cap b cap vs' e' fr (w.setRow b vs') h1
        (fun k hk hne => setRow_other w b k vs' (fun e => hne (by rw [e]; exact ⟨_, _, _, h1, rfl⟩))) (by simp) rfl rfl (setRow_heap w b vs _ e' fr h4) (by rw [hvs']; exact h5) hc h3 (by rw [hvs']; exact h6)
        (fun j hj => by
          rw [hat, List.append_assoc, List.getElem?_append_left (by simp; omega), List.getElem?_take, if_pos hj]
          have := h7 j hj
          simpa using this)
        (by
          have hl : (vs.toList.take rows.length).length = rows.length := by simp; omega
          rw [hat, List.append_assoc, List.getElem?_append_right (by omega), hl]; simp) (.inl ⟨_, _, _, h1, rfl⟩)
      exact ⟨_, _, _, by rw [h1]; exact hr, this⟩
    · refine grow (some ⟨b, 0, none⟩) cap (vs.toList.take rows.length).toArray h1 hc (fun w' hw' => ?_) (by simp; omega) (fun j hj => ?_)
      · have hl : (vs.toList.take rows.length).length = rows.length := by simp; omega
        have := run_loadCells_list (P := P) w' ⟨b, 0, none⟩ (vs.toList.take rows.length) (fun j v hv => by
          rw [add_at, cell_of_row w' _ _ vs e' fr (by rw [hw']; exact h4)]
          rw [List.getElem?_take] at hv
          split at hv
          · simpa using hv
          · simp at hv)
        rw [hl] at this
        simp only [Builtin.firstCells, hsz, Nat.mul_one]
        exact this
      · have := h7 j hj
        simp [hj] 
        simpa using this
end Go.Fw
namespace Go.Fw
open Go
set_option linter.unusedVariables false
set_option linter.unusedSimpArgs false

theorem mat_hd {g : Gh} {w : World} {γ isz : Nat} {rows : List (List (List D))} (h : objSat g w γ (.mat isz rows)) : ∃ b c, g.hd γ = .slice b rows.length c := by
  rcases h.1 with ⟨e, rfl⟩ | ⟨b, cap, vs, e', fr, e, _⟩
  · exact ⟨_, _, e⟩
  · exact ⟨_, _, e⟩
theorem own_sat_mat {g : Gh} {γ n isz : Nat} {rows : List (List (List D))} {v : Value} {w : World} (h : (AVal.own γ n).sat g v) (ho : objSat g w γ (.mat isz rows)) (hn : n = rows.length) : v = g.hd γ := by
  simp only [AVal.sat] at h
  obtain ⟨_, a, m, c, h1, h2, h3⟩ := h
  obtain ⟨b, c', e⟩ := mat_hd ho
  rw [e] at h1; cases h1
  rw [h3 hn, e]

section
variable {P : Program} {ops : Array Oper} {draw : Bool} {K : St → Prop} {rest : List Oper} {l : Line} {S : St}
variable {d : Nat} {ty : TypeId} {pos : String} {aft : Array Edge} {gd : Option (Nat × Bool)}

theorem w_append_mat {x y : Operand} {T T2 : TypeId} {γ β γ2 n n2 isz bytes : Nat} {rows : List (List (List D))} {r : List (List D)} (hx : S.ev x = .own γ n) (hL : S.obj γ = .mat isz rows) (hy : S.ev y = .bsl β 1) (hβ : S.obj β = .box [.own γ2 n2]) (h2 : S.obj γ2 = .row isz r)
    (hn : n = rows.length) (hn2 : n2 = r.length) (hB : elB P T = bytes) (hT : elIs P T 1 bytes = true) (hT2 : srcTy P T2 = true) (hb0 : Nat.beq bytes 0 = false) (hroom : (rows.length + 1) * bytes ≤ 140737488355328)
    (hd : Nat.blt d S.n = true) (hg : guardOk ops S gd)
    (h : Walk P ops draw K rest ((l.length, ⟨some d, .call ⟨.builtin .append, #[x, y], #[T, T2]⟩, ty, pos, aft, gd⟩, ⟨guardReads ops gd ++ [(x, .own γ n), (y, .bsl β 1)], some (d, .own γ (rows.length + 1)), [(γ, .mat isz rows), (β, .box [.own γ2 n2]), (γ2, .row isz r)], [(γ, .mat isz (rows ++ [r])), (γ2, .dead)], []⟩) :: l)
      (((S.set d (.own γ (rows.length + 1))).own γ2 .dead).own γ (.mat isz (rows ++ [r])))) :
    Walk P ops draw K (⟨some d, .call ⟨.builtin .append, #[x, y], #[T, T2]⟩, ty, pos, aft, gd⟩ :: rest) l S := by
  refine walk_op ⟨[(x, .own γ n), (y, .bsl β 1)], some (d, .own γ (rows.length + 1)), [(γ, .mat isz rows), (β, .box [.own γ2 n2]), (γ2, .row isz r)], [(γ, .mat isz (rows ++ [r])), (γ2, .dead)], []⟩ ?_ hg ⟨⟨hx, hy, trivial⟩, ⟨hL, hβ, h2, trivial⟩, trivial, hd⟩ h
  intro E S a w g hs hok Q K hK
  obtain ⟨ok1, ⟨l1, l2, l3, _⟩, _, ok4⟩ := hok
  have hq := satR_of hs _ ok1
  have ho := hs.1.obj γ
  rw [l1] at ho
  have hv := own_sat_mat hq.1 ho hn
  have hy' : a.eval y = .slice (some ⟨g.blk β, 0, none⟩) 1 1 := by have := hq.2.1; simpa only [AVal.sat] using this
  obtain ⟨v, g', w', r1, r2, r3, r4⟩ := append_mat hs l1 l2 l3 hn2 (ty := ty) hT hT2 (ne_of_beq hb0) (by simpa using hroom)
  have hrun := run_builtin_append (P := P) (ρ := a.eval) (o := ⟨some d, .call ⟨.builtin .append, #[x, y], #[T, T2]⟩, ty, pos, aft, gd⟩) rfl (by rw [hv, hy']; exact r1)
  unfold Oper.wp
  rw [hrun, Oper.upon_value]
  exact hK _ _ (holds_put r3 hs.2.1 hs.2.2.1 r4 r2 ok4)

theorem w_len_mat {x : Operand} {T : TypeId} {isz γ n : Nat} {rows : List (List (List D))} (hx : S.ev x = .own γ n) (hL : S.obj γ = .mat isz rows) (hn : n = rows.length) (hT : isSl P T = true)
    (hd : Nat.blt d S.n = true) (hg : guardOk ops S gd)
    (h : Walk P ops draw K rest ((l.length, ⟨some d, .call ⟨.builtin .len, #[x], #[T]⟩, ty, pos, aft, gd⟩, ⟨guardReads ops gd ++ [(x, .own γ n)], some (d, ai rows.length), [(γ, .mat isz rows)], [], []⟩) :: l) (S.set d (ai rows.length))) :
    Walk P ops draw K (⟨some d, .call ⟨.builtin .len, #[x], #[T]⟩, ty, pos, aft, gd⟩ :: rest) l S :=
  walk_op ⟨[(x, .own γ n)], some (d, ai rows.length), [(γ, .mat isz rows)], [], []⟩ (valid_val rfl fun E S g a w hs hq hl => by
    obtain ⟨e, h1⟩ := isSl_spec hT
    have ho := hs.1.obj γ
    rw [hl.1] at ho
    have hv := own_sat_mat hq.1 ho hn
    obtain ⟨b, c, hv'⟩ := mat_hd ho
    rw [hv'] at hv
    refine ⟨.int .i64 rows.length, ?_, sat_mk rfl⟩
    simp [execOp, resolve, invoke, builtin, hv, Builtin.len_, run_underlying h1, goInt]) hg ⟨⟨hx, trivial⟩, ⟨hL, trivial⟩, trivial, hd⟩ h

theorem w_index_mat {x i : Operand} {T : TypeId} {isz γ n k : Nat} {kd : IntKind} {m : Int} {rows : List (List (List D))} (hx : S.ev x = .own γ n) (hL : S.obj γ = .mat isz rows) (hi : S.ev i = .d (.v (.int kd m))) (hn : n = rows.length) (hk : m = (k : Nat)) (hlt : k < rows.length)
    (hT : slIs P T 1 = true) (hd : Nat.blt d S.n = true) (hg : guardOk ops S gd)
    (h : Walk P ops draw K rest ((l.length, ⟨some d, .indexAddr T x i, ty, pos, aft, gd⟩, ⟨guardReads ops gd ++ [(x, .own γ n), (i, .d (.v (.int kd m)))], some (d, .mptr γ n k), [(γ, .mat isz rows)], [], []⟩) :: l) (S.set d (.mptr γ n k))) :
    Walk P ops draw K (⟨some d, .indexAddr T x i, ty, pos, aft, gd⟩ :: rest) l S :=
  walk_op ⟨[(x, .own γ n), (i, .d (.v (.int kd m)))], some (d, .mptr γ n k), [(γ, .mat isz rows)], [], []⟩ (valid_val rfl fun E S g a w hs hq hl => by
    obtain ⟨e, h1, h2, h3⟩ := slIs_spec hT
    have ho := hs.1.obj γ
    rw [hl.1] at ho
    have hv := own_sat_mat hq.1 ho hn
    rcases ho.1 with ⟨e, rfl⟩ | ⟨b, cap, vs, e', fr, hh, _⟩
    · simp at hlt
    · rw [hh] at hv
      refine ⟨.pointer (some ⟨b, k, none⟩), ?_, ?_⟩
      · have hb : (0 : Int) ≤ m ∧ m < (rows.length : Int) := by omega
        have hm : m.toNat = k := by omega
        have := run_indexAt_slice (P := P) w T ⟨b, 0, none⟩ rows.length cap kd m (by rw [h3]; exact h1)
        rw [if_pos hb, h3, h2 w, Result.andThen_ok, add_at, hm, Nat.mul_one, Nat.zero_add] at this
        simp only [execOp, hv, sat_v hq.2.1, Sem.run_bind, this]; rfl
      · simp only [AVal.sat]
        exact ⟨rfl, _, _, _, hh, by omega, fun _ => ⟨_, rfl, rfl⟩⟩) hg ⟨⟨hx, hi, trivial⟩, ⟨hL, trivial⟩, trivial, hd⟩ h

theorem w_load_mat {t : TypeId} {x : Operand} {isz γ n k : Nat} {rows : List (List (List D))} (hx : S.ev x = .mptr γ n k) (hL : S.obj γ = .mat isz rows) (hn : n = rows.length) (hlt : k < rows.length)
    (ht : tyIs P t false 1 = true) (hd : Nat.blt d S.n = true) (hg : guardOk ops S gd)
    (h : Walk P ops draw K rest ((l.length, ⟨some d, .load t x, ty, pos, aft, gd⟩, ⟨guardReads ops gd ++ [(x, .mptr γ n k)], some (d, .inn γ k), [(γ, .mat isz rows)], [], []⟩) :: l) (S.set d (.inn γ k))) :
    Walk P ops draw K (⟨some d, .load t x, ty, pos, aft, gd⟩ :: rest) l S :=
  walk_op ⟨[(x, .mptr γ n k)], some (d, .inn γ k), [(γ, .mat isz rows)], [], []⟩ (valid_val rfl fun E S g a w hs hq hl => by
    have ho := hs.1.obj γ
    rw [hl.1] at ho
    have hq1 := hq.1
    simp only [AVal.sat] at hq1
    obtain ⟨_, a', m, c, q1, q2, q3⟩ := hq1
    rcases ho.1 with ⟨e, rfl⟩ | ⟨b, cap, vs, e', fr, hh, k2, k3, k4, k5, k6, k7, k8⟩
    · simp at hlt
    · rw [hh] at q1; cases q1
      obtain ⟨b', e1, e2⟩ := q3 hn
      cases e1
      have hc : w.cell? ⟨b, k, none⟩ = some (g.ihd γ k) := by rw [cell_of_row w _ _ vs e' fr k4]; exact k7 k hlt
      have hone : (g.ihd γ k).oneCell' = true := by
        have := (ho.2.1 k _ (List.getElem?_eq_getElem hlt)).2
        rcases this with ⟨e, _⟩ | ⟨_, _, _, _, _, e, _⟩ <;> rw [e] <;> rfl
      refine ⟨g.ihd γ k, ?_, by simp only [AVal.sat, true_and]; exact ⟨hone, _, _, _, hh, hlt⟩⟩
      simp [execOp, e2, Instr.loadAt, Instr.sureAddr, run_loadVar_one ht hc]) hg ⟨⟨hx, trivial⟩, ⟨hL, trivial⟩, trivial, hd⟩ h

/-- The first cells of data. -/
theorem first_data {P : Program} {E : Env} {L : Nat → AObj} {g : Gh} {w : World} (hi : Inv E L g w) {sz m : Nat} {ys : List (List D)} {x : Value} (h : (D.sl sz ys).rep g.M x) (hm : m ≤ ys.length) :
    ∃ news, (Builtin.firstCells sz m x).run P w = .ok news w ∧ news.size = m * sz ∧ satL g ((ys.take m).flatten.map .d) news.toList ∧ (Builtin.lenOf x).run P w = .ok ys.length w ∧ ∀ y ∈ ys.take m, y.length = sz := by
  simp only [D.rep] at h
  obtain ⟨a, cap, rfl, h2, h3, h4⟩ := h
  rcases h4 with rfl | ⟨b, o, rfl, hr⟩
  · have : m = 0 := by simpa using hm
    subst this
    refine ⟨#[], ?_, by simp, by simp [satL], by simp [Builtin.lenOf], by simp⟩
    cases a with
    | none => simp [Builtin.firstCells]
    | some a => simp [Builtin.firstCells, loadCells, loadCellsFrom]
  · have hr' := repRows_take hr m
    obtain ⟨vs, k1, k2, k3⟩ := sl_cells hi.mem _ b o hr'
    have hl : ∀ y ∈ ys.take m, y.length = sz := fun y hy => by
      obtain ⟨i, hi⟩ := List.getElem?_of_mem hy
      exact (repRows_get _ b o i y hr' hi).1
    have hlen : (ys.take m).length = m := by simp; omega
    rw [hlen] at k1
    refine ⟨vs.toArray, ?_, by simp [k1], ?_, by simp [Builtin.lenOf], hl⟩
    · have := run_loadCells_list (P := P) w ⟨b, o, none⟩ vs (fun j v hv => by rw [add_at]; exact k2 j v hv)
      rw [k1] at this
      simp only [Builtin.firstCells]; exact this
    · refine satL_of (by rw [List.length_map, flat_length _ hl, hlen, ← k1]) fun i z u hz hu => ?_
      simp only [List.getElem?_map, Option.map_eq_some_iff] at hz
      obtain ⟨d, hd, rfl⟩ := hz
      simp only [AVal.sat]
      exact k3 i d u hd (by simpa using hu)

theorem flat_cut {sz : Nat} : ∀ (zs : List (List D)) (n : Nat), (∀ z ∈ zs, z.length = sz) → n ≤ zs.length → (zs.take n).flatten = zs.flatten.take (n * sz) ∧ (zs.drop n).flatten = zs.flatten.drop (n * sz)
  | [], n, _, hn => by simp at hn; subst hn; simp
  | z :: zs, 0, _, _ => by simp
  | z :: zs, n + 1, hz, hn => by
    have hzl := hz z (by simp)
    obtain ⟨i1, i2⟩ := flat_cut zs n (fun q hq => hz q (by simp [hq])) (by simpa using hn)
    have e : (n + 1) * sz = z.length + n * sz := by rw [hzl, Nat.add_mul]; omega
    constructor
    · rw [List.take_succ_cons, List.flatten_cons, List.flatten_cons, i1, e, List.take_length_add_append]
    · rw [List.drop_succ_cons, List.flatten_cons, i2, e, List.drop_length_add_append]
theorem splice_take {α : Type} {A N : List α} {a m L : Nat} (hN : N.length = m) (h1 : a + m ≤ L) (h2 : L ≤ A.length) :
    (A.take a ++ N ++ A.drop (a + m)).take L = (A.take L).take a ++ N ++ (A.take L).drop (a + m) := by
  apply List.ext_getElem?
  intro j
  simp only [List.getElem?_take, List.getElem?_append, List.getElem?_drop, List.length_append, List.length_take, hN]
  have e1 : min a A.length = a := by omega
  have e2 : min a (min L A.length) = a := by omega
  rw [e1, e2]
  by_cases c0 : j < L
  · by_cases c1 : j < a
    · simp [c0, c1, show j < a + m by omega]
    · by_cases c2 : j < a + m
      · simp [c0, c1, c2]
      · simp [c0, c2, show a + m + (j - (a + m)) < L by omega]
  · simp [c0, show ¬ j < a + m by omega, show ¬ a + m + (j - (a + m)) < L by omega]

/-- What a copy into a row of one's own leaves. -/
theorem rowSat_store {P : Program} {g : Gh} {w : World} {h : Value} {sz m k : Nat} {xs ys : List (List D)} (hr : rowSat g w h sz xs) (hm : k + m ≤ xs.length) (hyl : ∀ y ∈ ys, y.length = sz) (hym : ys.length = m) {news : Array Value} (hns : news.size = m * sz) (hsat : satL g (ys.flatten.map .d) news.toList) :
    ∃ w', (match h with | .slice (some a) _ _ => (storeCells (a.add (k * sz)) news.toList).run P w | _ => .ok () w) = .ok () w' ∧ rowSat g w' h sz (xs.take k ++ ys ++ xs.drop (k + m)) ∧
      (∀ b, ¬ hdBlk h b → w'.heap[b]? = w.heap[b]?) ∧ w'.heap.size = w.heap.size ∧ w'.os = w.os ∧ w'.output = w.output := by
  have hlen' : ∀ r ∈ xs.take k ++ ys ++ xs.drop (k + m), r.length = sz := by
    intro r hrr
    simp only [List.mem_append] at hrr
    rcases hrr with (h | h) | h
    · exact hr.1 r (List.mem_of_mem_take h)
    · exact hyl r h
    · exact hr.1 r (List.mem_of_mem_drop h)
  have hll : (xs.take k ++ ys ++ xs.drop (k + m)).length = xs.length := by simp [hym]; omega
  rcases hr.2 with ⟨rfl, rfl⟩ | ⟨b, cap, vs, e, fr, rfl, h2, h3, h4, h5, h6, h7⟩
  · have : m = 0 ∧ k = 0 := by simpa [Nat.add_comm] using hm
    obtain ⟨rfl, rfl⟩ := this
    have : ys = [] := List.eq_nil_of_length_eq_zero hym
    subst this
    exact ⟨w, rfl, ⟨by simp, .inl ⟨rfl, by simp⟩⟩, fun _ _ => rfl, rfl, rfl, rfl⟩
  · have hfx := flat_length xs hr.1
    have hfy := flat_length ys hyl
    have hbnd : k * sz + m * sz ≤ vs.size := by
      rw [← Nat.add_mul]
      exact Nat.le_trans (Nat.mul_le_mul_right _ (Nat.le_trans hm h2)) h6
    obtain ⟨vs', k1, k2⟩ := run_storeCells_row (P := P) b e fr vs.size h5 news.toList (k * sz) 0 vs w h4 rfl (by simp [hns]; omega) (fun u hu => by
      obtain ⟨j, hj, rfl⟩ := List.getElem_of_mem hu
      have hjl : j < ys.flatten.length := by rw [hfy, hym, ← hns]; simpa using hj
      obtain ⟨_, hrep⟩ := dmap_sat hsat
      obtain ⟨u, hu1, hu2⟩ := hrep j _ (List.getElem?_eq_getElem hjl)
      rw [List.getElem?_eq_getElem hj] at hu1; cases hu1
      exact D.rep_one hu2)
    simp only [Nat.add_zero, Array.length_toList, hns] at k2
    have hvs' : vs'.size = vs.size := by
      have := congrArg List.length k2
      simp [hns] at this; omega
    refine ⟨w.setRow b vs', ?_, ⟨hlen', .inr ⟨b, cap, vs', e, fr, by rw [hll], by rw [hll]; exact h2, h3, setRow_heap w b vs _ e fr h4, by rw [hvs']; exact h5, by rw [hvs']; exact h6, ?_⟩⟩, fun c hc => setRow_other w b c vs' (fun e => hc (by rw [e]; exact ⟨_, _, _, rfl, rfl⟩)), by simp, rfl, rfl⟩
    · simp only [add_at, Nat.zero_add]; exact k1
    · rw [hll]
      have hxt : (vs.toList.take (xs.length * sz)).length = xs.length * sz := by have := satL_length h7; simp only [List.length_map, hfx] at this; exact this
      have hle : k * sz + m * sz ≤ xs.length * sz := by rw [← Nat.add_mul]; exact Nat.mul_le_mul_right _ hm
      have e1 : vs'.toList.take (xs.length * sz) = (vs.toList.take (xs.length * sz)).take (k * sz) ++ news.toList ++ (vs.toList.take (xs.length * sz)).drop (k * sz + m * sz) := by
        rw [k2]
        exact splice_take (by simp [hns]) hle (by simp at hxt ⊢; omega)
      rw [e1]
      have e2 : (xs.take k ++ ys ++ xs.drop (k + m)).flatten = xs.flatten.take (k * sz) ++ ys.flatten ++ xs.flatten.drop (k * sz + m * sz) := by
        obtain ⟨t1, _⟩ := flat_cut xs k hr.1 (by omega)
        obtain ⟨_, t2⟩ := flat_cut xs (k + m) hr.1 hm
        rw [List.flatten_append, List.flatten_append, t1, t2, Nat.add_mul]
      rw [e2, List.map_append, List.map_append, List.map_take, List.map_drop]
      exact satL_append (satL_append (satL_take h7 _) hsat) (satL_drop h7 _)

theorem run_copy {T T2 ty : TypeId} {sz m : Nat} {x y : Value} {news : Array Value} {w w' : World} {a : Option Addr} {n c ylen : Nat} (hT : slIs P T sz = true) (hx : x = .slice a n c) (hl : (Builtin.lenOf y).run P w = .ok ylen w) (hm : m = min ylen n)
    (hf : (Builtin.firstCells sz m y).run P w = .ok news w) (hst : (match x with | .slice (some a) _ _ => (storeCells (a.add (0 * sz)) news.toList).run P w | _ => .ok () w) = .ok () w') :
    (Builtin.copy_ #[T, T2] ty #[x, y]).run P w = .ok (.int .i64 m) w' := by
  obtain ⟨e, h1, h2, _⟩ := slIs_spec hT
  subst hx hm
  have hmin : Nat.min ylen n = min ylen n := rfl
  cases a with
  | none =>
    simp only at hst
    cases hst
    simp [Builtin.copy_, run_underlying h1, hl, h2 w, hmin, hf, goInt]
  | some a =>
    simp only [Nat.zero_mul, Addr.add_zero'] at hst
    simp [Builtin.copy_, run_underlying h1, hl, h2 w, hmin, hf, hst, goInt]

/-- copy into an inner row. -/
theorem w_copy_inn {x y : Operand} {T T2 : TypeId} {γ k isz m : Nat} {rows : List (List (List D))} {r ys : List (List D)} (hx : S.ev x = .inn γ k) (hL : S.obj γ = .mat isz rows) (hr : rows[k]? = some r) (hy : S.ev y = .d (.sl isz ys)) (hm : m = min ys.length r.length)
    (hT : slIs P T isz = true) {d' : Option (Nat × AVal)} (hd : dstOk S d') (hd' : d' = none ∨ ∃ t, d' = some (t, ai m)) (hg : guardOk ops S gd)
    (h : Walk P ops draw K rest ((l.length, ⟨d'.map (·.1), .call ⟨.builtin .copy, #[x, y], #[T, T2]⟩, ty, pos, aft, gd⟩, ⟨guardReads ops gd ++ [(x, .inn γ k), (y, .d (.sl isz ys))], d', [(γ, .mat isz rows)], [(γ, .mat isz (rows.set k (ys.take m ++ r.drop m)))], []⟩) :: l)
      ⟨S.n, d'.toList ++ S.τ, (γ, .mat isz (rows.set k (ys.take m ++ r.drop m))) :: S.L⟩) :
    Walk P ops draw K (⟨d'.map (·.1), .call ⟨.builtin .copy, #[x, y], #[T, T2]⟩, ty, pos, aft, gd⟩ :: rest) l S := by
  refine walk_op ⟨[(x, .inn γ k), (y, .d (.sl isz ys))], d', [(γ, .mat isz rows)], [(γ, .mat isz (rows.set k (ys.take m ++ r.drop m)))], []⟩ ?_ hg ⟨⟨hx, hy, trivial⟩, ⟨hL, trivial⟩, trivial, hd⟩ h
  intro E S a w g hs hok Q K hK
  obtain ⟨ok1, ⟨l1, _⟩, _, ok4⟩ := hok
  have hq := satR_of hs _ ok1
  have ho := hs.1.obj γ
  rw [l1] at ho
  have hx' : a.eval x = g.ihd γ k := by have := hq.1; simp only [AVal.sat] at this; exact this.2.1
  have hsy : (D.sl isz ys).rep g.M (a.eval y) := by have := hq.2.1; simpa only [AVal.sat] using this
  have hlt : k < rows.length := (List.getElem?_eq_some_iff.1 hr).1
  have hrow := ho.2.1 k r hr
  obtain ⟨news, n1, n2, n3, n4, n5⟩ := first_data (P := P) hs.1 hsy (m := m) (by omega)
  obtain ⟨w', s1, s2, s3, s4, s5, s6⟩ := rowSat_store (P := P) (k := 0) (m := m) hrow (by omega) n5 (by simp; omega) n2 n3
  simp only [List.take_zero, List.nil_append, Nat.zero_add] at s2
  have hhd : ∃ b c, g.ihd γ k = .slice b r.length c := by
    rcases hrow.2 with ⟨e, rfl⟩ | ⟨b, cap, vs, e', fr, e, _⟩
    · exact ⟨_, _, e⟩
    · exact ⟨_, _, e⟩
  obtain ⟨b0, c0, hhd⟩ := hhd
  have hrun := run_copy (P := P) (T2 := T2) (ty := ty) hT hhd n4 hm n1 s1
  have hi : Inv E (look .dead ((γ, .mat isz (rows.set k (ys.take m ++ r.drop m))) :: S.L)) g w' := by
    refine Inv.upd hs.1 γ _ (look_same _ _ _ _) (fun j hj => look_ne _ _ _ (Ne.symm hj)) (fun b hb hnl => s3 b fun hc => hnl (by rw [l1]; exact .inr ⟨k, hlt, hc⟩)) (by omega) s5 s6 rfl (fun _ _ => ⟨rfl, rfl, rfl⟩) (fun _ _ _ _ _ h => h) ?_ (fun b hb => .inl ?_) (fun _ => Gh.keeps_refl _ _)
    · obtain ⟨h1, h2, h3⟩ := ho
      refine ⟨?_, fun i q hq => ?_, fun i j b hi hj => h3 i j b (by simpa using hi) (by simpa using hj)⟩
      · rcases h1 with ⟨e, rfl⟩ | ⟨b, cap, vs, e', fr, k1, k2, k3, k4, k5, k6, k7, k8⟩
        · simp at hlt
        · refine .inr ⟨b, cap, vs, e', fr, by simpa using k1, by simpa using k2, k3, ?_, k5, k6, fun i hi => k7 i (by simpa using hi), fun i hi => k8 i (by simpa using hi)⟩
          rw [s3 b (k8 k hlt)]; exact k4
      · rw [List.getElem?_set] at hq
        split at hq
        · rename_i hik
          subst hik
          first | (rw [if_pos hlt] at hq; cases hq; exact s2) | (cases hq; exact s2)
        · rename_i hik
          have hil : i < rows.length := (List.getElem?_eq_some_iff.1 hq).1
          exact rowSat_move (MemLe.refl _) (fun b hb => s3 b fun hc => hik (h3 i k b hil hlt hb hc).symm) (h2 i q hq)
    · rw [l1]
      rcases hb with hb | ⟨i, hi, hb⟩
      · exact .inl hb
      · exact .inr ⟨i, by simpa using hi, hb⟩
  have hrun' : (execOp a.eval ⟨d'.map (·.1), .call ⟨.builtin .copy, #[x, y], #[T, T2]⟩, ty, pos, aft, gd⟩).run P w = .ok (.value (.int .i64 m)) w' := by
    simp [execOp, resolve, invoke, builtin, hx', hrun]
  unfold Oper.wp
  rw [hrun', Oper.upon_value]
  rcases hd' with rfl | ⟨t, rfl⟩
  · exact hK _ _ ⟨g, hi, hs.2.1, hs.2.2.1, hs.2.2.2⟩
  · exact hK _ _ (holds_put hi hs.2.1 hs.2.2.1 hs.2.2.2 (sat_mk rfl) ok4)

theorem w_copy_in {x y : Operand} {T T2 : TypeId} {γ k isz m : Nat} {rows : List (List (List D))} {r ys : List (List D)} (hx : S.ev x = .inn γ k) (hL : S.obj γ = .mat isz rows) (hr : rows[k]? = some r) (hy : S.ev y = .d (.sl isz ys)) (hm : m = min ys.length r.length)
    (hT : slIs P T isz = true) (hd : Nat.blt d S.n = true) (hg : guardOk ops S gd)
    (h : Walk P ops draw K rest ((l.length, ⟨some d, .call ⟨.builtin .copy, #[x, y], #[T, T2]⟩, ty, pos, aft, gd⟩, ⟨guardReads ops gd ++ [(x, .inn γ k), (y, .d (.sl isz ys))], some (d, ai m), [(γ, .mat isz rows)], [(γ, .mat isz (rows.set k (ys.take m ++ r.drop m)))], []⟩) :: l)
      ((S.set d (ai m)).own γ (.mat isz (rows.set k (ys.take m ++ r.drop m))))) :
    Walk P ops draw K (⟨some d, .call ⟨.builtin .copy, #[x, y], #[T, T2]⟩, ty, pos, aft, gd⟩ :: rest) l S :=
  w_copy_inn (d' := some (d, ai m)) hx hL hr hy hm hT hd (.inr ⟨d, rfl⟩) hg h

theorem w_max {x y : Operand} {tys : Array TypeId} {k : IntKind} {a b : Int} (hx : S.ev x = .d (.v (.int k a))) (hy : S.ev y = .d (.v (.int k b))) (hd : Nat.blt d S.n = true) (hg : guardOk ops S gd)
    (h : Walk P ops draw K rest ((l.length, ⟨some d, .call ⟨.builtin .max, #[x, y], tys⟩, ty, pos, aft, gd⟩, ⟨guardReads ops gd ++ [(x, .d (.v (.int k a))), (y, .d (.v (.int k b)))], some (d, .d (.v (.int k (max a b)))), [], [], []⟩) :: l) (S.set d (.d (.v (.int k (max a b)))))) :
    Walk P ops draw K (⟨some d, .call ⟨.builtin .max, #[x, y], tys⟩, ty, pos, aft, gd⟩ :: rest) l S :=
  walk_op ⟨[(x, .d (.v (.int k a))), (y, .d (.v (.int k b)))], some (d, .d (.v (.int k (max a b)))), [], [], []⟩ (valid_val rfl fun E S g act w hs hq hl => by
    refine ⟨_, ?_, sat_mk rfl⟩
    have e : (if b > a then b else a) = max a b := by
      by_cases h : b > a <;> simp [h] <;> omega
    simp [execOp, resolve, invoke, builtin, Builtin.max_, Builtin.max2, sat_v hq.1, sat_v hq.2.1]
    omega) hg ⟨⟨hx, hy, trivial⟩, trivial, trivial, hd⟩ h
theorem w_min {x y : Operand} {tys : Array TypeId} {k : IntKind} {a b : Int} (hx : S.ev x = .d (.v (.int k a))) (hy : S.ev y = .d (.v (.int k b))) (hd : Nat.blt d S.n = true) (hg : guardOk ops S gd)
    (h : Walk P ops draw K rest ((l.length, ⟨some d, .call ⟨.builtin .min, #[x, y], tys⟩, ty, pos, aft, gd⟩, ⟨guardReads ops gd ++ [(x, .d (.v (.int k a))), (y, .d (.v (.int k b)))], some (d, .d (.v (.int k (min a b)))), [], [], []⟩) :: l) (S.set d (.d (.v (.int k (min a b)))))) :
    Walk P ops draw K (⟨some d, .call ⟨.builtin .min, #[x, y], tys⟩, ty, pos, aft, gd⟩ :: rest) l S :=
  walk_op ⟨[(x, .d (.v (.int k a))), (y, .d (.v (.int k b)))], some (d, .d (.v (.int k (min a b)))), [], [], []⟩ (valid_val rfl fun E S g act w hs hq hl => by
    refine ⟨_, ?_, sat_mk rfl⟩
    simp [execOp, resolve, invoke, builtin, Builtin.min_, Builtin.min2, sat_v hq.1, sat_v hq.2.1]
    omega) hg ⟨⟨hx, hy, trivial⟩, trivial, trivial, hd⟩ h
end
end Go.Fw
namespace Go.Fw
open Go
set_option linter.unusedVariables false
set_option linter.unusedSimpArgs false

mutual
def AVal.ren (ρ : Nat → Nat) : AVal → AVal
  | .any => .any
  | .d x => .d x
  | .ptr γ o => .ptr (ρ γ) o
  | .own γ n => .own (ρ γ) n
  | .rptr γ n o => .rptr (ρ γ) n o
  | .inn γ i => .inn (ρ γ) i
  | .bsl γ n => .bsl (ρ γ) n
  | .mptr γ n i => .mptr (ρ γ) n i
  | .cut γ n k sz => .cut (ρ γ) n k sz
  | .dptr row => .dptr row
  | .bq p q => .bq p q
  | .agg cs => .agg (renA ρ cs)
  | .tup cs => .tup (renA ρ cs)
  | .fn f cs => .fn f (renA ρ cs)
def renA (ρ : Nat → Nat) : List AVal → List AVal
  | [] => []
  | x :: r => x.ren ρ :: renA ρ r
end
def AObj.ren (ρ : Nat → Nat) : AObj → AObj
  | .dead => .dead
  | .box cs => .box (renA ρ cs)
  | .row sz xs => .row sz xs
  | .froz sz xs => .froz sz xs
  | .mat sz rows => .mat sz rows
  | .iter s p => .iter s p
def renL (ρ : Nat → Nat) : List (Nat × AObj) → List (Nat × AObj)
  | [] => []
  | (k, o) :: r => (ρ k, o.ren ρ) :: renL ρ r
def Gh.pull (g : Gh) (ρ : Nat → Nat) : Gh := { blk := fun k => g.blk (ρ k), hd := fun k => g.hd (ρ k), ihd := fun k => g.ihd (ρ k), M := g.M }

mutual
theorem ren_sat {g : Gh} {ρ : Nat → Nat} : ∀ (x : AVal) (u : Value), (x.ren ρ).sat g u ↔ x.sat (g.pull ρ) u
  | .any, _ => by simp only [AVal.ren, AVal.sat]
  | .d x, _ => by simp only [AVal.ren, AVal.sat, Gh.pull]
  | .ptr γ o, _ => by simp only [AVal.ren, AVal.sat, Gh.pull]
  | .own γ n, _ => by simp only [AVal.ren, AVal.sat, Gh.pull]
  | .rptr γ n o, _ => by simp only [AVal.ren, AVal.sat, Gh.pull]
  | .inn γ i, _ => by simp only [AVal.ren, AVal.sat, Gh.pull]
  | .bsl γ n, _ => by simp only [AVal.ren, AVal.sat, Gh.pull]
  | .mptr γ n i, _ => by simp only [AVal.ren, AVal.sat, Gh.pull]
  | .cut γ n k sz, _ => by simp only [AVal.ren, AVal.sat, Gh.pull]
  | .dptr row, _ => by simp only [AVal.ren, AVal.sat, Gh.pull]
  | .bq p q, _ => by simp only [AVal.ren, AVal.sat]
  | .agg cs, u => by simp only [AVal.ren, AVal.sat, renA_sat cs]
  | .tup cs, u => by simp only [AVal.ren, AVal.sat, renA_sat cs]
  | .fn f cs, u => by simp only [AVal.ren, AVal.sat, renA_sat cs]
theorem renA_sat {g : Gh} {ρ : Nat → Nat} : ∀ (xs : List AVal) (us : List Value), satL g (renA ρ xs) us ↔ satL (g.pull ρ) xs us
  | [], [] => by simp only [renA, satL]
  | [], _ :: _ => by simp only [renA, satL]
  | _ :: _, [] => by simp only [renA, satL]
  | x :: xs, u :: us => by simp only [renA, satL, ren_sat x u, renA_sat xs us]
end
theorem renA_cellish {ρ : Nat → Nat} : ∀ (cs : List AVal), (∀ c ∈ cs, c.cellish = true) ↔ ∀ c ∈ renA ρ cs, c.cellish = true
  | [] => by simp [renA]
  | c :: r => by
    simp only [renA, List.mem_cons, forall_eq_or_imp, ← renA_cellish r]
    refine and_congr_left fun _ => ?_
    cases c <;> simp [AVal.ren, AVal.cellish]
theorem dmap_pull {g : Gh} {ρ : Nat → Nat} {l : List D} {us : List Value} : satL (g.pull ρ) (l.map .d) us ↔ satL g (l.map .d) us := by
  have h : renA ρ (l.map .d) = l.map .d := by
    induction l with
    | nil => rfl
    | cons x r ih => simp [renA, AVal.ren, ih]
  rw [← renA_sat, h]
theorem rowSat_pull {g : Gh} {ρ : Nat → Nat} {w : World} {h : Value} {sz : Nat} {xs : List (List D)} : rowSat (g.pull ρ) w h sz xs ↔ rowSat g w h sz xs := by
  simp only [rowSat, dmap_pull]
theorem ren_objSat {g : Gh} {ρ : Nat → Nat} {w : World} {γ : Nat} (o : AObj) : objSat g w (ρ γ) (o.ren ρ) ↔ objSat (g.pull ρ) w γ o := by
  cases o with
  | dead => exact Iff.rfl
  | box cs => simp only [AObj.ren, objSat, renA_sat, ← renA_cellish cs]; rfl
  | row sz xs => simp only [AObj.ren, objSat]; exact rowSat_pull.symm
  | froz sz xs => exact Iff.rfl
  | iter s p => exact Iff.rfl
  | mat sz rows => simp only [AObj.ren, objSat, matSat, rowSat_pull]; rfl
theorem ren_lives {g : Gh} {ρ : Nat → Nat} {γ b : Nat} (o : AObj) : lives g (o.ren ρ) (ρ γ) b ↔ lives (g.pull ρ) o γ b := by
  cases o <;> exact Iff.rfl
theorem look_ren {ρ σ : Nat → Nat} (h1 : ∀ k, σ (ρ k) = k) : ∀ (L : List (Nat × AObj)) (γ : Nat), look .dead (renL ρ L) (ρ γ) = (look .dead L γ).ren ρ
  | [], γ => rfl
  | (k, o) :: r, γ => by
    simp only [renL]
    by_cases h : k = γ
    · subst h; rw [look_same, look_same]
    · rw [look_ne _ _ _ h, look_ne _ _ _ (fun e => h (by rw [← h1 k, ← h1 γ, e])), look_ren h1 r γ]
theorem hasKey_ren {ρ σ : Nat → Nat} (h1 : ∀ k, σ (ρ k) = k) : ∀ (L : List (Nat × AObj)) (γ : Nat), hasKey (ρ γ) (renL ρ L) = hasKey γ L
  | [], γ => rfl
  | (k, o) :: r, γ => by
    simp only [renL, hasKey, hasKey_ren h1 r γ]
    congr 1
    rw [Bool.eq_iff_iff]
    simp only [Nat.beq_eq]
    exact ⟨fun e => by rw [← h1 k, ← h1 γ, e], fun e => by rw [e]⟩

theorem inv_ren {E : Env} {ρ σ : Nat → Nat} (h1 : ∀ k, σ (ρ k) = k) (h2 : ∀ k, ρ (σ k) = k) {L : List (Nat × AObj)} {g : Gh} {w : World} {g0 : Gh} :
    Inv { E with g0 := g } (look .dead (renL ρ L)) g w ↔ Inv { E with g0 := g.pull ρ } (look .dead L) (g.pull ρ) w := by
  have hlv : ∀ γ b, lives g (look .dead (renL ρ L) (ρ γ)) (ρ γ) b ↔ lives (g.pull ρ) (look .dead L γ) γ b := fun γ b => by rw [look_ren h1]; exact ren_lives _
  constructor
  · intro hi
    refine ⟨fun γ => ?_, fun γ γ' b h h' => ?_, hi.mem, fun γ b h => hi.sep (ρ γ) b ((hlv _ _).2 h), fun γ b h => hi.new (ρ γ) b ((hlv _ _).2 h), hi.ext, hi.lim, hi.frame, hi.size, hi.os, hi.out, fun _ _ => Gh.keeps_refl _ _⟩
    · have := hi.obj (ρ γ); rw [look_ren h1] at this; exact (ren_objSat _).1 this
    · have := hi.inj (ρ γ) (ρ γ') b ((hlv _ _).2 h) ((hlv _ _).2 h')
      rw [← h1 γ, ← h1 γ', this]
  · intro hi
    have hs : ∀ γ b, lives g (look .dead (renL ρ L) γ) γ b → lives (g.pull ρ) (look .dead L (σ γ)) (σ γ) b := fun γ b h => by
      have := (hlv (σ γ) b).1; rw [h2] at this; exact this h
    refine ⟨fun γ => ?_, fun γ γ' b h h' => ?_, hi.mem, fun γ b h => hi.sep (σ γ) b (hs _ _ h), fun γ b h => hi.new (σ γ) b (hs _ _ h), hi.ext, hi.lim, hi.frame, hi.size, hi.os, hi.out, fun _ _ => Gh.keeps_refl _ _⟩
    · have := hi.obj (σ γ)
      rw [← ren_objSat (ρ := ρ), ← look_ren h1, h2] at this
      exact this
    · have := hi.inj (σ γ) (σ γ') b (hs _ _ h) (hs _ _ h')
      rw [← h2 γ, ← h2 γ', this]

theorem keeps_pull {g g' : Gh} {ρ : Nat → Nat} {γ : Nat} : (g.pull ρ).keeps (g'.pull ρ) γ ↔ g.keeps g' (ρ γ) := Iff.rfl

theorem con_ren {P : Program} {f : FuncId} {Li Lo : List (Nat × AObj)} {args : List AVal} {res : AVal} (ρ σ : Nat → Nat) (h1 : ∀ k, σ (ρ k) = k) (h2 : ∀ k, ρ (σ k) = k) (h : Con P f Li args Lo res) :
    Con P f (renL ρ Li) (renA ρ args) (renL ρ Lo) (res.ren ρ) := by
  intro g w vs hi hs
  have hA : ∀ b, (∃ γ, lives g (look .dead (renL ρ Li) γ) γ b) ↔ ∃ γ, lives (g.pull ρ) (look .dead Li γ) γ b := by
    intro b
    constructor
    · rintro ⟨γ, hγ⟩
      refine ⟨σ γ, ?_⟩
      rw [← h2 γ, look_ren h1, ren_lives] at hγ
      exact hγ
    · rintro ⟨γ, hγ⟩
      refine ⟨ρ γ, ?_⟩
      rw [look_ren h1, ren_lives]; exact hγ
  have hE : envOf (g.pull ρ) w Li = { envOf g w (renL ρ Li) with g0 := g.pull ρ } := by
    simp only [envOf, Env.mk.injEq, true_and, and_true]
    exact ⟨rfl, funext fun b => propext (hA b).symm⟩
  have hi' : Inv (envOf (g.pull ρ) w Li) (look .dead Li) (g.pull ρ) w := by
    rw [hE]; exact (inv_ren (g0 := g) h1 h2).1 hi
  refine (h (g.pull ρ) w vs hi' ((renA_sat _ _).1 hs)).mono ?_
  rintro e w' ⟨v, g', rfl, hv, hi2, hk⟩
  have hgp : (g'.pull σ).pull ρ = g' := by simp only [Gh.pull, h1]
  refine ⟨v, g'.pull σ, rfl, (ren_sat _ _).2 (by rw [hgp]; exact hv), ?_, fun γ hγ => ?_⟩
  · refine (inv_ren (E := envOf g w (renL ρ Li)) (g0 := g) h1 h2).2 ?_
    rw [hgp]
    have : ({ envOf (g.pull ρ) w Li with g0 := g' } : Env) = { envOf g w (renL ρ Li) with g0 := g' } := by rw [hE]
    rw [← this]; exact hi2
  · have hγ' : hasKey (σ γ) Li = true := by rw [← hasKey_ren h1, h2]; exact hγ
    have := hk (σ γ) hγ'
    rw [← hgp, keeps_pull, h2] at this
    exact this

/-- Two keys exchanged. -/
def swp (a b k : Nat) : Nat := bif Nat.beq k a then b else bif Nat.beq k b then a else k
theorem swp_swp (a b k : Nat) : swp a b (swp a b k) = k := by
  simp only [swp]
  by_cases h1 : k = a
  · subst h1
    by_cases h2 : b = k
    · subst h2; simp
    · have : Nat.beq b k = false := by cases h : Nat.beq b k with | false => rfl | true => exact absurd (Nat.eq_of_beq_eq_true h) h2
      simp [this]
  · have e1 : Nat.beq k a = false := by cases h : Nat.beq k a with | false => rfl | true => exact absurd (Nat.eq_of_beq_eq_true h) h1
    by_cases h2 : k = b
    · subst h2; simp [e1]
    · have e2 : Nat.beq k b = false := by cases h : Nat.beq k b with | false => rfl | true => exact absurd (Nat.eq_of_beq_eq_true h) h2
      simp [e1, e2]
theorem con_swp {P : Program} {f : FuncId} {Li Lo : List (Nat × AObj)} {args : List AVal} {res : AVal} (a b : Nat) (h : Con P f Li args Lo res) :
    Con P f (renL (swp a b) Li) (renA (swp a b) args) (renL (swp a b) Lo) (res.ren (swp a b)) :=
  con_ren _ _ (swp_swp a b) (swp_swp a b) h

section
variable {P : Program} {ops : Array Oper} {draw : Bool} {K : St → Prop} {rest : List Oper} {l : Line} {S : St}
variable {d : Nat} {ty : TypeId} {pos : String} {aft : Array Edge} {gd : Option (Nat × Bool)}

/-- A call of a function value. -/
theorem w_callv {t : Tmp} {f : FuncId} {caps : List AVal} {args : Array Operand} {tys : Array TypeId} {xs : List Operand} {ys zs : List AVal} {Li Lo : List (Nat × AObj)} {res : AVal}
    (ht : S.ev (.tmp t) = .fn f caps) (hxs : args.toList = xs) (hys : evA S xs = ys) (hle : leL (ys ++ caps) zs) (hcon : Con P f Li zs Lo res) (hf : callable P f = true)
    (hLi : lrdOk S Li) (hin : keysIn Li Lo = true) (hbox : boxesIn Lo Lo = true) (hres : res.within Lo = true) (hnew : newOk S (newKeys Li Lo)) (hdead : lrdOk S (deadL (newKeys Li Lo)))
    (hd : Nat.blt d S.n = true) (hg : guardOk ops S gd)
    (h : Walk P ops draw K rest ((l.length, ⟨some d, .call ⟨.value (.tmp t), args, tys⟩, ty, pos, aft, gd⟩, ⟨guardReads ops gd ++ ((.tmp t, .fn f caps) :: readsA xs ys), some (d, res), Li ++ deadL (newKeys Li Lo), Lo, newKeys Li Lo⟩) :: l)
      ((S.set d res).cat Lo)) :
    Walk P ops draw K (⟨some d, .call ⟨.value (.tmp t), args, tys⟩, ty, pos, aft, gd⟩ :: rest) l S := by
  have hap : ∀ (A B : List (Nat × AObj)) (T : St), lrdOk T (A ++ B) ↔ lrdOk T A ∧ lrdOk T B := by
    intro A B T
    simp only [lrdOk_iff, List.mem_append]
    exact ⟨fun h => ⟨fun p hp => h p (.inl hp), fun p hp => h p (.inr hp)⟩, fun h p hp => hp.elim (h.1 p) (h.2 p)⟩
  have hlen : ys.length = xs.length := by
    rw [← hys]; clear hys hxs h hle
    induction xs with
    | nil => rfl
    | cons x r ih => simp [evA, ih]
  refine walk_op ⟨(.tmp t, .fn f caps) :: readsA xs ys, some (d, res), Li ++ deadL (newKeys Li Lo), Lo, newKeys Li Lo⟩ ?_ hg ⟨⟨ht, by rw [← hys]; exact evA_ok S xs⟩, (hap _ _ _).2 ⟨hLi, hdead⟩, hnew, hd⟩ h
  intro E S a w g hs hok Q K hK
  obtain ⟨ok1, ok2, ok3, ok4⟩ := hok
  rw [hap] at ok2
  obtain ⟨hq1, hq2⟩ := satR_of hs _ ok1
  simp only [AVal.sat] at hq1
  obtain ⟨cv, hcv, hcs⟩ := hq1
  have hsat := leL_sat hle (satL_append (readsA_sat hlen hq2) hcs)
  have hinv : Inv (envOf g w Li) (look .dead Li) g w := by
    have hsub := subL_of ok2.1
    have hl : ∀ γ b, lives g (look .dead Li γ) γ b → lives g (S.obj γ) γ b := by
      intro γ b hb
      rcases hsub γ with e | e
      · rw [← e]; exact hb
      · rw [e] at hb; exact hb.elim
    refine ⟨fun γ => ?_, fun γ γ' b k k' => hs.1.inj γ γ' b (hl _ _ k) (hl _ _ k'), hs.1.mem, fun γ b k => hs.1.sep γ b (hl _ _ k), fun γ b k => .inr ⟨γ, k⟩, MemLe.refl _, fun a v ha => .inl ⟨v, ha⟩, fun _ _ _ => rfl, Nat.le_refl _, rfl, rfl, fun γ _ => Gh.keeps_refl _ _⟩
    rcases hsub γ with e | e
    · rw [e]; exact hs.1.obj γ
    · rw [e]; trivial
  have hcall := hcon g w (xs.map a.eval ++ cv.toList) hinv hsat
  have hrun : (execOp a.eval ⟨some d, .call ⟨.value (.tmp t), args, tys⟩, ty, pos, aft, gd⟩).run P w = .ok (.enter f (xs.map a.eval ++ cv.toList).toArray) w := by
    have e1 : (#[] ++ args.map a.eval ++ cv : Array Value) = (xs.map a.eval ++ cv.toList).toArray := by
      apply Array.ext'; simp [← hxs]
    simp only [execOp, resolve, hcv, Deferred.ofValue, Sem.run_bind, Sem.run_pure, Result.andThen_ok, invoke]
    rw [run_callFunc hf]
    congr 2
  unfold Oper.wp
  rw [hrun, Oper.upon_enter]
  refine hcall.mono ?_
  rintro e w' ⟨v, g', rfl, hv, hi', hk⟩
  obtain ⟨j1, j2, j3⟩ := inv_call hs.1 ok2.1 hin hbox ok3 ok2.2 hi' hk
  exact hK _ _ (holds_put j1 hs.2.1 hs.2.2.1 (fun t => j3 t _ (hs.2.2.2 t)) (j2 _ _ hres hv) ok4)
/-- A function value is made. -/
theorem w_makeFunc {f : FuncId} {caps : Array Operand} {xs : List Operand} {ys : List AVal} (hxs : caps.toList = xs) (hys : evA S xs = ys) (hd : Nat.blt d S.n = true) (hg : guardOk ops S gd)
    (h : Walk P ops draw K rest ((l.length, ⟨some d, .makeFunc (.func f) #[] caps, ty, pos, aft, gd⟩, ⟨guardReads ops gd ++ readsA xs ys, some (d, .fn f ys), [], [], []⟩) :: l) (S.set d (.fn f ys))) :
    Walk P ops draw K (⟨some d, .makeFunc (.func f) #[] caps, ty, pos, aft, gd⟩ :: rest) l S := by
  have hlen : ys.length = xs.length := by
    rw [← hys]; clear hys hxs h
    induction xs with
    | nil => rfl
    | cons x r ih => simp [evA, ih]
  refine walk_op ⟨readsA xs ys, some (d, .fn f ys), [], [], []⟩ (valid_val rfl fun E S g a w hs hq hl => ?_) hg ⟨by rw [← hys]; exact evA_ok S xs, trivial, trivial, hd⟩ h
  refine ⟨.func (.func f) #[] (caps.map a.eval), by simp [execOp, Instr.makeFunc], ?_⟩
  simp only [AVal.sat]
  refine ⟨_, rfl, ?_⟩
  have := readsA_sat hlen hq
  rw [show (caps.map a.eval).toList = xs.map a.eval by simp [← hxs]]
  exact this
end
end Go.Fw
namespace Go.Fw
open Go
set_option linter.unusedVariables false
set_option linter.unusedSimpArgs false
section
variable {P : Program} {ops : Array Oper} {draw : Bool} {K : St → Prop} {rest : List Oper} {l : Line} {S : St}
variable {d : Nat} {ty : TypeId} {pos : String} {aft : Array Edge} {gd : Option (Nat × Bool)}
/-- copy into one's own row. -/
theorem w_copy_own0 {x y : Operand} {T T2 : TypeId} {γ n sz m : Nat} {r ys : List (List D)} (hx : S.ev x = .own γ n) (hL : S.obj γ = .row sz r) (hn : n = r.length) (hy : S.ev y = .d (.sl sz ys)) (hm : m = min ys.length r.length)
    (hT : slIs P T sz = true) {d' : Option (Nat × AVal)} (hd : dstOk S d') (hd' : d' = none ∨ ∃ t, d' = some (t, ai m)) (hg : guardOk ops S gd)
    (h : Walk P ops draw K rest ((l.length, ⟨d'.map (·.1), .call ⟨.builtin .copy, #[x, y], #[T, T2]⟩, ty, pos, aft, gd⟩, ⟨guardReads ops gd ++ [(x, .own γ n), (y, .d (.sl sz ys))], d', [(γ, .row sz r)], [(γ, .row sz (ys.take m ++ r.drop m))], []⟩) :: l)
      ⟨S.n, d'.toList ++ S.τ, (γ, .row sz (ys.take m ++ r.drop m)) :: S.L⟩) :
    Walk P ops draw K (⟨d'.map (·.1), .call ⟨.builtin .copy, #[x, y], #[T, T2]⟩, ty, pos, aft, gd⟩ :: rest) l S := by
  refine walk_op ⟨[(x, .own γ n), (y, .d (.sl sz ys))], d', [(γ, .row sz r)], [(γ, .row sz (ys.take m ++ r.drop m))], []⟩ ?_ hg ⟨⟨hx, hy, trivial⟩, ⟨hL, trivial⟩, trivial, hd⟩ h
  intro E S a w g hs hok Q K hK
  obtain ⟨ok1, ⟨l1, _⟩, _, ok4⟩ := hok
  have hq := satR_of hs _ ok1
  have ho := hs.1.obj γ
  rw [l1] at ho
  have hx' : a.eval x = g.hd γ := own_sat hq.1 ho hn
  have hsy : (D.sl sz ys).rep g.M (a.eval y) := by have := hq.2.1; simpa only [AVal.sat] using this
  have hrow : rowSat g w (g.hd γ) sz r := ho
  obtain ⟨news, n1, n2, n3, n4, n5⟩ := first_data (P := P) hs.1 hsy (m := m) (by omega)
  obtain ⟨w', s1, s2, s3, s4, s5, s6⟩ := rowSat_store (P := P) (k := 0) (m := m) hrow (by omega) n5 (by simp; omega) n2 n3
  simp only [List.take_zero, List.nil_append, Nat.zero_add] at s2
  have hhd : ∃ b c, g.hd γ = .slice b r.length c := by
    rcases hrow.2 with ⟨e, rfl⟩ | ⟨b, cap, vs, e', fr, e, _⟩
    · exact ⟨_, _, e⟩
    · exact ⟨_, _, e⟩
  obtain ⟨b0, c0, hhd⟩ := hhd
  have hrun := run_copy (P := P) (T2 := T2) (ty := ty) hT hhd n4 hm n1 s1
  have hi : Inv E (look .dead ((γ, .row sz (ys.take m ++ r.drop m)) :: S.L)) g w' := by
    refine Inv.upd hs.1 γ _ (look_same _ _ _ _) (fun j hj => look_ne _ _ _ (Ne.symm hj)) (fun b hb hnl => s3 b fun hc => hnl (by rw [l1]; exact hc)) (by omega) s5 s6 rfl (fun _ _ => ⟨rfl, rfl, rfl⟩) (fun _ _ _ _ _ h => h) s2 (fun b hb => .inl ?_) (fun _ => Gh.keeps_refl _ _)
    rw [l1]; exact hb
  have hrun' : (execOp a.eval ⟨d'.map (·.1), .call ⟨.builtin .copy, #[x, y], #[T, T2]⟩, ty, pos, aft, gd⟩).run P w = .ok (.value (.int .i64 m)) w' := by
    simp [execOp, resolve, invoke, builtin, hx', hrun]
  unfold Oper.wp
  rw [hrun', Oper.upon_value]
  rcases hd' with rfl | ⟨t, rfl⟩
  · exact hK _ _ ⟨g, hi, hs.2.1, hs.2.2.1, hs.2.2.2⟩
  · exact hK _ _ (holds_put hi hs.2.1 hs.2.2.1 hs.2.2.2 (sat_mk rfl) ok4)
theorem w_copy_own {x y : Operand} {T T2 : TypeId} {γ n sz m : Nat} {r ys : List (List D)} (hx : S.ev x = .own γ n) (hL : S.obj γ = .row sz r) (hn : n = r.length) (hy : S.ev y = .d (.sl sz ys)) (hm : m = min ys.length r.length)
    (hT : slIs P T sz = true) (hd : Nat.blt d S.n = true) (hg : guardOk ops S gd)
    (h : Walk P ops draw K rest ((l.length, ⟨some d, .call ⟨.builtin .copy, #[x, y], #[T, T2]⟩, ty, pos, aft, gd⟩, ⟨guardReads ops gd ++ [(x, .own γ n), (y, .d (.sl sz ys))], some (d, ai m), [(γ, .row sz r)], [(γ, .row sz (ys.take m ++ r.drop m))], []⟩) :: l)
      ((S.set d (ai m)).own γ (.row sz (ys.take m ++ r.drop m)))) :
    Walk P ops draw K (⟨some d, .call ⟨.builtin .copy, #[x, y], #[T, T2]⟩, ty, pos, aft, gd⟩ :: rest) l S :=
  w_copy_own0 (d' := some (d, ai m)) hx hL hn hy hm hT hd (.inr ⟨d, rfl⟩) hg h
end
theorem le_box {S : St} (β : Nat) {cs cs' : List AVal} (hb : S.obj β = .box cs) (hle : leL cs cs') (hc : cellishL cs' = true) : S.le (S.own β (.box cs')) := by
  rintro E a w ⟨g, hs⟩
  have ho := hs.1.obj β
  rw [hb] at ho
  obtain ⟨vs, e, fr, h1, h2, h3, h4⟩ := ho
  have hi2 : Inv E (look .dead ((β, .box cs') :: S.L)) g w := by
    refine Inv.upd hs.1 β _ (look_same _ _ _ _) (fun k hk => look_ne _ _ _ (Ne.symm hk)) (fun _ _ _ => rfl) (Nat.le_refl _) rfl rfl rfl (fun _ _ => ⟨rfl, rfl, rfl⟩) (fun _ _ _ _ _ h => h) ?_ (fun b hb' => .inl (by rw [hb]; exact hb')) (fun _ => Gh.keeps_refl _ _)
    exact ⟨vs, e, fr, h1, h2, leL_sat hle h3, (cellishL_iff _).1 hc⟩
  exact holds_ghost hs hi2 rfl hs.2.2.2
theorem Con.res_le {P : Program} {f : FuncId} {Li Lo : List (Nat × AObj)} {args : List AVal} {res res' : AVal} (h : Con P f Li args Lo res) (hle : res.le res') : Con P f Li args Lo res' := by
  intro g w vs hi hs
  refine (h g w vs hi hs).mono ?_
  rintro e w' ⟨v, g', h1, h2, h3, h4⟩
  exact ⟨v, g', h1, hle _ _ h2, h3, h4⟩

/-! Bytes as a string. -/
def baOf (l : List UInt8) : ByteArray := ⟨l.toArray⟩
theorem baOf_toList (l : List UInt8) : (baOf l).toList = l := by
  rw [ByteArray.toList_eq]; simp [baOf]
theorem baOf_fold (l : List UInt8) : ∀ s : ByteArray, (l.map fun b => (b.toNat : Int)).foldl (fun r n => r.push (UInt8.ofNat n.toNat)) s = ⟨s.data ++ l.toArray⟩ := by
  induction l with
  | nil => intro s; cases s; simp
  | cons b l ih =>
    intro s
    simp only [List.map_cons, List.foldl_cons, ih]
    cases s
    simp [ByteArray.push]
section
variable {P : Program} {ops : Array Oper} {draw : Bool} {K : St → Prop} {rest : List Oper} {l : Line} {S : St}
variable {d : Nat} {ty : TypeId} {pos : String} {aft : Array Edge} {gd : Option (Nat × Bool)}
theorem rb_eqls {t : TypeId} {x y : Operand} {a b : List UInt8} (w : World) : (do eqGuard .eql t x y (.string (baOf a)) (.string (baOf b)); binOp .eql t (.string (baOf a)) (.string (baOf b)) : Sem Value).run P w = .ok (.bool (decide (a = b))) w := by
  simp [go_sem, baOf_toList]; exact Bool.beq_eq_decide_eq a b
theorem rb_neqs {t : TypeId} {x y : Operand} {a b : List UInt8} (w : World) : (do eqGuard .neq t x y (.string (baOf a)) (.string (baOf b)); binOp .neq t (.string (baOf a)) (.string (baOf b)) : Sem Value).run P w = .ok (.bool (decide (a ≠ b))) w := by
  simp [go_sem, baOf_toList]; exact Bool.beq_eq_decide_eq a b
def bsTy (P : Program) (src dst : TypeId) : Bool :=
  match P.underlying src, P.underlying dst with
  | some (.slice e), some .string => (match P.underlying e with | some (.int .u8) => true | _ => false)
  | _, _ => false
theorem bsTy_spec {src dst : TypeId} (h : bsTy P src dst = true) : ∃ e, P.underlying src = some (.slice e) ∧ P.underlying e = some (.int .u8) ∧ P.underlying dst = some .string := by
  unfold bsTy at h
  split at h
  · rename_i e h1 h2
    split at h
    · rename_i h3
      exact ⟨e, h1, h3, h2⟩
    · simp at h
  · simp at h
theorem flat_one (b : List UInt8) : (b.map fun c => [D.v (.int .u8 c.toNat)]).flatten = b.map fun c => D.v (.int .u8 c.toNat) := by
  induction b with
  | nil => rfl
  | cons c b ih => simp [ih]
/-- The string of a slice of bytes. -/
theorem w_str {src dst : TypeId} {x : Operand} {b : List UInt8} (hx : S.ev x = .d (.sl 1 (b.map fun c => [D.v (.int .u8 c.toNat)]))) (ht : bsTy P src dst = true) (hd : Nat.blt d S.n = true) (hg : guardOk ops S gd)
    (h : Walk P ops draw K rest ((l.length, ⟨some d, .convert src dst x, ty, pos, aft, gd⟩, ⟨guardReads ops gd ++ [(x, .d (.sl 1 (b.map fun c => [D.v (.int .u8 c.toNat)])))], some (d, .d (.v (.string (baOf b)))), [], [], []⟩) :: l) (S.set d (.d (.v (.string (baOf b)))))) :
    Walk P ops draw K (⟨some d, .convert src dst x, ty, pos, aft, gd⟩ :: rest) l S := by
  refine walk_op ⟨[(x, .d (.sl 1 (b.map fun c => [D.v (.int .u8 c.toNat)])))], some (d, .d (.v (.string (baOf b)))), [], [], []⟩ (valid_val rfl fun E S g a w hs hq _ => ?_) hg ⟨⟨hx, trivial⟩, trivial, trivial, hd⟩ h
  refine ⟨.string (baOf b), ?_, sat_mk rfl⟩
  obtain ⟨e, t1, t2, t3⟩ := bsTy_spec ht
  have hsx := hq.1
  simp only [AVal.sat, D.rep] at hsx
  obtain ⟨ad, cap, hv, h2, h3, h4⟩ := hsx
  have hc : (convert src dst (a.eval x)).run P w = .ok (.string (baOf b)) w := by
    rw [hv, run_convert_bytes_string w src dst e ad _ cap t1 t2 t3]
    rcases h4 with h4 | ⟨bl, o, rfl, hr⟩
    · have hb : b = [] := by simpa using h4
      subst hb
      cases ad with
      | none => simp [Conv.bytesToString, baOf]; rfl
      | some q =>
        have := run_bytesToString (P := P) w q 0 cap [] (by simp [loadCells, loadCellsFrom])
        simp only [List.map_nil, List.foldl_nil] at this
        exact this
    · obtain ⟨vs, k1, k2, k3⟩ := sl_cells hs.1.mem _ bl o hr
      have hvs : vs = (b.map fun c => (c.toNat : Int)).map (Value.int .u8) := by
        apply List.ext_getElem?
        intro i
        cases hbi : b[i]? with
        | none =>
          have h1 : b.length ≤ i := by simpa using hbi
          have h5 : vs.length ≤ i := by rw [k1]; simpa using h1
          simp [List.getElem?_eq_none h5, hbi]
        | some c =>
          have hi : i < b.length := (List.getElem?_eq_some_iff.1 hbi).1
          have hiv : i < vs.length := by rw [k1]; simpa using hi
          have := k3 i (D.v (.int .u8 c.toNat)) vs[i] (by
            rw [flat_one]; simp [hbi]) (List.getElem?_eq_getElem hiv)
          simp only [D.rep] at this
          rw [List.getElem?_eq_getElem hiv, this.1]; simp [hbi]
      have hload := run_loadCells_list (P := P) w ⟨bl, o, none⟩ vs (fun j v hv => by rw [add_at]; exact k2 j v hv)
      rw [k1, hvs] at hload
      have := run_bytesToString (P := P) w ⟨bl, o, none⟩ _ cap (b.map fun c => (c.toNat : Int)) (by simpa using hload)
      rw [baOf_fold] at this
      simpa [baOf] using this
  simp only [execOp, Sem.run_bind]
  rw [hc]; rfl
end
end Go.Fw
namespace Go.Fw
open Go
set_option linter.unusedVariables false
set_option linter.unusedSimpArgs false
/-- What was there is there unchanged. -/
def Kept (W W' : World) : Prop := W'.os = W.os ∧ W'.output = W.output ∧ W.heap.size ≤ W'.heap.size ∧ ∀ b, b < W.heap.size → W'.heap[b]? = W.heap[b]?
def g0 (M : Mem) : Gh := ⟨fun _ => 0, fun _ => .slice none 0 0, fun _ _ => .slice none 0 0, M⟩
theorem calls_of_con {P : Program} {f : FuncId} {as : List AVal} {res : AVal} {args : Array Value} {W : World} (hc : Con P f [] as [] res) (M : Mem) (hM : ∀ a v, M a = some v → W.cell? a = some v)
    (hs : satL (g0 M) as args.toList) : Calls P f args W fun e W' => ∃ v g', e = .returned v ∧ res.sat g' v ∧ Kept W W' := by
  have hi : Inv (envOf (g0 M) W []) (look .dead []) (g0 M) W := by
    refine ⟨fun _ => trivial, fun _ _ _ h => h.elim, hM, fun _ _ h => h.elim, fun _ _ h => h.elim, MemLe.refl _, fun a v h => .inl ⟨v, h⟩, fun _ _ _ => rfl, Nat.le_refl _, rfl, rfl, fun γ _ => Gh.keeps_refl _ _⟩
  refine (hc (g0 M) W args.toList hi hs).mono ?_
  rintro e W' ⟨v, g', rfl, hv, hi', _⟩
  exact ⟨v, g', rfl, hv, hi'.os, hi'.out, hi'.size, fun b hb => hi'.frame b hb fun ⟨γ, h⟩ => h.elim⟩
theorem Kept.but {W W' : World} (h : Kept W W') (may : MemPlace → Prop) : W.keptBut W' may := by
  refine ⟨h.1, h.2.1, fun i hi => ?_⟩
  have e := h.2.2.2 i hi
  have := (World.keptBut_refl W may).2.2 i hi
  rw [e]; exact this
theorem Kept.frozen {W W' : World} (h : Kept W W') {a : Addr} (ha : a.block < W.heap.size) : W'.frozen? a = W.frozen? a := by
  unfold World.frozen?
  rw [h.2.2.2 _ ha]

section
open Go.ChangeShapes Go.WideShapes Go.ChangeAt Go.RowKit
variable {H : Type} {enc : TypeId × Value → H} {P : Program}
theorem Kept.same {W W' : World} (h : Kept W W') {p : MemPlace} (hp : p.block < W.heap.size) : W.sameAt W' p := by
  cases p with
  | cell b off =>
    show W'.cell? _ = W.cell? _
    have := h.2.2.2 b hp
    simp only [World.cell?, this]
  | map b => exact h.2.2.2 b hp
theorem trodAll_kept {W W' : World} (h : Kept W W') {base : Nat} {spare : Nat → Bool} {held : Bool} : ∀ {ts : List TypeId} {vs : List Value} {ds : List (DataW H)} {ps : List MemPlace}, DataW.TrodAll enc P W base spare held ts vs ds ps → DataW.TrodAll enc P W' base spare held ts vs ds ps
  | [], [], [], _, k => k
  | _ :: _, _ :: _, _ :: _, _, ⟨p, q, ⟨n, h1⟩, h2, e⟩ =>
    ⟨p, q, ⟨n, DataW.trod_carry n _ _ _ h1 fun x hx => h.same (DataW.trod_lt n _ _ _ h1 x hx)⟩, trodAll_kept h h2, e⟩
theorem post_true {f : Func} {s : ChangeSpec} {apart fresh handsOn again : Bool} {W W' : World} {args : Array Value} {ds gs : List (DataW H)} {before : List MemPlace} {tb : TypeId} {T : TypeId → Prop}
    (hW : DataW.Whole enc P f.params.toList s.vars apart W args.toList ds gs before) (hv : s.vars = [])
    (h1 : (s.fn H (ds ++ gs)).results = [.lit (.bool true)]) (h2 : (s.fn H (ds ++ gs)).args = ds) (h3 : (s.fn H (ds ++ gs)).vars = gs)
    (hrt : f.resultTypes = #[tb]) (htb : P.underlying tb = some .bool) (hk : Kept W W') (K : Kids P T) (hz : ∀ t e, T t → P.underlying t = some (.slice e) → 0 < P.cellsOf e) (hT : ∀ t ∈ f.params.toList, T t) :
    s.post enc P f apart fresh handsOn again W args (.bool true) W' := by
  have hlt := hW.lt
  have hW' := hW
  obtain ⟨p, q, hA, hV, hpq, hfr, hnd⟩ := hW
  have hV' : ∀ sp : Nat → Bool, DataW.TrodVars enc P W' sp s.vars (s.fn H (ds ++ gs)).vars q := by
    intro sp
    rw [h3]
    rw [hv] at hV ⊢
    obtain ⟨e1, e2⟩ := trodVars_none hV
    subst e1 e2
    rfl
  have hres : ∀ (b : Nat) (sp : Nat → Bool) (hd : Bool), DataW.TrodAll enc P W' b sp hd f.resultTypes.toList ((Value.bool true).resultList f.resultTypes.size) (s.fn H (ds ++ gs)).results [] := by
    intro b sp hd
    rw [h1, hrt]
    exact trodAll_mk1 (shut_bool htb true)
  have hargs : ∀ sp : Nat → Bool, (∀ x ∈ before, sp x.block = true) → DataW.TrodAll enc P W' 0 sp true f.params.toList args.toList (s.fn H (ds ++ gs)).args p := by
    intro sp hsp
    rw [h2]
    exact DataW.TrodAll.respare K hz hT (trodAll_kept hk hA) fun x hx => hsp x (by rw [hpq]; exact List.mem_append_left _ hx)
  have hold : ∀ x ∈ before, (fun b => decide (b < W.heap.size)) x.block = true := fun x hx => by simpa using hlt x hx
  refine ⟨ds, gs, before, [], p, q, hW', hres _ _ _, hargs _ hold, hV' _, hk.but _, fun _ => ?_⟩
  refine ⟨ok_one hrt rfl (okWide_bool_mk htb true), _, _, ([] ++ p) ++ q, ⟨[] ++ p, q, trodAll_append (hargs _ (fun _ _ => rfl)) (hres _ _ _), hV' _, rfl, ?_, ?_⟩, ?_⟩
  · intro b off hp
    have hm : MemPlace.cell b off ∈ before := by rw [hpq]; simpa using hp
    rw [hk.frozen (a := ⟨b, off, none⟩) (hlt _ hm)]
    exact hfr b off hm
  · intro ha
    have := hnd ha
    rw [hpq] at this
    simpa using this
  · intro x hx _
    rw [hpq]
    simpa using hx
end
end Go.Fw
namespace Go.Fw
open Go
set_option linter.unusedVariables false
set_option linter.unusedSimpArgs false
section
variable {P : Program} {ops : Array Oper} {draw : Bool} {K : St → Prop} {rest : List Oper} {l : Line} {S : St}
variable {d : Nat} {ty : TypeId} {pos : String} {aft : Array Edge} {gd : Option (Nat × Bool)}
theorem w_append_go {x y : Operand} {T T2 : TypeId} {γ n sz bytes : Nat} {xs ys : List (List D)} (hx : S.ev x = .own γ n) (hL : S.obj γ = .row sz xs) (hy : S.ev y = .d (.sl sz ys)) (hn : n = xs.length)
    (hB : elB P T = bytes) (hT : elIs P T sz bytes = true) (hT2 : srcTy P T2 = true) (hb0 : Nat.beq bytes 0 = false) (hroom : (xs.length + ys.length) * bytes ≤ 140737488355328)
    (hd : Nat.blt d S.n = true) (hg : guardOk ops S gd)
    (h : Walk P ops draw K rest ((l.length, ⟨some d, .call ⟨.builtin .append, #[x, y], #[T, T2]⟩, ty, pos, aft, gd⟩, ⟨guardReads ops gd ++ [(x, .own γ n), (y, .d (.sl sz ys))], some (d, .d (.sl sz (xs ++ ys))), [(γ, .row sz xs)], [(γ, .froz sz (xs ++ ys))], []⟩) :: l)
      ((S.set d (.d (.sl sz (xs ++ ys)))).own γ (.froz sz (xs ++ ys)))) :
    Walk P ops draw K (⟨some d, .call ⟨.builtin .append, #[x, y], #[T, T2]⟩, ty, pos, aft, gd⟩ :: rest) l S :=
  walk_op ⟨[(x, .own γ n), (y, .d (.sl sz ys))], some (d, .d (.sl sz (xs ++ ys))), [(γ, .row sz xs)], [(γ, .froz sz (xs ++ ys))], []⟩ (valid_new rfl fun E S g a w hs hq hl hnw => by
    have ho := hs.1.obj γ
    rw [hl.1] at ho
    have hv := own_sat hq.1 ho hn
    have hsy : (D.sl sz ys).rep g.M (a.eval y) := by have := hq.2.1; simpa only [AVal.sat] using this
    obtain ⟨news, k1, k2, k3⟩ := src_data (P := P) hs.1 hsy
    have hyl : ∀ r ∈ ys, r.length = sz := by rcases k3 with rfl | k3; simp; exact k3
    obtain ⟨v, g', w', r1, r2, r3, r4⟩ := append_core hs hl.1 (ty := ty) hT hT2 (ne_of_beq hb0) k1 rfl hyl k2 (by simpa using hroom)
    obtain ⟨M', hle, hi⟩ := inv_froz (S := S.own γ (.row sz (xs ++ ys))) r3 (look_same _ _ _ _)
    have hi2 : Inv E (look .dead ((γ, .froz sz (xs ++ ys)) :: S.L)) { g' with M := M' } w' := by
      refine hi.sub fun k => .inl ?_
      by_cases hk : γ = k
      · subst hk; rw [look_same, look_same]
      · rw [look_ne _ _ _ hk]
        show _ = look .dead ((γ, .froz sz (xs ++ ys)) :: (γ, .row sz (xs ++ ys)) :: S.L) k
        rw [look_ne _ _ _ hk, look_ne _ _ _ hk]
    have ho2 := hi2.obj γ
    rw [look_same] at ho2
    exact ⟨v, { g' with M := M' }, w', run_builtin_append rfl (by rw [hv]; exact r1), own_froz ho2 (by simp) (sat_lay (g := g') (g' := { g' with M := M' }) hle rfl rfl rfl r2), hi2, fun t => sat_lay (g := g') (g' := { g' with M := M' }) hle rfl rfl rfl (r4 t)⟩) hg ⟨⟨hx, hy, trivial⟩, ⟨hL, trivial⟩, trivial, hd⟩ h
end
end Go.Fw
namespace Go.Fw
open Go
set_option linter.unusedVariables false
set_option linter.unusedSimpArgs false
section
variable {P : Program} {ops : Array Oper} {draw : Bool} {K : St → Prop} {rest : List Oper} {l : Line} {S : St}
variable {d : Nat} {ty : TypeId} {pos : String} {aft : Array Edge} {gd : Option (Nat × Bool)}
theorem w_index_own {x i : Operand} {T : TypeId} {γ n k : Nat} {kd : IntKind} {m : Int} {xs : List (List D)} (hx : S.ev x = .own γ n) (hL : S.obj γ = .row 1 xs) (hi : S.ev i = .d (.v (.int kd m))) (hn : n = xs.length) (hk : m = (k : Nat)) (hlt : k < xs.length)
    (hT : slIs P T 1 = true) (hd : Nat.blt d S.n = true) (hg : guardOk ops S gd)
    (h : Walk P ops draw K rest ((l.length, ⟨some d, .indexAddr T x i, ty, pos, aft, gd⟩, ⟨guardReads ops gd ++ [(x, .own γ n), (i, .d (.v (.int kd m)))], some (d, .rptr γ n k), [(γ, .row 1 xs)], [], []⟩) :: l) (S.set d (.rptr γ n k))) :
    Walk P ops draw K (⟨some d, .indexAddr T x i, ty, pos, aft, gd⟩ :: rest) l S :=
  walk_op ⟨[(x, .own γ n), (i, .d (.v (.int kd m)))], some (d, .rptr γ n k), [(γ, .row 1 xs)], [], []⟩ (valid_val rfl fun E S g a w hs hq hl => by
    obtain ⟨e, h1, h2, h3⟩ := slIs_spec hT
    have ho := hs.1.obj γ
    rw [hl.1] at ho
    have hv := own_sat hq.1 ho hn
    rcases ho.2 with ⟨e, rfl⟩ | ⟨b, cap, vs, e', fr, hh, _⟩
    · simp at hlt
    · rw [hh] at hv
      refine ⟨.pointer (some ⟨b, k, none⟩), ?_, ?_⟩
      · have hb : (0 : Int) ≤ m ∧ m < (xs.length : Int) := by omega
        have hm : m.toNat = k := by omega
        have := run_indexAt_slice (P := P) w T ⟨b, 0, none⟩ xs.length cap kd m (by rw [h3]; exact h1)
        rw [if_pos hb, h3, h2 w, Result.andThen_ok, add_at, hm, Nat.mul_one, Nat.zero_add] at this
        simp only [execOp, hv, sat_v hq.2.1, Sem.run_bind, this]; rfl
      · simp only [AVal.sat]
        exact ⟨rfl, _, _, _, hh, by omega, fun _ => ⟨_, rfl, rfl⟩⟩) hg ⟨⟨hx, hi, trivial⟩, ⟨hL, trivial⟩, trivial, hd⟩ h
theorem flat_get {xs : List (List D)} (h : ∀ x ∈ xs, x.length = 1) {k : Nat} {y : D} (hk : xs[k]? = some [y]) : xs.flatten[k]? = some y := by
  induction xs generalizing k with
  | nil => simp at hk
  | cons x xs ih =>
    obtain ⟨z, rfl⟩ : ∃ z, x = [z] := by
      have := h x (List.mem_cons_self ..)
      match x, this with
      | [z], _ => exact ⟨z, rfl⟩
    cases k with
    | zero => simp at hk; simp [hk]
    | succ k => simp at hk; simp [ih (fun x hx => h x (List.mem_cons_of_mem _ hx)) hk]
theorem w_load_own {t : TypeId} {x : Operand} {γ n k : Nat} {xs : List (List D)} {y : D} (hx : S.ev x = .rptr γ n k) (hL : S.obj γ = .row 1 xs) (hn : n = xs.length) (hy : xs[k]? = some [y])
    (ht : tyIs P t false 1 = true) (hd : Nat.blt d S.n = true) (hg : guardOk ops S gd)
    (h : Walk P ops draw K rest ((l.length, ⟨some d, .load t x, ty, pos, aft, gd⟩, ⟨guardReads ops gd ++ [(x, .rptr γ n k)], some (d, .d y), [(γ, .row 1 xs)], [], []⟩) :: l) (S.set d (.d y))) :
    Walk P ops draw K (⟨some d, .load t x, ty, pos, aft, gd⟩ :: rest) l S :=
  walk_op ⟨[(x, .rptr γ n k)], some (d, .d y), [(γ, .row 1 xs)], [], []⟩ (valid_val rfl fun E S g a w hs hq hl => by
    have ho := hs.1.obj γ
    rw [hl.1] at ho
    have hq1 := hq.1
    simp only [AVal.sat] at hq1
    obtain ⟨_, a', m, c, q1, q2, q3⟩ := hq1
    have hlt : k < xs.length := (List.getElem?_eq_some_iff.1 hy).1
    rcases ho.2 with ⟨e, rfl⟩ | ⟨b, cap, vs, e', fr, hh, k2, k3, k4, k5, k6, k7⟩
    · simp at hlt
    · rw [hh] at q1; cases q1
      obtain ⟨b', e1, e2⟩ := q3 hn
      cases e1
      obtain ⟨u, hu, hsu⟩ := satL_get k7 k (.d y) (by rw [List.getElem?_map, flat_get ho.1 hy]; rfl)
      have hc : w.cell? ⟨b, k, none⟩ = some u := by
        rw [cell_of_row w _ _ vs e' fr k4]
        rw [List.getElem?_take] at hu
        split at hu
        · simpa using hu
        · simp at hu
      refine ⟨u, ?_, hsu⟩
      simp [execOp, e2, Instr.loadAt, Instr.sureAddr, run_loadVar_one ht hc]) hg ⟨⟨hx, trivial⟩, ⟨hL, trivial⟩, trivial, hd⟩ h
theorem w_store_own {t : TypeId} {x v : Operand} {γ n k : Nat} {xs : List (List D)} {y : D} (hx : S.ev x = .rptr γ n k) (hL : S.obj γ = .row 1 xs) (hv : S.ev v = .d y) (hn : n = xs.length) (hlt : k < xs.length)
    (ht : tySize P t 1 = true) (hg : guardOk ops S gd)
    (h : Walk P ops draw K rest ((l.length, ⟨none, .store t x v, ty, pos, aft, gd⟩, ⟨guardReads ops gd ++ [(x, .rptr γ n k), (v, .d y)], none, [(γ, .row 1 xs)], [(γ, .row 1 (xs.take k ++ [[y]] ++ xs.drop (k + 1)))], []⟩) :: l)
      (S.own γ (.row 1 (xs.take k ++ [[y]] ++ xs.drop (k + 1))))) :
    Walk P ops draw K (⟨none, .store t x v, ty, pos, aft, gd⟩ :: rest) l S :=
  walk_op ⟨[(x, .rptr γ n k), (v, .d y)], none, [(γ, .row 1 xs)], [(γ, .row 1 (xs.take k ++ [[y]] ++ xs.drop (k + 1)))], []⟩ (valid_unit rfl fun E S g a w hs hq hl hnn => by
    have ho := hs.1.obj γ
    rw [hl.1] at ho
    have hq1 := hq.1
    simp only [AVal.sat] at hq1
    obtain ⟨_, a', m, c, q1, q2, q3⟩ := hq1
    have hrow : rowSat g w (g.hd γ) 1 xs := ho
    have hone : (a.eval v).cells = #[a.eval v] := by
      have := AVal.sat_one (x := .d y) rfl hq.2.1
      cases hvv : a.eval v <;> rw [hvv] at this <;> first | rfl | simp [Value.oneCell'] at this
    obtain ⟨w', s1, s2, s3, s4, s5, s6⟩ := rowSat_store (P := P) (k := k) (m := 1) (ys := [[y]]) hrow (by omega) (by simp) rfl (news := #[a.eval v]) (by simp) (by
      simp only [List.flatten_cons, List.flatten_nil, List.append_nil, List.map_cons, List.map_nil, satL]
      exact ⟨hq.2.1, trivial⟩)
    rcases hrow.2 with ⟨e, rfl⟩ | ⟨b, cap, vs, e', fr, hh, _⟩
    · simp at hlt
    rw [hh] at q1 s1; cases q1
    obtain ⟨b', e1, e2⟩ := q3 hn
    cases e1
    simp only [Nat.mul_one, add_at, Nat.zero_add] at s1
    refine ⟨g, w', ?_, ?_, hs.2.2.2⟩
    · have hsz := tySize_spec ht w
      have s1' : (storeCells ⟨b, k, none⟩ [a.eval v]).run P w = .ok () w' := by simpa using s1
      simp [execOp, e2, Instr.storeAt, Instr.sureAddr, storeVar, hsz, hone, s1']
    · refine Inv.upd hs.1 γ _ (look_same _ _ _ _) (fun j hj => look_ne _ _ _ (Ne.symm hj)) (fun b hb hnl => s3 b fun hc => hnl (by rw [hl.1]; exact hc)) (by omega) s5 s6 rfl (fun _ _ => ⟨rfl, rfl, rfl⟩) (fun _ _ _ _ _ h => h) s2 (fun b hb => .inl (by rw [hl.1]; exact hb)) (fun _ => Gh.keeps_refl _ _)) hg ⟨⟨hx, hv, trivial⟩, ⟨hL, trivial⟩, trivial, trivial⟩ h
end
end Go.Fw
namespace Go.Fw
open Go
set_option linter.unusedVariables false
section
variable {P : Program}
def isBool (P : Program) (t : TypeId) : Bool := match P.underlying t with | some .bool => true | _ => false
theorem isBool_spec {t : TypeId} (h : isBool P t = true) : P.underlying t = some .bool := by
  unfold isBool at h
  cases hu : P.underlying t with
  | none => rw [hu] at h; simp at h
  | some u => cases u <;> rw [hu] at h <;> simp at h ⊢
theorem rb_eqb {t : TypeId} {x y : Operand} {a b : Bool} (ht : isBool P t = true) (w : World) : (do eqGuard .eql t x y (.bool a) (.bool b); binOp .eql t (.bool a) (.bool b) : Sem Value).run P w = .ok (.bool (decide (a = b))) w := by
  have h := run_equalIn_bool' (P := P) w 9999 t a b (isBool_spec ht)
  have h2 : (Op.equal t (.bool a) (.bool b)).run P w = .ok (a == b) w := h
  simp [eqGuard, binOp, h2]
  exact Bool.beq_eq_decide_eq a b
theorem rb_neqb {t : TypeId} {x y : Operand} {a b : Bool} (ht : isBool P t = true) (w : World) : (do eqGuard .neq t x y (.bool a) (.bool b); binOp .neq t (.bool a) (.bool b) : Sem Value).run P w = .ok (.bool (decide (a ≠ b))) w := by
  have h := run_equalIn_bool' (P := P) w 9999 t a b (isBool_spec ht)
  have h2 : (Op.equal t (.bool a) (.bool b)).run P w = .ok (a == b) w := h
  simp [eqGuard, binOp, h2, Bool.beq_eq_decide_eq]
theorem rb_rem {t : TypeId} {x y : Operand} {k : IntKind} {a b : Int} (ha : 0 ≤ a) (hb : b ≠ 0) (w : World) : (do eqGuard .rem t x y (.int k a) (.int k b); binOp .rem t (.int k a) (.int k b) : Sem Value).run P w = .ok (.int k (a % b)) w := by
  simp [eqGuard, binOp, Op.intDiv, hb, go_sem, Int.tmod_eq_emod_of_nonneg ha]
theorem rc_b64 {src dst : TypeId} {b : UInt8} (hs : (P.underlying src).isSome = true) (hd : isInt P dst .i64 = true) (w : World) :
    (convert src dst (.int .u8 (b.toNat : Int))).run P w = .ok (.int .i64 (b.toNat : Int)) w := by
  have h := rc_int (P := P) (n := (b.toNat : Int)) (k := .u8) hs hd w
  have := b.toNat_lt
  rwa [IntWalk.i64_in _ ⟨by omega, by omega⟩] at h
/-- A number that the new type has too. -/
theorem rc_in64 {src dst : TypeId} {k : IntKind} {n : Int} (hs : (P.underlying src).isSome = true) (hd : isInt P dst .i64 = true) (hn : -9223372036854775808 ≤ n ∧ n ≤ 9223372036854775807) (w : World) :
    (convert src dst (.int k n)).run P w = .ok (.int .i64 n) w := by
  have h := rc_int (P := P) (n := n) (k := k) hs hd w
  rwa [IntWalk.i64_in _ hn] at h
end
section
variable {P : Program} {ops : Array Oper} {draw : Bool} {K : St → Prop} {rest : List Oper} {l : Line} {S : St}
variable {d : Nat} {ty : TypeId} {pos : String} {aft : Array Edge} {gd : Option (Nat × Bool)}
/-- An operator whose outcome is written otherwise. -/
theorem w_bin_to {op : BinOp} {xt yt : TypeId} {x y : Operand} {u v r : Value} (r' : Value) (hr' : r = r') (hx : S.ev x = .d (.v u)) (hy : S.ev y = .d (.v v))
    (hr : ∀ w, (do eqGuard op xt x y u v; binOp op xt u v : Sem Value).run P w = .ok r w) (h1 : r'.oneCell' = true) (hd : Nat.blt d S.n = true) (hg : guardOk ops S gd)
    (h : Walk P ops draw K rest ((l.length, ⟨some d, .binOp op xt x y yt, ty, pos, aft, gd⟩, ⟨guardReads ops gd ++ [(x, .d (.v u)), (y, .d (.v v))], some (d, .d (.v r')), [], [], []⟩) :: l) (S.set d (.d (.v r')))) :
    Walk P ops draw K (⟨some d, .binOp op xt x y yt, ty, pos, aft, gd⟩ :: rest) l S := by
  subst hr'
  exact w_bin hx hy hr h1 hd hg h
end
end Go.Fw
namespace Go.Fw
open Go Go.ChangeShapes Go.WideShapes Go.Deep
set_option linter.unusedVariables false
/-- These values are this data. -/
def repV (M : Mem) : List D → List Value → Prop
  | [], [] => True
  | d :: ds, v :: vs => d.rep M v ∧ repV M ds vs
  | _, _ => False
theorem repV_append {M : Mem} : ∀ {ds es : List D} {us vs : List Value}, repV M ds us → repV M es vs → repV M (ds ++ es) (us ++ vs)
  | [], _, [], _, _, h => h
  | [], _, _ :: _, _, h, _ => by simp only [repV] at h
  | _ :: _, _, [], _, h, _ => by simp only [repV] at h
  | d :: ds, es, u :: us, vs, h, k => by
    simp only [repV, List.cons_append] at h ⊢
    exact ⟨h.1, repV_append h.2 k⟩
theorem repV_length {M : Mem} : ∀ {ds : List D} {us : List Value}, repV M ds us → us.length = ds.length
  | [], [], _ => rfl
  | [], _ :: _, h => by simp only [repV] at h
  | _ :: _, [], h => by simp only [repV] at h
  | d :: ds, u :: us, h => by simp only [repV] at h; simp [repV_length h.2]
theorem repV_get {M : Mem} : ∀ {ds : List D} {us : List Value}, repV M ds us → ∀ (i : Nat) (d : D), ds[i]? = some d → ∃ u, us[i]? = some u ∧ d.rep M u
  | [], [], _, _, _, h => by simp at h
  | [], _ :: _, h, _, _, _ => by simp only [repV] at h
  | _ :: _, [], h, _, _, _ => by simp only [repV] at h
  | d :: ds, u :: us, h, 0, e, he => by simp only [repV] at h; simp at he; subst he; exact ⟨u, by simp, h.1⟩
  | d :: ds, u :: us, h, i + 1, e, he => by
    simp only [repV] at h
    simpa using repV_get h.2 i e (by simpa using he)
theorem repV_sat {M : Mem} {g : Gh} (hM : g.M = M) : ∀ {ds : List D} {us : List Value}, repV M ds us → satL g (ds.map .d) us
  | [], [], _ => by simp only [List.map_nil, satL]
  | [], _ :: _, h => by simp only [repV] at h
  | _ :: _, [], h => by simp only [repV] at h
  | d :: ds, u :: us, h => by
    simp only [repV] at h
    simp only [List.map_cons, satL, AVal.sat]
    exact ⟨hM ▸ h.1, repV_sat hM h.2⟩
theorem list_of {α : Type} {p : Nat → α → Prop} : ∀ n, (∀ i, i < n → ∃ r, p i r) → ∃ l : List α, l.length = n ∧ ∀ (i : Nat) (r : α), l[i]? = some r → p i r
  | 0, _ => ⟨[], rfl, fun i r h => by simp at h⟩
  | n + 1, h => by
    obtain ⟨l, h1, h2⟩ := list_of n (fun i hi => h i (by omega))
    obtain ⟨r, hr⟩ := h n (by omega)
    refine ⟨l ++ [r], by simp [h1], fun i x hx => ?_⟩
    rw [List.getElem?_append] at hx
    split at hx
    · exact h2 i x hx
    · rename_i hi
      have : i = n := by
        rcases Nat.lt_or_ge (i - l.length) 1 with hj | hj
        · omega
        · simp [show i - l.length ≠ 0 by omega] at hx
      subst this
      simp [h1] at hx
      subst hx; exact hr

section
variable {H : Type} {enc : TypeId × Value → H} {P : Program} {W : World}
/-- Whatever reads as a value of type t is the data of some r with p. -/
structure Opens {α : Type} (enc : TypeId × Value → H) (P : Program) (W : World) (t : TypeId) (p : α → Prop) (f : α → List D) : Prop where
  op : ∀ n cs x, DataW.trod enc P W 0 (fun _ => true) true n t cs = some x → ∃ r, p r ∧ repV W.cell? (f r) cs
theorem Opens.to {α β : Type} {t : TypeId} {p : α → Prop} {f : α → List D} (h : Opens enc P W t p f) {q : β → Prop} {g : β → List D} (φ : α → β) (hφ : ∀ a, p a → q (φ a) ∧ f a = g (φ a)) : Opens enc P W t q g := by
  refine ⟨fun n cs x hx => ?_⟩
  obtain ⟨r, h1, h2⟩ := h.op n cs x hx
  exact ⟨φ r, (hφ r h1).1, (hφ r h1).2 ▸ h2⟩
theorem opens_bool {t : TypeId} (ht : P.underlying t = some .bool) : Opens enc P W t (fun _ : Bool => True) (fun b => [.v (.bool b)]) := by
  refine ⟨fun n cs x hx => ?_⟩
  cases n with
  | zero => simp [DataW.trod] at hx
  | succ n =>
    unfold DataW.trod at hx
    rw [ht] at hx
    split at hx
    case h_1 _ _ b _ => exact ⟨b, trivial, ⟨rfl, rfl⟩, trivial⟩
    all_goals simp_all
theorem opens_int {t : TypeId} {k : IntKind} (ht : P.underlying t = some (.int k)) : Opens enc P W t (fun n : Int => (Lit.int k n).wf = true) (fun n => [.v (.int k n)]) := by
  refine ⟨fun n cs x hx => ?_⟩
  obtain ⟨n', rfl, _, hw⟩ := DataW.trod_int ht hx
  refine ⟨n', hw, ?_⟩
  simp [repV, D.rep, Value.oneCell']
theorem opens_i64 {t : TypeId} (ht : P.underlying t = some (.int .i64)) : Opens enc P W t (fun n : Int => -9223372036854775808 ≤ n ∧ n ≤ 9223372036854775807) (fun n => [.v (.int .i64 n)]) :=
  (opens_int ht).to id fun a ha => ⟨bounds_i64 ha, rfl⟩
theorem opens_u8 {t : TypeId} (ht : P.underlying t = some (.int .u8)) : Opens enc P W t (fun _ : UInt8 => True) (fun b => [.v (.int .u8 b.toNat)]) :=
  (opens_int ht).to (fun n => UInt8.ofNat n.toNat) fun a ha => ⟨trivial, by
    have := bounds_u8 ha
    simp only [List.cons.injEq, D.v.injEq, Value.int.injEq, true_and, and_true, UInt8.toNat_ofNat']
    omega⟩
theorem opens_slice {α : Type} {t e : TypeId} {sz : Nat} {p : α → Prop} {f : α → List D} (ht : P.underlying t = some (.slice e)) (hz : P.cellsOf e = sz) (h0 : 0 < sz) (ho : Opens enc P W e p f) :
    Opens enc P W t (fun l : List α => ∀ r ∈ l, p r) (fun l => [.sl sz (l.map f)]) := by
  refine ⟨fun n cs x hx => ?_⟩
  rcases open_slice ht hx with ⟨rfl, _⟩ | ⟨a, len, cap, m, n', DD, Pl, rfl, _, hl, hm, hmm, rfl, hel⟩
  · refine ⟨[], by simp, ?_⟩
    simp only [repV, D.rep, List.map_nil]
    exact ⟨⟨none, 0, rfl, Nat.le_refl _, Nat.zero_le _, .inl trivial⟩, trivial⟩
  simp only [if_true] at hmm
  subst hmm
  have hel' : ∀ i, i < len → ∃ r, p r ∧ (f r).length = sz ∧ ∀ j d, (f r)[j]? = some d → ∃ u, W.cell? ((a.add (i * sz)).add j) = some u ∧ d.rep W.cell? u := by
    intro i hi
    obtain ⟨cs', h1, h2⟩ := hel i (by omega)
    obtain ⟨r, h3, h4⟩ := ho.op _ _ _ h2
    obtain ⟨_, h5, h6⟩ := World.cells?_some h1
    rw [hz] at h5 h6
    refine ⟨r, h3, by rw [← repV_length h4, h5], fun j d hd => ?_⟩
    obtain ⟨u, h7, h8⟩ := repV_get h4 j d hd
    have hj : j < sz := by
      have := (List.getElem?_eq_some_iff.1 h7).1
      omega
    exact ⟨u, (h6 j hj).trans h7, h8⟩
  obtain ⟨l, h1, h2⟩ := list_of len hel'
  refine ⟨l, fun r hr => ?_, ?_⟩
  · obtain ⟨i, hi⟩ := List.getElem?_of_mem hr
    exact (h2 i r hi).1
  simp only [repV, D.rep]
  refine ⟨⟨some a, m, by rw [List.length_map, h1], by rw [List.length_map, h1]; exact hl, hm, ?_⟩, trivial⟩
  by_cases h00 : len = 0
  · exact .inl (by rw [List.eq_nil_of_length_eq_zero (h1.trans h00)]; rfl)
  right
  obtain ⟨b, o, sp⟩ := a
  have hsp : sp = none := by
    obtain ⟨r, hr⟩ : ∃ r, l[0]? = some r := ⟨_, List.getElem?_eq_getElem (by omega)⟩
    obtain ⟨_, hlen, hcell⟩ := h2 0 r hr
    obtain ⟨d, hd⟩ : ∃ d, (f r)[0]? = some d := ⟨_, List.getElem?_eq_getElem (by omega)⟩
    obtain ⟨u, hu, _⟩ := hcell 0 d hd
    simpa [Addr.add] using World.cell?_spot hu
  subst hsp
  refine ⟨b, o, rfl, repRows_of _ _ _ fun i r hr => ?_⟩
  obtain ⟨x, hx, rfl⟩ : ∃ x, l[i]? = some x ∧ f x = r := by simpa using hr
  obtain ⟨_, hlen, hcell⟩ := h2 i x hx
  refine ⟨hlen, repCells_of _ _ _ fun j d hd => ?_⟩
  obtain ⟨u, hu, hd⟩ := hcell j d hd
  rw [add_at, add_at] at hu
  exact ⟨u, hu, hd⟩
/-- The fields from one offset on. -/
structure OpensF {α : Type} (enc : TypeId × Value → H) (P : Program) (W : World) (N : Nat) (fs : List Field) (off : Nat) (p : α → Prop) (f : α → List D) : Prop where
  op : ∀ cs : List Value, cs.length = N → (∀ q ∈ fs, ∃ n x, DataW.trod enc P W 0 (fun _ => true) true n q.type ((cs.drop q.offset).take (P.cellsOf q.type)) = some x) → ∃ r, p r ∧ repV W.cell? (f r) (cs.drop off)
theorem opensF_nil {N : Nat} : OpensF enc P W N [] N (fun _ : Unit => True) (fun _ => []) := by
  refine ⟨fun cs hN _ => ⟨(), trivial, ?_⟩⟩
  rw [List.drop_of_length_le (by omega)]; trivial
theorem opensF_cons {α β : Type} {N : Nat} {q : Field} {fs : List Field} {off s : Nat} {p : α → Prop} {f : α → List D} {p' : β → Prop} {f' : β → List D} (hoff : q.offset = off) (hs : P.cellsOf q.type = s)
    (h : Opens enc P W q.type p f) (k : OpensF enc P W N fs (off + s) p' f') : OpensF enc P W N (q :: fs) off (fun r : α × β => p r.1 ∧ p' r.2) (fun r => f r.1 ++ f' r.2) := by
  refine ⟨fun cs hN hall => ?_⟩
  obtain ⟨n, x, hx⟩ := hall q (by simp)
  rw [hoff, hs] at hx
  obtain ⟨r, h1, h2⟩ := h.op _ _ _ hx
  obtain ⟨r', h3, h4⟩ := k.op cs hN fun q' hq' => hall q' (by simp [hq'])
  refine ⟨(r, r'), ⟨h1, h3⟩, ?_⟩
  have := repV_append h2 h4
  rwa [← List.drop_drop, List.take_append_drop] at this
theorem opens_struct {α : Type} {t : TypeId} {fs : Array Field} {N : Nat} {p : α → Prop} {f : α → List D} (ht : P.underlying t = some (.struct fs)) (hN : P.cellsOf t = N) (h : OpensF enc P W N fs.toList 0 p f) : Opens enc P W t p f := by
  refine ⟨fun n cs x hx => ?_⟩
  obtain ⟨xs, n', _, _, hl, hlen, hf⟩ := DataW.trod_struct ht hx
  have := h.op cs (hl.trans hN) fun q hq => by
    obtain ⟨i, hi⟩ := List.getElem?_of_mem hq
    have h1 := hf i q (by simpa using hi)
    have hlt := (List.getElem?_eq_some_iff.1 hi).1
    simp only [Array.length_toList] at hlt
    exact ⟨n', _, h1.trans (List.getElem?_eq_getElem (by omega))⟩
  simpa using this
theorem open_agg {α : Type} {t : TypeId} {fs : Array Field} {r : Reach} {b0 : Nat} {v : Value} {d : DataW H} {ps : List MemPlace} {p : α → Prop} {f : α → List D} (ht : P.underlying t = some (.struct fs))
    (hval : Value.okWide P W r b0 t v) (hd : DataW.Trod enc P W 0 (fun _ => true) true t v d ps) (ho : Opens enc P W t p f) : ∃ x, p x ∧ (AVal.agg ((f x).map .d)).sat (g0 W.cell?) v := by
  simp only [Value.okWide, ht] at hval
  obtain ⟨cs, rfl, _, _⟩ := hval
  obtain ⟨n, hn⟩ := hd
  obtain ⟨x, h1, h2⟩ := ho.op _ _ _ hn
  refine ⟨x, h1, ?_⟩
  simp only [AVal.sat]
  exact ⟨cs, rfl, repV_sat rfl h2⟩
theorem open_sl {α : Type} {t e : TypeId} {r : Reach} {b0 : Nat} {v : Value} {d : DataW H} {ps : List MemPlace} {p : α → Prop} {f : α → D} (ht : P.underlying t = some (.slice e))
    (hval : Value.okWide P W r b0 t v) (hd : DataW.Trod enc P W 0 (fun _ => true) true t v d ps) (ho : Opens enc P W t p (fun x => [f x])) : ∃ x, p x ∧ (AVal.d (f x)).sat (g0 W.cell?) v := by
  obtain ⟨a, n, c, rfl⟩ := okWide_slice ht hval
  obtain ⟨n, hn⟩ := hd
  obtain ⟨x, h1, h2⟩ := ho.op _ _ _ hn
  refine ⟨x, h1, ?_⟩
  have := repV_sat (g := g0 W.cell?) rfl h2
  simp only [List.map_cons, List.map_nil, Value.cells, satL] at this
  exact this.1
theorem open_n {t : TypeId} {k : IntKind} {r : Reach} {b0 : Nat} {v : Value} {d : DataW H} {ps : List MemPlace} (ht : P.underlying t = some (.int k))
    (hval : Value.okWide P W r b0 t v) (hd : DataW.Trod enc P W 0 (fun _ => true) true t v d ps) : ∃ n : Int, (Lit.int k n).wf = true ∧ (AVal.d (.v (.int k n))).sat (g0 W.cell?) v := by
  obtain ⟨n, rfl, _, _, hw⟩ := open_int ht hval hd
  exact ⟨n, hw, by simp [AVal.sat, D.rep, Value.oneCell']⟩
theorem open_u8 {t : TypeId} {r : Reach} {b0 : Nat} {v : Value} {d : DataW H} {ps : List MemPlace} (ht : P.underlying t = some (.int .u8))
    (hval : Value.okWide P W r b0 t v) (hd : DataW.Trod enc P W 0 (fun _ => true) true t v d ps) : ∃ b : UInt8, (AVal.d (.v (.int .u8 b.toNat))).sat (g0 W.cell?) v := by
  obtain ⟨n, rfl, _, _, hw⟩ := open_int ht hval hd
  have := bounds_u8 hw
  refine ⟨UInt8.ofNat n.toNat, ?_⟩
  simp only [AVal.sat, D.rep, Value.oneCell', UInt8.toNat_ofNat', and_true, Value.int.injEq, true_and]
  omega
end
end Go.Fw
namespace Go.Fw
open Go Go.ChangeShapes Go.WideShapes Go.Deep
set_option linter.unusedVariables false
section
variable {H : Type} {enc : TypeId × Value → H} {P : Program} {W : World}
theorem ba_back (s : ByteArray) : baOf s.data.toList = s := by
  cases s; simp [baOf]
theorem opens_string {t : TypeId} (ht : P.underlying t = some .string) : Opens enc P W t (fun _ : List UInt8 => True) (fun s => [.v (.string (baOf s))]) := by
  refine ⟨fun n cs x hx => ?_⟩
  obtain ⟨s, rfl, _, _⟩ := DataW.trod_string ht hx
  refine ⟨s.data.toList, trivial, ?_⟩
  simp only [repV, D.rep, ba_back]
  exact ⟨⟨trivial, rfl⟩, trivial⟩
structure OpensN {α : Type} (enc : TypeId × Value → H) (P : Program) (W : World) (n : Nat) (t : TypeId) (p : α → Prop) (f : α → List D) : Prop where
  op : ∀ cs x, DataW.trod enc P W 0 (fun _ => true) true n t cs = some x → ∃ r, p r ∧ repV W.cell? (f r) cs
theorem Opens.at {α : Type} {t : TypeId} {p : α → Prop} {f : α → List D} (h : Opens enc P W t p f) (n : Nat) : OpensN enc P W n t p f := ⟨h.op n⟩
theorem opens_all {α : Type} {t : TypeId} {p : α → Prop} {f : α → List D} (h : ∀ n, OpensN enc P W n t p f) : Opens enc P W t p f := ⟨fun n => (h n).op⟩
theorem OpensN.to {α β : Type} {n : Nat} {t : TypeId} {p : α → Prop} {f : α → List D} (h : OpensN enc P W n t p f) {q : β → Prop} {g : β → List D} (φ : α → β) (hφ : ∀ a, p a → q (φ a) ∧ f a = g (φ a)) : OpensN enc P W n t q g := by
  refine ⟨fun cs x hx => ?_⟩
  obtain ⟨r, h1, h2⟩ := h.op cs x hx
  exact ⟨φ r, (hφ r h1).1, (hφ r h1).2 ▸ h2⟩
theorem opensN_slice {α : Type} {n : Nat} {t e : TypeId} {sz : Nat} {p : α → Prop} {f : α → List D} (ht : P.underlying t = some (.slice e)) (hz : P.cellsOf e = sz) (h0 : 0 < sz) (ho : ∀ m, n = m + 1 → OpensN enc P W m e p f) :
    OpensN enc P W n t (fun l : List α => ∀ r ∈ l, p r) (fun l => [.sl sz (l.map f)]) := by
  refine ⟨fun cs x hx => ?_⟩
  rcases DataW.trod_slice ht hx with ⟨rfl, _⟩ | ⟨a, len, cap, elems, rest, n', hn, rfl, _, _, hl, hm, hlen, hel, _, _⟩
  · refine ⟨[], by simp, ?_⟩
    simp only [repV, D.rep, List.map_nil]
    exact ⟨⟨none, 0, rfl, Nat.le_refl _, Nat.zero_le _, .inl trivial⟩, trivial⟩
  have hel' : ∀ i, i < len → ∃ r, p r ∧ (f r).length = sz ∧ ∀ j d, (f r)[j]? = some d → ∃ u, W.cell? ((a.add (i * sz)).add j) = some u ∧ d.rep W.cell? u := by
    intro i hi
    have h0 := hel i hi
    rw [List.getElem?_eq_getElem (by omega)] at h0
    obtain ⟨cs', h1, h2⟩ := Option.bind_eq_some_iff.1 h0
    obtain ⟨r, h3, h4⟩ := (ho n' hn).op _ _ h2
    obtain ⟨_, h5, h6⟩ := World.cells?_some h1
    rw [hz] at h5 h6
    refine ⟨r, h3, by rw [← repV_length h4, h5], fun j d hd => ?_⟩
    obtain ⟨u, h7, h8⟩ := repV_get h4 j d hd
    have hj : j < sz := by
      have := (List.getElem?_eq_some_iff.1 h7).1
      omega
    exact ⟨u, (h6 j hj).trans h7, h8⟩
  obtain ⟨l, h1, h2⟩ := list_of len hel'
  refine ⟨l, fun r hr => ?_, ?_⟩
  · obtain ⟨i, hi⟩ := List.getElem?_of_mem hr
    exact (h2 i r hi).1
  simp only [repV, D.rep]
  refine ⟨⟨some a, cap, by rw [List.length_map, h1], by rw [List.length_map, h1]; exact hl, hm, ?_⟩, trivial⟩
  by_cases h00 : len = 0
  · exact .inl (by rw [List.eq_nil_of_length_eq_zero (h1.trans h00)]; rfl)
  right
  obtain ⟨b, o, sp⟩ := a
  have hsp : sp = none := by
    obtain ⟨r, hr⟩ : ∃ r, l[0]? = some r := ⟨_, List.getElem?_eq_getElem (by omega)⟩
    obtain ⟨_, hlen, hcell⟩ := h2 0 r hr
    obtain ⟨d, hd⟩ : ∃ d, (f r)[0]? = some d := ⟨_, List.getElem?_eq_getElem (by omega)⟩
    obtain ⟨u, hu, _⟩ := hcell 0 d hd
    simpa [Addr.add] using World.cell?_spot hu
  subst hsp
  refine ⟨b, o, rfl, repRows_of _ _ _ fun i r hr => ?_⟩
  obtain ⟨x, hx, rfl⟩ : ∃ x, l[i]? = some x ∧ f x = r := by simpa using hr
  obtain ⟨_, hlen, hcell⟩ := h2 i x hx
  refine ⟨hlen, repCells_of _ _ _ fun j d hd => ?_⟩
  obtain ⟨u, hu, hd⟩ := hcell j d hd
  rw [add_at, add_at] at hu
  exact ⟨u, hu, hd⟩
/-- The fields from one offset on. -/
structure OpensFN {α : Type} (enc : TypeId × Value → H) (P : Program) (W : World) (n : Nat) (N : Nat) (fs : List Field) (off : Nat) (p : α → Prop) (f : α → List D) : Prop where
  op : ∀ cs : List Value, cs.length = N → (∀ q ∈ fs, ∃ x, DataW.trod enc P W 0 (fun _ => true) true n q.type ((cs.drop q.offset).take (P.cellsOf q.type)) = some x) → ∃ r, p r ∧ repV W.cell? (f r) (cs.drop off)
theorem opensFN_nil {n N : Nat} : OpensFN enc P W n N [] N (fun _ : Unit => True) (fun _ => []) := by
  refine ⟨fun cs hN _ => ⟨(), trivial, ?_⟩⟩
  rw [List.drop_of_length_le (by omega)]; trivial
theorem opensFN_cons {α β : Type} {n N : Nat} {q : Field} {fs : List Field} {off s : Nat} {p : α → Prop} {f : α → List D} {p' : β → Prop} {f' : β → List D} (hoff : q.offset = off) (hs : P.cellsOf q.type = s)
    (h : OpensN enc P W n q.type p f) (k : OpensFN enc P W n N fs (off + s) p' f') : OpensFN enc P W n N (q :: fs) off (fun r : α × β => p r.1 ∧ p' r.2) (fun r => f r.1 ++ f' r.2) := by
  refine ⟨fun cs hN hall => ?_⟩
  obtain ⟨x, hx⟩ := hall q (by simp)
  rw [hoff, hs] at hx
  obtain ⟨r, h1, h2⟩ := h.op _ _ hx
  obtain ⟨r', h3, h4⟩ := k.op cs hN fun q' hq' => hall q' (by simp [hq'])
  refine ⟨(r, r'), ⟨h1, h3⟩, ?_⟩
  have := repV_append h2 h4
  rwa [← List.drop_drop, List.take_append_drop] at this
theorem opensN_struct {α : Type} {n : Nat} {t : TypeId} {fs : Array Field} {N : Nat} {p : α → Prop} {f : α → List D} (ht : P.underlying t = some (.struct fs)) (hN : P.cellsOf t = N) (h : ∀ m, n = m + 1 → OpensFN enc P W m N fs.toList 0 p f) : OpensN enc P W n t p f := by
  refine ⟨fun cs x hx => ?_⟩
  obtain ⟨xs, n', hn, _, hl, hlen, hf⟩ := DataW.trod_struct ht hx
  have := (h n' hn).op cs (hl.trans hN) fun q hq => by
    obtain ⟨i, hi⟩ := List.getElem?_of_mem hq
    have h1 := hf i q (by simpa using hi)
    have hlt := (List.getElem?_eq_some_iff.1 hi).1
    simp only [Array.length_toList] at hlt
    exact ⟨_, h1.trans (List.getElem?_eq_getElem (by omega))⟩
  simpa using this
theorem open_str {t : TypeId} {r : Reach} {b0 : Nat} {v : Value} {d : DataW H} {ps : List MemPlace} (ht : P.underlying t = some .string)
    (hval : Value.okWide P W r b0 t v) (hd : DataW.Trod enc P W 0 (fun _ => true) true t v d ps) : ∃ s : List UInt8, (AVal.d (.v (.string (baOf s)))).sat (g0 W.cell?) v := by
  obtain ⟨n, hn⟩ := hd
  obtain ⟨s, _, h2⟩ := (opens_string (enc := enc) (W := W) ht).op _ _ _ hn
  refine ⟨s, ?_⟩
  have hs : ∃ u, v = .string u := by
    cases v <;> simp [Value.okWide, Cell.okWide, Cell.ok, ht] at hval
    exact ⟨_, rfl⟩
  obtain ⟨u, rfl⟩ := hs
  have h3 := repV_sat (g := g0 W.cell?) rfl h2
  simp only [List.map_cons, List.map_nil, Value.cells, satL] at h3
  exact h3.1
end
end Go.Fw
namespace Go.Fw
open Go
set_option linter.unusedVariables false
/-- The bits of a number that is not negative. -/
def capB (k : IntKind) : Nat := if k.signed then k.bits - 1 else k.bits
theorem cap_u8 : 2 ^ capB .u8 = 256 := by decide
theorem cap_u32 : 2 ^ capB .u32 = 4294967296 := by decide
theorem cap_u64 : 2 ^ capB .u64 = 18446744073709551616 := by decide
theorem cap_i32 : 2 ^ capB .i32 = 2147483648 := by decide
theorem cap_i64 : 2 ^ capB .i64 = 9223372036854775808 := by decide
theorem cap_le (k : IntKind) : 2 ^ capB k ≤ 2 ^ k.bits := Nat.pow_le_pow_right (by omega) (by unfold capB; split <;> omega)
theorem wrap_nat {k : IntKind} {n : Nat} (h : n < 2 ^ capB k) : k.wrap (n : Int) = n := by
  cases k <;> simp [capB, IntKind.signed, IntKind.bits] at h <;> simp [IntKind.wrap, IntKind.bits, IntKind.signed] <;> omega
theorem wrap_mod {k : IntKind} {n : Nat} (hs : k.signed = false) : k.wrap (n : Int) = ((n % 2 ^ k.bits : Nat) : Int) := by
  simp [IntKind.wrap, hs]
theorem ofInt_nat {m n : Nat} (h : n < 2 ^ m) : (BitVec.ofInt m (n : Int)).toNat = n := by
  rw [BitVec.ofInt_natCast, BitVec.toNat_ofNat]; exact Nat.mod_eq_of_lt h
section
variable {P : Program} {t : TypeId} {x y : Operand} {k : IntKind} {a b : Nat}
theorem bits_run {op : BinOp} {a b : Int} {r : Value} (h1 : op = .and ∨ op = .or ∨ op = .xor) (h : Op.intBits op k a b = pure r) (w : World) : (do eqGuard op t x y (.int k a) (.int k b); binOp op t (.int k a) (.int k b) : Sem Value).run P w = .ok r w := by
  rcases h1 with rfl | rfl | rfl <;> simp [eqGuard, binOp, h]
theorem shift_run {op : BinOp} {a b : Int} {k' : IntKind} {r : Value} (h1 : op = .shl ∨ op = .shr) (h : Op.shift op k a k' b = pure r) (w : World) : (do eqGuard op t x y (.int k a) (.int k' b); binOp op t (.int k a) (.int k' b) : Sem Value).run P w = .ok r w := by
  rcases h1 with rfl | rfl <;> simp [eqGuard, binOp, h]
theorem rb_and (ha : a < 2 ^ capB k) (hb : b < 2 ^ capB k) (w : World) : (do eqGuard .and t x y (.int k a) (.int k b); binOp .and t (.int k a) (.int k b) : Sem Value).run P w = .ok (.int k ((a &&& b : Nat) : Int)) w := by
  have h := cap_le k
  have := Nat.and_lt_two_pow a hb
  refine bits_run (.inl rfl) ?_ w
  simp only [Op.intBits, BitVec.toNat_and, ofInt_nat (Nat.lt_of_lt_of_le ha h), ofInt_nat (Nat.lt_of_lt_of_le hb h), wrap_nat this]
theorem rb_or (ha : a < 2 ^ capB k) (hb : b < 2 ^ capB k) (w : World) : (do eqGuard .or t x y (.int k a) (.int k b); binOp .or t (.int k a) (.int k b) : Sem Value).run P w = .ok (.int k ((a ||| b : Nat) : Int)) w := by
  have h := cap_le k
  have := Nat.or_lt_two_pow ha hb
  refine bits_run (.inr (.inl rfl)) ?_ w
  simp only [Op.intBits, BitVec.toNat_or, ofInt_nat (Nat.lt_of_lt_of_le ha h), ofInt_nat (Nat.lt_of_lt_of_le hb h), wrap_nat this]
theorem rb_xor (ha : a < 2 ^ capB k) (hb : b < 2 ^ capB k) (w : World) : (do eqGuard .xor t x y (.int k a) (.int k b); binOp .xor t (.int k a) (.int k b) : Sem Value).run P w = .ok (.int k ((a ^^^ b : Nat) : Int)) w := by
  have h := cap_le k
  have := Nat.xor_lt_two_pow ha hb
  refine bits_run (.inr (.inr rfl)) ?_ w
  simp only [Op.intBits, BitVec.toNat_xor, ofInt_nat (Nat.lt_of_lt_of_le ha h), ofInt_nat (Nat.lt_of_lt_of_le hb h), wrap_nat this]
theorem rb_shr {k' : IntKind} (hb : b ≤ k.bits) (w : World) : (do eqGuard .shr t x y (.int k a) (.int k' b); binOp .shr t (.int k a) (.int k' b) : Sem Value).run P w = .ok (.int k ((a / 2 ^ b : Nat) : Int)) w := by
  have e : (a : Int).fdiv (2 ^ b) = ((a / 2 ^ b : Nat) : Int) := by
    rw [Int.fdiv_eq_ediv_of_nonneg _ (by exact Int.le_of_lt (Int.pow_pos (by omega)))]; simp
  refine shift_run (.inr rfl) ?_ w
  have hb0 : ¬ ((b : Int) < 0) := by omega
  simp only [Op.shift, if_neg hb0, Int.toNat_natCast, Nat.min_eq_left hb, e]
theorem rb_shl {k' : IntKind} (hb : b ≤ k.bits) (h : a * 2 ^ b < 2 ^ capB k) (w : World) : (do eqGuard .shl t x y (.int k a) (.int k' b); binOp .shl t (.int k a) (.int k' b) : Sem Value).run P w = .ok (.int k ((a * 2 ^ b : Nat) : Int)) w := by
  have e := wrap_nat h
  rw [show ((a * 2 ^ b : Nat) : Int) = (a : Int) * 2 ^ b by simp] at e
  refine shift_run (.inl rfl) ?_ w
  have hb0 : ¬ ((b : Int) < 0) := by omega
  simp only [Op.shift, if_neg hb0, Int.toNat_natCast, Nat.min_eq_left hb, e]
  simp
theorem rb_shl_mod {k' : IntKind} (hs : k.signed = false) (hb : b ≤ k.bits) (w : World) : (do eqGuard .shl t x y (.int k a) (.int k' b); binOp .shl t (.int k a) (.int k' b) : Sem Value).run P w = .ok (.int k ((a * 2 ^ b % 2 ^ k.bits : Nat) : Int)) w := by
  have e := wrap_mod (k := k) (n := a * 2 ^ b) hs
  rw [show ((a * 2 ^ b : Nat) : Int) = (a : Int) * 2 ^ b by simp] at e
  refine shift_run (.inl rfl) ?_ w
  have hb0 : ¬ ((b : Int) < 0) := by omega
  simp only [Op.shift, if_neg hb0, Int.toNat_natCast, Nat.min_eq_left hb, e]
theorem rb_quo (hb : b ≠ 0) (h : a < 2 ^ capB k) (w : World) : (do eqGuard .quo t x y (.int k a) (.int k b); binOp .quo t (.int k a) (.int k b) : Sem Value).run P w = .ok (.int k ((a / b : Nat) : Int)) w := by
  have e := wrap_nat (k := k) (n := a / b) (Nat.lt_of_le_of_lt (Nat.div_le_self _ _) h)
  have hb' : (b : Int) ≠ 0 := by omega
  have e2 : (a : Int).tdiv b = ((a / b : Nat) : Int) := by rw [Int.tdiv_eq_ediv_of_nonneg (by omega)]; simp
  simp only [eqGuard, binOp, Op.intDiv, if_neg hb', e2, e]
  simp [go_sem]
theorem rb_remn (hb : b ≠ 0) (w : World) : (do eqGuard .rem t x y (.int k a) (.int k b); binOp .rem t (.int k a) (.int k b) : Sem Value).run P w = .ok (.int k ((a % b : Nat) : Int)) w := by
  have hb' : (b : Int) ≠ 0 := by omega
  have e2 : (a : Int).tmod b = ((a % b : Nat) : Int) := by rw [Int.tmod_eq_emod_of_nonneg (by omega)]; simp
  simp only [eqGuard, binOp, Op.intDiv, if_neg hb', e2]
  simp [go_sem]
theorem rb_addn (h : a + b < 2 ^ capB k) (w : World) : (do eqGuard .add t x y (.int k a) (.int k b); binOp .add t (.int k a) (.int k b) : Sem Value).run P w = .ok (.int k ((a + b : Nat) : Int)) w := by
  rw [rb_add, ← Int.natCast_add, wrap_nat h]
theorem rb_muln (h : a * b < 2 ^ capB k) (w : World) : (do eqGuard .mul t x y (.int k a) (.int k b); binOp .mul t (.int k a) (.int k b) : Sem Value).run P w = .ok (.int k ((a * b : Nat) : Int)) w := by
  rw [rb_mul, ← Int.natCast_mul, wrap_nat h]
theorem ru_compl (hs : k.signed = false) (ha : a < 2 ^ k.bits) (w : World) : (Op.unary .xor (.int k a)).run P w = .ok (.int k ((2 ^ k.bits - 1 - a : Nat) : Int)) w := by
  have hp : 0 < 2 ^ k.bits := Nat.pow_pos (by omega)
  have e0 : k.max = ((2 ^ k.bits - 1 : Nat) : Int) := by
    have : ((2 ^ k.bits : Nat) : Int) = 2 ^ k.bits := by simp
    simp only [IntKind.max, hs, Bool.false_eq_true, if_false]; omega
  have e1 : (BitVec.ofInt k.bits ((2 ^ k.bits - 1 : Nat) : Int)) = BitVec.allOnes k.bits := by
    apply BitVec.eq_of_toNat_eq
    rw [ofInt_nat (by omega), BitVec.toNat_allOnes]
  have e2 : (BitVec.allOnes k.bits ^^^ BitVec.ofInt k.bits (a : Int)).toNat = 2 ^ k.bits - 1 - a := by
    rw [BitVec.allOnes_xor, BitVec.toNat_not, ofInt_nat ha]
  have e3 := wrap_mod (k := k) (n := 2 ^ k.bits - 1 - a) hs
  rw [Nat.mod_eq_of_lt (by omega)] at e3
  simp only [Op.unary, hs, Bool.false_eq_true, if_false, Op.intBits, e0, e1, e2, e3]
  simp [go_sem]
theorem ru_compl_i64 {n : Int} (h : -9223372036854775808 ≤ n ∧ n ≤ 9223372036854775807) (w : World) : (Op.unary .xor (.int .i64 n)).run P w = .ok (.int .i64 (-n - 1)) w := by
  have e1 : BitVec.ofInt 64 (-1) = BitVec.allOnes 64 := by decide
  have e2 : IntKind.i64.wrap ((BitVec.allOnes 64 ^^^ BitVec.ofInt 64 n).toNat : Int) = -n - 1 := by
    rw [BitVec.allOnes_xor, BitVec.toNat_not, BitVec.toNat_ofInt, IntKind.wrap_i64]
    omega
  have e : Op.unary .xor (.int .i64 n) = pure (.int .i64 (-n - 1)) := by
    show Op.intBits .xor .i64 (-1) n = _
    show (pure (Value.int .i64 (IntKind.i64.wrap ((BitVec.ofInt 64 (-1) ^^^ BitVec.ofInt 64 n).toNat : Int))) : Sem Value) = _
    rw [e1, e2]
  rw [e]; rfl
theorem ru_neg {n : Int} (h : -9223372036854775807 ≤ n ∧ n ≤ 9223372036854775807) (w : World) : (Op.unary .neg (.int .i64 n)).run P w = .ok (.int .i64 (-n)) w := by
  have e : IntKind.i64.wrap (0 - n) = -n := by rw [IntWalk.i64_in _ (by omega)]; omega
  have e' : Op.unary .neg (.int .i64 n) = pure (.int .i64 (-n)) := by
    show (pure (Value.int .i64 (IntKind.i64.wrap (0 - n))) : Sem Value) = _
    rw [e]
  rw [e']; rfl
variable {src dst : TypeId} {q : IntKind}
theorem rc_n (hs : (P.underlying src).isSome = true) (hd : isInt P dst q = true) (ha : a < 2 ^ capB q) (w : World) : (convert src dst (.int k (a : Int))).run P w = .ok (.int q (a : Int)) w := by
  have h := rc_int (P := P) (n := (a : Int)) (k := k) hs hd w
  rwa [wrap_nat ha] at h
theorem rc_mod (hs : (P.underlying src).isSome = true) (hd : isInt P dst q = true) (hq : q.signed = false) (w : World) : (convert src dst (.int k (a : Int))).run P w = .ok (.int q ((a % 2 ^ q.bits : Nat) : Int)) w := by
  have h := rc_int (P := P) (n := (a : Int)) (k := k) hs hd w
  rwa [wrap_mod hq] at h
end
end Go.Fw
namespace Go.Fw
open Go
set_option linter.unusedVariables false
set_option linter.unusedSimpArgs false
/-- What copy may read. -/
structure SrcV (P : Program) (y : AVal) (sz : Nat) (ys : List (List D)) : Prop where
  src : ∀ (E : Env) (L : Nat → AObj) (g : Gh) (w : World) (u : Value), Inv E L g w → y.sat g u → ∀ m, m ≤ ys.length →
    ∃ news, (Builtin.firstCells sz m u).run P w = .ok news w ∧ news.size = m * sz ∧ satL g ((ys.take m).flatten.map .d) news.toList ∧ (Builtin.lenOf u).run P w = .ok ys.length w ∧ ∀ y ∈ ys.take m, y.length = sz
theorem srcV_d {P : Program} {sz : Nat} {ys : List (List D)} : SrcV P (.d (.sl sz ys)) sz ys := by
  refine ⟨fun E L g w u hi hs m hm => first_data hi ?_ hm⟩
  simpa only [AVal.sat] using hs
theorem bytes_sat {g : Gh} : ∀ l : List UInt8, satL g ((l.map fun b => [D.v (.int .u8 b.toNat)]).flatten.map .d) (l.map fun b => Value.int .u8 b.toNat)
  | [] => by simp [satL]
  | b :: l => by
    simp only [List.map_cons, List.flatten_cons, List.singleton_append, satL]
    exact ⟨sat_mk rfl, bytes_sat l⟩
theorem srcV_s {P : Program} {l : List UInt8} : SrcV P (as (baOf l)) 1 (l.map fun b => [.v (.int .u8 b.toNat)]) := by
  refine ⟨fun E L g w u hi hs m hm => ?_⟩
  have hu := sat_v hs
  subst hu
  rw [List.length_map] at hm
  have hsz : (baOf l).size = l.length := rfl
  have hex : ((baOf l).extract 0 m).data = (l.take m).toArray := by
    rw [ByteArray.data_extract]
    simp [baOf]
  refine ⟨((l.take m).map fun b => Value.int .u8 b.toNat).toArray, ?_, by simp; omega, ?_, by simp [Builtin.lenOf, hsz], ?_⟩
  · simp only [Builtin.firstCells, hex, Sem.run_pure]
    congr 1
    simp
  · rw [← List.map_take]
    exact bytes_sat _
  · intro y hy
    rw [← List.map_take] at hy
    obtain ⟨b, _, rfl⟩ := List.mem_map.1 hy
    rfl
section
variable {P : Program} {ops : Array Oper} {draw : Bool} {K : St → Prop} {rest : List Oper} {l : Line} {S : St}
variable {d : Nat} {ty : TypeId} {pos : String} {aft : Array Edge} {gd : Option (Nat × Bool)}
theorem row_hd {g : Gh} {w : World} {h : Value} {sz : Nat} {xs : List (List D)} (hr : rowSat g w h sz xs) : ∃ b c, h = .slice b xs.length c ∧ xs.length ≤ c := by
  rcases hr.2 with ⟨e, rfl⟩ | ⟨b, cap, vs, e', fr, e, hc, _⟩
  · exact ⟨none, 0, e, Nat.le_refl _⟩
  · exact ⟨_, _, e, hc⟩
/-- One's own row from an index on. -/
theorem w_slice_own {T : TypeId} {x lo : Operand} {γ n sz k : Nat} {xs : List (List D)} (hx : S.ev x = .own γ n) (hL : S.obj γ = .row sz xs) (hlo : S.ev lo = ai k) (hn : n = xs.length) (hk : k ≤ xs.length)
    (hT : slIs P T sz = true) (hd : Nat.blt d S.n = true) (hg : guardOk ops S gd)
    (h : Walk P ops draw K rest ((l.length, ⟨some d, .slice T x (some lo) none none, ty, pos, aft, gd⟩, ⟨guardReads ops gd ++ [(x, .own γ n), (lo, ai k)], some (d, .cut γ n k sz), [(γ, .row sz xs)], [], []⟩) :: l) (S.set d (.cut γ n k sz))) :
    Walk P ops draw K (⟨some d, .slice T x (some lo) none none, ty, pos, aft, gd⟩ :: rest) l S := by
  refine walk_op ⟨[(x, .own γ n), (lo, ai k)], some (d, .cut γ n k sz), [(γ, .row sz xs)], [], []⟩ (valid_val rfl fun E S g a w hs hq hl => ?_) hg
    ⟨⟨hx, hlo, trivial⟩, ⟨hL, trivial⟩, trivial, hd⟩ h
  have ho := hs.1.obj γ
  rw [hl.1] at ho
  obtain ⟨e, h1, h2, h3⟩ := slIs_spec hT
  have hv : a.eval x = g.hd γ := own_sat hq.1 ho hn
  obtain ⟨b, cap, hh, c1⟩ := row_hd (h := g.hd γ) ho
  have hbd := run_bounds (P := P) (g := g) (a := a) (lo := some lo) (hi := none) (l := k) (h := xs.length) (isSl := true) (len := xs.length) (cap := cap) (fun e => by cases e) (fun _ => rfl) ⟨hq.2.1, trivial⟩ trivial hk c1 w
  have hrun := run_slice_any (P := P) w T b xs.length cap (by rw [h3]; exact h1) (some (a.eval lo)) none none
  simp only [Option.map_some, Option.map_none] at hbd
  rw [hbd, Result.andThen_ok, h3, h2 w, Result.andThen_ok] at hrun
  refine ⟨sliced b k xs.length cap sz, ?_, ?_⟩
  · simp only [execOp, hv, hh, Instr.sliceAt, Sem.run_bind, run_underlying h1, Result.andThen_ok, Option.map_some, Option.map_none, hrun]; rfl
  · simp only [AVal.sat, sliced]
    exact ⟨rfl, b, xs.length, cap, hh, by omega, fun _ => by rw [hn]⟩
/-- copy into a part of one's own row. -/
theorem w_copy_cut0 {x y : Operand} {yv : AVal} {T T2 : TypeId} {γ n sz m k : Nat} {r ys : List (List D)} (hx : S.ev x = .cut γ n k sz) (hL : S.obj γ = .row sz r) (hn : n = r.length) (hk : k ≤ r.length) (hy : S.ev y = yv) (hsrc : SrcV P yv sz ys) (hm : m = min ys.length (r.length - k))
    (hT : slIs P T sz = true) {d' : Option (Nat × AVal)} (hd : dstOk S d') (hd' : d' = none ∨ ∃ t, d' = some (t, ai m)) (hg : guardOk ops S gd)
    (h : Walk P ops draw K rest ((l.length, ⟨d'.map (·.1), .call ⟨.builtin .copy, #[x, y], #[T, T2]⟩, ty, pos, aft, gd⟩, ⟨guardReads ops gd ++ [(x, .cut γ n k sz), (y, yv)], d', [(γ, .row sz r)], [(γ, .row sz (r.take k ++ ys.take m ++ r.drop (k + m)))], []⟩) :: l)
      ⟨S.n, d'.toList ++ S.τ, (γ, .row sz (r.take k ++ ys.take m ++ r.drop (k + m))) :: S.L⟩) :
    Walk P ops draw K (⟨d'.map (·.1), .call ⟨.builtin .copy, #[x, y], #[T, T2]⟩, ty, pos, aft, gd⟩ :: rest) l S := by
  refine walk_op ⟨[(x, .cut γ n k sz), (y, yv)], d', [(γ, .row sz r)], [(γ, .row sz (r.take k ++ ys.take m ++ r.drop (k + m)))], []⟩ ?_ hg ⟨⟨hx, hy, trivial⟩, ⟨hL, trivial⟩, trivial, hd⟩ h
  intro E S a w g hs hok Q K hK
  obtain ⟨ok1, ⟨l1, _⟩, _, ok4⟩ := hok
  have hq := satR_of hs _ ok1
  have ho := hs.1.obj γ
  rw [l1] at ho
  have hrow : rowSat g w (g.hd γ) sz r := ho
  obtain ⟨b, cap, hh, c1⟩ := row_hd hrow
  have hx' : a.eval x = .slice (if cap = k then b else b.map fun p => p.add (k * sz)) (n - k) (cap - k) := by
    have := hq.1
    simp only [AVal.sat] at this
    obtain ⟨_, a', m', c', e1, _, e3⟩ := this
    rw [hh] at e1; cases e1
    exact e3 hn
  obtain ⟨news, n1, n2, n3, n4, n5⟩ := hsrc.src E _ g w _ hs.1 hq.2.1 m (by omega)
  obtain ⟨w', s1, s2, s3, s4, s5, s6⟩ := rowSat_store (P := P) (k := k) (m := m) hrow (by omega) n5 (by simp; omega) n2 n3
  have hst : (match Value.slice (if cap = k then b else b.map fun p => p.add (k * sz)) (n - k) (cap - k) with | .slice (some a) _ _ => (storeCells (a.add (0 * sz)) news.toList).run P w | _ => .ok () w) = .ok () w' := by
    by_cases hck : cap = k
    · have hm0 : m = 0 := by omega
      have hnil : news.toList = [] := by
        apply List.eq_nil_of_length_eq_zero
        rw [Array.length_toList, n2, hm0, Nat.zero_mul]
      rw [hnil, hh] at s1
      rw [if_pos hck, hnil]
      cases b with
      | none => exact s1
      | some p => simpa [storeCells] using s1
    · rw [if_neg hck]
      rw [hh] at s1
      cases b with
      | none => exact s1
      | some p =>
        simp only [Option.map_some, Nat.zero_mul, Addr.add_zero']
        exact s1
  have hrun := run_copy (P := P) (T2 := T2) (ty := ty) (m := m) hT hx' n4 (by omega) n1 (by rw [hx']; exact hst)
  have hi : Inv E (look .dead ((γ, .row sz (r.take k ++ ys.take m ++ r.drop (k + m))) :: S.L)) g w' := by
    refine Inv.upd hs.1 γ _ (look_same _ _ _ _) (fun j hj => look_ne _ _ _ (Ne.symm hj)) (fun b hb hnl => s3 b fun hc => hnl (by rw [l1]; exact hc)) (by omega) s5 s6 rfl (fun _ _ => ⟨rfl, rfl, rfl⟩) (fun _ _ _ _ _ h => h) s2 (fun b hb => .inl ?_) (fun _ => Gh.keeps_refl _ _)
    rw [l1]; exact hb
  have hrun' : (execOp a.eval ⟨d'.map (·.1), .call ⟨.builtin .copy, #[x, y], #[T, T2]⟩, ty, pos, aft, gd⟩).run P w = .ok (.value (.int .i64 m)) w' := by
    simp [execOp, resolve, invoke, builtin, hrun]
  unfold Oper.wp
  rw [hrun', Oper.upon_value]
  rcases hd' with rfl | ⟨t, rfl⟩
  · exact hK _ _ ⟨g, hi, hs.2.1, hs.2.2.1, hs.2.2.2⟩
  · exact hK _ _ (holds_put hi hs.2.1 hs.2.2.1 hs.2.2.2 (sat_mk rfl) ok4)
theorem w_copy_cut {x y : Operand} {yv : AVal} {T T2 : TypeId} {γ n sz m k : Nat} {r ys : List (List D)} (hx : S.ev x = .cut γ n k sz) (hL : S.obj γ = .row sz r) (hn : n = r.length) (hk : k ≤ r.length) (hy : S.ev y = yv) (hsrc : SrcV P yv sz ys) (hm : m = min ys.length (r.length - k))
    (hT : slIs P T sz = true) (hd : Nat.blt d S.n = true) (hg : guardOk ops S gd)
    (h : Walk P ops draw K rest ((l.length, ⟨some d, .call ⟨.builtin .copy, #[x, y], #[T, T2]⟩, ty, pos, aft, gd⟩, ⟨guardReads ops gd ++ [(x, .cut γ n k sz), (y, yv)], some (d, ai m), [(γ, .row sz r)], [(γ, .row sz (r.take k ++ ys.take m ++ r.drop (k + m)))], []⟩) :: l)
      ((S.set d (ai m)).own γ (.row sz (r.take k ++ ys.take m ++ r.drop (k + m))))) :
    Walk P ops draw K (⟨some d, .call ⟨.builtin .copy, #[x, y], #[T, T2]⟩, ty, pos, aft, gd⟩ :: rest) l S :=
  w_copy_cut0 (d' := some (d, ai m)) hx hL hn hk hy hsrc hm hT hd (.inr ⟨d, rfl⟩) hg h
theorem w_copy_cutn {x y : Operand} {yv : AVal} {T T2 : TypeId} {γ n sz m k : Nat} {r ys : List (List D)} (hx : S.ev x = .cut γ n k sz) (hL : S.obj γ = .row sz r) (hn : n = r.length) (hk : k ≤ r.length) (hy : S.ev y = yv) (hsrc : SrcV P yv sz ys) (hm : m = min ys.length (r.length - k))
    (hT : slIs P T sz = true) (hg : guardOk ops S gd)
    (h : Walk P ops draw K rest ((l.length, ⟨none, .call ⟨.builtin .copy, #[x, y], #[T, T2]⟩, ty, pos, aft, gd⟩, ⟨guardReads ops gd ++ [(x, .cut γ n k sz), (y, yv)], none, [(γ, .row sz r)], [(γ, .row sz (r.take k ++ ys.take m ++ r.drop (k + m)))], []⟩) :: l)
      (S.own γ (.row sz (r.take k ++ ys.take m ++ r.drop (k + m))))) :
    Walk P ops draw K (⟨none, .call ⟨.builtin .copy, #[x, y], #[T, T2]⟩, ty, pos, aft, gd⟩ :: rest) l S :=
  w_copy_cut0 (d' := none) hx hL hn hk hy hsrc hm hT trivial (.inl rfl) hg h
/-- A slice expression with three indices, of data. -/
theorem w_slice3 {T : TypeId} {x lo hi mx : Operand} {sz lb hb mb : Nat} {xs : List (List D)} (hx : S.ev x = .d (.sl sz xs)) (hlo : S.ev lo = ai lb) (hhi : S.ev hi = ai hb) (hmx : S.ev mx = ai mb) (hlh : lb ≤ hb) (hh : hb ≤ mb) (hm : mb ≤ xs.length)
    (hT : slIs P T sz = true) (hd : Nat.blt d S.n = true) (hg : guardOk ops S gd)
    (h : Walk P ops draw K rest ((l.length, ⟨some d, .slice T x (some lo) (some hi) (some mx), ty, pos, aft, gd⟩, ⟨guardReads ops gd ++ [(x, .d (.sl sz xs)), (lo, ai lb), (hi, ai hb), (mx, ai mb)], some (d, .d (.sl sz ((xs.take hb).drop lb))), [], [], []⟩) :: l) (S.set d (.d (.sl sz ((xs.take hb).drop lb))))) :
    Walk P ops draw K (⟨some d, .slice T x (some lo) (some hi) (some mx), ty, pos, aft, gd⟩ :: rest) l S := by
  refine walk_op ⟨[(x, .d (.sl sz xs)), (lo, ai lb), (hi, ai hb), (mx, ai mb)], some (d, .d (.sl sz ((xs.take hb).drop lb))), [], [], []⟩ (valid_val rfl fun E S g a w hs hq hl => ?_) hg
    ⟨⟨hx, hlo, hhi, hmx, trivial⟩, trivial, trivial, hd⟩ h
  obtain ⟨e, h1, h2, h3⟩ := slIs_spec hT
  obtain ⟨hq1, hq2, hq3, hq4, _⟩ := hq
  simp only [AVal.sat, D.rep] at hq1
  obtain ⟨b, cap, hv, c1, c2, c3⟩ := hq1
  have e2 := sat_v hq2
  have e3 := sat_v hq3
  have e4 := sat_v hq4
  have hmc : mb ≤ cap := by omega
  have hbd : (Instr.sliceBounds true xs.length cap (some (a.eval lo)) (some (a.eval hi)) (some (a.eval mx))).run P w = .ok (lb, hb, mb) w := by
    simp [Instr.sliceBounds, e2, e3, e4, run_sliceBound, hlh, hh, hmc]
  have hrun := run_slice_any (P := P) w T b xs.length cap (by rw [h3]; exact h1) (some (a.eval lo)) (some (a.eval hi)) (some (a.eval mx))
  rw [hbd, Result.andThen_ok, h3, h2 w, Result.andThen_ok] at hrun
  refine ⟨sliced b lb hb mb sz, ?_, ?_⟩
  · simp only [execOp, hv, Instr.sliceAt, Sem.run_bind, run_underlying h1, Result.andThen_ok, Option.map_some, hrun]; rfl
  · simp only [AVal.sat, D.rep, sliced]
    have hlen : ((xs.take hb).drop lb).length = hb - lb := by simp; omega
    refine ⟨if mb = lb then b else b.map fun p => p.add (lb * sz), mb - lb, by rw [hlen], by omega, by omega, ?_⟩
    rcases c3 with rfl | ⟨b', o, rfl, hr⟩
    · left; simp
    · by_cases hem : (xs.take hb).drop lb = []
      · exact .inl hem
      · right
        have hne : mb ≠ lb := by
          intro e
          apply hem
          apply List.eq_nil_of_length_eq_zero
          omega
        refine ⟨b', o + lb * sz, ?_, repRows_drop (repRows_take hr hb) lb⟩
        rw [if_neg hne, Option.map_some, add_at]
def sbTy (P : Program) (src dst : TypeId) : Bool :=
  match P.underlying src, P.underlying dst with
  | some .string, some (.slice e) => (match P.underlying e with | some (.int .u8) => true | _ => false)
  | _, _ => false
theorem sbTy_spec {src dst : TypeId} (h : sbTy P src dst = true) : ∃ e, P.underlying src = some .string ∧ P.underlying dst = some (.slice e) ∧ P.underlying e = some (.int .u8) := by
  unfold sbTy at h
  split at h
  · rename_i e h1 h2
    split at h
    · rename_i h3; exact ⟨e, h1, h2, h3⟩
    · simp at h
  · simp at h
/-- The bytes of a string, let go at once. -/
theorem w_bytes {src dst : TypeId} {x : Operand} {b : List UInt8} (hx : S.ev x = as (baOf b)) (hb : b.length ≤ 9223372036854775807) (ht : sbTy P src dst = true) (hd : Nat.blt d S.n = true) (hg : guardOk ops S gd)
    (h : Walk P ops draw K rest ((l.length, ⟨some d, .convert src dst x, ty, pos, aft, gd⟩, ⟨guardReads ops gd ++ [(x, as (baOf b))], some (d, .d (.sl 1 (b.map fun c => [D.v (.int .u8 c.toNat)]))), [], [], []⟩) :: l) (S.set d (.d (.sl 1 (b.map fun c => [D.v (.int .u8 c.toNat)]))))) :
    Walk P ops draw K (⟨some d, .convert src dst x, ty, pos, aft, gd⟩ :: rest) l S := by
  refine walk_op ⟨[(x, as (baOf b))], some (d, .d (.sl 1 (b.map fun c => [D.v (.int .u8 c.toNat)]))), [], [], []⟩ ?_ hg ⟨⟨hx, trivial⟩, trivial, trivial, hd⟩ h
  intro E S a w g hs hok Q K hK
  have hq := satR_of hs _ hok.1
  obtain ⟨e, t1, t2, t3⟩ := sbTy_spec ht
  have hsz : (baOf b).size = b.length := rfl
  have hrow := run_bytes_of_string (P := P) w src dst e (baOf b) t1 t2 t3
  rw [hsz] at hrow
  generalize hc : grownCap w b.length 0 e = cap at hrow
  have hc1 : b.length ≤ cap := by rw [← hc]; exact grownCap_ge w _ _ _
  have hc2 : cap ≤ maxLen := by rw [← hc]; exact grownCap_le_maxLen w _ _ _ (by unfold maxLen; omega)
  have hs' : holdsG E S g a w.drew := ⟨inv_drew hs.1, hs.2⟩
  have hle := lay_le hs'.1 (bytesRow (baOf b) cap)
  have hrun : (execOp a.eval ⟨some d, .convert src dst x, ty, pos, aft, gd⟩).run P w = .ok (.value (.slice (some ⟨w.heap.size, 0, none⟩) b.length cap)) (w.drew.alloc (.cells (bytesRow (baOf b) cap) e ((bytesRow (baOf b) cap).size, (bytesRow (baOf b) cap).size + 1))) := by
    simp only [execOp, Sem.run_bind, sat_v hq.1, hrow]; rfl
  unfold Oper.wp
  rw [hrun, Oper.upon_value]
  refine hK _ _ (holds_put (inv_lay hs'.1 _ e _) hs.2.1 hs.2.2.1 (fun t => sat_lay (g := g) (g' := g.lay w.drew.heap.size (bytesRow (baOf b) cap)) hle rfl rfl rfl (hs.2.2.2 t)) ?_ hok.2.2.2)
  have := lay_rep (g := g) (w := w.drew) (sz := 1) (xs := b.map fun c => [D.v (.int .u8 c.toNat)]) (vs := bytesRow (baOf b) cap) (cap := cap) (by simp) (by
    have hb1 := bytes_sat (g := g) b
    rw [List.length_map, Nat.mul_one]
    have : (bytesRow (baOf b) cap).toList.take b.length = b.map fun c => Value.int .u8 c.toNat := by
      simp only [bytesRow, baOf, Array.toList_append, Array.toList_map]
      rw [List.take_append_of_le_length (by simp), List.take_of_length_le (by simp)]
    rw [this]; exact hb1) hle (by simpa using hc1) hc2
  rw [List.length_map] at this
  exact this
end
end Go.Fw
namespace Go.Fw
open Go
set_option linter.unusedVariables false
set_option linter.unusedSimpArgs false
theorem Con.data {P : Program} {f : FuncId} {args : List AVal} {γ sz n : Nat} {xs : List (List D)} (h : Con P f [] args [(γ, .row sz xs)] (.own γ n)) (hn : n = xs.length) : Con P f [] args [] (.d (.sl sz xs)) := by
  intro g w vs hi hs
  refine (h g w vs hi hs).mono ?_
  rintro e w' ⟨v, g', h1, h2, h3, _⟩
  obtain ⟨M', hle, hi2⟩ := inv_froz (S := ⟨0, [], [(γ, .row sz xs)]⟩) h3 (look_same _ _ _ _)
  have ho := hi2.obj γ
  rw [look_same] at ho
  have hs2 : (AVal.own γ n).sat { g' with M := M' } v := sat_lay (g := g') (g' := { g' with M := M' }) hle rfl rfl rfl h2
  refine ⟨v, { g' with M := M' }, h1, own_froz ho hn hs2, ?_, fun γ hγ => by simp [hasKey] at hγ⟩
  refine (hi2.free (g0 := { g' with M := M' }) fun γ _ => Gh.keeps_refl _ _).sub fun k => .inr rfl
section
variable {P : Program} {ops : Array Oper} {draw : Bool} {K : St → Prop} {rest : List Oper} {l : Line} {S : St}
variable {d : Nat} {ty : TypeId} {pos : String} {aft : Array Edge} {gd : Option (Nat × Bool)}
/-- A slice expression with three indices, from the start. -/
theorem w_slice3n {T : TypeId} {x hi mx : Operand} {sz hb mb : Nat} {xs : List (List D)} (hx : S.ev x = .d (.sl sz xs)) (hhi : S.ev hi = ai hb) (hmx : S.ev mx = ai mb) (hh : hb ≤ mb) (hm : mb ≤ xs.length)
    (hT : slIs P T sz = true) (hd : Nat.blt d S.n = true) (hg : guardOk ops S gd)
    (h : Walk P ops draw K rest ((l.length, ⟨some d, .slice T x none (some hi) (some mx), ty, pos, aft, gd⟩, ⟨guardReads ops gd ++ [(x, .d (.sl sz xs)), (hi, ai hb), (mx, ai mb)], some (d, .d (.sl sz ((xs.take hb).drop 0))), [], [], []⟩) :: l) (S.set d (.d (.sl sz ((xs.take hb).drop 0))))) :
    Walk P ops draw K (⟨some d, .slice T x none (some hi) (some mx), ty, pos, aft, gd⟩ :: rest) l S := by
  refine walk_op ⟨[(x, .d (.sl sz xs)), (hi, ai hb), (mx, ai mb)], some (d, .d (.sl sz ((xs.take hb).drop 0))), [], [], []⟩ (valid_val rfl fun E S g a w hs hq hl => ?_) hg
    ⟨⟨hx, hhi, hmx, trivial⟩, trivial, trivial, hd⟩ h
  obtain ⟨e, h1, h2, h3⟩ := slIs_spec hT
  obtain ⟨hq1, hq3, hq4, _⟩ := hq
  simp only [AVal.sat, D.rep] at hq1
  obtain ⟨b, cap, hv, c1, c2, c3⟩ := hq1
  have e3 := sat_v hq3
  have e4 := sat_v hq4
  have hmc : mb ≤ cap := by omega
  have hbd : (Instr.sliceBounds true xs.length cap none (some (a.eval hi)) (some (a.eval mx))).run P w = .ok (0, hb, mb) w := by
    simp [Instr.sliceBounds, e3, e4, run_sliceBound, hh, hmc]
  have hrun := run_slice_any (P := P) w T b xs.length cap (by rw [h3]; exact h1) none (some (a.eval hi)) (some (a.eval mx))
  rw [hbd, Result.andThen_ok, h3, h2 w, Result.andThen_ok] at hrun
  refine ⟨sliced b 0 hb mb sz, ?_, ?_⟩
  · simp only [execOp, hv, Instr.sliceAt, Sem.run_bind, run_underlying h1, Result.andThen_ok, Option.map_some, Option.map_none, hrun]; rfl
  · simp only [AVal.sat, D.rep, sliced]
    have hlen : ((xs.take hb).drop 0).length = hb - 0 := by simp; omega
    refine ⟨if mb = 0 then b else b.map fun p => p.add (0 * sz), mb - 0, by rw [hlen], by omega, by omega, ?_⟩
    rcases c3 with rfl | ⟨b', o, rfl, hr⟩
    · left; simp
    · by_cases hem : (xs.take hb).drop 0 = []
      · exact .inl hem
      · right
        have hne : mb ≠ 0 := by
          intro e
          apply hem
          apply List.eq_nil_of_length_eq_zero
          omega
        refine ⟨b', o + 0 * sz, ?_, repRows_drop (repRows_take hr hb) 0⟩
        rw [if_neg hne, Option.map_some, add_at]
/-- A slice expression of data, its outcome written otherwise. -/
theorem w_slice_to {T : TypeId} {x : Operand} {lo hi : Option Operand} {sz lb hb : Nat} {xs ys : List (List D)} (hx : S.ev x = .d (.sl sz xs)) (hlo : loOk S lo lb) (hhi : hiOk S xs.length hi hb) (hlh : lb ≤ hb) (hh : hb ≤ xs.length) (hys : (xs.take hb).drop lb = ys)
    (hT : slIs P T sz = true) (hd : Nat.blt d S.n = true) (hg : guardOk ops S gd)
    (h : Walk P ops draw K rest ((l.length, ⟨some d, .slice T x lo hi none, ty, pos, aft, gd⟩, ⟨guardReads ops gd ++ ((x, .d (.sl sz xs)) :: (optReads lo lb ++ optReads hi hb)), some (d, .d (.sl sz ys)), [], [], []⟩) :: l) (S.set d (.d (.sl sz ys)))) :
    Walk P ops draw K (⟨some d, .slice T x lo hi none, ty, pos, aft, gd⟩ :: rest) l S := by
  subst hys
  exact w_slice hx hlo hhi hlh hh hT hd hg h
theorem w_slice3_to {T : TypeId} {x lo hi mx : Operand} {sz lb hb mb : Nat} {xs ys : List (List D)} (hx : S.ev x = .d (.sl sz xs)) (hlo : S.ev lo = ai lb) (hhi : S.ev hi = ai hb) (hmx : S.ev mx = ai mb) (hlh : lb ≤ hb) (hh : hb ≤ mb) (hm : mb ≤ xs.length) (hys : (xs.take hb).drop lb = ys)
    (hT : slIs P T sz = true) (hd : Nat.blt d S.n = true) (hg : guardOk ops S gd)
    (h : Walk P ops draw K rest ((l.length, ⟨some d, .slice T x (some lo) (some hi) (some mx), ty, pos, aft, gd⟩, ⟨guardReads ops gd ++ [(x, .d (.sl sz xs)), (lo, ai lb), (hi, ai hb), (mx, ai mb)], some (d, .d (.sl sz ys)), [], [], []⟩) :: l) (S.set d (.d (.sl sz ys)))) :
    Walk P ops draw K (⟨some d, .slice T x (some lo) (some hi) (some mx), ty, pos, aft, gd⟩ :: rest) l S := by
  subst hys
  exact w_slice3 hx hlo hhi hmx hlh hh hm hT hd hg h
/-- A walk over a string's runes begins. -/
theorem w_range {t : TypeId} {γ : Nat} {x : Operand} {s : ByteArray} (hx : S.ev x = as s) (ht : isStr P t = true) (hdead : S.obj γ = .dead) (hf : S.free γ = true)
    (hd : Nat.blt d S.n = true) (hg : guardOk ops S gd)
    (h : Walk P ops draw K rest ((l.length, ⟨some d, .range t x, ty, pos, aft, gd⟩, ⟨guardReads ops gd ++ [(x, as s)], some (d, .ptr γ 0), [(γ, .dead)], [(γ, .iter s 0)], [γ]⟩) :: l)
      ((S.set d (.ptr γ 0)).own γ (.iter s 0))) :
    Walk P ops draw K (⟨some d, .range t x, ty, pos, aft, gd⟩ :: rest) l S :=
  walk_op ⟨[(x, as s)], some (d, .ptr γ 0), [(γ, .dead)], [(γ, .iter s 0)], [γ]⟩ (valid_new rfl fun E S g a w hs hq hl hn => by
    refine ⟨.pointer (some ⟨w.heap.size, 0, none⟩), newGh g w γ, w.alloc (.stringIter s 0), ?_, ?_, ?_, tmps_put hn.1 hs.2.2.2⟩
    · have := run_underlying (P := P) (w := w) (isStr_spec ht)
      simp only [execOp, Instr.range, sat_v hq.1, Sem.run_bind, this, Result.andThen_ok]
      rfl
    · simp [AVal.sat, newGh, Gh.put]
    · refine inv_new hs.1 γ hn.1 hl.1 _ _ _ (world_push w _) (world_push_size w _) rfl rfl ?_ (fun k hk => ?_)
      · show (w.alloc (.stringIter s 0)).heap[(newGh g w γ).blk γ]? = some (.stringIter s 0)
        simp only [newGh, Gh.put, if_true]
        exact heap_alloc_new w _
      · have hk : (g.put γ w.heap.size undef).blk γ = k := hk
        simp only [Gh.put, if_true] at hk; omega) hg ⟨⟨hx, trivial⟩, ⟨hdead, trivial⟩, ⟨hf, trivial⟩, hd⟩ h
/-- .. goes on. -/
theorem w_next_t {x : Operand} {γ p : Nat} {s : ByteArray} (hx : S.ev x = .ptr γ 0) (hL : S.obj γ = .iter s p) (hlt : p < s.size)
    (hd : Nat.blt d S.n = true) (hg : guardOk ops S gd)
    (h : Walk P ops draw K rest ((l.length, ⟨some d, .next x true, ty, pos, aft, gd⟩, ⟨guardReads ops gd ++ [(x, .ptr γ 0)], some (d, .tup [ab true, ai p, .d (.v (.int .i32 (Utf8.decode s p).1))]), [(γ, .iter s p)], [(γ, .iter s (p + (Utf8.decode s p).2))], []⟩) :: l)
      ((S.set d (.tup [ab true, ai p, .d (.v (.int .i32 (Utf8.decode s p).1))])).own γ (.iter s (p + (Utf8.decode s p).2)))) :
    Walk P ops draw K (⟨some d, .next x true, ty, pos, aft, gd⟩ :: rest) l S := by
  refine walk_op ⟨[(x, .ptr γ 0)], some (d, .tup [ab true, ai p, .d (.v (.int .i32 (Utf8.decode s p).1))]), [(γ, .iter s p)], [(γ, .iter s (p + (Utf8.decode s p).2))], []⟩ (valid_new rfl fun E S g a w hs hq hl hn => ?_) hg ⟨⟨hx, trivial⟩, ⟨hL, trivial⟩, trivial, hd⟩ h
  have ho := hs.1.obj γ
  rw [hl.1] at ho
  have ho : w.heap[g.blk γ]? = some (.stringIter s p) := ho
  have hb := (Array.getElem?_eq_some_iff.1 ho).1
  have hv := hq.1
  simp only [AVal.sat] at hv
  refine ⟨.tuple #[.bool true, goInt p, .int .i32 (Utf8.decode s p).1], g, { w with heap := w.heap.set! (g.blk γ) (.stringIter s (p + (Utf8.decode s p).2)) }, ?_, ?_, ?_, hs.2.2.2⟩
  · simp only [execOp, hv, Instr.next, getObj, setObj, Sem.run_bind, Sem.run, ho, Result.andThen, hlt, if_true]
    simp [goInt, ho, hlt]
  · simp only [AVal.sat]
    refine ⟨_, rfl, ?_⟩
    simp [satL, AVal.sat, D.rep, goInt, Value.oneCell']
  · refine Inv.upd hs.1 γ _ (look_same _ _ _ _) (fun k hk => look_ne _ _ _ (Ne.symm hk)) (fun b hb2 hnl => ?_) (by simp) rfl rfl rfl (fun _ _ => ⟨rfl, rfl, rfl⟩) (fun _ _ _ _ _ h => h) ?_ (fun b hb2 => .inl ?_) (fun _ => Gh.keeps_refl _ _)
    · have hne : g.blk γ ≠ b := fun e => hnl (by rw [hl.1]; exact e)
      simp [Array.set!, Array.getElem?_setIfInBounds, hne]
    · show (w.heap.set! (g.blk γ) _)[g.blk γ]? = _
      simp [Array.set!, Array.getElem?_setIfInBounds, hb]
    · rw [hl.1]; exact hb2
/-- .. is over. -/
theorem w_next_f {x : Operand} {γ p : Nat} {s : ByteArray} (hx : S.ev x = .ptr γ 0) (hL : S.obj γ = .iter s p) (hge : s.size ≤ p)
    (hd : Nat.blt d S.n = true) (hg : guardOk ops S gd)
    (h : Walk P ops draw K rest ((l.length, ⟨some d, .next x true, ty, pos, aft, gd⟩, ⟨guardReads ops gd ++ [(x, .ptr γ 0)], some (d, .tup [ab false]), [(γ, .iter s p)], [], []⟩) :: l) (S.set d (.tup [ab false]))) :
    Walk P ops draw K (⟨some d, .next x true, ty, pos, aft, gd⟩ :: rest) l S := by
  refine walk_op ⟨[(x, .ptr γ 0)], some (d, .tup [ab false]), [(γ, .iter s p)], [], []⟩ (valid_val rfl fun E S g a w hs hq hl => ?_) hg ⟨⟨hx, trivial⟩, ⟨hL, trivial⟩, trivial, hd⟩ h
  have ho := hs.1.obj γ
  rw [hl.1] at ho
  have ho : w.heap[g.blk γ]? = some (.stringIter s p) := ho
  have hv := hq.1
  simp only [AVal.sat] at hv
  refine ⟨.tuple #[.bool false], ?_, ?_⟩
  · simp only [execOp, hv, Instr.next, getObj, Sem.run_bind, Sem.run, ho, Result.andThen, show ¬ p < s.size by omega, if_false]
    simp [ho, show ¬ p < s.size by omega]
  · simp only [AVal.sat]
    refine ⟨_, rfl, ?_⟩
    simp [satL, AVal.sat, D.rep, Value.oneCell']
end
end Go.Fw
namespace Go.Fw
open Go
set_option linter.unusedVariables false
set_option linter.unusedSimpArgs false
section
variable {P : Program} {ops : Array Oper} {draw : Bool} {K : St → Prop} {rest : List Oper} {l : Line} {S : St}
variable {d : Nat} {ty : TypeId} {pos : String} {aft : Array Edge} {gd : Option (Nat × Bool)}
theorem ba_at {b : List UInt8} {k : Nat} {c : UInt8} (h : b[k]? = some c) : (baOf b)[k]? = some c := by
  have hlt : k < (baOf b).size := (List.getElem?_eq_some_iff.1 h).1
  rw [getElem?_pos (baOf b) k hlt]
  exact congrArg some (List.getElem?_eq_some_iff.1 h).2
theorem w_index_str {t : TypeId} {x i : Operand} {k : Nat} {kd : IntKind} {m : Int} {b : List UInt8} {c : UInt8} (hx : S.ev x = as (baOf b)) (hi : S.ev i = .d (.v (.int kd m))) (hk : m = (k : Nat)) (hc : b[k]? = some c)
    (ht : isStr P t = true) (hd : Nat.blt d S.n = true) (hg : guardOk ops S gd)
    (h : Walk P ops draw K rest ((l.length, ⟨some d, .index t x i, ty, pos, aft, gd⟩, ⟨guardReads ops gd ++ [(x, as (baOf b)), (i, .d (.v (.int kd m)))], some (d, .d (.v (.int .u8 c.toNat))), [], [], []⟩) :: l) (S.set d (.d (.v (.int .u8 c.toNat))))) :
    Walk P ops draw K (⟨some d, .index t x i, ty, pos, aft, gd⟩ :: rest) l S :=
  walk_op ⟨[(x, as (baOf b)), (i, .d (.v (.int kd m)))], some (d, .d (.v (.int .u8 c.toNat))), [], [], []⟩ (valid_val rfl fun E S g a w hs hq hl => by
    refine ⟨.int .u8 c.toNat, ?_, sat_mk rfl⟩
    subst hk
    have h0 : (0 : Int) ≤ (k : Int) := by omega
    have hu := run_underlying (P := P) (w := w) (isStr_spec ht)
    simp only [execOp, Instr.index, sat_v hq.1, sat_v hq.2.1, asIntOf, Sem.run_bind, Sem.run_pure, Result.andThen_ok, hu, if_pos h0, Int.toNat_natCast, ba_at hc]) hg ⟨⟨hx, hi, trivial⟩, trivial, trivial, hd⟩ h
end
end Go.Fw
namespace Go.Fw
open Go
set_option linter.unusedVariables false
theorem Con.adopt {P : Program} {f : FuncId} {sz : Nat} {args : List AVal} {Lo : List (Nat × AObj)} {res : AVal} (h : Con P f [(0, .row sz [])] (.own 0 0 :: args) Lo res) (hm : mentL 0 args = false) : Con P f [] (ani :: args) Lo res := by
  intro g w vs hi hs
  let g1 : Gh := { blk := g.blk, hd := fun k => if k = 0 then .slice none 0 0 else g.hd k, ihd := g.ihd, M := g.M }
  have hd0 : g1.hd 0 = .slice none 0 0 := rfl
  have hno : ∀ γ b, ¬ lives g1 (look .dead [(0, AObj.row sz [])] γ) γ b := by
    intro γ b hl
    by_cases hγ : γ = 0
    · subst hγ
      rw [look_same] at hl
      obtain ⟨a, n, c, e, _⟩ := hl
      rw [hd0] at e; simp at e
    · rw [look_ne _ _ _ (Ne.symm hγ)] at hl
      exact hl
  have hno0 : ∀ γ b, ¬ lives g (look .dead ([] : List (Nat × AObj)) γ) γ b := fun γ b hl => hl
  have hi1 : Inv (envOf g1 w [(0, .row sz [])]) (look .dead [(0, .row sz [])]) g1 w := by
    refine ⟨fun γ => ?_, fun γ γ' b hl => absurd hl (hno γ b), hi.mem, fun γ b hl => absurd hl (hno γ b), fun γ b hl => absurd hl (hno γ b), MemLe.refl _, fun a v hv => .inl ⟨v, hv⟩, fun _ _ _ => rfl, Nat.le_refl _, rfl, rfl, fun γ _ => Gh.keeps_refl _ _⟩
    by_cases hγ : γ = 0
    · subst hγ
      rw [look_same]
      exact ⟨by simp, .inl ⟨rfl, rfl⟩⟩
    · rw [look_ne _ _ _ (Ne.symm hγ)]
      trivial
  match vs, hs with
  | [], hs => simp only [satL] at hs
  | v :: vs, hs =>
    simp only [satL] at hs
    have hv := sat_v hs.1
    have hs1 : satL g1 (.own 0 0 :: args) (v :: vs) := by
      simp only [satL]
      refine ⟨?_, satL_mono (g := g) (g' := g1) (MemLe.refl _) args vs (fun γ hγ => ?_) hs.2⟩
      · simp only [AVal.sat]
        rw [hv]
        exact ⟨rfl, none, 0, 0, rfl, Nat.le_refl _, fun _ => rfl⟩
      · have hne : γ ≠ 0 := fun e => by rw [e, hm] at hγ; simp at hγ
        exact Gh.keeps_of rfl (if_neg hne) rfl
    refine (h g1 w (v :: vs) hi1 hs1).mono ?_
    rintro e w' ⟨r, g', h1, h2, h3, _⟩
    refine ⟨r, g', h1, h2, ⟨h3.obj, h3.inj, h3.mem, h3.sep, fun γ b hl => ?_, h3.ext, fun a v hv => ?_, fun b hb hA => ?_, h3.size, h3.os, h3.out, fun γ _ => Gh.keeps_refl _ _⟩, fun γ hγ => by simp [hasKey] at hγ⟩
    · rcases h3.new γ b hl with h4 | ⟨γ', h4⟩
      · exact .inl h4
      · exact absurd h4 (hno γ' b)
    · rcases h3.lim a v hv with h4 | h4 | ⟨γ', h4⟩
      · exact .inl h4
      · exact .inr (.inl h4)
      · exact absurd h4 (hno γ' _)
    · exact h3.frame b hb fun ⟨γ', h4⟩ => hno γ' _ h4
end Go.Fw
namespace Go.Fw
open Go
set_option linter.unusedVariables false
set_option linter.unusedSimpArgs false
variable {P : Program} {ops : Array Oper} {draw : Bool} {K : St → Prop} {rest : List Oper} {l : Line} {S : St} {d : Nat} {ty : TypeId} {pos : String} {aft : Array Edge} {gd : Option (Nat × Bool)}
theorem w_nil {x : Operand} {γ o : Nat} (hx : S.ev x = .ptr γ o) (hd : Nat.blt d S.n = true) (hg : guardOk ops S gd)
    (h : Walk P ops draw K rest ((l.length, ⟨some d, .nilCheck x, ty, pos, aft, gd⟩, ⟨guardReads ops gd ++ [(x, .ptr γ o)], some (d, .ptr γ o), [], [], []⟩) :: l) (S.set d (.ptr γ o))) :
    Walk P ops draw K (⟨some d, .nilCheck x, ty, pos, aft, gd⟩ :: rest) l S :=
  walk_op ⟨[(x, .ptr γ o)], some (d, .ptr γ o), [], [], []⟩ (valid_val rfl fun E S g a w hs hq hl => by
    have hp : a.eval x = .pointer (some ⟨g.blk γ, o, none⟩) := by have := hq.1; simpa only [AVal.sat] using this
    exact ⟨.pointer (some ⟨g.blk γ, o, none⟩), by simp [execOp, hp], by simp only [AVal.sat]⟩) hg ⟨⟨hx, trivial⟩, trivial, trivial, hd⟩ h
/-! A literal of bytes that stands for a constant string: its row gets the run-time's mark. -/
def byTy (P : Program) (t : TypeId) : Bool := match P.underlying t with | some (.slice e) => (match P.underlying e with | some (.int .u8) => true | _ => false) | _ => false
theorem byTy_spec {t : TypeId} (h : byTy P t = true) : ∃ e, P.underlying t = some (.slice e) ∧ P.underlying e = some (.int .u8) := by
  unfold byTy at h
  split at h
  · rename_i e h1
    split at h
    · rename_i h2; exact ⟨e, h1, h2⟩
    · simp at h
  · simp at h
theorem heap_freeze (w : World) (b n : Nat) (vs : Array Value) (e : TypeId) (fr : Nat × Nat) (hb : w.heap[b]? = some (.cells vs e fr)) :
    (∃ fr', (w.freeze ⟨b, n, none⟩ 1).heap[b]? = some (.cells vs e fr') ∧ (fr' = (n, n + 1) ∨ fr' = (min fr.1 n, max fr.2 (n + 1)) ∧ fr.1 ≠ fr.2)) ∧ (∀ j, j ≠ b → (w.freeze ⟨b, n, none⟩ 1).heap[j]? = w.heap[j]?) ∧
      (w.freeze ⟨b, n, none⟩ 1).heap.size = w.heap.size ∧ (w.freeze ⟨b, n, none⟩ 1).os = w.os ∧ (w.freeze ⟨b, n, none⟩ 1).output = w.output := by
  obtain ⟨lo, hi⟩ := fr
  unfold World.freeze
  rw [if_neg (by decide)]
  refine ⟨?_, fun j hj => ?_, by simp, rfl, rfl⟩
  · by_cases h : lo = hi
    · refine ⟨(n, n + 1), ?_, .inl rfl⟩
      simp [Array.getElem?_modify, hb, h]
    · refine ⟨(min lo n, max hi (n + 1)), ?_, .inr ⟨rfl, h⟩⟩
      simp [Array.getElem?_modify, hb, h]
  · simp [Array.getElem?_modify, Ne.symm hj]
theorem inv_mark {E : Env} {L : Nat → AObj} {g : Gh} {w : World} (hi : Inv E L g w) {b n : Nat} {vs : Array Value} {e : TypeId} {fr : Nat × Nat} (hb : w.heap[b]? = some (.cells vs e fr)) (hnew : E.W.heap.size ≤ b ∨ E.A b) (hnl : ∀ γ, ¬ lives g (L γ) γ b) :
    Inv E L g (w.freeze ⟨b, n, none⟩ 1) := by
  obtain ⟨⟨fr', f1, f2⟩, f3, f4, f5, f6⟩ := heap_freeze w b n vs e fr hb
  refine ⟨fun γ => objSat_move (fun _ _ h => h) rfl rfl rfl (fun j hj => f3 j fun h => hnl γ (h ▸ hj)) (fun _ _ _ h => h) (hi.obj γ), hi.inj, fun a v ha => ?_, hi.sep, hi.new, hi.ext, hi.lim, fun j hj hA => ?_, by rw [f4]; exact hi.size, by rw [f5]; exact hi.os, by rw [f6]; exact hi.out, hi.kp⟩
  · have h1 := hi.mem a v ha
    unfold World.cell? at h1 ⊢
    by_cases h : a.block = b
    · rw [h, f1]; rw [h, hb] at h1; exact h1
    · rw [f3 _ h]; exact h1
  · rw [f3 j fun h => ?_]
    · exact hi.frame j hj hA
    · subst h
      rcases hnew with h | h
      · omega
      · exact hA h
theorem w_bytes_const {t : TypeId} {x : Operand} {γ n : Nat} {xs : List (List D)} (hx : S.ev x = .own γ n) (hL : S.obj γ = .row 1 xs) (hn : n = xs.length) (hne : Nat.beq n 0 = false) (ht : byTy P t = true) (hd : Nat.blt d S.n = true) (hg : guardOk ops S gd)
    (h : Walk P ops draw K rest ((l.length, ⟨some d, .convert t t x, ty, pos, aft, gd⟩, ⟨guardReads ops gd ++ [(x, .own γ n)], some (d, .d (.sl 1 xs)), [(γ, .row 1 xs)], [(γ, .froz 1 xs)], []⟩) :: l) ((S.set d (.d (.sl 1 xs))).own γ (.froz 1 xs))) :
    Walk P ops draw K (⟨some d, .convert t t x, ty, pos, aft, gd⟩ :: rest) l S :=
  walk_op ⟨[(x, .own γ n)], some (d, .d (.sl 1 xs)), [(γ, .row 1 xs)], [(γ, .froz 1 xs)], []⟩ (valid_new rfl fun E S g a w hs hq hl hnw => by
    have ho := hs.1.obj γ
    rw [hl.1] at ho
    have hv := own_sat hq.1 ho hn
    obtain ⟨e, t1, t2⟩ := byTy_spec ht
    rcases ho.2 with ⟨_, h2⟩ | ⟨b, cap, vs, e', fr, k1, k2, k3, k4, k5, k6, k7⟩
    · rw [hn, h2] at hne; exact absurd hne (by decide)
    have hsh : w.shape? b = some (e', vs.size) := by unfold World.shape?; rw [k4]
    have hrun : (execOp a.eval ⟨some d, .convert t t x, ty, pos, aft, gd⟩).run P w = .ok (.value (g.hd γ)) (w.freeze ⟨b, vs.size, none⟩ 1) := by
      simp only [execOp, hv, k1]
      simp [convert, run_underlying t1, run_underlying t2, markStringish, hsh]
    obtain ⟨M', hle, hi1⟩ := inv_froz hs.1 hl.1
    have hlv : lives g (S.obj γ) γ b := by rw [hl.1]; exact ⟨_, _, _, k1, rfl⟩
    have hi2 := inv_mark hi1 (n := vs.size) k4 (hs.1.new γ b hlv) (fun k hk => by
      by_cases h : γ = k
      · subst h; rw [look_same] at hk; exact hk
      · rw [look_ne _ _ _ h] at hk
        exact h (hs.1.inj γ k b hlv hk))
    have ho2 := hi2.obj γ
    rw [look_same] at ho2
    have hq1 : (AVal.own γ n).sat { g with M := M' } (a.eval x) := sat_lay (g := g) (g' := { g with M := M' }) hle rfl rfl rfl hq.1
    rw [hv] at hq1
    exact ⟨g.hd γ, { g with M := M' }, _, hrun, own_froz ho2 hn hq1, hi2, fun t => sat_lay (g := g) (g' := { g with M := M' }) hle rfl rfl rfl (hs.2.2.2 t)⟩) hg ⟨⟨hx, trivial⟩, ⟨hL, trivial⟩, trivial, hd⟩ h
end Go.Fw

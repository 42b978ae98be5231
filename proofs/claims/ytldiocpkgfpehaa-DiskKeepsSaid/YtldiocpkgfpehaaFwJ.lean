/- Tenth part: literals of slices, make, slice expressions, strings, rows that are read and written in place. -/
import Derived.Test.YtldiocpkgfpehaaFwI
import Derived.WalkSpells
namespace Go.Fw
open Go
set_option linter.unusedVariables false
set_option linter.unusedSimpArgs false

/-- The data of a new block. -/
theorem lay_rep {g : Gh} {w : World} {sz : Nat} {xs : List (List D)} {vs : Array Value} {cap : Nat} (hlen : ∀ x ∈ xs, x.length = sz) (hsat : satL g (xs.flatten.map .d) (vs.toList.take (xs.length * sz))) (hM : MemLe g.M (g.lay w.heap.size vs).M)
    (hcap : xs.length ≤ cap) (hmax : cap ≤ maxLen) : (AVal.d (.sl sz xs)).sat (g.lay w.heap.size vs) (.slice (some ⟨w.heap.size, 0, none⟩) xs.length cap) := by
  simp only [AVal.sat, D.rep]
  refine ⟨_, cap, rfl, hcap, hmax, .inr ⟨w.heap.size, 0, rfl, rows_of_flat xs 0 hlen fun i d hd => ?_⟩⟩
  obtain ⟨hl, hr⟩ := dmap_sat hsat
  obtain ⟨u, hu, hsu⟩ := hr i d hd
  refine ⟨u, ?_, D.rep_mono hM _ _ hsu⟩
  show (if _ then _ else _) = _
  rw [if_pos ⟨rfl, rfl⟩, Nat.zero_add]
  rw [List.getElem?_take] at hu
  split at hu
  · simpa using hu
  · simp at hu
/-- A new block as a row of one's own. -/
theorem inv_row_new {E : Env} {S : St} {g : Gh} {w : World} (hi : Inv E S.obj g w) (γ : Nat) (hf : S.free γ = true) (hdead : S.obj γ = .dead) {sz : Nat} {xs : List (List D)} {vs : Array Value} {e : TypeId} {fr : Nat × Nat} {cap : Nat}
    (hlen : ∀ x ∈ xs, x.length = sz) (hsat : satL g (xs.flatten.map .d) (vs.toList.take (xs.length * sz))) (hcap : xs.length ≤ cap) (hmax : cap ≤ maxLen) (hsz : cap * sz ≤ vs.size) (hfr : thaw fr vs.size) :
    Inv E (look .dead ((γ, .row sz xs) :: S.L)) (g.put γ 0 (.slice (some ⟨w.heap.size, 0, none⟩) xs.length cap)) (w.alloc (.cells vs e fr)) :=
  inv_new hi γ hf hdead _ _ _ (world_push w _) (world_push_size w _) rfl rfl
    ⟨hlen, .inr ⟨w.heap.size, cap, vs, e, fr, by simp [Gh.put], hcap, hmax, heap_alloc_new w _, hfr, hsz, satL_put (dmap_ment _ _) hsat⟩⟩
    (fun k hk => by obtain ⟨a, n, c, e, rfl⟩ := hk; simp only [Gh.put, if_true] at e; cases e; exact Nat.le_refl _)
theorem own_new {g : Gh} {w : World} {γ n cap : Nat} {a : Option Addr} : (AVal.own γ n).sat (g.put γ 0 (.slice a n cap)) (.slice a n cap) := by
  simp only [AVal.sat]
  exact ⟨rfl, a, n, cap, by simp [Gh.put], Nat.le_refl _, fun _ => rfl⟩

/-- The zero cells of so many elements. -/
def zrow (z : List Value) (n : Nat) : List Value := (List.replicate n z).flatten
def elZero (P : Program) (t : TypeId) : Option (List Value) :=
  match P.underlying t with
  | some (.slice e) => zerosOf P e
  | _ => none
theorem elZero_spec {P : Program} {t : TypeId} {zs : List Value} (h : elZero P t = some zs) : ∃ e, P.underlying t = some (.slice e) ∧ zerosOf P e = some zs := by
  unfold elZero at h
  cases hu : P.underlying t with
  | none => simp [hu] at h
  | some de => rw [hu] at h; cases de <;> simp at h; exact ⟨_, rfl, h⟩

theorem zrow_eq (z : Array Value) (n : Nat) : ((Array.range (n * z.size)).map (fun i => z[i % z.size]!)).toList = zrow z.toList n := by
  induction n with
  | zero => simp [zrow]
  | succ n ih =>
    have e1 : zrow z.toList (n + 1) = zrow z.toList n ++ z.toList := by
      simp [zrow, List.replicate_succ']
    rw [e1, ← ih]
    apply List.ext_getElem?
    intro j
    simp only [Array.toList_map, Array.toList_range, List.getElem?_map, List.getElem?_append, List.length_map, List.length_range]
    have hm : (n + 1) * z.size = n * z.size + z.size := Nat.succ_mul _ _
    by_cases h1 : j < n * z.size
    · rw [if_pos h1, List.getElem?_range (by omega), List.getElem?_range h1]
    · rw [if_neg h1]
      by_cases h2 : j < (n + 1) * z.size
      · rw [List.getElem?_range h2]
        have h3 : j - n * z.size < z.size := by omega
        have h4 : j % z.size = j - n * z.size := by
          have : j = (j - n * z.size) + n * z.size := by omega
          rw [this, Nat.add_mul_mod_self_right, Nat.mod_eq_of_lt h3]
          omega
        simp [h4, h3]
      · rw [List.getElem?_eq_none (by simp; omega)]
        symm
        rw [Option.map_none, List.getElem?_eq_none (by simp; omega)]

theorem run_zero {P : Program} {e : TypeId} {zs : List Value} (h : zerosOf P e = some zs) : ∃ z : Value, z.cells.toList = zs ∧ (∀ w, (zeroValue e).run P w = .ok z w) := zerosOf_spec h

section
variable {P : Program} {ops : Array Oper} {draw : Bool} {K : St → Prop} {rest : List Oper} {l : Line} {S : St}
variable {d : Nat} {ty : TypeId} {pos : String} {aft : Array Edge} {gd : Option (Nat × Bool)}

theorem run_buildSlice {T : TypeId} {len sz : Nat} {zs : List Value} {parts : Array (Nat × Value)} {us : Array Value} (hT : slIs P T sz = true) (hz : elZero P T = some zs) (hzl : zs.length = sz) (hsmall : len * sz ≤ 16777216)
    (hfill : Instr.fill (fun i => some (i * sz, sz)) (zrow zs len).toArray parts.toList = some us) (w : World) :
    ∃ e, (Instr.buildSlice T len parts).run P w = .ok (.slice (some ⟨w.heap.size, 0, none⟩) len len) (w.alloc (.cells us e)) := by
  obtain ⟨e, h1, h2, _⟩ := slIs_spec hT
  obtain ⟨e', h1', hze⟩ := elZero_spec hz
  rw [h1] at h1'; cases h1'
  obtain ⟨z, hz1, hz2⟩ := run_zero hze
  refine ⟨e, ?_⟩
  have hzs : z.cells.size = sz := by rw [← hzl, ← hz1]; simp
  have hsmall' : ¬ (16777216 < len * sz) := by omega
  have hfill' : Instr.fill (fun i => some (i * sz, sz)) ((Array.range (len * sz)).map (fun i => z.cells[i % z.cells.size]!)) parts.toList = some us := by
    rw [← hfill]
    congr 1
    apply Array.ext'
    have := zrow_eq z.cells len
    rw [hzs] at this ⊢
    rw [this, hz1]
  by_cases h0 : len * sz = 0
  · have hem : (zrow zs len).toArray = #[] := by
      apply Array.ext'
      simp only [zrow]
      rcases Nat.mul_eq_zero.1 h0 with h | h
      · subst h; simp
      · have : zs = [] := by rw [← hzl] at h; exact List.length_eq_zero_iff.1 h
        subst this; simp
    rw [hem] at hfill
    simp [Instr.buildSlice, run_underlying h1, h2 w, h0, hfill, newRow, Array.range_zero']
  · simp [Instr.buildSlice, run_underlying h1, h2 w, hsmall', h0, hz2 w, hfill', newRow]

theorem dvL_append : ∀ (a b : List Value), dvL (a ++ b) = dvL a ++ dvL b
  | [], b => rfl
  | x :: a, b => by simp [dvL, dvL_append a b]

theorem w_buildSlice_gen {T : TypeId} {len sz : Nat} {parts : Array (Nat × Operand)} {pl : List (Nat × Operand)} {zs : List Value} {ps : List (Nat × AVal)} {out : List AVal} {xs : List (List D)} (hpl : parts.toList = pl)
    (hkeys : ps.map (·.1) = pl.map (·.1)) (hT : slIs P T sz = true) (hz : elZero P T = some zs) (hzl : Nat.beq zs.length sz = true) (hz1 : onesL (zrow zs len) = true) (hsmall : Nat.ble (len * sz) 16777216 = true) (hsl : Nat.ble len 16777216 = true)
    (hout : fillA (fun i => some (i * sz, sz)) (dvL (zrow zs len)) ps = some out) (hxs : toRows sz len out = some xs) {g : Gh} {a : Act} (w : World) (hq : satR g a (readsL pl ps)) :
    ∃ e, ∃ us : Array Value, (Instr.buildSlice T len (parts.map fun p => (p.1, a.eval p.2))).run P w = .ok (.slice (some ⟨w.heap.size, 0, none⟩) len len) (w.alloc (.cells us e)) ∧
      us.toList.length = xs.length * sz ∧ satL g (xs.flatten.map .d) us.toList ∧ xs.length = len ∧ (∀ x ∈ xs, x.length = sz) ∧ len ≤ maxLen := by
  obtain ⟨us, k1, k2⟩ := fill_sat (vs := (zrow zs len).toArray) hkeys hq (by simpa using dvL_sat hz1) hout
  obtain ⟨r1, r2, r3⟩ := toRows_spec hxs
  have hsm : len * sz ≤ 16777216 := by simpa using hsmall
  obtain ⟨e, he⟩ := run_buildSlice (P := P) (T := T) (len := len) (parts := parts.map fun p => (p.1, a.eval p.2)) hT hz (by simpa using hzl) hsm (by
    have : (parts.map fun p => (p.1, a.eval p.2)).toList = pl.map fun p => (p.1, a.eval p.2) := by simp [hpl]
    rw [this]; exact k1) w
  rw [← r1] at k2
  have hl := satL_length k2
  simp only [List.length_map, flat_length xs r3] at hl
  refine ⟨e, us, he, hl, k2, r2, r3, ?_⟩
  unfold maxLen
  have : len ≤ 16777216 := by simpa using hsl
  omega

theorem evL_keys (S : St) : ∀ pl : List (Nat × Operand), (evL S pl).map (·.1) = pl.map (·.1)
  | [] => rfl
  | p :: r => by simp [evL, evL_keys S r]
theorem evL_ok (S : St) : ∀ pl : List (Nat × Operand), readsOk S (readsL pl (evL S pl))
  | [] => trivial
  | p :: r => ⟨rfl, evL_ok S r⟩

/-- A slice literal, at once data. -/
theorem w_lit {T : TypeId} {len sz : Nat} {parts : Array (Nat × Operand)} {pl : List (Nat × Operand)} {zs : List Value} {ps : List (Nat × AVal)} {out : List AVal} {xs : List (List D)} (hpl : parts.toList = pl)
    (hps : evL S pl = ps) (hz : elZero P T = some zs) (hS : zs.length = sz) (hT : slIs P T sz = true) (hzl : Nat.beq zs.length sz = true) (hz1 : onesL (zrow zs len) = true) (hsmall : Nat.ble (len * sz) 16777216 = true) (hsl : Nat.ble len 16777216 = true)
    (hout : fillA (fun i => some (i * sz, sz)) (dvL (zrow zs len)) ps = some out) (hxs : toRows sz len out = some xs) (hd : Nat.blt d S.n = true) (hg : guardOk ops S gd)
    (h : Walk P ops draw K rest ((l.length, ⟨some d, .buildSlice T len parts, ty, pos, aft, gd⟩, ⟨guardReads ops gd ++ readsL pl ps, some (d, .d (.sl sz xs)), [], [], []⟩) :: l) (S.set d (.d (.sl sz xs)))) :
    Walk P ops draw K (⟨some d, .buildSlice T len parts, ty, pos, aft, gd⟩ :: rest) l S := by
  have hkeys : ps.map (·.1) = pl.map (·.1) := by rw [← hps]; exact evL_keys S pl
  have hrd : readsOk S (readsL pl ps) := by rw [← hps]; exact evL_ok S pl
  refine walk_op ⟨readsL pl ps, some (d, .d (.sl sz xs)), [], [], []⟩ ?_ hg ⟨hrd, trivial, trivial, hd⟩ h
  intro E S a w g hs hok Q K hK
  obtain ⟨e, us, k1, k2, k3, k4, k5, k6⟩ := w_buildSlice_gen (P := P) hpl hkeys hT hz hzl hz1 hsmall hsl hout hxs w (satR_of hs _ hok.1)
  have hle := lay_le hs.1 us
  have hrun : (execOp a.eval ⟨some d, .buildSlice T len parts, ty, pos, aft, gd⟩).run P w = .ok (.value (.slice (some ⟨w.heap.size, 0, none⟩) len len)) (w.alloc (.cells us e)) := by
    simp only [execOp, Sem.run_bind, k1]; rfl
  unfold Oper.wp
  rw [hrun, Oper.upon_value]
  refine hK _ _ (holds_put (inv_lay hs.1 us e (0, 0)) hs.2.1 hs.2.2.1 (fun t => sat_lay (g := g) (g' := g.lay w.heap.size us) hle rfl rfl rfl (hs.2.2.2 t)) ?_ hok.2.2.2)
  have := lay_rep (g := g) (w := w) (cap := len) k5 (by rw [List.take_of_length_le (by omega)]; exact k3) hle (by omega) k6
  rwa [k4] at this
/-- A slice literal, as a row of one's own. -/
theorem w_lit_own {T : TypeId} {len sz γ : Nat} {parts : Array (Nat × Operand)} {pl : List (Nat × Operand)} {zs : List Value} {ps : List (Nat × AVal)} {out : List AVal} {xs : List (List D)} (hpl : parts.toList = pl)
    (hps : evL S pl = ps) (hz : elZero P T = some zs) (hS : zs.length = sz) (hT : slIs P T sz = true) (hzl : Nat.beq zs.length sz = true) (hz1 : onesL (zrow zs len) = true) (hsmall : Nat.ble (len * sz) 16777216 = true) (hsl : Nat.ble len 16777216 = true)
    (hout : fillA (fun i => some (i * sz, sz)) (dvL (zrow zs len)) ps = some out) (hxs : toRows sz len out = some xs) (hdead : S.obj γ = .dead) (hf : S.free γ = true) (hd : Nat.blt d S.n = true) (hg : guardOk ops S gd)
    (h : Walk P ops draw K rest ((l.length, ⟨some d, .buildSlice T len parts, ty, pos, aft, gd⟩, ⟨guardReads ops gd ++ readsL pl ps, some (d, .own γ len), [(γ, .dead)], [(γ, .row sz xs)], [γ]⟩) :: l) ((S.set d (.own γ len)).own γ (.row sz xs))) :
    Walk P ops draw K (⟨some d, .buildSlice T len parts, ty, pos, aft, gd⟩ :: rest) l S := by
  have hkeys : ps.map (·.1) = pl.map (·.1) := by rw [← hps]; exact evL_keys S pl
  have hrd : readsOk S (readsL pl ps) := by rw [← hps]; exact evL_ok S pl
  refine walk_op ⟨readsL pl ps, some (d, .own γ len), [(γ, .dead)], [(γ, .row sz xs)], [γ]⟩ (valid_new rfl fun E S g a w hs hq hl hn => ?_) hg ⟨hrd, ⟨hdead, trivial⟩, ⟨hf, trivial⟩, hd⟩ h
  obtain ⟨e, us, k1, k2, k3, k4, k5, k6⟩ := w_buildSlice_gen (P := P) hpl hkeys hT hz hzl hz1 hsmall hsl hout hxs w hq
  have hsz : us.size = len * sz := by rw [← k4]; simpa using k2
  refine ⟨.slice (some ⟨w.heap.size, 0, none⟩) xs.length len, _, w.alloc (.cells us e), by simp only [execOp, Sem.run_bind, k1]; rw [k4]; rfl, by rw [← k4]; exact own_new (w := w), inv_row_new hs.1 γ hn.1 hl.1 (cap := len) k5 (by rw [List.take_of_length_le (by omega)]; exact k3) (by omega) k6 (by omega) (thaw00 _), tmps_put hn.1 hs.2.2.2⟩

/-! make. -/
theorem run_makeSlice {T : TypeId} {sz bytes n : Nat} {zs : List Value} (hT : elIs P T sz bytes = true) (hz : elZero P T = some zs) (hroom : n * bytes ≤ 2 ^ 48) (hn : n < 2 ^ 63) (k1 k2 : IntKind) (w : World) :
    ∃ e, (Instr.makeSlice T (.int k1 n) (.int k2 n)).run P w = .ok (.slice (some ⟨w.heap.size, 0, none⟩) n n) (w.alloc (.cells (zrow zs n).toArray e)) := by
  obtain ⟨e, i, z, hu, hi, hsz, hbt, hz0, hzs, hz1⟩ := elIs_spec hT
  obtain ⟨e', h1', hze⟩ := elZero_spec hz
  rw [hu] at h1'; cases h1'
  have hzz : z.cells.toList = zs := by
    unfold zerosOf at hze
    simp [hi, hz0] at hze
    exact hze
  have hw : IntKind.i64.wrap (n : Int) = n := IntWalk.i64_in _ (by omega)
  have hnn : ¬ ((n : Int) < 0) := by omega
  have ha : ∀ k, (asInt (.int k (n : Int))).run P w = .ok (n : Int) w := fun k => by simp [asInt, asIntOf]
  have hbig : ¬ (281474976710656 < (i.bytes : Int) * (n : Int)) := by
    rw [hbt]
    have : (n * bytes : Nat) ≤ 2 ^ 48 := hroom
    have h2 : ((bytes : Int) * (n : Int)) = ((n * bytes : Nat) : Int) := by rw [Nat.mul_comm]; exact (Int.natCast_mul _ _).symm
    rw [h2]; omega
  have harr : (Array.range (n * sz)).map (fun x => z.cells[x % z.cells.size]!) = (zrow zs n).toArray := by
    apply Array.ext'
    have := zrow_eq z.cells n
    rw [hzs] at this ⊢
    rw [this, hzz]
  refine ⟨e, ?_⟩
  by_cases h0 : n * sz = 0
  · have hem : (zrow zs n).toArray = #[] := by rw [← harr, h0]; simp [Array.range_zero']
    rw [hem]
    simp [Instr.makeSlice, run_underlying hu, ha, typeInfo, hi, hw, hnn, hbig, sizeOf, hsz, h0, newRow, Array.range_zero']
  · simp [Instr.makeSlice, run_underlying hu, ha, typeInfo, hi, hw, hnn, hbig, sizeOf, hsz, h0, newRow, zeroValue, hz0, harr]

/-- The zero element, as data. -/
def zD : List Value → List D
  | [] => []
  | v :: r => .v v :: zD r
theorem zD_dvL : ∀ zs : List Value, (zD zs).map .d = dvL zs
  | [] => rfl
  | v :: r => by simp [zD, dvL, zD_dvL r]
theorem zD_length : ∀ zs : List Value, (zD zs).length = zs.length
  | [] => rfl
  | v :: r => by simp [zD, zD_length r]
theorem zrow_sat {g : Gh} {zs : List Value} (h1 : onesL zs = true) (n : Nat) : satL g ((List.replicate n (zD zs)).flatten.map .d) (zrow zs n) := by
  induction n with
  | zero => simp [zrow, satL]
  | succ n ih =>
    simp only [List.replicate_succ, List.flatten_cons, zrow, List.map_append, zD_dvL]
    exact satL_append (dvL_sat h1) ih

theorem w_make {T : TypeId} {sz bytes n : Nat} {k1 k2 : IntKind} {x y : Operand} {m m' : Int} {zs : List Value} (hx : S.ev x = .d (.v (.int k1 m))) (hy : S.ev y = .d (.v (.int k2 m'))) (hm : m = (n : Nat)) (hm' : m' = (n : Nat))
    (hz : elZero P T = some zs) (hB : elB P T = bytes) (hS : zs.length = sz) (hT : elIs P T sz bytes = true) (h1 : onesL zs = true) (hl : Nat.beq zs.length sz = true) (hroom : n * bytes ≤ 281474976710656) (hn : n < 9223372036854775808) (hd : Nat.blt d S.n = true) (hg : guardOk ops S gd)
    (h : Walk P ops draw K rest ((l.length, ⟨some d, .makeSlice T x y, ty, pos, aft, gd⟩, ⟨guardReads ops gd ++ [(x, .d (.v (.int k1 m))), (y, .d (.v (.int k2 m')))], some (d, .d (.sl sz (List.replicate n (zD zs)))), [], [], []⟩) :: l) (S.set d (.d (.sl sz (List.replicate n (zD zs)))))) :
    Walk P ops draw K (⟨some d, .makeSlice T x y, ty, pos, aft, gd⟩ :: rest) l S := by
  refine walk_op ⟨[(x, .d (.v (.int k1 m))), (y, .d (.v (.int k2 m')))], some (d, .d (.sl sz (List.replicate n (zD zs)))), [], [], []⟩ ?_ hg ⟨⟨hx, hy, trivial⟩, trivial, trivial, hd⟩ h
  intro E S a w g hs hok Q K hK
  have hq := satR_of hs _ hok.1
  obtain ⟨e, he⟩ := run_makeSlice (P := P) hT hz (by simpa using hroom) (by simpa using hn) k1 k2 w
  have hle := lay_le hs.1 (zrow zs n).toArray
  have hzl : zs.length = sz := by simpa using hl
  have hrun : (execOp a.eval ⟨some d, .makeSlice T x y, ty, pos, aft, gd⟩).run P w = .ok (.value (.slice (some ⟨w.heap.size, 0, none⟩) n n)) (w.alloc (.cells (zrow zs n).toArray e)) := by
    simp only [execOp, Sem.run_bind, sat_v hq.1, sat_v hq.2.1, hm, hm', he]; rfl
  unfold Oper.wp
  rw [hrun, Oper.upon_value]
  refine hK _ _ (holds_put (inv_lay hs.1 _ e (0, 0)) hs.2.1 hs.2.2.1 (fun t => sat_lay (g := g) (g' := g.lay w.heap.size (zrow zs n).toArray) hle rfl rfl rfl (hs.2.2.2 t)) ?_ hok.2.2.2)
  have hlen : ∀ x ∈ List.replicate n (zD zs), x.length = sz := fun x hx => by rw [(List.mem_replicate.1 hx).2, zD_length, hzl]
  have hs1 := zrow_sat (g := g) h1 n
  have := lay_rep (g := g) (w := w) (vs := (zrow zs n).toArray) (cap := n) hlen (by
    have hl := satL_length hs1
    rw [List.length_map, flat_length _ hlen] at hl
    rw [List.take_of_length_le (by simpa using Nat.le_of_eq hl)]; exact hs1) hle (by simp) (by unfold maxLen; omega)
  rwa [List.length_replicate] at this
theorem w_make_own {T : TypeId} {sz bytes n γ : Nat} {k1 k2 : IntKind} {x y : Operand} {m m' : Int} {zs : List Value} (hx : S.ev x = .d (.v (.int k1 m))) (hy : S.ev y = .d (.v (.int k2 m'))) (hm : m = (n : Nat)) (hm' : m' = (n : Nat))
    (hz : elZero P T = some zs) (hB : elB P T = bytes) (hS : zs.length = sz) (hT : elIs P T sz bytes = true) (h1 : onesL zs = true) (hl : Nat.beq zs.length sz = true) (hroom : n * bytes ≤ 281474976710656) (hn : n < 9223372036854775808) (hdead : S.obj γ = .dead) (hf : S.free γ = true) (hd : Nat.blt d S.n = true) (hg : guardOk ops S gd)
    (h : Walk P ops draw K rest ((l.length, ⟨some d, .makeSlice T x y, ty, pos, aft, gd⟩, ⟨guardReads ops gd ++ [(x, .d (.v (.int k1 m))), (y, .d (.v (.int k2 m')))], some (d, .own γ n), [(γ, .dead)], [(γ, .row sz (List.replicate n (zD zs)))], [γ]⟩) :: l) ((S.set d (.own γ n)).own γ (.row sz (List.replicate n (zD zs))))) :
    Walk P ops draw K (⟨some d, .makeSlice T x y, ty, pos, aft, gd⟩ :: rest) l S := by
  refine walk_op ⟨[(x, .d (.v (.int k1 m))), (y, .d (.v (.int k2 m')))], some (d, .own γ n), [(γ, .dead)], [(γ, .row sz (List.replicate n (zD zs)))], [γ]⟩ (valid_new rfl fun E S g a w hs hq hl' hn' => ?_) hg ⟨⟨hx, hy, trivial⟩, ⟨hdead, trivial⟩, ⟨hf, trivial⟩, hd⟩ h
  obtain ⟨e, he⟩ := run_makeSlice (P := P) hT hz (by simpa using hroom) (by simpa using hn) k1 k2 w
  have hzl : zs.length = sz := by simpa using hl
  have hlen : ∀ x ∈ List.replicate n (zD zs), x.length = sz := fun x hx => by rw [(List.mem_replicate.1 hx).2, zD_length, hzl]
  have hs1 := zrow_sat (g := g) h1 n
  have hl1 := satL_length hs1
  rw [List.length_map, flat_length _ hlen, List.length_replicate] at hl1
  have hinv := inv_row_new hs.1 γ hn'.1 hl'.1 (vs := (zrow zs n).toArray) (e := e) (fr := (0, 0)) (cap := n) hlen (by
    rw [List.take_of_length_le (by simp only [List.length_replicate]; omega)]; exact hs1) (by simp) (by unfold maxLen; omega) (by simp only [List.size_toArray]; omega) (thaw00 _)
  rw [List.length_replicate] at hinv
  exact ⟨_, _, _, by simp only [execOp, Sem.run_bind, sat_v hq.1, sat_v hq.2.1, hm, hm', he]; rfl, own_new (w := w), hinv, tmps_put hn'.1 hs.2.2.2⟩

/-! Slice expressions. -/
def loOk (S : St) : Option Operand → Nat → Prop
  | none, l => l = 0
  | some x, l => S.ev x = ai l
def hiOk (S : St) (len : Nat) : Option Operand → Nat → Prop
  | none, h => h = len
  | some x, h => S.ev x = ai h
def mxOk (S : St) (len h : Nat) : Option Operand → Option Operand → Prop
  | none, _ => True
  | some x, none => False
  | some x, some _ => ∃ m : Nat, S.ev x = ai m ∧ h ≤ m ∧ m ≤ len
def optReads : Option Operand → Nat → List (Operand × AVal)
  | none, _ => []
  | some x, n => [(x, ai n)]
theorem satR_append {g : Gh} {a : Act} : ∀ {l m : List (Operand × AVal)}, satR g a (l ++ m) ↔ satR g a l ∧ satR g a m
  | [], m => by simp [satR]
  | p :: r, m => by simp [satR, satR_append, and_assoc]
theorem readsOk_append {S : St} {l m : List (Operand × AVal)} : readsOk S (l ++ m) ↔ readsOk S l ∧ readsOk S m := by
  simp only [readsOk_iff, List.mem_append]
  exact ⟨fun h => ⟨fun p hp => h p (.inl hp), fun p hp => h p (.inr hp)⟩, fun h p hp => hp.elim (h.1 p) (h.2 p)⟩

theorem run_bounds {g : Gh} {a : Act} {lo hi : Option Operand} {l h len cap : Nat} {isSl : Bool} (h1 : lo = none → l = 0) (h2 : hi = none → h = len) (hlo : satR g a (optReads lo l)) (hhi : satR g a (optReads hi h)) (hlh : l ≤ h) (hc : h ≤ cap) (w : World) :
    (Instr.sliceBounds isSl len cap (lo.map a.eval) (hi.map a.eval) none).run P w = .ok (l, h, cap) w := by
  cases lo with
  | none =>
    have := h1 rfl; subst this
    cases hi with
    | none => have := h2 rfl; subst this; simp [Instr.sliceBounds]
    | some y =>
      have e2 := sat_v hhi.1
      simp [Instr.sliceBounds, e2, run_sliceBound, hc]
  | some x =>
    have e1 := sat_v hlo.1
    cases hi with
    | none => have := h2 rfl; subst this; simp [Instr.sliceBounds, e1, run_sliceBound, hlh]
    | some y =>
      have e2 := sat_v hhi.1
      simp [Instr.sliceBounds, e1, e2, run_sliceBound, hlh, hc]

theorem optReads_ok {S : St} {lo : Option Operand} {l : Nat} (h : ∀ x, lo = some x → S.ev x = ai l) : readsOk S (optReads lo l) := by
  cases lo with
  | none => trivial
  | some x => exact ⟨h x rfl, trivial⟩

theorem w_slice {T : TypeId} {x : Operand} {lo hi : Option Operand} {sz lb hb : Nat} {xs : List (List D)} (hx : S.ev x = .d (.sl sz xs)) (hlo : loOk S lo lb) (hhi : hiOk S xs.length hi hb) (hlh : lb ≤ hb) (hh : hb ≤ xs.length)
    (hT : slIs P T sz = true) (hd : Nat.blt d S.n = true) (hg : guardOk ops S gd)
    (h : Walk P ops draw K rest ((l.length, ⟨some d, .slice T x lo hi none, ty, pos, aft, gd⟩, ⟨guardReads ops gd ++ ((x, .d (.sl sz xs)) :: (optReads lo lb ++ optReads hi hb)), some (d, .d (.sl sz ((xs.take hb).drop lb))), [], [], []⟩) :: l) (S.set d (.d (.sl sz ((xs.take hb).drop lb))))) :
    Walk P ops draw K (⟨some d, .slice T x lo hi none, ty, pos, aft, gd⟩ :: rest) l S := by
  refine walk_op ⟨(x, .d (.sl sz xs)) :: (optReads lo lb ++ optReads hi hb), some (d, .d (.sl sz ((xs.take hb).drop lb))), [], [], []⟩ (valid_val rfl fun E S g a w hs hq hl => ?_) hg
    ⟨⟨hx, readsOk_append.2 ⟨optReads_ok fun y e => by subst e; exact hlo, optReads_ok fun y e => by subst e; exact hhi⟩⟩, trivial, trivial, hd⟩ h
  obtain ⟨e, h1, h2, h3⟩ := slIs_spec hT
  obtain ⟨hq1, hq2⟩ := hq
  rw [satR_append] at hq2
  simp only [AVal.sat, D.rep] at hq1
  obtain ⟨b, cap, hv, c1, c2, c3⟩ := hq1
  have hbd := run_bounds (P := P) (isSl := true) (len := xs.length) (cap := cap) (fun e => by subst e; exact hlo) (fun e => by subst e; exact hhi) hq2.1 hq2.2 hlh (Nat.le_trans hh c1) w
  have hrun := run_slice_any (P := P) w T b xs.length cap (by rw [h3]; exact h1) (lo.map a.eval) (hi.map a.eval) none
  rw [hbd, Result.andThen_ok, h3, h2 w, Result.andThen_ok] at hrun
  have hat : (Instr.sliceAt T (.slice b xs.length cap) (lo.map a.eval) (hi.map a.eval) none) = Instr.slice T (.slice b xs.length cap) (lo.map a.eval) (hi.map a.eval) none ∨ True := .inr trivial
  refine ⟨sliced b lb hb cap sz, ?_, ?_⟩
  · simp only [execOp, hv, Instr.sliceAt, Sem.run_bind, run_underlying h1, Result.andThen_ok, Option.map_none, hrun]; rfl
  · simp only [AVal.sat, D.rep, sliced]
    have hlen : ((xs.take hb).drop lb).length = hb - lb := by simp; omega
    refine ⟨if cap = lb then b else b.map fun p => p.add (lb * sz), cap - lb, by rw [hlen], by omega, by omega, ?_⟩
    rcases c3 with rfl | ⟨b', o, rfl, hr⟩
    · left; simp
    · by_cases hem : (xs.take hb).drop lb = []
      · exact .inl hem
      · right
        have hne : cap ≠ lb := by
          intro e
          apply hem
          apply List.eq_nil_of_length_eq_zero
          omega
        refine ⟨b', o + lb * sz, ?_, repRows_drop (repRows_take hr hb) lb⟩
        rw [if_neg hne, Option.map_some, add_at]

/-! A slice against nil. -/
theorem w_isnil {xt yt : TypeId} {x : Operand} {sz : Nat} {xs : List (List D)} (hx : S.ev x = .d (.sl sz xs)) (ht : isSl P xt = true) (hd : Nat.blt d S.n = true) (hg : guardOk ops S gd)
    (h : Walk P ops draw K rest ((l.length, ⟨some d, .binOp .eql xt x (.const (.slice none 0 0)) yt, ty, pos, aft, gd⟩, ⟨guardReads ops gd ++ [(x, .d (.sl sz xs))], some (d, .bq (xs = []) True), [], [], []⟩) :: l) (S.set d (.bq (xs = []) True))) :
    Walk P ops draw K (⟨some d, .binOp .eql xt x (.const (.slice none 0 0)) yt, ty, pos, aft, gd⟩ :: rest) l S :=
  walk_op ⟨[(x, .d (.sl sz xs))], some (d, .bq (xs = []) True), [], [], []⟩ (valid_val rfl fun E S g a w hs hq hl => by
    have hq1 := hq.1
    simp only [AVal.sat, D.rep] at hq1
    obtain ⟨b, cap, hv, c1, c2, c3⟩ := hq1
    refine ⟨.bool b.isNone, ?_, ?_⟩
    · obtain ⟨e, he⟩ := isSl_spec ht
      have e1 : eqGuard .eql xt x (.const (.slice none 0 0)) (.slice b xs.length cap) (.slice none 0 0) = pure () := eqGuard_at_slice _ _ _ _ _ _ _ _
      simp only [execOp, hv, show a.eval (.const (.slice none 0 0)) = .slice none 0 0 from rfl, e1, Sem.run_bind, Sem.run_pure, Result.andThen_ok, Lib.run_eql_slice_nil w xt e b xs.length cap 0 0 he]
    · simp only [AVal.sat]
      refine ⟨b.isNone, rfl, fun h => ?_, fun _ => trivial⟩
      rcases c3 with h' | ⟨b', o, rfl, _⟩
      · exact h'
      · simp at h) hg ⟨⟨hx, trivial⟩, trivial, trivial, hd⟩ h
theorem w_notnil {xt yt : TypeId} {x : Operand} {sz : Nat} {xs : List (List D)} (hx : S.ev x = .d (.sl sz xs)) (ht : isSl P xt = true) (hd : Nat.blt d S.n = true) (hg : guardOk ops S gd)
    (h : Walk P ops draw K rest ((l.length, ⟨some d, .binOp .neq xt x (.const (.slice none 0 0)) yt, ty, pos, aft, gd⟩, ⟨guardReads ops gd ++ [(x, .d (.sl sz xs))], some (d, .bq True (xs = [])), [], [], []⟩) :: l) (S.set d (.bq True (xs = [])))) :
    Walk P ops draw K (⟨some d, .binOp .neq xt x (.const (.slice none 0 0)) yt, ty, pos, aft, gd⟩ :: rest) l S :=
  walk_op ⟨[(x, .d (.sl sz xs))], some (d, .bq True (xs = [])), [], [], []⟩ (valid_val rfl fun E S g a w hs hq hl => by
    have hq1 := hq.1
    simp only [AVal.sat, D.rep] at hq1
    obtain ⟨b, cap, hv, c1, c2, c3⟩ := hq1
    refine ⟨.bool (!b.isNone), ?_, ?_⟩
    · obtain ⟨e, he⟩ := isSl_spec ht
      have e1 : eqGuard .neq xt x (.const (.slice none 0 0)) (.slice b xs.length cap) (.slice none 0 0) = pure () := eqGuard_at_slice _ _ _ _ _ _ _ _
      simp only [execOp, hv, show a.eval (.const (.slice none 0 0)) = .slice none 0 0 from rfl, e1, Sem.run_bind, Sem.run_pure, Result.andThen_ok, Go.run_neq_slice_nil_any w xt e b xs.length cap 0 0 he]
    · simp only [AVal.sat]
      refine ⟨!b.isNone, rfl, fun _ => trivial, fun h => ?_⟩
      rcases c3 with h' | ⟨b', o, rfl, _⟩
      · exact h'
      · simp at h) hg ⟨⟨hx, trivial⟩, trivial, trivial, hd⟩ h
end
theorem le_slot {S : St} (t : Nat) {y : AVal} (h : (S.get t).le y) : S.le (S.set t (y)) := by
  rintro E a w ⟨g, hs⟩
  refine holds_ghost hs hs.1 rfl fun k => ?_
  by_cases hk : k = t
  · subst hk
    show AVal.sat _ (look .any ((k, _) :: S.τ) k) _
    rw [look_same]; exact h g _ (hs.2.2.2 k)
  · show AVal.sat _ (look .any ((t, _) :: S.τ) k) _
    rw [look_ne _ _ _ (Ne.symm hk)]; exact hs.2.2.2 k
end Go.Fw

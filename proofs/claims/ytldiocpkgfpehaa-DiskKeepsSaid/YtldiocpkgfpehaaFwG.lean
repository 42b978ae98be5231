/- Seventh part: the walk's rules for slices. -/
import Derived.Test.YtldiocpkgfpehaaFwF
namespace Go.Fw
open Go
set_option linter.unusedVariables false
set_option linter.unusedSimpArgs false

def Gh.rehd (g : Gh) (γ : Nat) (v : Value) : Gh := { blk := g.blk, hd := fun k => if k = γ then v else g.hd k, ihd := g.ihd, M := g.M }
theorem rehd_keeps {g : Gh} {γ : Nat} {a a' : Option Addr} {m m' c c' : Nat} (h1 : g.hd γ = .slice a m c) (h2 : Value.slice a' m' c' = .slice a m c ∨ m < m') (k : Nat) : g.keeps (g.rehd γ (.slice a' m' c')) k := by
  refine ⟨rfl, ?_, fun _ _ _ _ _ _ => rfl⟩
  by_cases hk : k = γ
  · subst hk
    rcases h2 with h2 | h2
    · left; simp [Gh.rehd, h1, h2]
    · right; exact ⟨a, m, c, a', m', c', h1, by simp [Gh.rehd], h2⟩
  · left; simp [Gh.rehd, hk]

theorem zeroCells_size (z : Array Value) (n : Nat) : (Builtin.zeroCells z n).size = n * z.size := by simp [Builtin.zeroCells]

theorem satL_dmap_append {g : Gh} {xs ys : List D} {us vs : List Value} (h : satL g (xs.map .d) us) (h' : satL g (ys.map .d) vs) : satL g ((xs ++ ys).map .d) (us ++ vs) := by
  rw [List.map_append]; exact satL_append h h'

theorem append_core {P : Program} {E : Env} {S : St} {g : Gh} {a : Act} {w : World} (hs : holdsG E S g a w) {γ sz bytes m : Nat} {xs ys : List (List D)} (hL : S.obj γ = .row sz xs)
    {T T2 ty : TypeId} (hT : elIs P T sz bytes = true) (h2 : srcTy P T2 = true) (hb0 : bytes ≠ 0) {x : Value} {news : Array Value} (hsrc : Src P w sz x m news)
    (hm : m = ys.length) (hy : ∀ y ∈ ys, y.length = sz) (hnews : satL g (ys.flatten.map .d) news.toList) (hroom : (xs.length + m) * bytes ≤ 2 ^ 47) :
    ∃ v g' w', (Builtin.append_ #[T, T2] ty #[g.hd γ, x]).run P w = .ok v w' ∧ (AVal.own γ (xs.length + m)).sat g' v ∧
      Inv E (look .dead ((γ, .row sz (xs ++ ys)) :: S.L)) g' w' ∧ ∀ t, (S.get t).sat g' (a.tmps.getD t undef) := by
  obtain ⟨e, i, z, hu, hi, hsz, hbt, hz, hzs, hz1⟩ := elIs_spec hT
  have hsrcT := srcTy_spec h2
  have ho := hs.1.obj γ
  rw [hL] at ho
  obtain ⟨hlen, ho⟩ := ho
  have hflat := flat_length xs hlen
  have hflat2 := flat_length ys hy
  have hlen' : ∀ r ∈ xs ++ ys, r.length = sz := fun r hr => (List.mem_append.1 hr).elim (hlen r) (hy r)
  have hnsz : news.size = m * sz := hsrc.2
  -- the two ways' common end
  have fin : ∀ (a0 : Option Addr) (c0 : Nat) (b cap' : Nat) (vs' : Array Value) (e' : TypeId) (fr : Nat × Nat) (w' : World),
      g.hd γ = .slice a0 xs.length c0 →
      (Value.slice (some ⟨b, 0, none⟩) (xs.length + m) cap' = .slice a0 xs.length c0 ∨ xs.length < xs.length + m) →
      (∀ k, k < w.heap.size → ¬ lives g (S.obj γ) γ k → w'.heap[k]? = w.heap[k]?) → w.heap.size ≤ w'.heap.size → w'.os = w.os → w'.output = w.output →
      w'.heap[b]? = some (.cells vs' e' fr) → thaw fr vs'.size → xs.length + m ≤ cap' → cap' ≤ maxLen → cap' * sz ≤ vs'.size →
      satL g ((xs ++ ys).flatten.map .d) (vs'.toList.take ((xs ++ ys).length * sz)) → (lives g (S.obj γ) γ b ∨ w.heap.size ≤ b) →
      let g' := g.rehd γ (.slice (some ⟨b, 0, none⟩) (xs.length + m) cap')
      (AVal.own γ (xs.length + m)).sat g' (.slice (some ⟨b, 0, none⟩) (xs.length + m) cap') ∧
      Inv E (look .dead ((γ, .row sz (xs ++ ys)) :: S.L)) g' w' ∧ ∀ t, (S.get t).sat g' (a.tmps.getD t undef) := by
    intro a0 c0 b cap' vs' e' fr w' hhd hgrow hheap hsize hos hout hb hth hcap hmax hcs hsat hlv g'
    have hk : ∀ k, g.keeps g' k := rehd_keeps hhd hgrow
    have hM : MemLe g.M g'.M := MemLe.refl _
    refine ⟨?_, ?_, fun t => AVal.sat_mono hM _ _ (fun k _ => hk k) (hs.2.2.2 t)⟩
    · simp only [AVal.sat]
      exact ⟨rfl, some ⟨b, 0, none⟩, xs.length + m, cap', by simp [g', Gh.rehd], Nat.le_refl _, fun _ => rfl⟩
    · refine Inv.upd hs.1 γ _ (look_same _ _ _ _) (fun k hkγ => look_ne _ _ _ (Ne.symm hkγ)) hheap hsize hos hout rfl (fun k hkγ => ⟨rfl, by simp [g', Gh.rehd, hkγ], rfl⟩)
        (fun k cs us _ _ h => satL_mono hM _ _ (fun k _ => hk k) h) ?_ (fun k hkl => ?_) (fun _ => hk γ)
      · refine ⟨hlen', .inr ⟨b, cap', vs', e', fr, by simp [g', Gh.rehd, hm], by simp [← hm]; exact hcap, hmax, hb, hth, hcs, satL_mono hM _ _ (fun k _ => hk k) hsat⟩⟩
      · simp only [lives, g', Gh.rehd, if_true] at hkl
        obtain ⟨a1, n1, c1, e1, rfl⟩ := hkl
        cases e1; exact hlv
  have hgrowcap : ∀ cap, xs.length + m > cap → Builtin.nextslicecap (xs.length + m) cap * i.bytes ≤ 2 ^ 48 := by
    intro cap hc
    have h1 := nextslicecap_le (need := xs.length + m) (old := cap) hc
    have h2 : Builtin.nextslicecap (xs.length + m) cap * i.bytes ≤ 2 * (xs.length + m) * i.bytes := Nat.mul_le_mul_right _ h1
    rw [hbt] at h2 ⊢
    have h3 : 2 * (xs.length + m) * bytes = 2 * ((xs.length + m) * bytes) := Nat.mul_assoc _ _ _
    omega
  have hneed : xs.length + m < 2 ^ 63 := by
    have : xs.length + m ≤ (xs.length + m) * bytes := Nat.le_mul_of_pos_right _ (by omega)
    omega
  rcases ho with ⟨hnil, rfl⟩ | ⟨b, cap, vs, e', fr, h1, h2', h3, h4, h5, h6, h7⟩
  · by_cases hm0 : m = 0
    · -- nothing to nothing
      have hys : ys = [] := by cases ys with | nil => rfl | cons => simp at hm; omega
      subst hys
      have hr := run_append_room (P := P) (w := w) (T := T) (T2 := T2) (ty := ty) (base := none) (n := 0) (cap := 0) (x := x) (news := news) (m := m) hu hi hsrcT (by rw [hsz]; exact hsrc) (by omega)
      refine ⟨_, g, w, by rw [hnil]; exact hr, ?_, ?_, hs.2.2.2⟩
      · simp only [AVal.sat]
        exact ⟨rfl, none, 0, 0, hnil, by simp [hm0], fun _ => by simp [hm0]⟩
      · have e1 : look .dead ((γ, .row sz ([] ++ [])) :: S.L) = S.obj := by
          funext k
          by_cases hk : k = γ
          · subst hk; rw [look_same]; exact hL.symm
          · rw [look_ne _ _ _ (Ne.symm hk)]; rfl
        rw [e1]; exact hs.1
    · have hr := run_append_grow (P := P) (w := w) (T := T) (T2 := T2) (ty := ty) (base := none) (n := 0) (cap := 0) (x := x) (olds := #[]) (news := news) (m := m) hu hi hz hsrcT (by rw [hbt]; exact hb0) (by rw [hsz]; exact hsrc)
        (fun w' _ => by simp [Builtin.firstCells]) (by omega) (by have := hgrowcap 0 (by simp; omega); simpa using this)
      obtain ⟨c1, c2⟩ := cut_append (0 + m) 0 e (w.tape w.drawn (.appendCap (0 + m) 0 e)) (by simpa using hneed)
      revert hr c1 c2
      generalize (Question.appendCap (0 + m) 0 e).cut (w.tape w.drawn (.appendCap (0 + m) 0 e)) = nc
      intro hr c1 c2
      have := fin none 0 w.heap.size nc (#[] ++ news ++ Builtin.zeroCells z.cells (nc - (0 + m))) e (0, 0) _ (by simpa using hnil) (.inr (by simp; omega))
        (fun k hk _ => world_push w.drew _ k hk) (world_push_size w.drew _) rfl rfl (heap_alloc_new w.drew _) (thaw00 _) (by simpa using c1) c2
        (by simp [zeroCells_size, hnsz, hzs, ← Nat.add_mul]; rw [show m + (nc - m) = nc by omega]; exact Nat.le_refl _)
        (by
          simp only [List.nil_append]
          have e1 : ((#[] ++ news ++ Builtin.zeroCells z.cells (nc - (0 + m))).toList.take (ys.length * sz)) = news.toList := by
            rw [← hm, ← hnsz]; simp
          rw [e1]; exact hnews) (.inr (Nat.le_refl _))
      exact ⟨_, _, _, by rw [hnil]; exact hr, by simpa using this⟩
  · have hfc : ∀ w' : World, w'.heap = w.heap → (Builtin.firstCells i.size xs.length (.slice (some ⟨b, 0, none⟩) xs.length cap)).run P w' = .ok (vs.toList.take (xs.length * sz)).toArray w' := by
      intro w' hw'
      have hl := satL_length h7
      have := run_loadCells_list (P := P) w' ⟨b, 0, none⟩ (vs.toList.take (xs.length * sz)) (fun j v hv => by
        rw [add_at, cell_of_row w' _ _ vs e' fr (by rw [hw']; exact h4)]
        rw [List.getElem?_take] at hv
        split at hv
        · simpa using hv
        · simp at hv)
      rw [hl] at this
      simp only [List.length_map, hflat] at this
      simp only [Builtin.firstCells, hsz]
      exact this
    have htl : (vs.toList.take (xs.length * sz)).length = xs.length * sz := by have := satL_length h7; simp only [List.length_map, hflat] at this; exact this
    have hta : (vs.toList.take (xs.length * sz)).toArray.toList = vs.toList.take (xs.length * sz) := rfl
    by_cases hc : xs.length + m ≤ cap
    · have hr := run_append_room (P := P) (w := w) (T := T) (T2 := T2) (ty := ty) (base := some ⟨b, 0, none⟩) (n := xs.length) (cap := cap) (x := x) (news := news) (m := m) hu hi hsrcT (by rw [hsz]; exact hsrc) hc
      have hsz1 : xs.length * sz + news.size ≤ vs.size := by
        rw [hnsz, ← Nat.add_mul]; exact Nat.le_trans (Nat.mul_le_mul_right _ hc) h6
      obtain ⟨vs', k1, k2⟩ := run_storeCells_row (P := P) b e' fr vs.size h5 news.toList (xs.length * sz) 0 vs w h4 rfl (by simpa using hsz1) (fun u hu' => by
        obtain ⟨j, hj, rfl⟩ := List.getElem_of_mem hu'
        have hjl : j < ys.flatten.length := by rw [hflat2, ← hm, ← hnsz]; simpa using hj
        obtain ⟨_, hrep⟩ := dmap_sat hnews
        obtain ⟨u, hu1, hu2⟩ := hrep j _ (List.getElem?_eq_getElem hjl)
        rw [List.getElem?_eq_getElem hj] at hu1; cases hu1
        exact D.rep_one hu2)
      simp only [Nat.add_zero, Array.length_toList] at k2
      simp only at hr
      rw [show (⟨b, 0, none⟩ : Addr).add (xs.length * i.size) = ⟨b, xs.length * sz, none⟩ by rw [add_at, hsz]; simp] at hr
      simp only [k1, Result.andThen_ok] at hr
      have hvs' : vs'.size = vs.size := by
        have := congrArg List.length k2
        simp at this; omega
      have hlv : lives g (S.obj γ) γ b := by rw [hL]; exact ⟨_, _, _, h1, rfl⟩
      have := fin (some ⟨b, 0, none⟩) cap b cap vs' e' fr (w.setRow b vs') h1 (by by_cases hm0 : m = 0; exact .inl (by rw [hm0]; simp); exact .inr (by omega))
        (fun k hk hne => setRow_other w b k vs' (fun e => hne (by rw [e]; exact hlv))) (by simp) rfl rfl (setRow_heap w b vs _ e' fr h4) (by rw [hvs']; exact h5) hc h3 (by rw [hvs']; exact h6)
        (by
          have e1 : vs'.toList.take ((xs ++ ys).length * sz) = vs.toList.take (xs.length * sz) ++ news.toList := by
            rw [k2, List.length_append, ← hm, Nat.add_mul, ← hnsz]
            rw [List.take_append_of_le_length (by rw [List.length_append, htl]; simp)]
            rw [List.take_of_length_le (by rw [List.length_append, htl]; simp)]
          rw [e1, List.flatten_append]
          exact satL_dmap_append h7 hnews) (.inl hlv)
      exact ⟨_, _, _, by rw [h1]; exact hr, this⟩
    · have hr := run_append_grow (P := P) (w := w) (T := T) (T2 := T2) (ty := ty) (base := some ⟨b, 0, none⟩) (n := xs.length) (cap := cap) (x := x) (olds := (vs.toList.take (xs.length * sz)).toArray) (news := news) (m := m) hu hi hz hsrcT (by rw [hbt]; exact hb0)
        (by rw [hsz]; exact hsrc) hfc hc (hgrowcap cap (by omega))
      obtain ⟨c1, c2⟩ := cut_append (xs.length + m) cap e (w.tape w.drawn (.appendCap (xs.length + m) cap e)) hneed
      revert hr c1 c2
      generalize (Question.appendCap (xs.length + m) cap e).cut (w.tape w.drawn (.appendCap (xs.length + m) cap e)) = nc
      intro hr c1 c2
      have := fin (some ⟨b, 0, none⟩) cap w.heap.size nc ((vs.toList.take (xs.length * sz)).toArray ++ news ++ Builtin.zeroCells z.cells (nc - (xs.length + m))) e (0, 0) _ h1 (.inr (by omega))
        (fun k hk _ => world_push w.drew _ k hk) (world_push_size w.drew _) rfl rfl (heap_alloc_new w.drew _) (thaw00 _) c1 c2
        (by
          have : ((vs.toList.take (xs.length * sz)).toArray ++ news ++ Builtin.zeroCells z.cells (nc - (xs.length + m))).size = nc * sz := by
            rw [Array.size_append, Array.size_append, zeroCells_size, hnsz, hzs, List.size_toArray, htl, ← Nat.add_mul, ← Nat.add_mul]
            congr 1; omega
          omega)
        (by
          have e1 : (((vs.toList.take (xs.length * sz)).toArray ++ news ++ Builtin.zeroCells z.cells (nc - (xs.length + m))).toList.take ((xs ++ ys).length * sz)) = vs.toList.take (xs.length * sz) ++ news.toList := by
            rw [Array.toList_append, Array.toList_append, List.length_append, ← hm, Nat.add_mul, ← hnsz]
            rw [List.take_append_of_le_length (by rw [List.length_append, hta, htl]; simp)]
            rw [List.take_of_length_le (by rw [List.length_append, hta, htl]; simp), hta]
          rw [e1, List.flatten_append]
          exact satL_dmap_append h7 hnews) (.inr (Nat.le_refl _))
      exact ⟨_, _, _, by rw [h1]; exact hr, this⟩

/-! Sources. -/
theorem src_data {P : Program} {E : Env} {L : Nat → AObj} {g : Gh} {w : World} (hi : Inv E L g w) {sz : Nat} {ys : List (List D)} {x : Value} (h : (D.sl sz ys).rep g.M x) :
    ∃ news, Src P w sz x ys.length news ∧ satL g (ys.flatten.map .d) news.toList ∧ (ys = [] ∨ ∀ y ∈ ys, y.length = sz) := by
  simp only [D.rep] at h
  obtain ⟨a, cap, rfl, h2, h3, h4⟩ := h
  rcases h4 with rfl | ⟨b, o, rfl, hr⟩
  · refine ⟨#[], ⟨fun w' _ => ⟨by simp [Builtin.lenOf], ?_⟩, by simp⟩, by simp [satL], .inl rfl⟩
    cases a with
    | none => simp [Builtin.firstCells]
    | some a => simp [Builtin.firstCells, loadCells, loadCellsFrom]
  · obtain ⟨vs, k1, k2, k3⟩ := sl_cells hi.mem ys b o hr
    have hl : ∀ y ∈ ys, y.length = sz := fun y hy => by
      obtain ⟨i, hi⟩ := List.getElem?_of_mem hy
      exact (repRows_get ys b o i y hr hi).1
    refine ⟨vs.toArray, ⟨fun w' hw' => ⟨by simp [Builtin.lenOf], ?_⟩, by simp [k1]⟩, ?_, .inr hl⟩
    · have := run_loadCells_list (P := P) w' ⟨b, o, none⟩ vs (fun j v hv => by
        rw [add_at]
        have := k2 j v hv
        simp only [World.cell?] at this ⊢
        rw [hw']; exact this)
      rw [k1] at this
      simp only [Builtin.firstCells]; exact this
    · refine satL_of (by rw [List.length_map, flat_length ys hl, ← k1]) fun i z u hz hu => ?_
      simp only [List.getElem?_map, Option.map_eq_some_iff] at hz
      obtain ⟨d, hd, rfl⟩ := hz
      simp only [AVal.sat]
      exact k3 i d u hd (by simpa using hu)

/-- The bytes of a string, as data. -/
def bytesD (s : ByteArray) : List (List D) := s.data.toList.map fun b => [.v (.int .u8 b.toNat)]
theorem bytesD_length (s : ByteArray) : (bytesD s).length = s.size := by
  unfold bytesD; rw [List.length_map]; exact Array.length_toList
theorem src_string {P : Program} {g : Gh} {w : World} (s : ByteArray) : ∃ news, Src P w 1 (.string s) (bytesD s).length news ∧ satL g ((bytesD s).flatten.map .d) news.toList ∧ ∀ y ∈ bytesD s, y.length = 1 := by
  have hl := bytesD_length s
  refine ⟨s.data.map fun b => .int .u8 b.toNat, ⟨fun w' _ => ⟨by simp [Builtin.lenOf, hl], ?_⟩, by rw [hl, Array.size_map, Nat.mul_one]; rfl⟩, ?_, by simp [bytesD]⟩
  · simp only [Builtin.firstCells, hl, Sem.run_pure]
    congr 2
    have : s.extract 0 s.size = s := by simp
    rw [this]
  · have hf : (bytesD s).flatten = s.data.toList.map fun b => D.v (.int .u8 b.toNat) := by
      simp only [bytesD]
      induction s.data.toList with
      | nil => rfl
      | cons b r ih => simp [ih]
    rw [hf]
    simp only [Array.toList_map]
    induction s.data.toList with
    | nil => simp [satL]
    | cons b r ih => simp only [List.map_cons, satL]; exact ⟨sat_mk rfl, ih⟩

section
variable {P : Program} {ops : Array Oper} {draw : Bool} {K : St → Prop} {rest : List Oper} {l : Line} {S : St}
variable {d : Nat} {ty : TypeId} {pos : String} {aft : Array Edge} {gd : Option (Nat × Bool)}

theorem own_sat {g : Gh} {γ n : Nat} {v : Value} (h : (AVal.own γ n).sat g v) {sz : Nat} {xs : List (List D)} {w : World} (ho : objSat g w γ (.row sz xs)) (hn : n = xs.length) : v = g.hd γ := by
  simp only [AVal.sat] at h
  obtain ⟨_, a, m, c, h1, h2, h3⟩ := h
  have : g.hd γ = .slice a n c := by
    rcases ho.2 with ⟨e, rfl⟩ | ⟨b, cap, vs, e', fr, e, _⟩
    · rw [e] at h1; cases h1; rw [e]; simp [hn]
    · rw [e] at h1; cases h1; rw [e]; simp [hn]
  rw [this] at h1; cases h1
  rw [h3 rfl, this]

theorem run_builtin_append {ρ : Operand → Value} {x y : Operand} {T T2 : TypeId} {w w' : World} {v : Value} {o : Oper} (ho : o.op = .call ⟨.builtin .append, #[x, y], #[T, T2]⟩)
    (h : (Builtin.append_ #[T, T2] o.type #[ρ x, ρ y]).run P w = .ok v w') : (execOp ρ o).run P w = .ok (.value v) w' := by
  simp [execOp, ho, resolve, invoke, builtin, h]

theorem w_append {x y : Operand} {T T2 : TypeId} {γ n sz bytes : Nat} {xs ys : List (List D)} (hx : S.ev x = .own γ n) (hL : S.obj γ = .row sz xs) (hy : S.ev y = .d (.sl sz ys)) (hn : n = xs.length)
    (hB : elB P T = bytes) (hT : elIs P T sz bytes = true) (hT2 : srcTy P T2 = true) (hb0 : Nat.beq bytes 0 = false) (hroom : (xs.length + ys.length) * bytes ≤ 140737488355328)
    (hd : Nat.blt d S.n = true) (hg : guardOk ops S gd)
    (h : Walk P ops draw K rest ((l.length, ⟨some d, .call ⟨.builtin .append, #[x, y], #[T, T2]⟩, ty, pos, aft, gd⟩, ⟨guardReads ops gd ++ [(x, .own γ n), (y, .d (.sl sz ys))], some (d, .own γ (xs.length + ys.length)), [(γ, .row sz xs)], [(γ, .row sz (xs ++ ys))], []⟩) :: l)
      ((S.set d (.own γ (xs.length + ys.length))).own γ (.row sz (xs ++ ys)))) :
    Walk P ops draw K (⟨some d, .call ⟨.builtin .append, #[x, y], #[T, T2]⟩, ty, pos, aft, gd⟩ :: rest) l S :=
  walk_op ⟨[(x, .own γ n), (y, .d (.sl sz ys))], some (d, .own γ (xs.length + ys.length)), [(γ, .row sz xs)], [(γ, .row sz (xs ++ ys))], []⟩ (valid_new rfl fun E S g a w hs hq hl hnw => by
    have ho := hs.1.obj γ
    rw [hl.1] at ho
    have hv := own_sat hq.1 ho hn
    have hsy : (D.sl sz ys).rep g.M (a.eval y) := by have := hq.2.1; simpa only [AVal.sat] using this
    obtain ⟨news, k1, k2, k3⟩ := src_data (P := P) hs.1 hsy
    have hyl : ∀ r ∈ ys, r.length = sz := by rcases k3 with rfl | k3; simp; exact k3
    obtain ⟨v, g', w', r1, r2, r3, r4⟩ := append_core hs hl.1 (ty := ty) hT hT2 (ne_of_beq hb0) k1 rfl hyl k2 (by simpa using hroom)
    exact ⟨v, g', w', run_builtin_append rfl (by rw [hv]; exact r1), r2, r3, r4⟩) hg ⟨⟨hx, hy, trivial⟩, ⟨hL, trivial⟩, trivial, hd⟩ h

theorem w_append_str {x y : Operand} {T T2 : TypeId} {γ n bytes : Nat} {xs : List (List D)} {s : ByteArray} (hx : S.ev x = .own γ n) (hL : S.obj γ = .row 1 xs) (hy : S.ev y = as s) (hn : n = xs.length)
    (hB : elB P T = bytes) (hT : elIs P T 1 bytes = true) (hT2 : srcTy P T2 = true) (hb0 : Nat.beq bytes 0 = false) (hroom : (xs.length + s.size) * bytes ≤ 140737488355328)
    (hd : Nat.blt d S.n = true) (hg : guardOk ops S gd)
    (h : Walk P ops draw K rest ((l.length, ⟨some d, .call ⟨.builtin .append, #[x, y], #[T, T2]⟩, ty, pos, aft, gd⟩, ⟨guardReads ops gd ++ [(x, .own γ n), (y, as s)], some (d, .own γ (xs.length + (bytesD s).length)), [(γ, .row 1 xs)], [(γ, .row 1 (xs ++ bytesD s))], []⟩) :: l)
      ((S.set d (.own γ (xs.length + (bytesD s).length))).own γ (.row 1 (xs ++ bytesD s)))) :
    Walk P ops draw K (⟨some d, .call ⟨.builtin .append, #[x, y], #[T, T2]⟩, ty, pos, aft, gd⟩ :: rest) l S :=
  walk_op ⟨[(x, .own γ n), (y, as s)], some (d, .own γ (xs.length + (bytesD s).length)), [(γ, .row 1 xs)], [(γ, .row 1 (xs ++ bytesD s))], []⟩ (valid_new rfl fun E S g a w hs hq hl hnw => by
    have ho := hs.1.obj γ
    rw [hl.1] at ho
    have hv := own_sat hq.1 ho hn
    obtain ⟨news, k1, k2, k3⟩ := src_string (P := P) (g := g) (w := w) s
    have hbl := bytesD_length s
    obtain ⟨v, g', w', r1, r2, r3, r4⟩ := append_core hs hl.1 (ty := ty) hT hT2 (ne_of_beq hb0) k1 rfl k3 k2 (by rw [hbl]; simpa using hroom)
    exact ⟨v, g', w', run_builtin_append rfl (by rw [hv, sat_v hq.2.1]; exact r1), r2, r3, r4⟩) hg ⟨⟨hx, hy, trivial⟩, ⟨hL, trivial⟩, trivial, hd⟩ h

/-! Reading. -/
theorem w_len_data {x : Operand} {T : TypeId} {sz : Nat} {xs : List (List D)} (hx : S.ev x = .d (.sl sz xs)) (hT : isSl P T = true)
    (hd : Nat.blt d S.n = true) (hg : guardOk ops S gd)
    (h : Walk P ops draw K rest ((l.length, ⟨some d, .call ⟨.builtin .len, #[x], #[T]⟩, ty, pos, aft, gd⟩, ⟨guardReads ops gd ++ [(x, .d (.sl sz xs))], some (d, ai xs.length), [], [], []⟩) :: l) (S.set d (ai xs.length))) :
    Walk P ops draw K (⟨some d, .call ⟨.builtin .len, #[x], #[T]⟩, ty, pos, aft, gd⟩ :: rest) l S :=
  walk_op ⟨[(x, .d (.sl sz xs))], some (d, ai xs.length), [], [], []⟩ (valid_val rfl fun E S g a w hs hq hl => by
    obtain ⟨e, h1⟩ := isSl_spec hT
    have := hq.1
    simp only [AVal.sat, D.rep] at this
    obtain ⟨b, cap, hv, _⟩ := this
    refine ⟨.int .i64 xs.length, ?_, sat_mk rfl⟩
    simp [execOp, resolve, invoke, builtin, hv, Builtin.len_, run_underlying h1, goInt]) hg ⟨⟨hx, trivial⟩, trivial, trivial, hd⟩ h
theorem w_len_own {x : Operand} {T : TypeId} {sz γ n : Nat} {xs : List (List D)} (hx : S.ev x = .own γ n) (hL : S.obj γ = .row sz xs) (hn : n = xs.length) (hT : isSl P T = true)
    (hd : Nat.blt d S.n = true) (hg : guardOk ops S gd)
    (h : Walk P ops draw K rest ((l.length, ⟨some d, .call ⟨.builtin .len, #[x], #[T]⟩, ty, pos, aft, gd⟩, ⟨guardReads ops gd ++ [(x, .own γ n)], some (d, ai xs.length), [(γ, .row sz xs)], [], []⟩) :: l) (S.set d (ai xs.length))) :
    Walk P ops draw K (⟨some d, .call ⟨.builtin .len, #[x], #[T]⟩, ty, pos, aft, gd⟩ :: rest) l S :=
  walk_op ⟨[(x, .own γ n)], some (d, ai xs.length), [(γ, .row sz xs)], [], []⟩ (valid_val rfl fun E S g a w hs hq hl => by
    obtain ⟨e, h1⟩ := isSl_spec hT
    have ho := hs.1.obj γ
    rw [hl.1] at ho
    have hv := own_sat hq.1 ho hn
    have hv' : ∃ b c, a.eval x = .slice b xs.length c := by
      rw [hv]
      rcases ho.2 with ⟨e, rfl⟩ | ⟨b, cap, vs, e', fr, e, _⟩
      · exact ⟨_, _, e⟩
      · exact ⟨_, _, e⟩
    obtain ⟨b, c, hv'⟩ := hv'
    refine ⟨.int .i64 xs.length, ?_, sat_mk rfl⟩
    simp [execOp, resolve, invoke, builtin, hv', Builtin.len_, run_underlying h1, goInt]) hg ⟨⟨hx, trivial⟩, ⟨hL, trivial⟩, trivial, hd⟩ h
def isStr (P : Program) (t : TypeId) : Bool := match P.underlying t with | some .string => true | _ => false
theorem isStr_spec {t : TypeId} (h : isStr P t = true) : P.underlying t = some .string := by
  unfold isStr at h
  cases hu : P.underlying t with
  | none => simp [hu] at h
  | some u => rw [hu] at h; cases u <;> simp_all
theorem w_len_str {x : Operand} {T : TypeId} {s : ByteArray} (hx : S.ev x = as s) (hT : isStr P T = true)
    (hd : Nat.blt d S.n = true) (hg : guardOk ops S gd)
    (h : Walk P ops draw K rest ((l.length, ⟨some d, .call ⟨.builtin .len, #[x], #[T]⟩, ty, pos, aft, gd⟩, ⟨guardReads ops gd ++ [(x, as s)], some (d, ai s.size), [], [], []⟩) :: l) (S.set d (ai s.size))) :
    Walk P ops draw K (⟨some d, .call ⟨.builtin .len, #[x], #[T]⟩, ty, pos, aft, gd⟩ :: rest) l S :=
  walk_op ⟨[(x, as s)], some (d, ai s.size), [], [], []⟩ (valid_val rfl fun E S g a w hs hq hl => by
    refine ⟨.int .i64 s.size, ?_, sat_mk rfl⟩
    simp [execOp, resolve, invoke, builtin, sat_v hq.1, Builtin.len_, run_underlying (isStr_spec hT), goInt]) hg ⟨⟨hx, trivial⟩, trivial, trivial, hd⟩ h

theorem w_index_data {x i : Operand} {T : TypeId} {sz k : Nat} {kd : IntKind} {n : Int} {xs : List (List D)} {r : List D} (hx : S.ev x = .d (.sl sz xs)) (hi : S.ev i = .d (.v (.int kd n))) (hk : n = (k : Nat)) (hr : xs[k]? = some r)
    (hT : slIs P T sz = true) (hd : Nat.blt d S.n = true) (hg : guardOk ops S gd)
    (h : Walk P ops draw K rest ((l.length, ⟨some d, .indexAddr T x i, ty, pos, aft, gd⟩, ⟨guardReads ops gd ++ [(x, .d (.sl sz xs)), (i, .d (.v (.int kd n)))], some (d, .dptr r), [], [], []⟩) :: l) (S.set d (.dptr r))) :
    Walk P ops draw K (⟨some d, .indexAddr T x i, ty, pos, aft, gd⟩ :: rest) l S :=
  walk_op ⟨[(x, .d (.sl sz xs)), (i, .d (.v (.int kd n)))], some (d, .dptr r), [], [], []⟩ (valid_val rfl fun E S g a w hs hq hl => by
    obtain ⟨e, h1, h2, h3⟩ := slIs_spec hT
    have hlt : k < xs.length := (List.getElem?_eq_some_iff.1 hr).1
    have hx' := hq.1
    simp only [AVal.sat, D.rep] at hx'
    obtain ⟨b, cap, hv, _, _, hrows⟩ := hx'
    rcases hrows with rfl | ⟨b', o, rfl, hrows⟩
    · simp at hlt
    · obtain ⟨q1, q2⟩ := repRows_get xs b' o k r hrows hr
      refine ⟨.pointer (some ⟨b', o + k * sz, none⟩), ?_, by simp only [AVal.sat]; exact ⟨b', _, rfl, q2⟩⟩
      have hb : (0 : Int) ≤ n ∧ n < (xs.length : Int) := by omega
      have hn : n.toNat = k := by omega
      have := run_indexAt_slice (P := P) w T ⟨b', o, none⟩ xs.length cap kd n (by rw [h3]; exact h1)
      rw [if_pos hb, h3, h2 w, Result.andThen_ok, add_at, hn] at this
      simp only [execOp, hv, sat_v hq.2.1, Sem.run_bind, this]; rfl) hg ⟨⟨hx, hi, trivial⟩, trivial, trivial, hd⟩ h
end
end Go.Fw

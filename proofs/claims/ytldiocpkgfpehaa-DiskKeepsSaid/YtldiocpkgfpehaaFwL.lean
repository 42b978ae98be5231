/- Twelfth part: the walk's rules for rows of rows; least and greatest; copy. -/
import Derived.Test.YtldiocpkgfpehaaFwK
namespace Go.Fw
open Go
set_option linter.unusedVariables false
set_option linter.unusedSimpArgs false

theorem mat_hd {g : Gh} {w : World} {γ isz : Nat} {rows : List (List (List D))} (h : objSat g w γ (.mat isz rows)) : ∃ b c, g.hd γ = .slice b rows.length c := by
  rcases h.1 with ⟨e, rfl⟩ | ⟨b, cap, vs, e', fr, e, _⟩
  · exact ⟨_, _, e⟩
  · exact ⟨_, _, e⟩
theorem own_sat_mat {g : Gh} {γ n isz : Nat} {rows : List (List (List D))} {v : Value} {w : World} (h : (AVal.own γ n).sat g v) (ho : objSat g w γ (.mat isz rows)) (hn : n = rows.length) : v = g.hd γ := by
  simp only [AVal.sat] at h
  obtain ⟨_, a, m, c, h1, h2, h3⟩ := h
  obtain ⟨b, c', e⟩ := mat_hd ho
  rw [e] at h1; cases h1
  rw [h3 hn, e]

section
variable {P : Program} {ops : Array Oper} {draw : Bool} {K : St → Prop} {rest : List Oper} {l : Line} {S : St}
variable {d : Nat} {ty : TypeId} {pos : String} {aft : Array Edge} {gd : Option (Nat × Bool)}

theorem w_append_mat {x y : Operand} {T T2 : TypeId} {γ β γ2 n n2 isz bytes : Nat} {rows : List (List (List D))} {r : List (List D)} (hx : S.ev x = .own γ n) (hL : S.obj γ = .mat isz rows) (hy : S.ev y = .bsl β 1) (hβ : S.obj β = .box [.own γ2 n2]) (h2 : S.obj γ2 = .row isz r)
    (hn : n = rows.length) (hn2 : n2 = r.length) (hB : elB P T = bytes) (hT : elIs P T 1 bytes = true) (hT2 : srcTy P T2 = true) (hb0 : Nat.beq bytes 0 = false) (hroom : (rows.length + 1) * bytes ≤ 140737488355328)
    (hd : Nat.blt d S.n = true) (hg : guardOk ops S gd)
    (h : Walk P ops draw K rest ((l.length, ⟨some d, .call ⟨.builtin .append, #[x, y], #[T, T2]⟩, ty, pos, aft, gd⟩, ⟨guardReads ops gd ++ [(x, .own γ n), (y, .bsl β 1)], some (d, .own γ (rows.length + 1)), [(γ, .mat isz rows), (β, .box [.own γ2 n2]), (γ2, .row isz r)], [(γ, .mat isz (rows ++ [r])), (γ2, .dead)], []⟩) :: l)
      (((S.set d (.own γ (rows.length + 1))).own γ2 .dead).own γ (.mat isz (rows ++ [r])))) :
    Walk P ops draw K (⟨some d, .call ⟨.builtin .append, #[x, y], #[T, T2]⟩, ty, pos, aft, gd⟩ :: rest) l S := by
  refine walk_op ⟨[(x, .own γ n), (y, .bsl β 1)], some (d, .own γ (rows.length + 1)), [(γ, .mat isz rows), (β, .box [.own γ2 n2]), (γ2, .row isz r)], [(γ, .mat isz (rows ++ [r])), (γ2, .dead)], []⟩ ?_ hg ⟨⟨hx, hy, trivial⟩, ⟨hL, hβ, h2, trivial⟩, trivial, hd⟩ h
  intro E S a w g hs hok Q K hK
  obtain ⟨ok1, ⟨l1, l2, l3, _⟩, _, ok4⟩ := hok
  have hq := satR_of hs _ ok1
  have ho := hs.1.obj γ
  rw [l1] at ho
  have hv := own_sat_mat hq.1 ho hn
  have hy' : a.eval y = .slice (some ⟨g.blk β, 0, none⟩) 1 1 := by have := hq.2.1; simpa only [AVal.sat] using this
  obtain ⟨v, g', w', r1, r2, r3, r4⟩ := append_mat hs l1 l2 l3 hn2 (ty := ty) hT hT2 (ne_of_beq hb0) (by simpa using hroom)
  have hrun := run_builtin_append (P := P) (ρ := a.eval) (o := ⟨some d, .call ⟨.builtin .append, #[x, y], #[T, T2]⟩, ty, pos, aft, gd⟩) rfl (by rw [hv, hy']; exact r1)
  unfold Oper.wp
  rw [hrun, Oper.upon_value]
  exact hK _ _ (holds_put r3 hs.2.1 hs.2.2.1 r4 r2 ok4)

theorem w_len_mat {x : Operand} {T : TypeId} {isz γ n : Nat} {rows : List (List (List D))} (hx : S.ev x = .own γ n) (hL : S.obj γ = .mat isz rows) (hn : n = rows.length) (hT : isSl P T = true)
    (hd : Nat.blt d S.n = true) (hg : guardOk ops S gd)
    (h : Walk P ops draw K rest ((l.length, ⟨some d, .call ⟨.builtin .len, #[x], #[T]⟩, ty, pos, aft, gd⟩, ⟨guardReads ops gd ++ [(x, .own γ n)], some (d, ai rows.length), [(γ, .mat isz rows)], [], []⟩) :: l) (S.set d (ai rows.length))) :
    Walk P ops draw K (⟨some d, .call ⟨.builtin .len, #[x], #[T]⟩, ty, pos, aft, gd⟩ :: rest) l S :=
  walk_op ⟨[(x, .own γ n)], some (d, ai rows.length), [(γ, .mat isz rows)], [], []⟩ (valid_val rfl fun E S g a w hs hq hl => by
    obtain ⟨e, h1⟩ := isSl_spec hT
    have ho := hs.1.obj γ
    rw [hl.1] at ho
    have hv := own_sat_mat hq.1 ho hn
    obtain ⟨b, c, hv'⟩ := mat_hd ho
    rw [hv'] at hv
    refine ⟨.int .i64 rows.length, ?_, sat_mk rfl⟩
    simp [execOp, resolve, invoke, builtin, hv, Builtin.len_, run_underlying h1, goInt]) hg ⟨⟨hx, trivial⟩, ⟨hL, trivial⟩, trivial, hd⟩ h

theorem w_index_mat {x i : Operand} {T : TypeId} {isz γ n k : Nat} {kd : IntKind} {m : Int} {rows : List (List (List D))} (hx : S.ev x = .own γ n) (hL : S.obj γ = .mat isz rows) (hi : S.ev i = .d (.v (.int kd m))) (hn : n = rows.length) (hk : m = (k : Nat)) (hlt : k < rows.length)
    (hT : slIs P T 1 = true) (hd : Nat.blt d S.n = true) (hg : guardOk ops S gd)
    (h : Walk P ops draw K rest ((l.length, ⟨some d, .indexAddr T x i, ty, pos, aft, gd⟩, ⟨guardReads ops gd ++ [(x, .own γ n), (i, .d (.v (.int kd m)))], some (d, .mptr γ n k), [(γ, .mat isz rows)], [], []⟩) :: l) (S.set d (.mptr γ n k))) :
    Walk P ops draw K (⟨some d, .indexAddr T x i, ty, pos, aft, gd⟩ :: rest) l S :=
  walk_op ⟨[(x, .own γ n), (i, .d (.v (.int kd m)))], some (d, .mptr γ n k), [(γ, .mat isz rows)], [], []⟩ (valid_val rfl fun E S g a w hs hq hl => by
    obtain ⟨e, h1, h2, h3⟩ := slIs_spec hT
    have ho := hs.1.obj γ
    rw [hl.1] at ho
    have hv := own_sat_mat hq.1 ho hn
    rcases ho.1 with ⟨e, rfl⟩ | ⟨b, cap, vs, e', fr, hh, _⟩
    · simp at hlt
    · rw [hh] at hv
      refine ⟨.pointer (some ⟨b, k, none⟩), ?_, ?_⟩
      · have hb : (0 : Int) ≤ m ∧ m < (rows.length : Int) := by omega
        have hm : m.toNat = k := by omega
        have := run_indexAt_slice (P := P) w T ⟨b, 0, none⟩ rows.length cap kd m (by rw [h3]; exact h1)
        rw [if_pos hb, h3, h2 w, Result.andThen_ok, add_at, hm, Nat.mul_one, Nat.zero_add] at this
        simp only [execOp, hv, sat_v hq.2.1, Sem.run_bind, this]; rfl
      · simp only [AVal.sat]
        exact ⟨rfl, _, _, _, hh, by omega, fun _ => ⟨_, rfl, rfl⟩⟩) hg ⟨⟨hx, hi, trivial⟩, ⟨hL, trivial⟩, trivial, hd⟩ h

theorem w_load_mat {t : TypeId} {x : Operand} {isz γ n k : Nat} {rows : List (List (List D))} (hx : S.ev x = .mptr γ n k) (hL : S.obj γ = .mat isz rows) (hn : n = rows.length) (hlt : k < rows.length)
    (ht : tyIs P t false 1 = true) (hd : Nat.blt d S.n = true) (hg : guardOk ops S gd)
    (h : Walk P ops draw K rest ((l.length, ⟨some d, .load t x, ty, pos, aft, gd⟩, ⟨guardReads ops gd ++ [(x, .mptr γ n k)], some (d, .inn γ k), [(γ, .mat isz rows)], [], []⟩) :: l) (S.set d (.inn γ k))) :
    Walk P ops draw K (⟨some d, .load t x, ty, pos, aft, gd⟩ :: rest) l S :=
  walk_op ⟨[(x, .mptr γ n k)], some (d, .inn γ k), [(γ, .mat isz rows)], [], []⟩ (valid_val rfl fun E S g a w hs hq hl => by
    have ho := hs.1.obj γ
    rw [hl.1] at ho
    have hq1 := hq.1
    simp only [AVal.sat] at hq1
    obtain ⟨_, a', m, c, q1, q2, q3⟩ := hq1
    rcases ho.1 with ⟨e, rfl⟩ | ⟨b, cap, vs, e', fr, hh, k2, k3, k4, k5, k6, k7, k8⟩
    · simp at hlt
    · rw [hh] at q1; cases q1
      obtain ⟨b', e1, e2⟩ := q3 hn
      cases e1
      have hc : w.cell? ⟨b, k, none⟩ = some (g.ihd γ k) := by rw [cell_of_row w _ _ vs e' fr k4]; exact k7 k hlt
      have hone : (g.ihd γ k).oneCell' = true := by
        have := (ho.2.1 k _ (List.getElem?_eq_getElem hlt)).2
        rcases this with ⟨e, _⟩ | ⟨_, _, _, _, _, e, _⟩ <;> rw [e] <;> rfl
      refine ⟨g.ihd γ k, ?_, by simp only [AVal.sat, true_and]; exact ⟨hone, _, _, _, hh, hlt⟩⟩
      simp [execOp, e2, Instr.loadAt, Instr.sureAddr, run_loadVar_one ht hc]) hg ⟨⟨hx, trivial⟩, ⟨hL, trivial⟩, trivial, hd⟩ h

/-- The first cells of data. -/
theorem first_data {P : Program} {E : Env} {L : Nat → AObj} {g : Gh} {w : World} (hi : Inv E L g w) {sz m : Nat} {ys : List (List D)} {x : Value} (h : (D.sl sz ys).rep g.M x) (hm : m ≤ ys.length) :
    ∃ news, (Builtin.firstCells sz m x).run P w = .ok news w ∧ news.size = m * sz ∧ satL g ((ys.take m).flatten.map .d) news.toList ∧ (Builtin.lenOf x).run P w = .ok ys.length w ∧ ∀ y ∈ ys.take m, y.length = sz := by
  simp only [D.rep] at h
  obtain ⟨a, cap, rfl, h2, h3, h4⟩ := h
  rcases h4 with rfl | ⟨b, o, rfl, hr⟩
  · have : m = 0 := by simpa using hm
    subst this
    refine ⟨#[], ?_, by simp, by simp [satL], by simp [Builtin.lenOf], by simp⟩
    cases a with
    | none => simp [Builtin.firstCells]
    | some a => simp [Builtin.firstCells, loadCells, loadCellsFrom]
  · have hr' := repRows_take hr m
    obtain ⟨vs, k1, k2, k3⟩ := sl_cells hi.mem _ b o hr'
    have hl : ∀ y ∈ ys.take m, y.length = sz := fun y hy => by
      obtain ⟨i, hi⟩ := List.getElem?_of_mem hy
      exact (repRows_get _ b o i y hr' hi).1
    have hlen : (ys.take m).length = m := by simp; omega
    rw [hlen] at k1
    refine ⟨vs.toArray, ?_, by simp [k1], ?_, by simp [Builtin.lenOf], hl⟩
    · have := run_loadCells_list (P := P) w ⟨b, o, none⟩ vs (fun j v hv => by rw [add_at]; exact k2 j v hv)
      rw [k1] at this
      simp only [Builtin.firstCells]; exact this
    · refine satL_of (by rw [List.length_map, flat_length _ hl, hlen, ← k1]) fun i z u hz hu => ?_
      simp only [List.getElem?_map, Option.map_eq_some_iff] at hz
      obtain ⟨d, hd, rfl⟩ := hz
      simp only [AVal.sat]
      exact k3 i d u hd (by simpa using hu)

theorem flat_cut {sz : Nat} : ∀ (zs : List (List D)) (n : Nat), (∀ z ∈ zs, z.length = sz) → n ≤ zs.length → (zs.take n).flatten = zs.flatten.take (n * sz) ∧ (zs.drop n).flatten = zs.flatten.drop (n * sz)
  | [], n, _, hn => by simp at hn; subst hn; simp
  | z :: zs, 0, _, _ => by simp
  | z :: zs, n + 1, hz, hn => by
    have hzl := hz z (by simp)
    obtain ⟨i1, i2⟩ := flat_cut zs n (fun q hq => hz q (by simp [hq])) (by simpa using hn)
    have e : (n + 1) * sz = z.length + n * sz := by rw [hzl, Nat.add_mul]; omega
    constructor
    · rw [List.take_succ_cons, List.flatten_cons, List.flatten_cons, i1, e, List.take_length_add_append]
    · rw [List.drop_succ_cons, List.flatten_cons, i2, e, List.drop_length_add_append]
theorem splice_take {α : Type} {A N : List α} {a m L : Nat} (hN : N.length = m) (h1 : a + m ≤ L) (h2 : L ≤ A.length) :
    (A.take a ++ N ++ A.drop (a + m)).take L = (A.take L).take a ++ N ++ (A.take L).drop (a + m) := by
  apply List.ext_getElem?
  intro j
  simp only [List.getElem?_take, List.getElem?_append, List.getElem?_drop, List.length_append, List.length_take, hN]
  have e1 : min a A.length = a := by omega
  have e2 : min a (min L A.length) = a := by omega
  rw [e1, e2]
  by_cases c0 : j < L
  · by_cases c1 : j < a
    · simp [c0, c1, show j < a + m by omega]
    · by_cases c2 : j < a + m
      · simp [c0, c1, c2]
      · simp [c0, c2, show a + m + (j - (a + m)) < L by omega]
  · simp [c0, show ¬ j < a + m by omega, show ¬ a + m + (j - (a + m)) < L by omega]

/-- What a copy into a row of one's own leaves. -/
theorem rowSat_store {P : Program} {g : Gh} {w : World} {h : Value} {sz m k : Nat} {xs ys : List (List D)} (hr : rowSat g w h sz xs) (hm : k + m ≤ xs.length) (hyl : ∀ y ∈ ys, y.length = sz) (hym : ys.length = m) {news : Array Value} (hns : news.size = m * sz) (hsat : satL g (ys.flatten.map .d) news.toList) :
    ∃ w', (match h with | .slice (some a) _ _ => (storeCells (a.add (k * sz)) news.toList).run P w | _ => .ok () w) = .ok () w' ∧ rowSat g w' h sz (xs.take k ++ ys ++ xs.drop (k + m)) ∧
      (∀ b, ¬ hdBlk h b → w'.heap[b]? = w.heap[b]?) ∧ w'.heap.size = w.heap.size ∧ w'.os = w.os ∧ w'.output = w.output := by
  have hlen' : ∀ r ∈ xs.take k ++ ys ++ xs.drop (k + m), r.length = sz := by
    intro r hrr
    simp only [List.mem_append] at hrr
    rcases hrr with (h | h) | h
    · exact hr.1 r (List.mem_of_mem_take h)
    · exact hyl r h
    · exact hr.1 r (List.mem_of_mem_drop h)
  have hll : (xs.take k ++ ys ++ xs.drop (k + m)).length = xs.length := by simp [hym]; omega
  rcases hr.2 with ⟨rfl, rfl⟩ | ⟨b, cap, vs, e, fr, rfl, h2, h3, h4, h5, h6, h7⟩
  · have : m = 0 ∧ k = 0 := by simpa [Nat.add_comm] using hm
    obtain ⟨rfl, rfl⟩ := this
    have : ys = [] := List.eq_nil_of_length_eq_zero hym
    subst this
    exact ⟨w, rfl, ⟨by simp, .inl ⟨rfl, by simp⟩⟩, fun _ _ => rfl, rfl, rfl, rfl⟩
  · have hfx := flat_length xs hr.1
    have hfy := flat_length ys hyl
    have hbnd : k * sz + m * sz ≤ vs.size := by
      rw [← Nat.add_mul]
      exact Nat.le_trans (Nat.mul_le_mul_right _ (Nat.le_trans hm h2)) h6
    obtain ⟨vs', k1, k2⟩ := run_storeCells_row (P := P) b e fr vs.size h5 news.toList (k * sz) 0 vs w h4 rfl (by simp [hns]; omega) (fun u hu => by
      obtain ⟨j, hj, rfl⟩ := List.getElem_of_mem hu
      have hjl : j < ys.flatten.length := by rw [hfy, hym, ← hns]; simpa using hj
      obtain ⟨_, hrep⟩ := dmap_sat hsat
      obtain ⟨u, hu1, hu2⟩ := hrep j _ (List.getElem?_eq_getElem hjl)
      rw [List.getElem?_eq_getElem hj] at hu1; cases hu1
      exact D.rep_one hu2)
    simp only [Nat.add_zero, Array.length_toList, hns] at k2
    have hvs' : vs'.size = vs.size := by
      have := congrArg List.length k2
      simp [hns] at this; omega
    refine ⟨w.setRow b vs', ?_, ⟨hlen', .inr ⟨b, cap, vs', e, fr, by rw [hll], by rw [hll]; exact h2, h3, setRow_heap w b vs _ e fr h4, by rw [hvs']; exact h5, by rw [hvs']; exact h6, ?_⟩⟩, fun c hc => setRow_other w b c vs' (fun e => hc (by rw [e]; exact ⟨_, _, _, rfl, rfl⟩)), by simp, rfl, rfl⟩
    · simp only [add_at, Nat.zero_add]; exact k1
    · rw [hll]
      have hxt : (vs.toList.take (xs.length * sz)).length = xs.length * sz := by have := satL_length h7; simp only [List.length_map, hfx] at this; exact this
      have hle : k * sz + m * sz ≤ xs.length * sz := by rw [← Nat.add_mul]; exact Nat.mul_le_mul_right _ hm
      have e1 : vs'.toList.take (xs.length * sz) = (vs.toList.take (xs.length * sz)).take (k * sz) ++ news.toList ++ (vs.toList.take (xs.length * sz)).drop (k * sz + m * sz) := by
        rw [k2]
        exact splice_take (by simp [hns]) hle (by simp at hxt ⊢; omega)
      rw [e1]
      have e2 : (xs.take k ++ ys ++ xs.drop (k + m)).flatten = xs.flatten.take (k * sz) ++ ys.flatten ++ xs.flatten.drop (k * sz + m * sz) := by
        obtain ⟨t1, _⟩ := flat_cut xs k hr.1 (by omega)
        obtain ⟨_, t2⟩ := flat_cut xs (k + m) hr.1 hm
        rw [List.flatten_append, List.flatten_append, t1, t2, Nat.add_mul]
      rw [e2, List.map_append, List.map_append, List.map_take, List.map_drop]
      exact satL_append (satL_append (satL_take h7 _) hsat) (satL_drop h7 _)

theorem run_copy {T T2 ty : TypeId} {sz m : Nat} {x y : Value} {news : Array Value} {w w' : World} {a : Option Addr} {n c ylen : Nat} (hT : slIs P T sz = true) (hx : x = .slice a n c) (hl : (Builtin.lenOf y).run P w = .ok ylen w) (hm : m = min ylen n)
    (hf : (Builtin.firstCells sz m y).run P w = .ok news w) (hst : (match x with | .slice (some a) _ _ => (storeCells (a.add (0 * sz)) news.toList).run P w | _ => .ok () w) = .ok () w') :
    (Builtin.copy_ #[T, T2] ty #[x, y]).run P w = .ok (.int .i64 m) w' := by
  obtain ⟨e, h1, h2, _⟩ := slIs_spec hT
  subst hx hm
  have hmin : Nat.min ylen n = min ylen n := rfl
  cases a with
  | none =>
    simp only at hst
    cases hst
    simp [Builtin.copy_, run_underlying h1, hl, h2 w, hmin, hf, goInt]
  | some a =>
    simp only [Nat.zero_mul, Addr.add_zero'] at hst
    simp [Builtin.copy_, run_underlying h1, hl, h2 w, hmin, hf, hst, goInt]

/-- copy into an inner row. -/
theorem w_copy_inn {x y : Operand} {T T2 : TypeId} {γ k isz m : Nat} {rows : List (List (List D))} {r ys : List (List D)} (hx : S.ev x = .inn γ k) (hL : S.obj γ = .mat isz rows) (hr : rows[k]? = some r) (hy : S.ev y = .d (.sl isz ys)) (hm : m = min ys.length r.length)
    (hT : slIs P T isz = true) {d' : Option (Nat × AVal)} (hd : dstOk S d') (hd' : d' = none ∨ ∃ t, d' = some (t, ai m)) (hg : guardOk ops S gd)
    (h : Walk P ops draw K rest ((l.length, ⟨d'.map (·.1), .call ⟨.builtin .copy, #[x, y], #[T, T2]⟩, ty, pos, aft, gd⟩, ⟨guardReads ops gd ++ [(x, .inn γ k), (y, .d (.sl isz ys))], d', [(γ, .mat isz rows)], [(γ, .mat isz (rows.set k (ys.take m ++ r.drop m)))], []⟩) :: l)
      ⟨S.n, d'.toList ++ S.τ, (γ, .mat isz (rows.set k (ys.take m ++ r.drop m))) :: S.L⟩) :
    Walk P ops draw K (⟨d'.map (·.1), .call ⟨.builtin .copy, #[x, y], #[T, T2]⟩, ty, pos, aft, gd⟩ :: rest) l S := by
  refine walk_op ⟨[(x, .inn γ k), (y, .d (.sl isz ys))], d', [(γ, .mat isz rows)], [(γ, .mat isz (rows.set k (ys.take m ++ r.drop m)))], []⟩ ?_ hg ⟨⟨hx, hy, trivial⟩, ⟨hL, trivial⟩, trivial, hd⟩ h
  intro E S a w g hs hok Q K hK
  obtain ⟨ok1, ⟨l1, _⟩, _, ok4⟩ := hok
  have hq := satR_of hs _ ok1
  have ho := hs.1.obj γ
  rw [l1] at ho
  have hx' : a.eval x = g.ihd γ k := by have := hq.1; simp only [AVal.sat] at this; exact this.2.1
  have hsy : (D.sl isz ys).rep g.M (a.eval y) := by have := hq.2.1; simpa only [AVal.sat] using this
  have hlt : k < rows.length := (List.getElem?_eq_some_iff.1 hr).1
  have hrow := ho.2.1 k r hr
  obtain ⟨news, n1, n2, n3, n4, n5⟩ := first_data (P := P) hs.1 hsy (m := m) (by omega)
  obtain ⟨w', s1, s2, s3, s4, s5, s6⟩ := rowSat_store (P := P) (k := 0) (m := m) hrow (by omega) n5 (by simp; omega) n2 n3
  simp only [List.take_zero, List.nil_append, Nat.zero_add] at s2
  have hhd : ∃ b c, g.ihd γ k = .slice b r.length c := by
    rcases hrow.2 with ⟨e, rfl⟩ | ⟨b, cap, vs, e', fr, e, _⟩
    · exact ⟨_, _, e⟩
    · exact ⟨_, _, e⟩
  obtain ⟨b0, c0, hhd⟩ := hhd
  have hrun := run_copy (P := P) (T2 := T2) (ty := ty) hT hhd n4 hm n1 s1
  have hi : Inv E (look .dead ((γ, .mat isz (rows.set k (ys.take m ++ r.drop m))) :: S.L)) g w' := by
    refine Inv.upd hs.1 γ _ (look_same _ _ _ _) (fun j hj => look_ne _ _ _ (Ne.symm hj)) (fun b hb hnl => s3 b fun hc => hnl (by rw [l1]; exact .inr ⟨k, hlt, hc⟩)) (by omega) s5 s6 rfl (fun _ _ => ⟨rfl, rfl, rfl⟩) (fun _ _ _ _ _ h => h) ?_ (fun b hb => .inl ?_) (fun _ => Gh.keeps_refl _ _)
    · obtain ⟨h1, h2, h3⟩ := ho
      refine ⟨?_, fun i q hq => ?_, fun i j b hi hj => h3 i j b (by simpa using hi) (by simpa using hj)⟩
      · rcases h1 with ⟨e, rfl⟩ | ⟨b, cap, vs, e', fr, k1, k2, k3, k4, k5, k6, k7, k8⟩
        · simp at hlt
        · refine .inr ⟨b, cap, vs, e', fr, by simpa using k1, by simpa using k2, k3, ?_, k5, k6, fun i hi => k7 i (by simpa using hi), fun i hi => k8 i (by simpa using hi)⟩
          rw [s3 b (k8 k hlt)]; exact k4
      · rw [List.getElem?_set] at hq
        split at hq
        · rename_i hik
          subst hik
          first | (rw [if_pos hlt] at hq; cases hq; exact s2) | (cases hq; exact s2)
        · rename_i hik
          have hil : i < rows.length := (List.getElem?_eq_some_iff.1 hq).1
          exact rowSat_move (MemLe.refl _) (fun b hb => s3 b fun hc => hik (h3 i k b hil hlt hb hc).symm) (h2 i q hq)
    · rw [l1]
      rcases hb with hb | ⟨i, hi, hb⟩
      · exact .inl hb
      · exact .inr ⟨i, by simpa using hi, hb⟩
  have hrun' : (execOp a.eval ⟨d'.map (·.1), .call ⟨.builtin .copy, #[x, y], #[T, T2]⟩, ty, pos, aft, gd⟩).run P w = .ok (.value (.int .i64 m)) w' := by
    simp [execOp, resolve, invoke, builtin, hx', hrun]
  unfold Oper.wp
  rw [hrun', Oper.upon_value]
  rcases hd' with rfl | ⟨t, rfl⟩
  · exact hK _ _ ⟨g, hi, hs.2.1, hs.2.2.1, hs.2.2.2⟩
  · exact hK _ _ (holds_put hi hs.2.1 hs.2.2.1 hs.2.2.2 (sat_mk rfl) ok4)

theorem w_copy_in {x y : Operand} {T T2 : TypeId} {γ k isz m : Nat} {rows : List (List (List D))} {r ys : List (List D)} (hx : S.ev x = .inn γ k) (hL : S.obj γ = .mat isz rows) (hr : rows[k]? = some r) (hy : S.ev y = .d (.sl isz ys)) (hm : m = min ys.length r.length)
    (hT : slIs P T isz = true) (hd : Nat.blt d S.n = true) (hg : guardOk ops S gd)
    (h : Walk P ops draw K rest ((l.length, ⟨some d, .call ⟨.builtin .copy, #[x, y], #[T, T2]⟩, ty, pos, aft, gd⟩, ⟨guardReads ops gd ++ [(x, .inn γ k), (y, .d (.sl isz ys))], some (d, ai m), [(γ, .mat isz rows)], [(γ, .mat isz (rows.set k (ys.take m ++ r.drop m)))], []⟩) :: l)
      ((S.set d (ai m)).own γ (.mat isz (rows.set k (ys.take m ++ r.drop m))))) :
    Walk P ops draw K (⟨some d, .call ⟨.builtin .copy, #[x, y], #[T, T2]⟩, ty, pos, aft, gd⟩ :: rest) l S :=
  w_copy_inn (d' := some (d, ai m)) hx hL hr hy hm hT hd (.inr ⟨d, rfl⟩) hg h

theorem w_max {x y : Operand} {tys : Array TypeId} {k : IntKind} {a b : Int} (hx : S.ev x = .d (.v (.int k a))) (hy : S.ev y = .d (.v (.int k b))) (hd : Nat.blt d S.n = true) (hg : guardOk ops S gd)
    (h : Walk P ops draw K rest ((l.length, ⟨some d, .call ⟨.builtin .max, #[x, y], tys⟩, ty, pos, aft, gd⟩, ⟨guardReads ops gd ++ [(x, .d (.v (.int k a))), (y, .d (.v (.int k b)))], some (d, .d (.v (.int k (max a b)))), [], [], []⟩) :: l) (S.set d (.d (.v (.int k (max a b)))))) :
    Walk P ops draw K (⟨some d, .call ⟨.builtin .max, #[x, y], tys⟩, ty, pos, aft, gd⟩ :: rest) l S :=
  walk_op ⟨[(x, .d (.v (.int k a))), (y, .d (.v (.int k b)))], some (d, .d (.v (.int k (max a b)))), [], [], []⟩ (valid_val rfl fun E S g act w hs hq hl => by
    refine ⟨_, ?_, sat_mk rfl⟩
    have e : (if b > a then b else a) = max a b := by
      by_cases h : b > a <;> simp [h] <;> omega
    simp [execOp, resolve, invoke, builtin, Builtin.max_, Builtin.max2, sat_v hq.1, sat_v hq.2.1]
    omega) hg ⟨⟨hx, hy, trivial⟩, trivial, trivial, hd⟩ h
theorem w_min {x y : Operand} {tys : Array TypeId} {k : IntKind} {a b : Int} (hx : S.ev x = .d (.v (.int k a))) (hy : S.ev y = .d (.v (.int k b))) (hd : Nat.blt d S.n = true) (hg : guardOk ops S gd)
    (h : Walk P ops draw K rest ((l.length, ⟨some d, .call ⟨.builtin .min, #[x, y], tys⟩, ty, pos, aft, gd⟩, ⟨guardReads ops gd ++ [(x, .d (.v (.int k a))), (y, .d (.v (.int k b)))], some (d, .d (.v (.int k (min a b)))), [], [], []⟩) :: l) (S.set d (.d (.v (.int k (min a b)))))) :
    Walk P ops draw K (⟨some d, .call ⟨.builtin .min, #[x, y], tys⟩, ty, pos, aft, gd⟩ :: rest) l S :=
  walk_op ⟨[(x, .d (.v (.int k a))), (y, .d (.v (.int k b)))], some (d, .d (.v (.int k (min a b)))), [], [], []⟩ (valid_val rfl fun E S g act w hs hq hl => by
    refine ⟨_, ?_, sat_mk rfl⟩
    simp [execOp, resolve, invoke, builtin, Builtin.min_, Builtin.min2, sat_v hq.1, sat_v hq.2.1]
    omega) hg ⟨⟨hx, hy, trivial⟩, trivial, trivial, hd⟩ h
end
end Go.Fw

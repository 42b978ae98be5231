/- Seventh part: the walk's rules for slices. -/
import Derived.Test.YtonekjkmnhfjmaaGreatDoorM03
namespace Go.Fw
open Go
set_option linter.unusedVariables false
set_option linter.unusedSimpArgs false
def Gh.rehd (g : Gh) (γ : Nat) (v : Value) : Gh := { blk := g.blk, hd := fun k => if k = γ then v else g.hd k, ihd := g.ihd, M := g.M }
theorem Xhe {g : Gh} {γ : Nat} {a a' : Option Addr} {m m' c c' : Nat} (h1 : g.hd γ = .slice a m c) (h2 : Value.slice a' m' c' = .slice a m c ∨ m < m') (k : Nat) : g.keeps (g.rehd γ (.slice a' m' c')) k := by
 refine ⟨rfl, ?_, fun _ _ _ _ _ _ => rfl⟩
 by_cases hk : k = γ
 ·subst hk
  rcases h2 with h2 | h2
  ·left; simp [Gh.rehd, h1, h2]
  ·right; exact ⟨a, m, c, a', m', c', h1, by simp [Gh.rehd], h2⟩
 ·left; simp [Gh.rehd, hk]
theorem X30 (z : Array Value) (n : Nat) : (Builtin.zeroCells z n).size = n * z.size := by simp [Builtin.zeroCells]
theorem X6c {g : Gh} {xs ys : List D} {us vs : List Value} (h : Xk g (xs.map .d) us) (h' : Xk g (ys.map .d) vs) : Xk g ((xs ++ ys).map .d) (us ++ vs) := by
 rw [List.map_append]; exact Vm h h'
theorem XaQ {P : Program} {E : Env} {S : St} {g : Gh} {a : Act} {w : World} (hs : Ub E S g a w) {γ sz bytes m : Nat} {xs ys : List (List D)} (hL : S.obj γ = .row sz xs)
  {T T2 ty : TypeId} (hT : UE P T sz bytes = true) (h2 : X0P P T2 = true) (hb0 : bytes ≠ 0) {x : Value} {news : Array Value} (hsrc : Src P w sz x m news)
  (hm : m = ys.length) (hy : ∀ y ∈ ys, y.length = sz) (hnews : Xk g (ys.flatten.map .d) news.toList) (hroom : (xs.length + m) * bytes ≤ 2 ^ 47) :
  ∃ v g' w', (Builtin.append_ #[T, T2] ty #[g.hd γ, x]).run P w = .ok v w' ∧ (AVal.own γ (xs.length + m)).sat g' v ∧
   Inv E (Xa .dead ((γ, .row sz (xs ++ ys)) :: S.L)) g' w' ∧ ∀ t, (S.get t).sat g' (a.tmps.getD t undef) := by
 obtain ⟨e, i, z, hu, hi, hsz, hbt, hz, hzs, hz1⟩ := X2J hT
 have hsrcT := XaE h2
 have ho := hs.1.obj γ
 rw [hL] at ho
 obtain ⟨hlen, ho⟩ := ho
 have hflat := UN xs hlen
 have hflat2 := UN ys hy
 have hlen' : ∀ r ∈ xs ++ ys, r.length = sz := fun r hr => (List.mem_append.1 hr).elim (hlen r) (hy r)
 have hnsz : news.size = m * sz := hsrc.2
 have fin : ∀ (a0 : Option Addr) (c0 : Nat) (b cap' : Nat) (vs' : Array Value) (e' : TypeId) (fr : Nat × Nat) (w' : World),
   g.hd γ = .slice a0 xs.length c0 →
   (Value.slice (some ⟨b, 0, none⟩) (xs.length + m) cap' = .slice a0 xs.length c0 ∨ xs.length < xs.length + m) →
   (∀ k, k < w.heap.size → ¬ Xr g (S.obj γ) γ k → w'.heap[k]? = w.heap[k]?) → w.heap.size ≤ w'.heap.size → w'.os = w.os → w'.output = w.output →
   w'.heap[b]? = some (.cells vs' e' fr) → X17 fr vs'.size → xs.length + m ≤ cap' → cap' ≤ maxLen → cap' * sz ≤ vs'.size →
   Xk g ((xs ++ ys).flatten.map .d) (vs'.toList.take ((xs ++ ys).length * sz)) → (Xr g (S.obj γ) γ b ∨ w.heap.size ≤ b) →
   let g' := g.rehd γ (.slice (some ⟨b, 0, none⟩) (xs.length + m) cap')
   (AVal.own γ (xs.length + m)).sat g' (.slice (some ⟨b, 0, none⟩) (xs.length + m) cap') ∧
   Inv E (Xa .dead ((γ, .row sz (xs ++ ys)) :: S.L)) g' w' ∧ ∀ t, (S.get t).sat g' (a.tmps.getD t undef) := by
  intro a0 c0 b cap' vs' e' fr w' hhd hgrow hheap hsize hos hout hb hth hcap hmax hcs hsat hlv g'
  have hk : ∀ k, g.keeps g' k := Xhe hhd hgrow
  have hM : XQ g.M g'.M := XQ.refl _
  refine ⟨?_, ?_, fun t => AVal.sat_mono hM _ _ (fun k _ => hk k) (hs.2.2.2 t)⟩
  ·simp only [AVal.sat]
   exact ⟨rfl, some ⟨b, 0, none⟩, xs.length + m, cap', by simp [g', Gh.rehd], Nat.le_refl _, fun _ => rfl⟩
  ·refine Inv.upd hs.1 γ _ (XT _ _ _ _) (fun k hkγ => XK _ _ _ (Ne.symm hkγ)) hheap hsize hos hout rfl (fun k hkγ => ⟨rfl, by simp [g', Gh.rehd, hkγ], rfl⟩)
    (fun k cs us _ _ h => Vo hM _ _ (fun k _ => hk k) h) ?_ (fun k hkl => ?_) (fun _ => hk γ)
   ·refine ⟨hlen', .inr ⟨b, cap', vs', e', fr, by simp [g', Gh.rehd, hm], by simp [← hm]; exact hcap, hmax, hb, hth, hcs, Vo hM _ _ (fun k _ => hk k) hsat⟩⟩
   ·simp only [Xr, g', Gh.rehd, if_true] at hkl
    obtain ⟨a1, n1, c1, e1, rfl⟩ := hkl
    cases e1; exact hlv
 have hgrowcap : ∀ cap, xs.length + m > cap → Builtin.nextslicecap (xs.length + m) cap * i.bytes ≤ 2 ^ 48 := by
  intro cap hc
  have h1 := nextslicecap_le (need := xs.length + m) (old := cap) hc
  have h2 : Builtin.nextslicecap (xs.length + m) cap * i.bytes ≤ 2 * (xs.length + m) * i.bytes := Nat.mul_le_mul_right _ h1
  rw [hbt] at h2 ⊢
  have h3 : 2 * (xs.length + m) * bytes = 2 * ((xs.length + m) * bytes) := Nat.mul_assoc _ _ _
  omega
 have hneed : xs.length + m < 2 ^ 63 := by
  have : xs.length + m ≤ (xs.length + m) * bytes := Nat.le_mul_of_pos_right _ (by omega)
  omega
 rcases ho with ⟨hnil, rfl⟩ | ⟨b, cap, vs, e', fr, h1, h2', h3, h4, h5, h6, h7⟩
 ·by_cases hm0 : m = 0
  ·-- nothing to nothing
   have hys : ys = [] := by cases ys with | nil => rfl | cons => simp at hm; omega
   subst hys
   have hr := X6B (P := P) (w := w) (T := T) (T2 := T2) (ty := ty) (base := none) (n := 0) (cap := 0) (x := x) (news := news) (m := m) hu hi hsrcT (by rw [hsz]; exact hsrc) (by omega)
   refine ⟨_, g, w, by rw [hnil]; exact hr, ?_, ?_, hs.2.2.2⟩
   ·simp only [AVal.sat]
    exact ⟨rfl, none, 0, 0, hnil, by simp [hm0], fun _ => by simp [hm0]⟩
   ·have e1 : Xa .dead ((γ, .row sz ([] ++ [])) :: S.L) = S.obj := by
     funext k
     by_cases hk : k = γ
     ·subst hk; rw [XT]; exact hL.symm
     ·rw [XK _ _ _ (Ne.symm hk)]; rfl
    rw [e1]; exact hs.1
  ·have hr := Xah (P := P) (w := w) (T := T) (T2 := T2) (ty := ty) (base := none) (n := 0) (cap := 0) (x := x) (olds := #[]) (news := news) (m := m) hu hi hz hsrcT (by rw [hbt]; exact hb0) (by rw [hsz]; exact hsrc)
    (fun w' _ => by simp [Builtin.firstCells]) (by omega) (by have := hgrowcap 0 (by simp; omega); simpa using this)
   obtain ⟨c1, c2⟩ := X6D (0 + m) 0 e (w.tape w.drawn (.appendCap (0 + m) 0 e)) (by simpa using hneed)
   revert hr c1 c2
   generalize (Question.appendCap (0 + m) 0 e).cut (w.tape w.drawn (.appendCap (0 + m) 0 e)) = nc
   intro hr c1 c2
   have := fin none 0 w.heap.size nc (#[] ++ news ++ Builtin.zeroCells z.cells (nc - (0 + m))) e (0, 0) _ (by simpa using hnil) (.inr (by simp; omega))
    (fun k hk _ => X0G w.drew _ k hk) (X1P w.drew _) rfl rfl (heap_alloc_new w.drew _) (X2e _) (by simpa using c1) c2
    (by simp [X30, hnsz, hzs, ← Nat.add_mul]; rw [show m + (nc - m) = nc by omega]; exact Nat.le_refl _)
    (by
     simp only [List.nil_append]
     have e1 : ((#[] ++ news ++ Builtin.zeroCells z.cells (nc - (0 + m))).toList.take (ys.length * sz)) = news.toList := by
      rw [← hm, ← hnsz]; simp
     rw [e1]; exact hnews) (.inr (Nat.le_refl _))
   exact ⟨_, _, _, by rw [hnil]; exact hr, by simpa using this⟩
 ·have hfc : ∀ w' : World, w'.heap = w.heap → (Builtin.firstCells i.size xs.length (.slice (some ⟨b, 0, none⟩) xs.length cap)).run P w' = .ok (vs.toList.take (xs.length * sz)).toArray w' := by
   intro w' hw'
   have hl := Y6 h7
   have := run_loadCells_list (P := P) w' ⟨b, 0, none⟩ (vs.toList.take (xs.length * sz)) (fun j v hv => by
    rw [YQ, cell_of_row w' _ _ vs e' fr (by rw [hw']; exact h4)]
    rw [List.getElem?_take] at hv
    split at hv
    ·simpa using hv
    ·simp at hv)
   rw [hl] at this
   simp only [List.length_map, hflat] at this
   simp only [Builtin.firstCells, hsz]
   exact this
  have htl : (vs.toList.take (xs.length * sz)).length = xs.length * sz := by have := Y6 h7; simp only [List.length_map, hflat] at this; exact this
  have hta : (vs.toList.take (xs.length * sz)).toArray.toList = vs.toList.take (xs.length * sz) := rfl
  by_cases hc : xs.length + m ≤ cap
  ·have hr := X6B (P := P) (w := w) (T := T) (T2 := T2) (ty := ty) (base := some ⟨b, 0, none⟩) (n := xs.length) (cap := cap) (x := x) (news := news) (m := m) hu hi hsrcT (by rw [hsz]; exact hsrc) hc
   have hsz1 : xs.length * sz + news.size ≤ vs.size := by
    rw [hnsz, ← Nat.add_mul]; exact Nat.le_trans (Nat.mul_le_mul_right _ hc) h6
   obtain ⟨vs', k1, k2⟩ := X2n (P := P) b e' fr vs.size h5 news.toList (xs.length * sz) 0 vs w h4 rfl (by simpa using hsz1) (fun u hu' => by
    obtain ⟨j, hj, rfl⟩ := List.getElem_of_mem hu'
    have hjl : j < ys.flatten.length := by rw [hflat2, ← hm, ← hnsz]; simpa using hj
    obtain ⟨_, hrep⟩ := X1G hnews
    obtain ⟨u, hu1, hu2⟩ := hrep j _ (List.getElem?_eq_getElem hjl)
    rw [List.getElem?_eq_getElem hj] at hu1; cases hu1
    exact D.rep_one hu2)
   simp only [Nat.add_zero, Array.length_toList] at k2
   simp only at hr
   rw [show (⟨b, 0, none⟩ : Addr).add (xs.length * i.size) = ⟨b, xs.length * sz, none⟩ by rw [YQ, hsz]; simp] at hr
   simp only [k1, Result.andThen_ok] at hr
   have hvs' : vs'.size = vs.size := by
    have := congrArg List.length k2
    simp at this; omega
   have hlv : Xr g (S.obj γ) γ b := by rw [hL]; exact ⟨_, _, _, h1, rfl⟩
   have := fin (some ⟨b, 0, none⟩) cap b cap vs' e' fr (w.setRow b vs') h1 (by by_cases hm0 : m = 0; exact .inl (by rw [hm0]; simp); exact .inr (by omega))
    (fun k hk hne => setRow_other w b k vs' (fun e => hne (by rw [e]; exact hlv))) (by simp) rfl rfl (setRow_heap w b vs _ e' fr h4) (by rw [hvs']; exact h5) hc h3 (by rw [hvs']; exact h6)
    (by
     have e1 : vs'.toList.take ((xs ++ ys).length * sz) = vs.toList.take (xs.length * sz) ++ news.toList := by
      rw [k2, List.length_append, ← hm, Nat.add_mul, ← hnsz]
      rw [List.take_append_of_le_length (by rw [List.length_append, htl]; simp)]
      rw [List.take_of_length_le (by rw [List.length_append, htl]; simp)]
     rw [e1, List.flatten_append]
     exact X6c h7 hnews) (.inl hlv)
   exact ⟨_, _, _, by rw [h1]; exact hr, this⟩
  ·have hr := Xah (P := P) (w := w) (T := T) (T2 := T2) (ty := ty) (base := some ⟨b, 0, none⟩) (n := xs.length) (cap := cap) (x := x) (olds := (vs.toList.take (xs.length * sz)).toArray) (news := news) (m := m) hu hi hz hsrcT (by rw [hbt]; exact hb0)
    (by rw [hsz]; exact hsrc) hfc hc (hgrowcap cap (by omega))
   obtain ⟨c1, c2⟩ := X6D (xs.length + m) cap e (w.tape w.drawn (.appendCap (xs.length + m) cap e)) hneed
   revert hr c1 c2
   generalize (Question.appendCap (xs.length + m) cap e).cut (w.tape w.drawn (.appendCap (xs.length + m) cap e)) = nc
   intro hr c1 c2
   have := fin (some ⟨b, 0, none⟩) cap w.heap.size nc ((vs.toList.take (xs.length * sz)).toArray ++ news ++ Builtin.zeroCells z.cells (nc - (xs.length + m))) e (0, 0) _ h1 (.inr (by omega))
    (fun k hk _ => X0G w.drew _ k hk) (X1P w.drew _) rfl rfl (heap_alloc_new w.drew _) (X2e _) c1 c2
    (by
     have : ((vs.toList.take (xs.length * sz)).toArray ++ news ++ Builtin.zeroCells z.cells (nc - (xs.length + m))).size = nc * sz := by
      rw [Array.size_append, Array.size_append, X30, hnsz, hzs, List.size_toArray, htl, ← Nat.add_mul, ← Nat.add_mul]
      congr 1; omega
     omega)
    (by
     have e1 : (((vs.toList.take (xs.length * sz)).toArray ++ news ++ Builtin.zeroCells z.cells (nc - (xs.length + m))).toList.take ((xs ++ ys).length * sz)) = vs.toList.take (xs.length * sz) ++ news.toList := by
      rw [Array.toList_append, Array.toList_append, List.length_append, ← hm, Nat.add_mul, ← hnsz]
      rw [List.take_append_of_le_length (by rw [List.length_append, hta, htl]; simp)]
      rw [List.take_of_length_le (by rw [List.length_append, hta, htl]; simp), hta]
     rw [e1, List.flatten_append]
     exact X6c h7 hnews) (.inr (Nat.le_refl _))
   exact ⟨_, _, _, by rw [h1]; exact hr, this⟩
theorem Xaa {P : Program} {E : Env} {L : Nat → AObj} {g : Gh} {w : World} (hi : Inv E L g w) {sz : Nat} {ys : List (List D)} {x : Value} (h : (D.sl sz ys).rep g.M x) :
  ∃ news, Src P w sz x ys.length news ∧ Xk g (ys.flatten.map .d) news.toList ∧ (ys = [] ∨ ∀ y ∈ ys, y.length = sz) := by
 simp only [D.rep] at h
 obtain ⟨a, cap, rfl, h2, h3, h4⟩ := h
 rcases h4 with rfl | ⟨b, o, rfl, hr⟩
 ·refine ⟨#[], ⟨fun w' _ => ⟨by simp [Builtin.lenOf], ?_⟩, by simp⟩, by simp [Xk], .inl rfl⟩
  cases a with
  | none => simp [Builtin.firstCells]
  | some a => simp [Builtin.firstCells, loadCells, loadCellsFrom]
 ·obtain ⟨vs, k1, k2, k3⟩ := X8G hi.mem ys b o hr
  have hl : ∀ y ∈ ys, y.length = sz := fun y hy => by
   obtain ⟨i, hi⟩ := List.getElem?_of_mem hy
   exact (X1f ys b o i y hr hi).1
  refine ⟨vs.toArray, ⟨fun w' hw' => ⟨by simp [Builtin.lenOf], ?_⟩, by simp [k1]⟩, ?_, .inr hl⟩
  ·have := run_loadCells_list (P := P) w' ⟨b, o, none⟩ vs (fun j v hv => by
    rw [YQ]
    have := k2 j v hv
    simp only [World.cell?] at this ⊢
    rw [hw']; exact this)
   rw [k1] at this
   simp only [Builtin.firstCells]; exact this
  ·refine VZ (by rw [List.length_map, UN ys hl, ← k1]) fun i z u hz hu => ?_
   simp only [List.getElem?_map, Option.map_eq_some_iff] at hz
   obtain ⟨d, hd, rfl⟩ := hz
   simp only [AVal.sat]
   exact k3 i d u hd (by simpa using hu)
section
variable {P : Program} {ops : Array Oper} {draw : Bool} {K : Xy → St → Prop} {rest : List Oper} {l : Xy} {S : St}
variable {d : Nat} {ty : TypeId} {pos : String} {aft : Array Edge} {gd : Option (Nat × Bool)}
theorem X0J {g : Gh} {γ n : Nat} {v : Value} (h : (AVal.own γ n).sat g v) {sz : Nat} {xs : List (List D)} {w : World} (ho : Y7 g w γ (.row sz xs)) (hn : n = xs.length) : v = g.hd γ := by
 simp only [AVal.sat] at h
 obtain ⟨_, a, m, c, h1, h2, h3⟩ := h
 have : g.hd γ = .slice a n c := by
  rcases ho.2 with ⟨e, rfl⟩ | ⟨b, cap, vs, e', fr, e, _⟩
  ·rw [e] at h1; cases h1; rw [e]; simp [hn]
  ·rw [e] at h1; cases h1; rw [e]; simp [hn]
 rw [this] at h1; cases h1
 rw [h3 rfl, this]
theorem X3H {ρ : Operand → Value} {x y : Operand} {T T2 : TypeId} {w w' : World} {v : Value} {o : Oper} (ho : o.op = .call ⟨.builtin .append, #[x, y], #[T, T2]⟩)
  (h : (Builtin.append_ #[T, T2] o.type #[ρ x, ρ y]).run P w = .ok v w') : (execOp ρ o).run P w = .ok (.value v) w' := by
 simp [execOp, ho, resolve, invoke, builtin, h]
theorem XgI {x y : Operand} {T T2 : TypeId} {γ n sz bytes : Nat} {xs ys : List (List D)} (hx : S.ev x = .own γ n) (hL : S.obj γ = .row sz xs) (hy : S.ev y = .d (.sl sz ys)) (hn : n = xs.length)
  (hB : elB P T = bytes) (hT : UE P T sz bytes = true) (hT2 : X0P P T2 = true) (hb0 : Nat.beq bytes 0 = false) (hroom : (xs.length + ys.length) * bytes ≤ 140737488355328)
  (hd : Nat.blt d S.n = true) (hg : Xj ops S gd)
  (h : Walk P ops draw K rest ((l.length, ⟨some d, .call ⟨.builtin .append, #[x, y], #[T, T2]⟩, ty, pos, aft, gd⟩, ⟨Xg ops gd ++ [(x, .own γ n), (y, .d (.sl sz ys))], some (d, .own γ (xs.length + ys.length)), [(γ, .row sz xs)], [(γ, .row sz (xs ++ ys))], []⟩) :: l)
   ((S.set d (.own γ (xs.length + ys.length))).own γ (.row sz (xs ++ ys)))) :
  Walk P ops draw K (⟨some d, .call ⟨.builtin .append, #[x, y], #[T, T2]⟩, ty, pos, aft, gd⟩ :: rest) l S :=
 XO ⟨[(x, .own γ n), (y, .d (.sl sz ys))], some (d, .own γ (xs.length + ys.length)), [(γ, .row sz xs)], [(γ, .row sz (xs ++ ys))], []⟩ (X0e rfl fun E S g a w hs hq hl hnw => by
  have ho := hs.1.obj γ
  rw [hl.1] at ho
  have hv := X0J hq.1 ho hn
  have hsy : (D.sl sz ys).rep g.M (a.eval y) := by have := hq.2.1; simpa only [AVal.sat] using this
  obtain ⟨news, k1, k2, k3⟩ := Xaa (P := P) hs.1 hsy
  have hyl : ∀ r ∈ ys, r.length = sz := by rcases k3 with rfl | k3; simp; exact k3
  obtain ⟨v, g', w', r1, r2, r3, r4⟩ := XaQ hs hl.1 (ty := ty) hT hT2 (X1s hb0) k1 rfl hyl k2 (by simpa using hroom)
  exact ⟨v, g', w', X3H rfl (by rw [hv]; exact r1), r2, r3, r4⟩) hg ⟨⟨hx, hy, trivial⟩, ⟨hL, trivial⟩, trivial, hd⟩ h
theorem XcZ {x : Operand} {T : TypeId} {sz : Nat} {xs : List (List D)} (hx : S.ev x = .d (.sl sz xs)) (hT : isSl P T = true)
  (hd : Nat.blt d S.n = true) (hg : Xj ops S gd)
  (h : Walk P ops draw K rest ((l.length, ⟨some d, .call ⟨.builtin .len, #[x], #[T]⟩, ty, pos, aft, gd⟩, ⟨Xg ops gd ++ [(x, .d (.sl sz xs))], some (d, ai xs.length), [], [], []⟩) :: l) (S.set d (ai xs.length))) :
  Walk P ops draw K (⟨some d, .call ⟨.builtin .len, #[x], #[T]⟩, ty, pos, aft, gd⟩ :: rest) l S :=
 XO ⟨[(x, .d (.sl sz xs))], some (d, ai xs.length), [], [], []⟩ (Y2 rfl fun E S g a w hs hq hl => by
  obtain ⟨e, h1⟩ := X3g hT
  have := hq.1
  simp only [AVal.sat, D.rep] at this
  obtain ⟨b, cap, hv, _⟩ := this
  refine ⟨.int .i64 xs.length, ?_, Ui rfl⟩
  simp [execOp, resolve, invoke, builtin, hv, Builtin.len_, run_underlying h1, goInt]) hg ⟨⟨hx, trivial⟩, trivial, trivial, hd⟩ h
theorem Xfl {x : Operand} {T : TypeId} {sz γ n : Nat} {xs : List (List D)} (hx : S.ev x = .own γ n) (hL : S.obj γ = .row sz xs) (hn : n = xs.length) (hT : isSl P T = true)
  (hd : Nat.blt d S.n = true) (hg : Xj ops S gd)
  (h : Walk P ops draw K rest ((l.length, ⟨some d, .call ⟨.builtin .len, #[x], #[T]⟩, ty, pos, aft, gd⟩, ⟨Xg ops gd ++ [(x, .own γ n)], some (d, ai xs.length), [(γ, .row sz xs)], [], []⟩) :: l) (S.set d (ai xs.length))) :
  Walk P ops draw K (⟨some d, .call ⟨.builtin .len, #[x], #[T]⟩, ty, pos, aft, gd⟩ :: rest) l S :=
 XO ⟨[(x, .own γ n)], some (d, ai xs.length), [(γ, .row sz xs)], [], []⟩ (Y2 rfl fun E S g a w hs hq hl => by
  obtain ⟨e, h1⟩ := X3g hT
  have ho := hs.1.obj γ
  rw [hl.1] at ho
  have hv := X0J hq.1 ho hn
  have hv' : ∃ b c, a.eval x = .slice b xs.length c := by
   rw [hv]
   rcases ho.2 with ⟨e, rfl⟩ | ⟨b, cap, vs, e', fr, e, _⟩
   ·exact ⟨_, _, e⟩
   ·exact ⟨_, _, e⟩
  obtain ⟨b, c, hv'⟩ := hv'
  refine ⟨.int .i64 xs.length, ?_, Ui rfl⟩
  simp [execOp, resolve, invoke, builtin, hv', Builtin.len_, run_underlying h1, goInt]) hg ⟨⟨hx, trivial⟩, ⟨hL, trivial⟩, trivial, hd⟩ h
def X1c (P : Program) (t : TypeId) : Bool := match P.underlying t with | some .string => true | _ => false
theorem X6S {t : TypeId} (h : X1c P t = true) : P.underlying t = some .string := by
 unfold X1c at h
 cases hu : P.underlying t with
 | none => simp [hu] at h
 | some u => rw [hu] at h; cases u <;> simp_all
theorem Xfj {x : Operand} {T : TypeId} {s : ByteArray} (hx : S.ev x = aZ s) (hT : X1c P T = true)
  (hd : Nat.blt d S.n = true) (hg : Xj ops S gd)
  (h : Walk P ops draw K rest ((l.length, ⟨some d, .call ⟨.builtin .len, #[x], #[T]⟩, ty, pos, aft, gd⟩, ⟨Xg ops gd ++ [(x, aZ s)], some (d, ai s.size), [], [], []⟩) :: l) (S.set d (ai s.size))) :
  Walk P ops draw K (⟨some d, .call ⟨.builtin .len, #[x], #[T]⟩, ty, pos, aft, gd⟩ :: rest) l S :=
 XO ⟨[(x, aZ s)], some (d, ai s.size), [], [], []⟩ (Y2 rfl fun E S g a w hs hq hl => by
  refine ⟨.int .i64 s.size, ?_, Ui rfl⟩
  simp [execOp, resolve, invoke, builtin, Yn hq.1, Builtin.len_, run_underlying (X6S hT), goInt]) hg ⟨⟨hx, trivial⟩, trivial, trivial, hd⟩ h
theorem Xc9 {x i : Operand} {T : TypeId} {sz k : Nat} {kd : IntKind} {n : Int} {xs : List (List D)} {r : List D} (hx : S.ev x = .d (.sl sz xs)) (hi : S.ev i = .d (.v (.int kd n))) (hk : n = (k : Nat)) (hr : xs[k]? = some r)
  (hT : Y8 P T sz = true) (hd : Nat.blt d S.n = true) (hg : Xj ops S gd)
  (h : Walk P ops draw K rest ((l.length, ⟨some d, .indexAddr T x i, ty, pos, aft, gd⟩, ⟨Xg ops gd ++ [(x, .d (.sl sz xs)), (i, .d (.v (.int kd n)))], some (d, .dptr r), [], [], []⟩) :: l) (S.set d (.dptr r))) :
  Walk P ops draw K (⟨some d, .indexAddr T x i, ty, pos, aft, gd⟩ :: rest) l S :=
 XO ⟨[(x, .d (.sl sz xs)), (i, .d (.v (.int kd n)))], some (d, .dptr r), [], [], []⟩ (Y2 rfl fun E S g a w hs hq hl => by
  obtain ⟨e, h1, h2, h3⟩ := VX hT
  have hlt : k < xs.length := (List.getElem?_eq_some_iff.1 hr).1
  have hx' := hq.1
  simp only [AVal.sat, D.rep] at hx'
  obtain ⟨b, cap, hv, _, _, hrows⟩ := hx'
  rcases hrows with rfl | ⟨b', o, rfl, hrows⟩
  ·simp at hlt
  ·obtain ⟨q1, q2⟩ := X1f xs b' o k r hrows hr
   refine ⟨.pointer (some ⟨b', o + k * sz, none⟩), ?_, by simp only [AVal.sat]; exact ⟨b', _, rfl, q2⟩⟩
   have hb : (0 : Int) ≤ n ∧ n < (xs.length : Int) := by omega
   have hn : n.toNat = k := by omega
   have := run_indexAt_slice (P := P) w T ⟨b', o, none⟩ xs.length cap kd n (by rw [h3]; exact h1)
   rw [if_pos hb, h3, h2 w, Result.andThen_ok, YQ, hn] at this
   simp only [execOp, hv, Yn hq.2.1, Sem.run_bind, this]; rfl) hg ⟨⟨hx, hi, trivial⟩, trivial, trivial, hd⟩ h
end
def YL (g : Gh) (w : World) (Li : List (Nat × AObj)) : Env :=
 { W := w, M := g.M, A := fun b => ∃ γ, Xr g (Xa .dead Li γ) γ b, g0 := g }
def Con (P : Program) (f : FuncId) (Li : List (Nat × AObj)) (args : List AVal) (Lo : List (Nat × AObj)) (res : AVal) : Prop :=
 ∀ (g : Gh) (w : World) (vs : List Value), Inv (YL g w Li) (Xa .dead Li) g w → Xk g args vs →
  Calls P f vs.toArray w fun e w' => ∃ v g', e = .returned v ∧ res.sat g' v ∧ Inv { YL g w Li with g0 := g' } (Xa .dead Lo) g' w' ∧ ∀ γ, Xt γ Li = true → g.keeps g' γ
theorem Inv.free {E : Env} {L : Nat → AObj} {g g0 : Gh} {w : World} (hi : Inv E L g w) (h : ∀ γ, γ < 100 → g0.keeps g γ) : Inv { E with g0 := g0 } L g w :=
 ⟨hi.obj, hi.inj, hi.mem, hi.sep, hi.new, hi.ext, hi.lim, hi.frame, hi.size, hi.os, hi.out, h⟩
theorem Inv.sub {E : Env} {L L' : Nat → AObj} {g : Gh} {w : World} (hi : Inv E L g w) (h : ∀ γ, L' γ = L γ ∨ L' γ = .dead) : Inv E L' g w := by
 have hl : ∀ γ b, Xr g (L' γ) γ b → Xr g (L γ) γ b := by
  intro γ b hb
  rcases h γ with e | e
  ·rw [← e]; exact hb
  ·rw [e] at hb; exact hb.elim
 refine ⟨fun γ => ?_, fun γ γ' b k k' => hi.inj γ γ' b (hl _ _ k) (hl _ _ k'), hi.mem, fun γ b k => hi.sep γ b (hl _ _ k), fun γ b k => hi.new γ b (hl _ _ k), hi.ext, hi.lim, hi.frame, hi.size, hi.os, hi.out, hi.kp⟩
 rcases h γ with e | e
 ·rw [e]; exact hi.obj γ
 ·rw [e]; trivial
def X3t : Nat → List AVal → List (Nat × AVal)
 | _, [] => []
 | i, x :: r => (i, x) :: X3t (i + 1) r
theorem X4y : ∀ (l : List AVal) (i t : Nat), Xa .any (X3t i l) t = if i ≤ t then (l[t - i]?).getD .any else .any
 | [], i, t => by simp [X3t, Xa]
 | x :: r, i, t => by
  simp only [X3t, Xa]
  by_cases h : i = t
  ·subst h; simp
  ·have hb : Nat.beq i t = false := by
    cases hb : Nat.beq i t with
    | false => rfl
    | true => exact absurd (Nat.eq_of_beq_eq_true hb) h
   rw [hb, cond_false, X4y r (i + 1) t]
   by_cases h1 : i ≤ t
   ·rw [if_pos (by omega), if_pos h1, show t - i = (t - (i + 1)) + 1 by omega, List.getElem?_cons_succ]
   ·rw [if_neg (by omega), if_neg h1]
def VC (n : Nat) (args : List AVal) (Li : List (Nat × AObj)) : St := ⟨n, X3t 0 args, Li⟩
def X1j (P : Program) (S : St) (rv : ResultVar) (x : AVal) : Prop :=
 match rv with
 | .tmp t => S.get t = x
 | .cell t ty => ∃ γ o cs, S.get t = .ptr γ o ∧ S.obj γ = .box cs ∧
   ((YO P ty false 1 = true ∧ cs[o]? = some x) ∨ ∃ sz ys, YO P ty true sz = true ∧ (cs.drop o).take sz = ys ∧ Nat.beq ys.length sz = true ∧ x = .agg ys)
def X31 (P : Program) (S : St) : List ResultVar → List AVal → Prop
 | [], [] => True
 | r :: rs, x :: xs => X1j P S r x ∧ X31 P S rs xs
 | _, _ => False
def X12 : List AVal → AVal
 | [x] => x
 | xs => .tup xs
def X2i (tmps : Array Value) : ResultVar → Sem Value
 | .tmp t => pure (tmps.getD t undef)
 | .cell t ty => do loadVar ty (← asAddr (tmps.getD t undef))
theorem Xc5 (fn : Func) (tmps : Array Value) : results fn tmps = (do
  let vs ← fn.results.mapM (X2i tmps)
  pure (if h : vs.size = 1 then vs[0] else .tuple vs)) := rfl
theorem Xh5 {P : Program} {E : Env} {S : St} {g : Gh} {a : Act} {w : World} (hs : Ub E S g a w) {rv : ResultVar} {x : AVal} (h : X1j P S rv x) :
  ∃ v, (X2i a.tmps rv).run P w = .ok v w ∧ x.sat g v := by
 cases rv with
 | tmp t => exact ⟨_, rfl, by have := hs.2.2.2 t; rw [h] at this; exact this⟩
 | cell t ty =>
  obtain ⟨γ, o, cs, h1, h2, h3⟩ := h
  have hp := hs.2.2.2 t
  rw [h1] at hp
  simp only [AVal.sat] at hp
  have ho := hs.1.obj γ
  rw [h2] at ho
  obtain ⟨vs, e, fr, k1, k2, k3, k4⟩ := ho
  rcases h3 with ⟨ht, hy⟩ | ⟨sz, ys, ht, hy, hlen, rfl⟩
  ·obtain ⟨u, hu, hsu⟩ := YG k3 o x hy
   have hc : w.cell? ⟨g.blk γ, o, none⟩ = some u := by rw [cell_of_row w _ o vs e fr k1]; simpa using hu
   exact ⟨u, by simp only [X2i, hp, asAddr, Sem.run_bind, Sem.run_pure, Result.andThen_ok, X38 ht hc], hsu⟩
  ·have hsub := VO (X09 k3 o) sz
   rw [hy] at hsub
   have hl1 := Y6 hsub
   have hl2 : ys.length = sz := Nat.eq_of_beq_eq_true hlen
   have := X2R (P := P) (p := ⟨g.blk γ, o, none⟩) (w := w) (vs := (vs.toList.drop o).take sz) (t := ty) (by rw [hl1, hl2]; exact ht) (fun j v hv => by
    rw [YQ, cell_of_row w _ _ vs e fr k1]
    rw [List.getElem?_take] at hv
    split at hv
    ·rw [List.getElem?_drop] at hv; simpa using hv
    ·simp at hv)
   exact ⟨.agg ((vs.toList.drop o).take sz).toArray, by simp only [X2i, hp, asAddr, Sem.run_bind, Sem.run_pure, Result.andThen_ok, this], by simp only [AVal.sat]; exact ⟨_, rfl, hsub⟩⟩
theorem X89 {P : Program} {E : Env} {S : St} {g : Gh} {a : Act} {w : World} (hs : Ub E S g a w) : ∀ (rs : List ResultVar) (xs : List AVal), X31 P S rs xs →
  ∃ vs : List Value, (rs.mapM (X2i a.tmps) : Sem (List Value)).run P w = .ok vs w ∧ Xk g xs vs
 | [], [], _ => ⟨[], by simp, by simp only [Xk]⟩
 | [], _ :: _, h => h.elim
 | _ :: _, [], h => h.elim
 | r :: rs, x :: xs, h => by
  obtain ⟨v, k1, k2⟩ := Xh5 hs h.1
  obtain ⟨vs, k3, k4⟩ := X89 hs rs xs h.2
  refine ⟨v :: vs, ?_, by simp only [Xk]; exact ⟨k2, k4⟩⟩
  rw [List.mapM_cons]
  simp only [Sem.run_bind, k1, k3, Result.andThen_ok, Sem.run_pure]
theorem X3C {P : Program} {E : Env} {S : St} {g : Gh} {a : Act} {w : World} (hs : Ub E S g a w) {fn : Func} {rs : List ResultVar} {xs : List AVal} (hr : fn.results.toList = rs) (h : X31 P S rs xs) :
  ∃ v, (results fn a.tmps).run P w = .ok v w ∧ (X12 xs).sat g v := by
 obtain ⟨vs, k1, k2⟩ := X89 hs rs xs h
 have e : (fn.results.mapM (X2i a.tmps) : Sem (Array Value)).run P w = .ok vs.toArray w := by
  rw [Array.mapM_eq_mapM_toList, hr, Sem.run_map, k1]; rfl
 have hl := Y6 k2
 rw [Xc5, Sem.run_bind, e]
 simp only [Result.andThen_ok, Sem.run_pure]
 refine ⟨_, rfl, ?_⟩
 cases vs with
 | nil =>
  cases xs with
  | nil => simp only [X12]; rw [dif_neg (by simp)]; simp only [AVal.sat]; exact ⟨_, rfl, k2⟩
  | cons => simp at hl
 | cons v vs =>
  cases vs with
  | nil =>
   match xs, hl, k2 with
   | [x], _, k2 =>
    simp only [X12]; rw [dif_pos (by simp)]
    simp only [Xk] at k2; exact k2.1
  | cons v' vs =>
   match xs, hl, k2 with
   | x :: y :: xs, _, k2 =>
    simp only [X12]; rw [dif_neg (by simp)]; simp only [AVal.sat]; exact ⟨_, rfl, k2⟩
def X4u (Lo : List (Nat × AObj)) (T : St) : Prop := ∀ γ, Xa .dead Lo γ = T.obj γ ∨ Xa .dead Lo γ = .dead
theorem X3 (T : St) : X4u [] T := fun γ => .inr rfl
theorem XZ {Lo : List (Nat × AObj)} {T : St} (h : Yu T Lo) : X4u Lo T := by
 intro γ
 rcases X6h AObj.dead Lo γ with e | ⟨p, hp, e⟩
 ·exact .inr e
 ·by_cases hk : Xt γ Lo = true
  ·clear hp e p
   induction Lo with
   | nil => simp [Xt] at hk
   | cons q r ih =>
    obtain ⟨k, x⟩ := q
    by_cases hkγ : k = γ
    ·subst hkγ; rw [XT]; exact .inl h.1.symm
    ·rw [XK _ _ _ hkγ]
     simp only [Xt, Bool.or_eq_true] at hk
     exact ih h.2 (hk.resolve_left fun e => hkγ (Nat.eq_of_beq_eq_true e))
  ·right
   have : ∀ (l : List (Nat × AObj)), ¬ Xt γ l = true → Xa .dead l γ = .dead := by
    intro l hl
    induction l with
    | nil => rfl
    | cons q r ih =>
     obtain ⟨k, x⟩ := q
     simp only [Xt, Bool.or_eq_true, not_or] at hl
     rw [XK _ _ _ (fun e => hl.1 (by simp [e]))]
     exact ih hl.2
   exact this Lo hk
def Xd (P : Program) (rs : List ResultVar) (Lo : List (Nat × AObj)) (xs : List AVal) (T : St) : Prop :=
 ∃ U, T.le U ∧ X31 P U rs xs ∧ X4u Lo U
def X1o : List (Nat × AObj) → Bool
 | [] => true
 | p :: r => Nat.blt p.1 100 && X1o r
theorem X2C : ∀ (l : List (Nat × AObj)) (γ : Nat), X1o l = true → Xt γ l = true → γ < 100
 | [], _, _, h => by simp [Xt] at h
 | p :: r, γ, h, hk => by
  simp only [X1o, Bool.and_eq_true] at h
  simp only [Xt, Bool.or_eq_true] at hk
  rcases hk with e | e
  ·rw [← Nat.eq_of_beq_eq_true e]; simpa using h.1
  ·exact X2C r γ h.2 e
theorem Xc {P : Program} {f : FuncId} {fn : Func} {c : Code} {n : Nat} {rs : List ResultVar} {Li Lo : List (Nat × AObj)} {args xs : List AVal} (hf : P.funcs[f]? = some fn) (hb : fn.body = some c) (hn : fn.ntmps = n) (hr : fn.results.toList = rs)
  (hle : Nat.ble args.length n = true) (hlow : X1o Li = true)
  (h : ∀ E, AWP P E c (VC n args Li) (Xd2 (Xd P rs Lo xs))) : Con P f Li args Lo (X12 xs) := by
 intro g w vs hi hs
 have hl := Y6 hs
 refine calls_of_wp hf hb ?_
 have hstart : holds (YL g w Li) (VC n args Li) { tmps := vs.toArray ++ Array.replicate (fn.ntmps - vs.toArray.size) undef, defers := [] } w := by
  refine ⟨g, hi, rfl, ?_, fun t => ?_⟩
  ·have : args.length ≤ n := by simpa using hle
   simp [VC, hn, hl]; omega
  ·show AVal.sat g (Xa _ _ _) _
   simp only [VC]
   rw [X4y]
   simp only [Nat.zero_le, if_true, Nat.sub_zero]
   cases hx : args[t]? with
   | none => simp [AVal.sat]
   | some x =>
    obtain ⟨u, hu, hsu⟩ := YG hs t x hx
    have hlt : t < vs.length := (List.getElem?_eq_some_iff.1 hu).1
    have : (vs.toArray ++ Array.replicate (fn.ntmps - vs.toArray.size) undef).getD t undef = u := by
     rw [Array.getD_eq_getD_getElem?, Array.getElem?_append_left (by simpa using hlt)]
     simp [hu]
    rw [this]; exact hsu
 refine wp_mono ((h (YL g w Li)).run _ w hstart) ?_
 rintro e a' w' ⟨T, hq, ht⟩
 have fin : Xd P rs Lo xs T → a'.defers = [] ∧ ∃ v, (results fn a'.tmps).run P w' = .ok v w' ∧ ∃ v' g', Ending.returned v = .returned v' ∧ (X12 xs).sat g' v' ∧ Inv { YL g w Li with g0 := g' } (Xa .dead Lo) g' w' ∧ ∀ γ, Xt γ Li = true → g.keeps g' γ := by
  rintro ⟨U, hU, hres, hsub⟩
  obtain ⟨g', hg'⟩ := hU _ _ _ ht
  obtain ⟨v, r1, r2⟩ := X3C hg' hr hres
  exact ⟨hg'.2.1, v, r1, v, g', rfl, r2, (hg'.1.sub hsub).free (fun γ _ => Gh.keeps_refl _ _), fun γ hγ => hg'.1.kp γ (X2C Li γ hlow hγ)⟩
 cases e with
 | normal => exact fin hq
 | ret => exact fin hq
 | _ => exact hq.elim
mutual
def AVal.within (Lo : List (Nat × AObj)) : AVal → Bool
 | .ptr k _ => Xt k Lo
 | .own k _ => Xt k Lo
 | .rptr k _ _ => Xt k Lo
 | .inn k _ => Xt k Lo
 | .bsl k _ => Xt k Lo
 | .rs k _ _ _ => Xt k Lo
 | .mptr k _ _ => Xt k Lo
 | .cut k _ _ _ => Xt k Lo
 | .agg cs => X1e Lo cs
 | .tup cs => X1e Lo cs
 | .fn _ cs => X1e Lo cs
 | .any => true
 | .d _ => true
 | .dptr _ => true
 | .dx _ _ => true
 | .bq _ _ => true
def X1e (Lo : List (Nat × AObj)) : List AVal → Bool
 | [] => true
 | x :: r => x.within Lo && X1e Lo r
end
mutual
theorem AVal.within_spec {Lo : List (Nat × AObj)} {γ : Nat} : ∀ (x : AVal), x.within Lo = true → x.ment γ = true → Xt γ Lo = true
 | .ptr k o, h, hm => by simp only [AVal.ment] at hm; rw [← Nat.eq_of_beq_eq_true hm]; exact h
 | .own k o, h, hm => by simp only [AVal.ment] at hm; rw [← Nat.eq_of_beq_eq_true hm]; exact h
 | .rptr k _ o, h, hm => by simp only [AVal.ment] at hm; rw [← Nat.eq_of_beq_eq_true hm]; exact h
 | .bsl k _, h, hm => by simp only [AVal.ment] at hm; rw [← Nat.eq_of_beq_eq_true hm]; exact h
 | .rs k _ _ _, h, hm => by simp only [AVal.ment] at hm; rw [← Nat.eq_of_beq_eq_true hm]; exact h
 | .inn k _, h, hm => by simp only [AVal.ment] at hm; rw [← Nat.eq_of_beq_eq_true hm]; exact h
 | .mptr k _ _, h, hm => by simp only [AVal.ment] at hm; rw [← Nat.eq_of_beq_eq_true hm]; exact h
 | .cut k _ _ _, h, hm => by simp only [AVal.ment] at hm; rw [← Nat.eq_of_beq_eq_true hm]; exact h
 | .agg cs, h, hm => X2y cs (by simpa only [AVal.within] using h) (by simpa only [AVal.ment] using hm)
 | .tup cs, h, hm => X2y cs (by simpa only [AVal.within] using h) (by simpa only [AVal.ment] using hm)
 | .fn _ cs, h, hm => X2y cs (by simpa only [AVal.within] using h) (by simpa only [AVal.ment] using hm)
 | .any, _, hm => by simp [AVal.ment] at hm
 | .d _, _, hm => by simp [AVal.ment] at hm
 | .dptr _, _, hm => by simp [AVal.ment] at hm
 | .dx _ _, _, hm => by simp [AVal.ment] at hm
 | .bq _ _, _, hm => by simp [AVal.ment] at hm
theorem X2y {Lo : List (Nat × AObj)} {γ : Nat} : ∀ (xs : List AVal), X1e Lo xs = true → YT γ xs = true → Xt γ Lo = true
 | [], _, hm => by simp [YT] at hm
 | x :: r, h, hm => by
  simp only [X1e, Bool.and_eq_true] at h
  simp only [YT, Bool.or_eq_true] at hm
  exact hm.elim (AVal.within_spec x h.1) (X2y r h.2)
end
def X03 (Lo : List (Nat × AObj)) : List (Nat × AObj) → Bool
 | [] => true
 | p :: r => X1e Lo p.2.says && X03 Lo r
theorem X9D {Lo : List (Nat × AObj)} : ∀ (l : List (Nat × AObj)), X03 Lo l = true → ∀ (k : Nat) (x : AObj), (k, x) ∈ l → X1e Lo x.says = true
 | [], _, _, _, h => by simp at h
 | p :: r, h, k, x, hm => by
  simp only [X03, Bool.and_eq_true] at h
  rcases List.mem_cons.1 hm with e | hm
  ·cases e; exact h.1
  ·exact X9D r h.2 k x hm
def X0o (Li Lo : List (Nat × AObj)) : Bool :=
 match Li with
 | [] => true
 | p :: r => Xt p.1 Lo && X0o r Lo
theorem X8e {Lo : List (Nat × AObj)} {γ : Nat} : ∀ (Li : List (Nat × AObj)), X0o Li Lo = true → Xt γ Li = true → Xt γ Lo = true
 | [], _, h => by simp [Xt] at h
 | p :: r, h, hk => by
  simp only [X0o, Bool.and_eq_true] at h
  simp only [Xt, Bool.or_eq_true] at hk
  rcases hk with e | e
  ·rw [← Nat.eq_of_beq_eq_true e]; exact h.1
  ·exact X8e r h.2 e
def Yv (Li : List (Nat × AObj)) : List (Nat × AObj) → List Nat
 | [] => []
 | p :: r => bif Xt p.1 Li then Yv Li r else p.1 :: Yv Li r
theorem X3q {Li : List (Nat × AObj)} {γ : Nat} : ∀ (Lo : List (Nat × AObj)), Xt γ Lo = true → Xt γ Li = false → γ ∈ Yv Li Lo
 | [], h, _ => by simp [Xt] at h
 | p :: r, h, hk => by
  simp only [Xt, Bool.or_eq_true] at h
  simp only [Yv]
  rcases h with e | e
  ·have := Nat.eq_of_beq_eq_true e
   subst this
   simp [hk]
  ·cases Xt p.1 Li with
   | true => exact X3q r e hk
   | false => exact List.mem_cons_of_mem _ (X3q r e hk)
def VJ : List Nat → List (Nat × AObj)
 | [] => []
 | k :: r => (k, .dead) :: VJ r
theorem X5r {α : Type} (z : α) (γ : Nat) : ∀ (l : List (Nat × α)), Xt γ l = false → Xa z l γ = z
 | [], _ => rfl
 | (k, x) :: r, h => by
  simp only [Xt, Bool.or_eq_false_iff] at h
  simp only [Xa, h.1, cond_false]
  exact X5r z γ r h.2
theorem X6g {α : Type} (z : α) (γ : Nat) : ∀ (l : List (Nat × α)), Xt γ l = true → (γ, Xa z l γ) ∈ l
 | [], h => by simp [Xt] at h
 | (k, x) :: r, h => by
  by_cases hk : k = γ
  ·subst hk; rw [XT]; simp
  ·rw [XK z x r hk]
   simp only [Xt, Bool.or_eq_true] at h
   exact List.mem_cons_of_mem _ (X6g z γ r (h.resolve_left fun e => hk (Nat.eq_of_beq_eq_true e)))
def Gh.join (g g' : Gh) (Lo : List (Nat × AObj)) : Gh :=
 { blk := fun k => if Xt k Lo then g'.blk k else g.blk k, hd := fun k => if Xt k Lo then g'.hd k else g.hd k, ihd := fun k => if Xt k Lo then g'.ihd k else g.ihd k, M := g'.M }
theorem X6U {E : Env} {S : St} {g g' : Gh} {w w' : World} (hi : Inv E S.obj g w) {Li Lo : List (Nat × AObj)} (hLi : Yu S Li) (hin : X0o Li Lo = true) (hbox : X03 Lo Lo = true)
  (hnew : VG S (Yv Li Lo)) (hdead : Yu S (VJ (Yv Li Lo))) (hc : Inv { YL g w Li with g0 := g' } (Xa .dead Lo) g' w') (hk : ∀ γ, Xt γ Li = true → g.keeps g' γ) :
  Inv E (Xa .dead (Lo ++ S.L)) (g.join g' Lo) w' ∧ (∀ x u, x.within Lo = true → AVal.sat g' x u → AVal.sat (g.join g' Lo) x u) ∧ (∀ t u, AVal.sat g (S.get t) u → AVal.sat (g.join g' Lo) (S.get t) u) := by
 rw [X1D] at hnew
 rw [X0A] at hdead
 have hsubLi : X4u Li S := XZ hLi
 have hM : XQ g.M g'.M := hc.ext
 have hA : ∀ b, (YL g w Li).A b → ∃ γ, Xt γ Li = true ∧ Xr g (S.obj γ) γ b := by
  rintro b ⟨γ, hγ⟩
  cases hkey : Xt γ Li with
  | false => rw [X5r _ _ _ hkey] at hγ; exact hγ.elim
  | true =>
   rcases hsubLi γ with e | e
   ·rw [e] at hγ; exact ⟨γ, hkey, hγ⟩
   ·rw [e] at hγ; exact hγ.elim
 have hlook : ∀ k, Xa .dead (Lo ++ S.L) k = if Xt k Lo then Xa .dead Lo k else S.obj k := fun k => X1l _ _ _ _
 have hjk : ∀ k, Xt k Lo = true → g'.keeps (g.join g' Lo) k := fun k h => Gh.keeps_of (by simp [Gh.join, h]) (by simp [Gh.join, h]) (by simp [Gh.join, h])
 have hgk : ∀ k, (Xt k Lo = true → Xt k Li = true) → g.keeps (g.join g' Lo) k := by
  intro k h
  cases hkl : Xt k Lo with
  | true => exact (hk k (h hkl)).trans' (hjk k hkl)
  | false => exact Gh.keeps_of (by simp [Gh.join, hkl]) (by simp [Gh.join, hkl]) (by simp [Gh.join, hkl])
 have hsatR : ∀ x u, x.within Lo = true → AVal.sat g' x u → AVal.sat (g.join g' Lo) x u :=
  fun x u hx h => AVal.sat_mono (g := g') (g' := g.join g' Lo) (XQ.refl _) x u (fun γ hm => hjk γ (AVal.within_spec x hx hm)) h
 have hment : ∀ k x, (∀ γ ∈ Yv Li Lo, AVal.ment γ x = false) → AVal.ment k x = true → g.keeps (g.join g' Lo) k := by
  intro k x hx hm
  refine hgk k fun hkl => ?_
  cases hli : Xt k Li with
  | true => rfl
  | false => rw [hx k (X3q Lo hkl hli)] at hm; simp at hm
 have hmentL : ∀ k xs, (∀ γ ∈ Yv Li Lo, YT γ xs = false) → YT k xs = true → g.keeps (g.join g' Lo) k := by
  intro k x hx hm
  refine hgk k fun hkl => ?_
  cases hli : Xt k Li with
  | true => rfl
  | false => rw [hx k (X3q Lo hkl hli)] at hm; simp at hm
 have hlv1 : ∀ k b, Xt k Lo = true → (Xr (g.join g' Lo) (Xa .dead (Lo ++ S.L) k) k b ↔ Xr g' (Xa .dead Lo k) k b) := by
  intro k b h
  rw [hlook, if_pos h]
  exact X0K (by simp [Gh.join, h]) (by simp [Gh.join, h]) (by simp [Gh.join, h]) _ _
 have hlv2 : ∀ k b, Xt k Lo = false → (Xr (g.join g' Lo) (Xa .dead (Lo ++ S.L) k) k b ↔ Xr g (S.obj k) k b) := by
  intro k b h
  rw [hlook, if_neg (by simp [h])]
  exact X0K (by simp [Gh.join, h]) (by simp [Gh.join, h]) (by simp [Gh.join, h]) _ _
 have hnotA : ∀ k b, Xt k Lo = false → Xr g (S.obj k) k b → ¬ (YL g w Li).A b := by
  intro k b hkl hb hAb
  obtain ⟨γ, h1, h2⟩ := hA b hAb
  have := hi.inj _ _ _ hb h2
  subst this
  rw [X8e Li hin h1] at hkl; simp at hkl
 have hheap : ∀ k b, Xt k Lo = false → Xr g (S.obj k) k b → w'.heap[b]? = w.heap[b]? := fun k b hkl hb =>
  hc.frame b (X0d hi hb) (hnotA k b hkl hb)
 refine ⟨⟨fun k => ?_, fun k k' b h h' => ?_, hc.mem, fun k b h a v ha => ?_, fun k b h => ?_, hi.ext.trans hM, fun a v ha => ?_, fun b hb hAb => ?_, Nat.le_trans hi.size hc.size, hc.os.trans hi.os, hc.out.trans hi.out, fun k hk100 => ?_⟩, hsatR, fun t u h => ?_⟩
 ·cases hkl : Xt k Lo with
  | true =>
   rw [hlook, if_pos hkl]
   have hmem := X6g AObj.dead k Lo hkl
   refine X2f (g := g') (g' := g.join g' Lo) (XQ.refl _) (by simp [Gh.join, hkl]) (by simp [Gh.join, hkl]) (by simp [Gh.join, hkl]) (fun _ _ => rfl) (fun cs us e h => ?_) (hc.obj k)
   have hwi := X9D Lo hbox k _ hmem
   rw [e] at hwi
   exact Vo (g := g') (g' := g.join g' Lo) (XQ.refl _) _ _ (fun γ hm => hjk γ (X2y cs hwi hm)) h
  | false =>
   rw [hlook, if_neg (by simp [hkl])]
   refine X2f (g := g) (g' := g.join g' Lo) hM (by simp [Gh.join, hkl]) (by simp [Gh.join, hkl]) (by simp [Gh.join, hkl]) (fun b hb => hheap k b hkl hb) (fun cs us e h => ?_) (hi.obj k)
   refine Vo (g := g) (g' := g.join g' Lo) hM _ _ (fun γ hm => hmentL γ cs (fun γ' hγ' => ?_) hm) h
   have := X5G (hnew γ' hγ') k
   rw [AObj.ment, e] at this; exact this
 ·cases hkl : Xt k Lo with
  | true =>
   rw [hlv1 k _ hkl] at h
   cases hkl' : Xt k' Lo with
   | true => rw [hlv1 k' _ hkl'] at h'; exact hc.inj _ _ _ h h'
   | false =>
    rw [hlv2 k' _ hkl'] at h'
    exfalso
    rcases hc.new k b h with h1 | h1
    ·have h1 : w.heap.size ≤ b := h1
     have := X0d hi h'; omega
    ·exact hnotA k' b hkl' h' h1
  | false =>
   rw [hlv2 k _ hkl] at h
   cases hkl' : Xt k' Lo with
   | false => rw [hlv2 k' _ hkl'] at h'; exact hi.inj _ _ _ h h'
   | true =>
    rw [hlv1 k' _ hkl'] at h'
    exfalso
    rcases hc.new k' b h' with h1 | h1
    ·have h1 : w.heap.size ≤ b := h1
     have := X0d hi h; omega
    ·exact hnotA k b hkl h h1
 ·cases hkl : Xt k Lo with
  | true => rw [hlv1 k _ hkl] at h; exact hc.sep k b h a v ha
  | false =>
   rw [hlv2 k _ hkl] at h
   intro e
   rcases hc.lim a v ha with ⟨v', h1⟩ | h1 | h1
   ·exact hi.sep k b h a v' h1 e
   ·have h1 : w.heap.size ≤ a.block := h1
    have := X0d hi h; omega
   ·rw [e] at h1; exact hnotA k b hkl h h1
 ·cases hkl : Xt k Lo with
  | true =>
   rw [hlv1 k _ hkl] at h
   rcases hc.new k b h with h1 | h1
   ·have h1 : w.heap.size ≤ b := h1
    have := hi.size; exact .inl (by omega)
   ·obtain ⟨γ, _, h2⟩ := hA b h1
    exact hi.new γ b h2
  | false => rw [hlv2 k _ hkl] at h; exact hi.new k b h
 ·rcases hc.lim a v ha with ⟨v', h1⟩ | h1 | h1
  ·exact hi.lim a v' h1
  ·have h1 : w.heap.size ≤ a.block := h1
   have := hi.size; exact .inr (.inl (by omega))
  ·obtain ⟨γ, _, h2⟩ := hA _ h1
   exact .inr (hi.new γ _ h2)
 ·have hs := hi.size
  rw [hc.frame b (by show b < w.heap.size; omega) (fun hAb' => by
   obtain ⟨γ, _, h2⟩ := hA b hAb'
   exact (hi.new γ b h2).elim (fun h => by omega) hAb)]
  exact hi.frame b hb hAb
 ·refine (hi.kp k hk100).trans' (hgk k fun hkl => ?_)
  cases hli : Xt k Li with
  | true => rfl
  | false =>
   have := hnew k (X3q Lo hkl hli)
   simp only [St.free, Bool.and_eq_true, Nat.ble_eq] at this; omega
 ·exact AVal.sat_mono (g := g) (g' := g.join g' Lo) hM _ _ (fun k hm => hment k _ (fun γ hγ => X8h (hnew γ hγ) t) hm) h
end Go.Fw

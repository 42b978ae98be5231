/- Seventh part: the walk's rules for slices. -/
import Derived.Laws.BytesString
import Derived.Test.YtbhleedlnaakkaaK03
namespace Go.Fw
open Go
set_option linter.unusedVariables false
set_option linter.unusedSimpArgs false
def Gh.rehd (g : Gh) (γ : Nat) (v : Value) : Gh := { blk := g.blk, hd := fun k => if k = γ then v else g.hd k, ihd := g.ihd, M := g.M }
theorem X7Z {g : Gh} {γ : Nat} {a a' : Option Addr} {m m' c c' : Nat} (h1 : g.hd γ = .slice a m c) (h2 : Value.slice a' m' c' = .slice a m c ∨ m < m') (k : Nat) : g.keeps (g.rehd γ (.slice a' m' c')) k := by
 refine ⟨rfl, ?_, fun _ _ _ _ _ _ => rfl⟩
 by_cases hk : k = γ
 ·subst hk
  rcases h2 with h2 | h2
  ·left; simp [Gh.rehd, h1, h2]
  ·right; exact ⟨a, m, c, a', m', c', h1, by simp [Gh.rehd], h2⟩
 ·left; simp [Gh.rehd, hk]
theorem X39 (z : Array Value) (n : Nat) : (Builtin.zeroCells z n).size = n * z.size := by simp [Builtin.zeroCells]
theorem X4B {g : Gh} {xs ys : List D} {us vs : List Value} (h : Xa g (xs.map .d) us) (h' : Xa g (ys.map .d) vs) : Xa g ((xs ++ ys).map .d) (us ++ vs) := by
 rw [List.map_append]; exact UP h h'
theorem X6O {P : Program} {E : Env} {S : St} {g : Gh} {a : Act} {w : World} (hs : YT E S g a w) {γ sz bytes m : Nat} {xs ys : List (List D)} (hL : S.obj γ = .row sz xs)
  {T T2 ty : TypeId} (hT : X0h P T sz bytes = true) (h2 : X00 P T2 = true) (hb0 : bytes ≠ 0) {x : Value} {news : Array Value} (hsrc : Src P w sz x m news)
  (hm : m = ys.length) (hy : ∀ y ∈ ys, y.length = sz) (hnews : Xa g (ys.flatten.map .d) news.toList) (hroom : (xs.length + m) * bytes ≤ 2 ^ 47) :
  ∃ v g' w', (Builtin.append_ #[T, T2] ty #[g.hd γ, x]).run P w = .ok v w' ∧ (AVal.own γ (xs.length + m)).sat g' v ∧
   Inv E (Xb .dead ((γ, .row sz (xs ++ ys)) :: S.L)) g' w' ∧ ∀ t, (S.get t).sat g' (a.tmps.getD t undef) := by
 obtain ⟨e, i, z, hu, hi, hsz, hbt, hz, hzs, hz1⟩ := X8K hT
 have hsrcT := X7y h2
 have ho := hs.1.obj γ
 rw [hL] at ho
 obtain ⟨hlen, ho⟩ := ho
 have hflat := UF xs hlen
 have hflat2 := UF ys hy
 have hlen' : ∀ r ∈ xs ++ ys, r.length = sz := fun r hr => (List.mem_append.1 hr).elim (hlen r) (hy r)
 have hnsz : news.size = m * sz := hsrc.2
 have fin : ∀ (a0 : Option Addr) (c0 : Nat) (b cap' : Nat) (vs' : Array Value) (e' : TypeId) (fr : Nat × Nat) (w' : World),
   g.hd γ = .slice a0 xs.length c0 →
   (Value.slice (some ⟨b, 0, none⟩) (xs.length + m) cap' = .slice a0 xs.length c0 ∨ xs.length < xs.length + m) →
   (∀ k, k < w.heap.size → ¬ Xm g (S.obj γ) γ k → w'.heap[k]? = w.heap[k]?) → w.heap.size ≤ w'.heap.size → w'.os = w.os → w'.output = w.output →
   w'.heap[b]? = some (.cells vs' e' fr) → V1 fr vs'.size → xs.length + m ≤ cap' → cap' ≤ maxLen → cap' * sz ≤ vs'.size →
   Xa g ((xs ++ ys).flatten.map .d) (vs'.toList.take ((xs ++ ys).length * sz)) → (Xm g (S.obj γ) γ b ∨ w.heap.size ≤ b) →
   let g' := g.rehd γ (.slice (some ⟨b, 0, none⟩) (xs.length + m) cap')
   (AVal.own γ (xs.length + m)).sat g' (.slice (some ⟨b, 0, none⟩) (xs.length + m) cap') ∧
   Inv E (Xb .dead ((γ, .row sz (xs ++ ys)) :: S.L)) g' w' ∧ ∀ t, (S.get t).sat g' (a.tmps.getD t undef) := by
  intro a0 c0 b cap' vs' e' fr w' hhd hgrow hheap hsize hos hout hb hth hcap hmax hcs hsat hlv g'
  have hk : ∀ k, g.keeps g' k := X7Z hhd hgrow
  have hM : Xx g.M g'.M := Xx.refl _
  refine ⟨?_, ?_, fun t => AVal.sat_mono hM _ _ (fun k _ => hk k) (hs.2.2.2 t)⟩
  ·simp only [AVal.sat]
   exact ⟨rfl, some ⟨b, 0, none⟩, xs.length + m, cap', by simp [g', Gh.rehd], Nat.le_refl _, fun _ => rfl⟩
  ·refine Inv.upd hs.1 γ _ (Y5 _ _ _ _) (fun k hkγ => Yg _ _ _ (Ne.symm hkγ)) hheap hsize hos hout rfl (fun k hkγ => ⟨rfl, by simp [g', Gh.rehd, hkγ], rfl⟩)
    (fun k cs us _ _ h => YV hM _ _ (fun k _ => hk k) h) ?_ (fun k hkl => ?_) (fun _ => hk γ)
   ·refine ⟨hlen', .inr ⟨b, cap', vs', e', fr, by simp [g', Gh.rehd, hm], by simp [← hm]; exact hcap, hmax, hb, hth, hcs, YV hM _ _ (fun k _ => hk k) hsat⟩⟩
   ·simp only [Xm, g', Gh.rehd, if_true] at hkl
    obtain ⟨a1, n1, c1, e1, rfl⟩ := hkl
    cases e1; exact hlv
 have hgrowcap : ∀ cap, xs.length + m > cap → Builtin.nextslicecap (xs.length + m) cap * i.bytes ≤ 2 ^ 48 := by
  intro cap hc
  have h1 := nextslicecap_le (need := xs.length + m) (old := cap) hc
  have h2 : Builtin.nextslicecap (xs.length + m) cap * i.bytes ≤ 2 * (xs.length + m) * i.bytes := Nat.mul_le_mul_right _ h1
  rw [hbt] at h2 ⊢
  have h3 : 2 * (xs.length + m) * bytes = 2 * ((xs.length + m) * bytes) := Nat.mul_assoc _ _ _
  omega
 have hneed : xs.length + m < 2 ^ 63 := by
  have : xs.length + m ≤ (xs.length + m) * bytes := Nat.le_mul_of_pos_right _ (by omega)
  omega
 rcases ho with ⟨hnil, rfl⟩ | ⟨b, cap, vs, e', fr, h1, h2', h3, h4, h5, h6, h7⟩
 ·by_cases hm0 : m = 0
  ·-- nothing to nothing
   have hys : ys = [] := by cases ys with | nil => rfl | cons => simp at hm; omega
   subst hys
   have hr := X4j (P := P) (w := w) (T := T) (T2 := T2) (ty := ty) (base := none) (n := 0) (cap := 0) (x := x) (news := news) (m := m) hu hi hsrcT (by rw [hsz]; exact hsrc) (by omega)
   refine ⟨_, g, w, by rw [hnil]; exact hr, ?_, ?_, hs.2.2.2⟩
   ·simp only [AVal.sat]
    exact ⟨rfl, none, 0, 0, hnil, by simp [hm0], fun _ => by simp [hm0]⟩
   ·have e1 : Xb .dead ((γ, .row sz ([] ++ [])) :: S.L) = S.obj := by
     funext k
     by_cases hk : k = γ
     ·subst hk; rw [Y5]; exact hL.symm
     ·rw [Yg _ _ _ (Ne.symm hk)]; rfl
    rw [e1]; exact hs.1
  ·have hr := X4k (P := P) (w := w) (T := T) (T2 := T2) (ty := ty) (base := none) (n := 0) (cap := 0) (x := x) (olds := #[]) (news := news) (m := m) hu hi hz hsrcT (by rw [hbt]; exact hb0) (by rw [hsz]; exact hsrc)
    (fun w' _ => by simp [Builtin.firstCells]) (by omega) (by have := hgrowcap 0 (by simp; omega); simpa using this)
   obtain ⟨c1, c2⟩ := X2I (0 + m) 0 e (w.tape w.drawn (.appendCap (0 + m) 0 e)) (by simpa using hneed)
   revert hr c1 c2
   generalize (Question.appendCap (0 + m) 0 e).cut (w.tape w.drawn (.appendCap (0 + m) 0 e)) = nc
   intro hr c1 c2
   have := fin none 0 w.heap.size nc (#[] ++ news ++ Builtin.zeroCells z.cells (nc - (0 + m))) e (0, 0) _ (by simpa using hnil) (.inr (by simp; omega))
    (fun k hk _ => Uy w.drew _ k hk) (VC w.drew _) rfl rfl (heap_alloc_new w.drew _) (X0n _) (by simpa using c1) c2
    (by simp [X39, hnsz, hzs, ← Nat.add_mul]; rw [show m + (nc - m) = nc by omega]; exact Nat.le_refl _)
    (by
     simp only [List.nil_append]
     have e1 : ((#[] ++ news ++ Builtin.zeroCells z.cells (nc - (0 + m))).toList.take (ys.length * sz)) = news.toList := by
      rw [← hm, ← hnsz]; simp
     rw [e1]; exact hnews) (.inr (Nat.le_refl _))
   exact ⟨_, _, _, by rw [hnil]; exact hr, by simpa using this⟩
 ·have hfc : ∀ w' : World, w'.heap = w.heap → (Builtin.firstCells i.size xs.length (.slice (some ⟨b, 0, none⟩) xs.length cap)).run P w' = .ok (vs.toList.take (xs.length * sz)).toArray w' := by
   intro w' hw'
   have hl := Y6 h7
   have := run_loadCells_list (P := P) w' ⟨b, 0, none⟩ (vs.toList.take (xs.length * sz)) (fun j v hv => by
    rw [Yq, cell_of_row w' _ _ vs e' fr (by rw [hw']; exact h4)]
    rw [List.getElem?_take] at hv
    split at hv
    ·simpa using hv
    ·simp at hv)
   rw [hl] at this
   simp only [List.length_map, hflat] at this
   simp only [Builtin.firstCells, hsz]
   exact this
  have htl : (vs.toList.take (xs.length * sz)).length = xs.length * sz := by have := Y6 h7; simp only [List.length_map, hflat] at this; exact this
  have hta : (vs.toList.take (xs.length * sz)).toArray.toList = vs.toList.take (xs.length * sz) := rfl
  by_cases hc : xs.length + m ≤ cap
  ·have hr := X4j (P := P) (w := w) (T := T) (T2 := T2) (ty := ty) (base := some ⟨b, 0, none⟩) (n := xs.length) (cap := cap) (x := x) (news := news) (m := m) hu hi hsrcT (by rw [hsz]; exact hsrc) hc
   have hsz1 : xs.length * sz + news.size ≤ vs.size := by
    rw [hnsz, ← Nat.add_mul]; exact Nat.le_trans (Nat.mul_le_mul_right _ hc) h6
   obtain ⟨vs', k1, k2⟩ := X0H (P := P) b e' fr vs.size h5 news.toList (xs.length * sz) 0 vs w h4 rfl (by simpa using hsz1) (fun u hu' => by
    obtain ⟨j, hj, rfl⟩ := List.getElem_of_mem hu'
    have hjl : j < ys.flatten.length := by rw [hflat2, ← hm, ← hnsz]; simpa using hj
    obtain ⟨_, hrep⟩ := X0v hnews
    obtain ⟨u, hu1, hu2⟩ := hrep j _ (List.getElem?_eq_getElem hjl)
    rw [List.getElem?_eq_getElem hj] at hu1; cases hu1
    exact D.rep_one hu2)
   simp only [Nat.add_zero, Array.length_toList] at k2
   simp only at hr
   rw [show (⟨b, 0, none⟩ : Addr).add (xs.length * i.size) = ⟨b, xs.length * sz, none⟩ by rw [Yq, hsz]; simp] at hr
   simp only [k1, Result.andThen_ok] at hr
   have hvs' : vs'.size = vs.size := by
    have := congrArg List.length k2
    simp at this; omega
   have hlv : Xm g (S.obj γ) γ b := by rw [hL]; exact ⟨_, _, _, h1, rfl⟩
   have := fin (some ⟨b, 0, none⟩) cap b cap vs' e' fr (w.setRow b vs') h1 (by by_cases hm0 : m = 0; exact .inl (by rw [hm0]; simp); exact .inr (by omega))
    (fun k hk hne => setRow_other w b k vs' (fun e => hne (by rw [e]; exact hlv))) (by simp) rfl rfl (setRow_heap w b vs _ e' fr h4) (by rw [hvs']; exact h5) hc h3 (by rw [hvs']; exact h6)
    (by
     have e1 : vs'.toList.take ((xs ++ ys).length * sz) = vs.toList.take (xs.length * sz) ++ news.toList := by
      rw [k2, List.length_append, ← hm, Nat.add_mul, ← hnsz]
      rw [List.take_append_of_le_length (by rw [List.length_append, htl]; simp)]
      rw [List.take_of_length_le (by rw [List.length_append, htl]; simp)]
     rw [e1, List.flatten_append]
     exact X4B h7 hnews) (.inl hlv)
   exact ⟨_, _, _, by rw [h1]; exact hr, this⟩
  ·have hr := X4k (P := P) (w := w) (T := T) (T2 := T2) (ty := ty) (base := some ⟨b, 0, none⟩) (n := xs.length) (cap := cap) (x := x) (olds := (vs.toList.take (xs.length * sz)).toArray) (news := news) (m := m) hu hi hz hsrcT (by rw [hbt]; exact hb0)
    (by rw [hsz]; exact hsrc) hfc hc (hgrowcap cap (by omega))
   obtain ⟨c1, c2⟩ := X2I (xs.length + m) cap e (w.tape w.drawn (.appendCap (xs.length + m) cap e)) hneed
   revert hr c1 c2
   generalize (Question.appendCap (xs.length + m) cap e).cut (w.tape w.drawn (.appendCap (xs.length + m) cap e)) = nc
   intro hr c1 c2
   have := fin (some ⟨b, 0, none⟩) cap w.heap.size nc ((vs.toList.take (xs.length * sz)).toArray ++ news ++ Builtin.zeroCells z.cells (nc - (xs.length + m))) e (0, 0) _ h1 (.inr (by omega))
    (fun k hk _ => Uy w.drew _ k hk) (VC w.drew _) rfl rfl (heap_alloc_new w.drew _) (X0n _) c1 c2
    (by
     have : ((vs.toList.take (xs.length * sz)).toArray ++ news ++ Builtin.zeroCells z.cells (nc - (xs.length + m))).size = nc * sz := by
      rw [Array.size_append, Array.size_append, X39, hnsz, hzs, List.size_toArray, htl, ← Nat.add_mul, ← Nat.add_mul]
      congr 1; omega
     omega)
    (by
     have e1 : (((vs.toList.take (xs.length * sz)).toArray ++ news ++ Builtin.zeroCells z.cells (nc - (xs.length + m))).toList.take ((xs ++ ys).length * sz)) = vs.toList.take (xs.length * sz) ++ news.toList := by
      rw [Array.toList_append, Array.toList_append, List.length_append, ← hm, Nat.add_mul, ← hnsz]
      rw [List.take_append_of_le_length (by rw [List.length_append, hta, htl]; simp)]
      rw [List.take_of_length_le (by rw [List.length_append, hta, htl]; simp), hta]
     rw [e1, List.flatten_append]
     exact X4B h7 hnews) (.inr (Nat.le_refl _))
   exact ⟨_, _, _, by rw [h1]; exact hr, this⟩
theorem X8c {P : Program} {E : Env} {L : Nat → AObj} {g : Gh} {w : World} (hi : Inv E L g w) {sz : Nat} {ys : List (List D)} {x : Value} (h : (D.sl sz ys).rep g.M x) :
  ∃ news, Src P w sz x ys.length news ∧ Xa g (ys.flatten.map .d) news.toList ∧ (ys = [] ∨ ∀ y ∈ ys, y.length = sz) := by
 simp only [D.rep] at h
 obtain ⟨a, cap, rfl, h2, h3, h4⟩ := h
 rcases h4 with rfl | ⟨b, o, rfl, hr⟩
 ·refine ⟨#[], ⟨fun w' _ => ⟨by simp [Builtin.lenOf], ?_⟩, by simp⟩, by simp [Xa], .inl rfl⟩
  cases a with
  | none => simp [Builtin.firstCells]
  | some a => simp [Builtin.firstCells, loadCells, loadCellsFrom]
 ·obtain ⟨vs, k1, k2, k3⟩ := X7h hi.mem ys b o hr
  have hl : ∀ y ∈ ys, y.length = sz := fun y hy => by
   obtain ⟨i, hi⟩ := List.getElem?_of_mem hy
   exact (VO ys b o i y hr hi).1
  refine ⟨vs.toArray, ⟨fun w' hw' => ⟨by simp [Builtin.lenOf], ?_⟩, by simp [k1]⟩, ?_, .inr hl⟩
  ·have := run_loadCells_list (P := P) w' ⟨b, o, none⟩ vs (fun j v hv => by
    rw [Yq]
    have := k2 j v hv
    simp only [World.cell?] at this ⊢
    rw [hw']; exact this)
   rw [k1] at this
   simp only [Builtin.firstCells]; exact this
  ·refine Vr (by rw [List.length_map, UF ys hl, ← k1]) fun i z u hz hu => ?_
   simp only [List.getElem?_map, Option.map_eq_some_iff] at hz
   obtain ⟨d, hd, rfl⟩ := hz
   simp only [AVal.sat]
   exact k3 i d u hd (by simpa using hu)
section
variable {P : Program} {ops : Array Oper} {draw : Bool} {K : St → Prop} {rest : List Oper} {l : XE} {S : St}
variable {d : Nat} {ty : TypeId} {pos : String} {aft : Array Edge} {gd : Option (Nat × Bool)}
theorem X1C {g : Gh} {γ n : Nat} {v : Value} (h : (AVal.own γ n).sat g v) {sz : Nat} {xs : List (List D)} {w : World} (ho : Y3 g w γ (.row sz xs)) (hn : n = xs.length) : v = g.hd γ := by
 simp only [AVal.sat] at h
 obtain ⟨_, a, m, c, h1, h2, h3⟩ := h
 have : g.hd γ = .slice a n c := by
  rcases ho.2 with ⟨e, rfl⟩ | ⟨b, cap, vs, e', fr, e, _⟩
  ·rw [e] at h1; cases h1; rw [e]; simp [hn]
  ·rw [e] at h1; cases h1; rw [e]; simp [hn]
 rw [this] at h1; cases h1
 rw [h3 rfl, this]
theorem X7U {ρ : Operand → Value} {x y : Operand} {T T2 : TypeId} {w w' : World} {v : Value} {o : Oper} (ho : o.op = .call ⟨.builtin .append, #[x, y], #[T, T2]⟩)
  (h : (Builtin.append_ #[T, T2] o.type #[ρ x, ρ y]).run P w = .ok v w') : (execOp ρ o).run P w = .ok (.value v) w' := by
 simp [execOp, ho, resolve, invoke, builtin, h]
theorem X7D {x y : Operand} {T T2 : TypeId} {γ n sz bytes : Nat} {xs ys : List (List D)} (hx : S.ev x = .own γ n) (hL : S.obj γ = .row sz xs) (hy : S.ev y = .d (.sl sz ys)) (hn : n = xs.length)
  (hB : elB P T = bytes) (hT : X0h P T sz bytes = true) (hT2 : X00 P T2 = true) (hb0 : Nat.beq bytes 0 = false) (hroom : (xs.length + ys.length) * bytes ≤ 140737488355328)
  (hd : Nat.blt d S.n = true) (hg : X9 ops S gd)
  (h : Walk P ops draw K rest ((l.length, ⟨some d, .call ⟨.builtin .append, #[x, y], #[T, T2]⟩, ty, pos, aft, gd⟩, ⟨X7 ops gd ++ [(x, .own γ n), (y, .d (.sl sz ys))], some (d, .own γ (xs.length + ys.length)), [(γ, .row sz xs)], [(γ, .row sz (xs ++ ys))], []⟩) :: l)
   ((S.set d (.own γ (xs.length + ys.length))).own γ (.row sz (xs ++ ys)))) :
  Walk P ops draw K (⟨some d, .call ⟨.builtin .append, #[x, y], #[T, T2]⟩, ty, pos, aft, gd⟩ :: rest) l S :=
 Xp ⟨[(x, .own γ n), (y, .d (.sl sz ys))], some (d, .own γ (xs.length + ys.length)), [(γ, .row sz xs)], [(γ, .row sz (xs ++ ys))], []⟩ (UZ rfl fun E S g a w hs hq hl hnw => by
  have ho := hs.1.obj γ
  rw [hl.1] at ho
  have hv := X1C hq.1 ho hn
  have hsy : (D.sl sz ys).rep g.M (a.eval y) := by have := hq.2.1; simpa only [AVal.sat] using this
  obtain ⟨news, k1, k2, k3⟩ := X8c (P := P) hs.1 hsy
  have hyl : ∀ r ∈ ys, r.length = sz := by rcases k3 with rfl | k3; simp; exact k3
  obtain ⟨v, g', w', r1, r2, r3, r4⟩ := X6O hs hl.1 (ty := ty) hT hT2 (X1d hb0) k1 rfl hyl k2 (by simpa using hroom)
  exact ⟨v, g', w', X7U rfl (by rw [hv]; exact r1), r2, r3, r4⟩) hg ⟨⟨hx, hy, trivial⟩, ⟨hL, trivial⟩, trivial, hd⟩ h
theorem X5p {x : Operand} {T : TypeId} {sz : Nat} {xs : List (List D)} (hx : S.ev x = .d (.sl sz xs)) (hT : isSl P T = true)
  (hd : Nat.blt d S.n = true) (hg : X9 ops S gd)
  (h : Walk P ops draw K rest ((l.length, ⟨some d, .call ⟨.builtin .len, #[x], #[T]⟩, ty, pos, aft, gd⟩, ⟨X7 ops gd ++ [(x, .d (.sl sz xs))], some (d, ai xs.length), [], [], []⟩) :: l) (S.set d (ai xs.length))) :
  Walk P ops draw K (⟨some d, .call ⟨.builtin .len, #[x], #[T]⟩, ty, pos, aft, gd⟩ :: rest) l S :=
 Xp ⟨[(x, .d (.sl sz xs))], some (d, ai xs.length), [], [], []⟩ (XG rfl fun E S g a w hs hq hl => by
  obtain ⟨e, h1⟩ := X1R hT
  have := hq.1
  simp only [AVal.sat, D.rep] at this
  obtain ⟨b, cap, hv, _⟩ := this
  refine ⟨.int .i64 xs.length, ?_, Ug rfl⟩
  simp [execOp, resolve, invoke, builtin, hv, Builtin.len_, run_underlying h1, goInt]) hg ⟨⟨hx, trivial⟩, trivial, trivial, hd⟩ h
theorem X8R {x : Operand} {T : TypeId} {sz γ n : Nat} {xs : List (List D)} (hx : S.ev x = .own γ n) (hL : S.obj γ = .row sz xs) (hn : n = xs.length) (hT : isSl P T = true)
  (hd : Nat.blt d S.n = true) (hg : X9 ops S gd)
  (h : Walk P ops draw K rest ((l.length, ⟨some d, .call ⟨.builtin .len, #[x], #[T]⟩, ty, pos, aft, gd⟩, ⟨X7 ops gd ++ [(x, .own γ n)], some (d, ai xs.length), [(γ, .row sz xs)], [], []⟩) :: l) (S.set d (ai xs.length))) :
  Walk P ops draw K (⟨some d, .call ⟨.builtin .len, #[x], #[T]⟩, ty, pos, aft, gd⟩ :: rest) l S :=
 Xp ⟨[(x, .own γ n)], some (d, ai xs.length), [(γ, .row sz xs)], [], []⟩ (XG rfl fun E S g a w hs hq hl => by
  obtain ⟨e, h1⟩ := X1R hT
  have ho := hs.1.obj γ
  rw [hl.1] at ho
  have hv := X1C hq.1 ho hn
  have hv' : ∃ b c, a.eval x = .slice b xs.length c := by
   rw [hv]
   rcases ho.2 with ⟨e, rfl⟩ | ⟨b, cap, vs, e', fr, e, _⟩
   ·exact ⟨_, _, e⟩
   ·exact ⟨_, _, e⟩
  obtain ⟨b, c, hv'⟩ := hv'
  refine ⟨.int .i64 xs.length, ?_, Ug rfl⟩
  simp [execOp, resolve, invoke, builtin, hv', Builtin.len_, run_underlying h1, goInt]) hg ⟨⟨hx, trivial⟩, ⟨hL, trivial⟩, trivial, hd⟩ h
def UQ (P : Program) (t : TypeId) : Bool := match P.underlying t with | some .string => true | _ => false
theorem X1r {t : TypeId} (h : UQ P t = true) : P.underlying t = some .string := by
 unfold UQ at h
 cases hu : P.underlying t with
 | none => simp [hu] at h
 | some u => rw [hu] at h; cases u <;> simp_all
theorem X6B {x : Operand} {T : TypeId} {s : ByteArray} (hx : S.ev x = as s) (hT : UQ P T = true)
  (hd : Nat.blt d S.n = true) (hg : X9 ops S gd)
  (h : Walk P ops draw K rest ((l.length, ⟨some d, .call ⟨.builtin .len, #[x], #[T]⟩, ty, pos, aft, gd⟩, ⟨X7 ops gd ++ [(x, as s)], some (d, ai s.size), [], [], []⟩) :: l) (S.set d (ai s.size))) :
  Walk P ops draw K (⟨some d, .call ⟨.builtin .len, #[x], #[T]⟩, ty, pos, aft, gd⟩ :: rest) l S :=
 Xp ⟨[(x, as s)], some (d, ai s.size), [], [], []⟩ (XG rfl fun E S g a w hs hq hl => by
  refine ⟨.int .i64 s.size, ?_, Ug rfl⟩
  simp [execOp, resolve, invoke, builtin, Y8 hq.1, Builtin.len_, run_underlying (X1r hT), goInt]) hg ⟨⟨hx, trivial⟩, trivial, trivial, hd⟩ h
theorem X74 {x i : Operand} {T : TypeId} {sz k : Nat} {kd : IntKind} {n : Int} {xs : List (List D)} {r : List D} (hx : S.ev x = .d (.sl sz xs)) (hi : S.ev i = .d (.v (.int kd n))) (hk : n = (k : Nat)) (hr : xs[k]? = some r)
  (hT : YI P T sz = true) (hd : Nat.blt d S.n = true) (hg : X9 ops S gd)
  (h : Walk P ops draw K rest ((l.length, ⟨some d, .indexAddr T x i, ty, pos, aft, gd⟩, ⟨X7 ops gd ++ [(x, .d (.sl sz xs)), (i, .d (.v (.int kd n)))], some (d, .dptr r), [], [], []⟩) :: l) (S.set d (.dptr r))) :
  Walk P ops draw K (⟨some d, .indexAddr T x i, ty, pos, aft, gd⟩ :: rest) l S :=
 Xp ⟨[(x, .d (.sl sz xs)), (i, .d (.v (.int kd n)))], some (d, .dptr r), [], [], []⟩ (XG rfl fun E S g a w hs hq hl => by
  obtain ⟨e, h1, h2, h3⟩ := X0x hT
  have hlt : k < xs.length := (List.getElem?_eq_some_iff.1 hr).1
  have hx' := hq.1
  simp only [AVal.sat, D.rep] at hx'
  obtain ⟨b, cap, hv, _, _, hrows⟩ := hx'
  rcases hrows with rfl | ⟨b', o, rfl, hrows⟩
  ·simp at hlt
  ·obtain ⟨q1, q2⟩ := VO xs b' o k r hrows hr
   refine ⟨.pointer (some ⟨b', o + k * sz, none⟩), ?_, by simp only [AVal.sat]; exact ⟨b', _, rfl, q2⟩⟩
   have hb : (0 : Int) ≤ n ∧ n < (xs.length : Int) := by omega
   have hn : n.toNat = k := by omega
   have := run_indexAt_slice (P := P) w T ⟨b', o, none⟩ xs.length cap kd n (by rw [h3]; exact h1)
   rw [if_pos hb, h3, h2 w, Result.andThen_ok, Yq, hn] at this
   simp only [execOp, hv, Y8 hq.2.1, Sem.run_bind, this]; rfl) hg ⟨⟨hx, hi, trivial⟩, trivial, trivial, hd⟩ h
end
end Go.Fw
namespace Go.Fw
open Go
set_option linter.unusedVariables false
set_option linter.unusedSimpArgs false
def Yn (g : Gh) (w : World) (Li : List (Nat × AObj)) : Env :=
 { W := w, M := g.M, A := fun b => ∃ γ, Xm g (Xb .dead Li γ) γ b, g0 := g }
def Con (P : Program) (f : FuncId) (Li : List (Nat × AObj)) (args : List AVal) (Lo : List (Nat × AObj)) (res : AVal) : Prop :=
 ∀ (g : Gh) (w : World) (vs : List Value), Inv (Yn g w Li) (Xb .dead Li) g w → Xa g args vs →
  Calls P f vs.toArray w fun e w' => ∃ v g', e = .returned v ∧ res.sat g' v ∧ Inv { Yn g w Li with g0 := g' } (Xb .dead Lo) g' w' ∧ ∀ γ, Xc γ Li = true → g.keeps g' γ
theorem Inv.free {E : Env} {L : Nat → AObj} {g g0 : Gh} {w : World} (hi : Inv E L g w) (h : ∀ γ, γ < 100 → g0.keeps g γ) : Inv { E with g0 := g0 } L g w :=
 ⟨hi.obj, hi.inj, hi.mem, hi.sep, hi.new, hi.ext, hi.lim, hi.frame, hi.size, hi.os, hi.out, h⟩
theorem Inv.sub {E : Env} {L L' : Nat → AObj} {g : Gh} {w : World} (hi : Inv E L g w) (h : ∀ γ, L' γ = L γ ∨ L' γ = .dead) : Inv E L' g w := by
 have hl : ∀ γ b, Xm g (L' γ) γ b → Xm g (L γ) γ b := by
  intro γ b hb
  rcases h γ with e | e
  ·rw [← e]; exact hb
  ·rw [e] at hb; exact hb.elim
 refine ⟨fun γ => ?_, fun γ γ' b k k' => hi.inj γ γ' b (hl _ _ k) (hl _ _ k'), hi.mem, fun γ b k => hi.sep γ b (hl _ _ k), fun γ b k => hi.new γ b (hl _ _ k), hi.ext, hi.lim, hi.frame, hi.size, hi.os, hi.out, hi.kp⟩
 rcases h γ with e | e
 ·rw [e]; exact hi.obj γ
 ·rw [e]; trivial
def X0b : Nat → List AVal → List (Nat × AVal)
 | _, [] => []
 | i, x :: r => (i, x) :: X0b (i + 1) r
theorem X2H : ∀ (l : List AVal) (i t : Nat), Xb .any (X0b i l) t = if i ≤ t then (l[t - i]?).getD .any else .any
 | [], i, t => by simp [X0b, Xb]
 | x :: r, i, t => by
  simp only [X0b, Xb]
  by_cases h : i = t
  ·subst h; simp
  ·have hb : Nat.beq i t = false := by
    cases hb : Nat.beq i t with
    | false => rfl
    | true => exact absurd (Nat.eq_of_beq_eq_true hb) h
   rw [hb, cond_false, X2H r (i + 1) t]
   by_cases h1 : i ≤ t
   ·rw [if_pos (by omega), if_pos h1, show t - i = (t - (i + 1)) + 1 by omega, List.getElem?_cons_succ]
   ·rw [if_neg (by omega), if_neg h1]
def X0Y (n : Nat) (args : List AVal) (Li : List (Nat × AObj)) : St := ⟨n, X0b 0 args, Li⟩
def X1S (P : Program) (S : St) (rv : ResultVar) (x : AVal) : Prop :=
 match rv with
 | .tmp t => S.get t = x
 | .cell t ty => ∃ γ o cs, S.get t = .ptr γ o ∧ S.obj γ = .box cs ∧
   ((Yi P ty false 1 = true ∧ cs[o]? = some x) ∨ ∃ sz ys, Yi P ty true sz = true ∧ (cs.drop o).take sz = ys ∧ Nat.beq ys.length sz = true ∧ x = .agg ys)
def X14 (P : Program) (S : St) : List ResultVar → List AVal → Prop
 | [], [] => True
 | r :: rs, x :: xs => X1S P S r x ∧ X14 P S rs xs
 | _, _ => False
def VE : List AVal → AVal
 | [x] => x
 | xs => .tup xs
def VI (tmps : Array Value) : ResultVar → Sem Value
 | .tmp t => pure (tmps.getD t undef)
 | .cell t ty => do loadVar ty (← asAddr (tmps.getD t undef))
theorem X7G (fn : Func) (tmps : Array Value) : results fn tmps = (do
  let vs ← fn.results.mapM (VI tmps)
  pure (if h : vs.size = 1 then vs[0] else .tuple vs)) := rfl
theorem X73 {P : Program} {E : Env} {S : St} {g : Gh} {a : Act} {w : World} (hs : YT E S g a w) {rv : ResultVar} {x : AVal} (h : X1S P S rv x) :
  ∃ v, (VI a.tmps rv).run P w = .ok v w ∧ x.sat g v := by
 cases rv with
 | tmp t => exact ⟨_, rfl, by have := hs.2.2.2 t; rw [h] at this; exact this⟩
 | cell t ty =>
  obtain ⟨γ, o, cs, h1, h2, h3⟩ := h
  have hp := hs.2.2.2 t
  rw [h1] at hp
  simp only [AVal.sat] at hp
  have ho := hs.1.obj γ
  rw [h2] at ho
  obtain ⟨vs, e, fr, k1, k2, k3, k4⟩ := ho
  rcases h3 with ⟨ht, hy⟩ | ⟨sz, ys, ht, hy, hlen, rfl⟩
  ·obtain ⟨u, hu, hsu⟩ := U7 k3 o x hy
   have hc : w.cell? ⟨g.blk γ, o, none⟩ = some u := by rw [cell_of_row w _ o vs e fr k1]; simpa using hu
   exact ⟨u, by simp only [VI, hp, asAddr, Sem.run_bind, Sem.run_pure, Result.andThen_ok, X1Y ht hc], hsu⟩
  ·have hsub := VN (Vg k3 o) sz
   rw [hy] at hsub
   have hl1 := Y6 hsub
   have hl2 : ys.length = sz := Nat.eq_of_beq_eq_true hlen
   have := X0E (P := P) (p := ⟨g.blk γ, o, none⟩) (w := w) (vs := (vs.toList.drop o).take sz) (t := ty) (by rw [hl1, hl2]; exact ht) (fun j v hv => by
    rw [Yq, cell_of_row w _ _ vs e fr k1]
    rw [List.getElem?_take] at hv
    split at hv
    ·rw [List.getElem?_drop] at hv; simpa using hv
    ·simp at hv)
   exact ⟨.agg ((vs.toList.drop o).take sz).toArray, by simp only [VI, hp, asAddr, Sem.run_bind, Sem.run_pure, Result.andThen_ok, this], by simp only [AVal.sat]; exact ⟨_, rfl, hsub⟩⟩
theorem X4c {P : Program} {E : Env} {S : St} {g : Gh} {a : Act} {w : World} (hs : YT E S g a w) : ∀ (rs : List ResultVar) (xs : List AVal), X14 P S rs xs →
  ∃ vs : List Value, (rs.mapM (VI a.tmps) : Sem (List Value)).run P w = .ok vs w ∧ Xa g xs vs
 | [], [], _ => ⟨[], by simp, by simp only [Xa]⟩
 | [], _ :: _, h => h.elim
 | _ :: _, [], h => h.elim
 | r :: rs, x :: xs, h => by
  obtain ⟨v, k1, k2⟩ := X73 hs h.1
  obtain ⟨vs, k3, k4⟩ := X4c hs rs xs h.2
  refine ⟨v :: vs, ?_, by simp only [Xa]; exact ⟨k2, k4⟩⟩
  rw [List.mapM_cons]
  simp only [Sem.run_bind, k1, k3, Result.andThen_ok, Sem.run_pure]
theorem X8J {P : Program} {E : Env} {S : St} {g : Gh} {a : Act} {w : World} (hs : YT E S g a w) {fn : Func} {rs : List ResultVar} {xs : List AVal} (hr : fn.results.toList = rs) (h : X14 P S rs xs) :
  ∃ v, (results fn a.tmps).run P w = .ok v w ∧ (VE xs).sat g v := by
 obtain ⟨vs, k1, k2⟩ := X4c hs rs xs h
 have e : (fn.results.mapM (VI a.tmps) : Sem (Array Value)).run P w = .ok vs.toArray w := by
  rw [Array.mapM_eq_mapM_toList, hr, Sem.run_map, k1]; rfl
 have hl := Y6 k2
 rw [X7G, Sem.run_bind, e]
 simp only [Result.andThen_ok, Sem.run_pure]
 refine ⟨_, rfl, ?_⟩
 cases vs with
 | nil =>
  cases xs with
  | nil => simp only [VE]; rw [dif_neg (by simp)]; simp only [AVal.sat]; exact ⟨_, rfl, k2⟩
  | cons => simp at hl
 | cons v vs =>
  cases vs with
  | nil =>
   match xs, hl, k2 with
   | [x], _, k2 =>
    simp only [VE]; rw [dif_pos (by simp)]
    simp only [Xa] at k2; exact k2.1
  | cons v' vs =>
   match xs, hl, k2 with
   | x :: y :: xs, _, k2 =>
    simp only [VE]; rw [dif_neg (by simp)]; simp only [AVal.sat]; exact ⟨_, rfl, k2⟩
def X0C (Lo : List (Nat × AObj)) (T : St) : Prop := ∀ γ, Xb .dead Lo γ = T.obj γ ∨ Xb .dead Lo γ = .dead
theorem X2 (T : St) : X0C [] T := fun γ => .inr rfl
theorem Vi {Lo : List (Nat × AObj)} {T : St} (h : XU T Lo) : X0C Lo T := by
 intro γ
 rcases X27 AObj.dead Lo γ with e | ⟨p, hp, e⟩
 ·exact .inr e
 ·by_cases hk : Xc γ Lo = true
  ·clear hp e p
   induction Lo with
   | nil => simp [Xc] at hk
   | cons q r ih =>
    obtain ⟨k, x⟩ := q
    by_cases hkγ : k = γ
    ·subst hkγ; rw [Y5]; exact .inl h.1.symm
    ·rw [Yg _ _ _ hkγ]
     simp only [Xc, Bool.or_eq_true] at hk
     exact ih h.2 (hk.resolve_left fun e => hkγ (Nat.eq_of_beq_eq_true e))
  ·right
   have : ∀ (l : List (Nat × AObj)), ¬ Xc γ l = true → Xb .dead l γ = .dead := by
    intro l hl
    induction l with
    | nil => rfl
    | cons q r ih =>
     obtain ⟨k, x⟩ := q
     simp only [Xc, Bool.or_eq_true, not_or] at hl
     rw [Yg _ _ _ (fun e => hl.1 (by simp [e]))]
     exact ih hl.2
   exact this Lo hk
def Xj (P : Program) (rs : List ResultVar) (Lo : List (Nat × AObj)) (xs : List AVal) (T : St) : Prop :=
 ∃ U, T.le U ∧ X14 P U rs xs ∧ X0C Lo U
def X13 : List (Nat × AObj) → Bool
 | [] => true
 | p :: r => Nat.blt p.1 100 && X13 r
theorem X2C : ∀ (l : List (Nat × AObj)) (γ : Nat), X13 l = true → Xc γ l = true → γ < 100
 | [], _, _, h => by simp [Xc] at h
 | p :: r, γ, h, hk => by
  simp only [X13, Bool.and_eq_true] at h
  simp only [Xc, Bool.or_eq_true] at hk
  rcases hk with e | e
  ·rw [← Nat.eq_of_beq_eq_true e]; simpa using h.1
  ·exact X2C r γ h.2 e
theorem Xf {P : Program} {f : FuncId} {fn : Func} {c : Code} {n : Nat} {rs : List ResultVar} {Li Lo : List (Nat × AObj)} {args xs : List AVal} (hf : P.funcs[f]? = some fn) (hb : fn.body = some c) (hn : fn.ntmps = n) (hr : fn.results.toList = rs)
  (hle : Nat.ble args.length n = true) (hlow : X13 Li = true)
  (h : ∀ E, AWP P E c (X0Y n args Li) (X5B (Xj P rs Lo xs))) : Con P f Li args Lo (VE xs) := by
 intro g w vs hi hs
 have hl := Y6 hs
 refine calls_of_wp hf hb ?_
 have hstart : holds (Yn g w Li) (X0Y n args Li) { tmps := vs.toArray ++ Array.replicate (fn.ntmps - vs.toArray.size) undef, defers := [] } w := by
  refine ⟨g, hi, rfl, ?_, fun t => ?_⟩
  ·have : args.length ≤ n := by simpa using hle
   simp [X0Y, hn, hl]; omega
  ·show AVal.sat g (Xb _ _ _) _
   simp only [X0Y]
   rw [X2H]
   simp only [Nat.zero_le, if_true, Nat.sub_zero]
   cases hx : args[t]? with
   | none => simp [AVal.sat]
   | some x =>
    obtain ⟨u, hu, hsu⟩ := U7 hs t x hx
    have hlt : t < vs.length := (List.getElem?_eq_some_iff.1 hu).1
    have : (vs.toArray ++ Array.replicate (fn.ntmps - vs.toArray.size) undef).getD t undef = u := by
     rw [Array.getD_eq_getD_getElem?, Array.getElem?_append_left (by simpa using hlt)]
     simp [hu]
    rw [this]; exact hsu
 refine wp_mono ((h (Yn g w Li)).run _ w hstart) ?_
 rintro e a' w' ⟨T, hq, ht⟩
 have fin : Xj P rs Lo xs T → a'.defers = [] ∧ ∃ v, (results fn a'.tmps).run P w' = .ok v w' ∧ ∃ v' g', Ending.returned v = .returned v' ∧ (VE xs).sat g' v' ∧ Inv { Yn g w Li with g0 := g' } (Xb .dead Lo) g' w' ∧ ∀ γ, Xc γ Li = true → g.keeps g' γ := by
  rintro ⟨U, hU, hres, hsub⟩
  obtain ⟨g', hg'⟩ := hU _ _ _ ht
  obtain ⟨v, r1, r2⟩ := X8J hg' hr hres
  exact ⟨hg'.2.1, v, r1, v, g', rfl, r2, (hg'.1.sub hsub).free (fun γ _ => Gh.keeps_refl _ _), fun γ hγ => hg'.1.kp γ (X2C Li γ hlow hγ)⟩
 cases e with
 | normal => exact fin hq
 | ret => exact fin hq
 | _ => exact hq.elim
mutual
def AVal.within (Lo : List (Nat × AObj)) : AVal → Bool
 | .ptr k _ => Xc k Lo
 | .own k _ => Xc k Lo
 | .rptr k _ _ => Xc k Lo
 | .inn k _ => Xc k Lo
 | .bsl k _ => Xc k Lo
 | .mptr k _ _ => Xc k Lo
 | .cut k _ _ _ => Xc k Lo
 | .agg cs => UL Lo cs
 | .tup cs => UL Lo cs
 | .fn _ cs => UL Lo cs
 | .any => true
 | .d _ => true
 | .dptr _ => true
 | .dx _ _ => true
 | .bq _ _ => true
def UL (Lo : List (Nat × AObj)) : List AVal → Bool
 | [] => true
 | x :: r => x.within Lo && UL Lo r
end
mutual
theorem AVal.within_spec {Lo : List (Nat × AObj)} {γ : Nat} : ∀ (x : AVal), x.within Lo = true → x.ment γ = true → Xc γ Lo = true
 | .ptr k o, h, hm => by simp only [AVal.ment] at hm; rw [← Nat.eq_of_beq_eq_true hm]; exact h
 | .own k o, h, hm => by simp only [AVal.ment] at hm; rw [← Nat.eq_of_beq_eq_true hm]; exact h
 | .rptr k _ o, h, hm => by simp only [AVal.ment] at hm; rw [← Nat.eq_of_beq_eq_true hm]; exact h
 | .bsl k _, h, hm => by simp only [AVal.ment] at hm; rw [← Nat.eq_of_beq_eq_true hm]; exact h
 | .inn k _, h, hm => by simp only [AVal.ment] at hm; rw [← Nat.eq_of_beq_eq_true hm]; exact h
 | .mptr k _ _, h, hm => by simp only [AVal.ment] at hm; rw [← Nat.eq_of_beq_eq_true hm]; exact h
 | .cut k _ _ _, h, hm => by simp only [AVal.ment] at hm; rw [← Nat.eq_of_beq_eq_true hm]; exact h
 | .agg cs, h, hm => X03 cs (by simpa only [AVal.within] using h) (by simpa only [AVal.ment] using hm)
 | .tup cs, h, hm => X03 cs (by simpa only [AVal.within] using h) (by simpa only [AVal.ment] using hm)
 | .fn _ cs, h, hm => X03 cs (by simpa only [AVal.within] using h) (by simpa only [AVal.ment] using hm)
 | .any, _, hm => by simp [AVal.ment] at hm
 | .d _, _, hm => by simp [AVal.ment] at hm
 | .dptr _, _, hm => by simp [AVal.ment] at hm
 | .dx _ _, _, hm => by simp [AVal.ment] at hm
 | .bq _ _, _, hm => by simp [AVal.ment] at hm
theorem X03 {Lo : List (Nat × AObj)} {γ : Nat} : ∀ (xs : List AVal), UL Lo xs = true → Y0 γ xs = true → Xc γ Lo = true
 | [], _, hm => by simp [Y0] at hm
 | x :: r, h, hm => by
  simp only [UL, Bool.and_eq_true] at h
  simp only [Y0, Bool.or_eq_true] at hm
  exact hm.elim (AVal.within_spec x h.1) (X03 r h.2)
end
def Uc (Lo : List (Nat × AObj)) : List (Nat × AObj) → Bool
 | [] => true
 | (_, .box cs) :: r => UL Lo cs && Uc Lo r
 | _ :: r => Uc Lo r
theorem X3v {Lo : List (Nat × AObj)} : ∀ (l : List (Nat × AObj)), Uc Lo l = true → ∀ (k : Nat) (cs : List AVal), (k, AObj.box cs) ∈ l → UL Lo cs = true
 | [], _, _, _, h => by simp at h
 | (j, x) :: r, h, k, cs, hm => by
  have hr : Uc Lo r = true := by cases x <;> simp only [Uc, Bool.and_eq_true] at h <;> first | exact h.2 | exact h
  rcases List.mem_cons.1 hm with e | hm
  ·cases e; simp only [Uc, Bool.and_eq_true] at h; exact h.1
  ·exact X3v r hr k cs hm
def UR (Li Lo : List (Nat × AObj)) : Bool :=
 match Li with
 | [] => true
 | p :: r => Xc p.1 Lo && UR r Lo
theorem X4L {Lo : List (Nat × AObj)} {γ : Nat} : ∀ (Li : List (Nat × AObj)), UR Li Lo = true → Xc γ Li = true → Xc γ Lo = true
 | [], _, h => by simp [Xc] at h
 | p :: r, h, hk => by
  simp only [UR, Bool.and_eq_true] at h
  simp only [Xc, Bool.or_eq_true] at hk
  rcases hk with e | e
  ·rw [← Nat.eq_of_beq_eq_true e]; exact h.1
  ·exact X4L r h.2 e
def XN (Li : List (Nat × AObj)) : List (Nat × AObj) → List Nat
 | [] => []
 | p :: r => bif Xc p.1 Li then XN Li r else p.1 :: XN Li r
theorem X0g {Li : List (Nat × AObj)} {γ : Nat} : ∀ (Lo : List (Nat × AObj)), Xc γ Lo = true → Xc γ Li = false → γ ∈ XN Li Lo
 | [], h, _ => by simp [Xc] at h
 | p :: r, h, hk => by
  simp only [Xc, Bool.or_eq_true] at h
  simp only [XN]
  rcases h with e | e
  ·have := Nat.eq_of_beq_eq_true e
   subst this
   simp [hk]
  ·cases Xc p.1 Li with
   | true => exact X0g r e hk
   | false => exact List.mem_cons_of_mem _ (X0g r e hk)
def YY : List Nat → List (Nat × AObj)
 | [] => []
 | k :: r => (k, .dead) :: YY r
theorem X2z {α : Type} (z : α) (γ : Nat) : ∀ (l : List (Nat × α)), Xc γ l = false → Xb z l γ = z
 | [], _ => rfl
 | (k, x) :: r, h => by
  simp only [Xc, Bool.or_eq_false_iff] at h
  simp only [Xb, h.1, cond_false]
  exact X2z z γ r h.2
theorem X2i {α : Type} (z : α) (γ : Nat) : ∀ (l : List (Nat × α)), Xc γ l = true → (γ, Xb z l γ) ∈ l
 | [], h => by simp [Xc] at h
 | (k, x) :: r, h => by
  by_cases hk : k = γ
  ·subst hk; rw [Y5]; simp
  ·rw [Yg z x r hk]
   simp only [Xc, Bool.or_eq_true] at h
   exact List.mem_cons_of_mem _ (X2i z γ r (h.resolve_left fun e => hk (Nat.eq_of_beq_eq_true e)))
def Gh.join (g g' : Gh) (Lo : List (Nat × AObj)) : Gh :=
 { blk := fun k => if Xc k Lo then g'.blk k else g.blk k, hd := fun k => if Xc k Lo then g'.hd k else g.hd k, ihd := fun k => if Xc k Lo then g'.ihd k else g.ihd k, M := g'.M }
theorem X3x {E : Env} {S : St} {g g' : Gh} {w w' : World} (hi : Inv E S.obj g w) {Li Lo : List (Nat × AObj)} (hLi : XU S Li) (hin : UR Li Lo = true) (hbox : Uc Lo Lo = true)
  (hnew : YW S (XN Li Lo)) (hdead : XU S (YY (XN Li Lo))) (hc : Inv { Yn g w Li with g0 := g' } (Xb .dead Lo) g' w') (hk : ∀ γ, Xc γ Li = true → g.keeps g' γ) :
  Inv E (Xb .dead (Lo ++ S.L)) (g.join g' Lo) w' ∧ (∀ x u, x.within Lo = true → AVal.sat g' x u → AVal.sat (g.join g' Lo) x u) ∧ (∀ t u, AVal.sat g (S.get t) u → AVal.sat (g.join g' Lo) (S.get t) u) := by
 rw [V8] at hnew
 rw [Ur] at hdead
 have hsubLi : X0C Li S := Vi hLi
 have hM : Xx g.M g'.M := hc.ext
 have hA : ∀ b, (Yn g w Li).A b → ∃ γ, Xc γ Li = true ∧ Xm g (S.obj γ) γ b := by
  rintro b ⟨γ, hγ⟩
  cases hkey : Xc γ Li with
  | false => rw [X2z _ _ _ hkey] at hγ; exact hγ.elim
  | true =>
   rcases hsubLi γ with e | e
   ·rw [e] at hγ; exact ⟨γ, hkey, hγ⟩
   ·rw [e] at hγ; exact hγ.elim
 have hlook : ∀ k, Xb .dead (Lo ++ S.L) k = if Xc k Lo then Xb .dead Lo k else S.obj k := fun k => UX _ _ _ _
 have hjk : ∀ k, Xc k Lo = true → g'.keeps (g.join g' Lo) k := fun k h => Gh.keeps_of (by simp [Gh.join, h]) (by simp [Gh.join, h]) (by simp [Gh.join, h])
 have hgk : ∀ k, (Xc k Lo = true → Xc k Li = true) → g.keeps (g.join g' Lo) k := by
  intro k h
  cases hkl : Xc k Lo with
  | true => exact (hk k (h hkl)).trans' (hjk k hkl)
  | false => exact Gh.keeps_of (by simp [Gh.join, hkl]) (by simp [Gh.join, hkl]) (by simp [Gh.join, hkl])
 have hsatR : ∀ x u, x.within Lo = true → AVal.sat g' x u → AVal.sat (g.join g' Lo) x u :=
  fun x u hx h => AVal.sat_mono (g := g') (g' := g.join g' Lo) (Xx.refl _) x u (fun γ hm => hjk γ (AVal.within_spec x hx hm)) h
 have hment : ∀ k x, (∀ γ ∈ XN Li Lo, AVal.ment γ x = false) → AVal.ment k x = true → g.keeps (g.join g' Lo) k := by
  intro k x hx hm
  refine hgk k fun hkl => ?_
  cases hli : Xc k Li with
  | true => rfl
  | false => rw [hx k (X0g Lo hkl hli)] at hm; simp at hm
 have hmentL : ∀ k xs, (∀ γ ∈ XN Li Lo, Y0 γ xs = false) → Y0 k xs = true → g.keeps (g.join g' Lo) k := by
  intro k x hx hm
  refine hgk k fun hkl => ?_
  cases hli : Xc k Li with
  | true => rfl
  | false => rw [hx k (X0g Lo hkl hli)] at hm; simp at hm
 have hlv1 : ∀ k b, Xc k Lo = true → (Xm (g.join g' Lo) (Xb .dead (Lo ++ S.L) k) k b ↔ Xm g' (Xb .dead Lo k) k b) := by
  intro k b h
  rw [hlook, if_pos h]
  exact V3 (by simp [Gh.join, h]) (by simp [Gh.join, h]) (by simp [Gh.join, h]) _ _
 have hlv2 : ∀ k b, Xc k Lo = false → (Xm (g.join g' Lo) (Xb .dead (Lo ++ S.L) k) k b ↔ Xm g (S.obj k) k b) := by
  intro k b h
  rw [hlook, if_neg (by simp [h])]
  exact V3 (by simp [Gh.join, h]) (by simp [Gh.join, h]) (by simp [Gh.join, h]) _ _
 have hnotA : ∀ k b, Xc k Lo = false → Xm g (S.obj k) k b → ¬ (Yn g w Li).A b := by
  intro k b hkl hb hAb
  obtain ⟨γ, h1, h2⟩ := hA b hAb
  have := hi.inj _ _ _ hb h2
  subst this
  rw [X4L Li hin h1] at hkl; simp at hkl
 have hheap : ∀ k b, Xc k Lo = false → Xm g (S.obj k) k b → w'.heap[b]? = w.heap[b]? := fun k b hkl hb =>
  hc.frame b (UH hi hb) (hnotA k b hkl hb)
 refine ⟨⟨fun k => ?_, fun k k' b h h' => ?_, hc.mem, fun k b h a v ha => ?_, fun k b h => ?_, hi.ext.trans hM, fun a v ha => ?_, fun b hb hAb => ?_, Nat.le_trans hi.size hc.size, hc.os.trans hi.os, hc.out.trans hi.out, fun k hk100 => ?_⟩, hsatR, fun t u h => ?_⟩
 ·cases hkl : Xc k Lo with
  | true =>
   rw [hlook, if_pos hkl]
   have hmem := X2i AObj.dead k Lo hkl
   refine X0D (g := g') (g' := g.join g' Lo) (Xx.refl _) (by simp [Gh.join, hkl]) (by simp [Gh.join, hkl]) (by simp [Gh.join, hkl]) (fun _ _ => rfl) (fun cs us e h => ?_) (hc.obj k)
   rw [e] at hmem
   exact YV (g := g') (g' := g.join g' Lo) (Xx.refl _) _ _ (fun γ hm => hjk γ (X03 cs (X3v Lo hbox k cs hmem) hm)) h
  | false =>
   rw [hlook, if_neg (by simp [hkl])]
   refine X0D (g := g) (g' := g.join g' Lo) hM (by simp [Gh.join, hkl]) (by simp [Gh.join, hkl]) (by simp [Gh.join, hkl]) (fun b hb => hheap k b hkl hb) (fun cs us e h => ?_) (hi.obj k)
   refine YV (g := g) (g' := g.join g' Lo) hM _ _ (fun γ hm => hmentL γ cs (fun γ' hγ' => ?_) hm) h
   have := X1t (hnew γ' hγ') k
   rw [e] at this; exact this
 ·cases hkl : Xc k Lo with
  | true =>
   rw [hlv1 k _ hkl] at h
   cases hkl' : Xc k' Lo with
   | true => rw [hlv1 k' _ hkl'] at h'; exact hc.inj _ _ _ h h'
   | false =>
    rw [hlv2 k' _ hkl'] at h'
    exfalso
    rcases hc.new k b h with h1 | h1
    ·have h1 : w.heap.size ≤ b := h1
     have := UH hi h'; omega
    ·exact hnotA k' b hkl' h' h1
  | false =>
   rw [hlv2 k _ hkl] at h
   cases hkl' : Xc k' Lo with
   | false => rw [hlv2 k' _ hkl'] at h'; exact hi.inj _ _ _ h h'
   | true =>
    rw [hlv1 k' _ hkl'] at h'
    exfalso
    rcases hc.new k' b h' with h1 | h1
    ·have h1 : w.heap.size ≤ b := h1
     have := UH hi h; omega
    ·exact hnotA k b hkl h h1
 ·cases hkl : Xc k Lo with
  | true => rw [hlv1 k _ hkl] at h; exact hc.sep k b h a v ha
  | false =>
   rw [hlv2 k _ hkl] at h
   intro e
   rcases hc.lim a v ha with ⟨v', h1⟩ | h1 | h1
   ·exact hi.sep k b h a v' h1 e
   ·have h1 : w.heap.size ≤ a.block := h1
    have := UH hi h; omega
   ·rw [e] at h1; exact hnotA k b hkl h h1
 ·cases hkl : Xc k Lo with
  | true =>
   rw [hlv1 k _ hkl] at h
   rcases hc.new k b h with h1 | h1
   ·have h1 : w.heap.size ≤ b := h1
    have := hi.size; exact .inl (by omega)
   ·obtain ⟨γ, _, h2⟩ := hA b h1
    exact hi.new γ b h2
  | false => rw [hlv2 k _ hkl] at h; exact hi.new k b h
 ·rcases hc.lim a v ha with ⟨v', h1⟩ | h1 | h1
  ·exact hi.lim a v' h1
  ·have h1 : w.heap.size ≤ a.block := h1
   have := hi.size; exact .inr (.inl (by omega))
  ·obtain ⟨γ, _, h2⟩ := hA _ h1
   exact .inr (hi.new γ _ h2)
 ·have hs := hi.size
  rw [hc.frame b (by show b < w.heap.size; omega) (fun hAb' => by
   obtain ⟨γ, _, h2⟩ := hA b hAb'
   exact (hi.new γ b h2).elim (fun h => by omega) hAb)]
  exact hi.frame b hb hAb
 ·refine (hi.kp k hk100).trans' (hgk k fun hkl => ?_)
  cases hli : Xc k Li with
  | true => rfl
  | false =>
   have := hnew k (X0g Lo hkl hli)
   simp only [St.free, Bool.and_eq_true, Nat.ble_eq] at this; omega
 ·exact AVal.sat_mono (g := g) (g' := g.join g' Lo) hM _ _ (fun k hm => hment k _ (fun γ hγ => X1F (hnew γ hγ) t) hm) h
end Go.Fw
namespace Go.Fw
open Go
set_option linter.unusedVariables false
set_option linter.unusedSimpArgs false
def evA (S : St) : List Operand → List AVal
 | [] => []
 | x :: r => S.ev x :: evA S r
def UA : List Operand → List AVal → List (Operand × AVal)
 | x :: r, y :: s => (x, y) :: UA r s
 | _, _ => []
theorem X1O {g : Gh} {a : Act} : ∀ {xs : List Operand} {ys : List AVal}, ys.length = xs.length → YH g a (UA xs ys) → Xa g ys (xs.map a.eval)
 | [], [], _, _ => by simp only [List.map_nil, Xa]
 | x :: xs, y :: ys, h, hs => by
  simp only [List.map_cons, Xa]
  exact ⟨hs.1, X1O (by simpa using h) hs.2⟩
 | [], _ :: _, h, _ => by simp at h
 | _ :: _, [], h, _ => by simp at h
theorem X2e (S : St) : ∀ (xs : List Operand), YN S (UA xs (evA S xs))
 | [] => trivial
 | x :: r => ⟨rfl, X2e S r⟩
def AVal.le (x y : AVal) : Prop := ∀ g u, x.sat g u → y.sat g u
theorem AVal.le_refl (x : AVal) : x.le x := fun _ _ h => h
theorem AVal.le_nil (sz : Nat) : AVal.le ani (.d (.sl sz [])) := fun g u h => by
 simp only [AVal.sat, D.rep] at h ⊢
 exact ⟨none, 0, h.1, by simp, by simp, by simp⟩
theorem AVal.le_of_eq {x y : AVal} (h : x = y) : x.le y := h ▸ AVal.le_refl x
def leL : List AVal → List AVal → Prop
 | [], [] => True
 | x :: r, y :: s => x.le y ∧ leL r s
 | _, _ => False
theorem X0i {g : Gh} : ∀ {xs ys : List AVal} {us : List Value}, leL xs ys → Xa g xs us → Xa g ys us
 | [], [], _, _, h => h
 | x :: xs, y :: ys, u :: us, hl, h => by
  simp only [Xa] at h ⊢
  exact ⟨hl.1 g u h.1, X0i hl.2 h.2⟩
 | _ :: _, _ :: _, [], _, h => by simp only [Xa] at h
 | [], _ :: _, _, hl, _ => hl.elim
 | _ :: _, [], _, hl, _ => hl.elim
theorem AVal.le_agg {xs ys : List AVal} (h : leL xs ys) : AVal.le (.agg xs) (.agg ys) := fun g u hs => by
 simp only [AVal.sat] at hs ⊢
 obtain ⟨vs, h1, h2⟩ := hs
 exact ⟨vs, h1, X0i h h2⟩
def Vp (P : Program) (f : FuncId) : Bool := match P.funcs[f]? with | some fn => !(fn.name == "runtime.NumGoroutine") && fn.body.isSome | none => false
theorem X3w {P : Program} {f : FuncId} (h : Vp P f = true) (args : Array Value) (w : World) : (callFunc f args).run P w = .ok (.enter f args) w := by
 unfold Vp at h
 cases hf : P.funcs[f]? with
 | none => simp [hf] at h
 | some fn =>
  rw [hf] at h
  simp only [Bool.and_eq_true, Bool.not_eq_true'] at h
  have hb : fn.body.isNone = false := by
   cases hb : fn.body with
   | none => have := h.2; simp [hb] at this
   | some c => rfl
  simp only [callFunc, Sem.run_bind, run_program, Result.andThen_ok, hf, h.1, hb, Bool.false_eq_true, if_false, Sem.run_pure]
section
variable {P : Program} {ops : Array Oper} {draw : Bool} {K : St → Prop} {rest : List Oper} {l : XE} {S : St}
variable {d : Nat} {ty : TypeId} {pos : String} {aft : Array Edge} {gd : Option (Nat × Bool)}
theorem X6c {f : FuncId} {args : Array Operand} {tys : Array TypeId} {xs : List Operand} {ys zs : List AVal} {Li Lo : List (Nat × AObj)} {res : AVal}
  (hxs : args.toList = xs) (hys : evA S xs = ys) (hle : leL ys zs) (hcon : Con P f Li zs Lo res) (hf : Vp P f = true)
  (hLi : XU S Li) (hin : UR Li Lo = true) (hbox : Uc Lo Lo = true) (hres : res.within Lo = true) (hnew : YW S (XN Li Lo)) (hdead : XU S (YY (XN Li Lo)))
  (hd : Nat.blt d S.n = true) (hg : X9 ops S gd)
  (h : Walk P ops draw K rest ((l.length, ⟨some d, .call ⟨.value (.func f), args, tys⟩, ty, pos, aft, gd⟩, ⟨X7 ops gd ++ UA xs ys, some (d, res), Li ++ YY (XN Li Lo), Lo, XN Li Lo⟩) :: l)
   ((S.set d res).cat Lo)) :
  Walk P ops draw K (⟨some d, .call ⟨.value (.func f), args, tys⟩, ty, pos, aft, gd⟩ :: rest) l S := by
 have hap : ∀ (A B : List (Nat × AObj)) (T : St), XU T (A ++ B) ↔ XU T A ∧ XU T B := by
  intro A B T
  simp only [Ur, List.mem_append]
  exact ⟨fun h => ⟨fun p hp => h p (.inl hp), fun p hp => h p (.inr hp)⟩, fun h p hp => hp.elim (h.1 p) (h.2 p)⟩
 have hlen : ys.length = xs.length := by
  rw [← hys]; clear hys hxs h hle
  induction xs with
  | nil => rfl
  | cons x r ih => simp [evA, ih]
 refine Xp ⟨UA xs ys, some (d, res), Li ++ YY (XN Li Lo), Lo, XN Li Lo⟩ ?_ hg ⟨by rw [← hys]; exact X2e S xs, (hap _ _ _).2 ⟨hLi, hdead⟩, hnew, hd⟩ h
 intro E S a w g hs hok Q K hK
 obtain ⟨ok1, ok2, ok3, ok4⟩ := hok
 rw [hap] at ok2
 have hsat := X0i hle (X1O hlen (V7 hs _ ok1))
 have hinv : Inv (Yn g w Li) (Xb .dead Li) g w := by
  have hsub := Vi ok2.1
  have hl : ∀ γ b, Xm g (Xb .dead Li γ) γ b → Xm g (S.obj γ) γ b := by
   intro γ b hb
   rcases hsub γ with e | e
   ·rw [← e]; exact hb
   ·rw [e] at hb; exact hb.elim
  refine ⟨fun γ => ?_, fun γ γ' b k k' => hs.1.inj γ γ' b (hl _ _ k) (hl _ _ k'), hs.1.mem, fun γ b k => hs.1.sep γ b (hl _ _ k), fun γ b k => .inr ⟨γ, k⟩, Xx.refl _, fun a v ha => .inl ⟨v, ha⟩, fun _ _ _ => rfl, Nat.le_refl _, rfl, rfl, fun γ _ => Gh.keeps_refl _ _⟩
  rcases hsub γ with e | e
  ·rw [e]; exact hs.1.obj γ
  ·rw [e]; trivial
 have hcall := hcon g w (xs.map a.eval) hinv hsat
 have hrun : (execOp a.eval ⟨some d, .call ⟨.value (.func f), args, tys⟩, ty, pos, aft, gd⟩).run P w = .ok (.enter f (xs.map a.eval).toArray) w := by
  have e1 : (#[] ++ args.map a.eval ++ #[] : Array Value) = (xs.map a.eval).toArray := by
   apply Array.ext'; simp [← hxs]
  simp only [execOp, resolve, Act.eval, Deferred.ofValue, Sem.run_bind, Sem.run_pure, Result.andThen_ok, invoke]
  rw [X3w hf]
  congr 2
 unfold Oper.wp
 rw [hrun, Oper.upon_enter]
 refine hcall.mono ?_
 rintro e w' ⟨v, g', rfl, hv, hi', hk⟩
 obtain ⟨j1, j2, j3⟩ := X3x hs.1 ok2.1 hin hbox ok3 ok2.2 hi' hk
 exact hK _ _ (Vd j1 hs.2.1 hs.2.2.1 (fun t => j3 t _ (hs.2.2.2 t)) (j2 _ _ hres hv) ok4)
end
def leT (S : St) : List (Nat × AVal) → Prop
 | [] => True
 | p :: r => (S.get p.1).le p.2 ∧ leT S r
theorem X4q {S : St} {t : Nat} : ∀ (l : List (Nat × AVal)), leT S l → (Xb .any l t = .any ∨ (S.get t).le (Xb .any l t))
 | [], _ => .inl rfl
 | (k, x) :: r, h => by
  by_cases hk : k = t
  ·subst hk; rw [Y5]; exact .inr h.1
  ·rw [Yg _ _ _ hk]; exact X4q r h.2
theorem X8 {S : St} {n : Nat} {τ : List (Nat × AVal)} {L : List (Nat × AObj)} (hn : S.n = n) (ht : leT S τ) (hL : XU S L) : S.le ⟨n, τ, L⟩ := by
 rintro E a w ⟨g, h1, h2, h3, h4⟩
 refine ⟨g, h1.sub (Vi hL), h2, h3.trans hn, fun t => ?_⟩
 show AVal.sat g (Xb .any τ t) _
 rcases X4q τ ht with e | e
 ·rw [e]; simp only [AVal.sat]
 ·exact e g _ (h4 t)
theorem X09 {E : Env} {S T : St} {g g' : Gh} {a : Act} {w : World} (hs : YT E S g a w) (hi : Inv E T.obj g' w) (hn : T.n = S.n) (ht : ∀ t, (T.get t).sat g' (a.tmps.getD t undef)) : holds E T a w :=
 ⟨g', hi, hs.2.1, by rw [hs.2.2.1, hn], ht⟩
theorem Ut {S : St} (t γ sz : Nat) (ht : S.get t = ani) (hdead : S.obj γ = .dead) (hf : S.free γ = true) :
  S.le ((S.set t (.own γ 0)).own γ (.row sz [])) := by
 rintro E a w ⟨g, hs⟩
 have hi := X11 hs.1 γ hf hdead (.row sz []) 0 (.slice none 0 0) (w' := w) (fun _ _ => rfl) (Nat.le_refl _) rfl rfl
  ⟨by simp, .inl ⟨by simp [Gh.put], rfl⟩⟩ (fun k hk => by obtain ⟨a, n, c, e, _⟩ := hk; simp [Gh.put] at e)
 refine X09 hs hi rfl fun k => ?_
 by_cases hk : k = t
 ·subst hk
  show AVal.sat _ (Xb .any ((k, _) :: S.τ) k) _
  rw [Y5]
  have := hs.2.2.2 k
  rw [ht] at this
  rw [Y8 this]
  simp only [AVal.sat]
  exact ⟨rfl, none, 0, 0, by simp [Gh.put], Nat.le_refl _, fun _ => rfl⟩
 ·show AVal.sat _ (Xb .any ((t, _) :: S.τ) k) _
  rw [Yg _ _ _ (Ne.symm hk)]
  exact VS hf hs.2.2.2 k
theorem X4N {E : Env} {S : St} {g : Gh} {w : World} (hi : Inv E S.obj g w) {γ sz : Nat} {xs : List (List D)} (hL : S.obj γ = .row sz xs) :
  ∃ M', Xx g.M M' ∧ Inv E (Xb .dead ((γ, .froz sz xs) :: S.L)) { g with M := M' } w := by
 have ho := hi.obj γ
 rw [hL] at ho
 obtain ⟨hlen, ho⟩ := ho
 have key : ∀ (M' : Mem), Xx g.M M' → (D.sl sz xs).rep M' (g.hd γ) → (∀ a v, M' a = some v → g.M a = some v ∨ (w.cell? a = some v ∧ Xm g (S.obj γ) γ a.block)) →
   Inv E (Xb .dead ((γ, .froz sz xs) :: S.L)) { g with M := M' } w := by
  intro M' hle hrep hM'
  have hlook : ∀ k, Xb .dead ((γ, .froz sz xs) :: S.L) k = if k = γ then .froz sz xs else S.obj k := by
   intro k
   by_cases hk : k = γ
   ·subst hk; rw [Y5, if_pos rfl]
   ·rw [Yg _ _ _ (Ne.symm hk), if_neg hk]; rfl
  have hlv : ∀ k b, Xm { g with M := M' } (Xb .dead ((γ, .froz sz xs) :: S.L) k) k b → k ≠ γ ∧ Xm g (S.obj k) k b := by
   intro k b h
   rw [hlook] at h
   by_cases hk : k = γ
   ·rw [if_pos hk] at h; exact h.elim
   ·rw [if_neg hk] at h
    refine ⟨hk, ?_⟩
    rwa [V3 (g := g) (g' := { g with M := M' }) rfl rfl rfl] at h
  refine ⟨fun k => ?_, fun k k' b h h' => hi.inj k k' b (hlv _ _ h).2 (hlv _ _ h').2, fun a v h => ?_, fun k b h a v ha => ?_, fun k b h => hi.new k b (hlv _ _ h).2, hi.ext.trans hle, fun a v h => ?_, hi.frame, hi.size, hi.os, hi.out, fun k hk => (hi.kp k hk).trans' (Gh.keeps_of rfl rfl rfl)⟩
  ·rw [hlook]
   by_cases hk : k = γ
   ·subst hk; rw [if_pos rfl]; exact hrep
   ·rw [if_neg hk]; exact X2G (g := g) (g' := { g with M := M' }) hle rfl rfl rfl (fun _ _ => rfl) (hi.obj k)
  ·rcases hM' a v h with h1 | h1
   ·exact hi.mem a v h1
   ·exact h1.1
  ·obtain ⟨hk, hb⟩ := hlv k b h
   rcases hM' a v ha with h1 | h1
   ·exact hi.sep k b hb a v h1
   ·intro e
    rw [e] at h1
    exact hk (hi.inj _ _ _ hb h1.2)
  ·rcases hM' a v h with h1 | h1
   ·exact hi.lim a v h1
   ·exact .inr (hi.new γ _ h1.2)
 rcases ho with ⟨h1, rfl⟩ | ⟨b, cap, vs, e, fr, h1, h2, h3, h4, h5, h6, h7⟩
 ·refine ⟨g.M, Xx.refl _, key g.M (Xx.refl _) ?_ (fun a v h => .inl h)⟩
  simp only [D.rep]
  exact ⟨none, 0, h1, by simp, by simp, by simp⟩
 ·have hlv : Xm g (S.obj γ) γ b := by rw [hL]; exact ⟨_, _, _, h1, rfl⟩
  have hle : Xx g.M (fun p => if p.block = b ∧ p.spot = none then vs[p.off]? else g.M p) := by
   intro a v h
   have := hi.sep γ b hlv a v h
   show (if _ then _ else _) = _
   rw [if_neg (fun hc => this hc.1)]; exact h
  refine ⟨_, hle, key _ hle ?_ (fun a v h => ?_)⟩
  ·simp only [D.rep]
   refine ⟨_, cap, h1, h2, h3, .inr ⟨b, 0, rfl, X2h xs 0 hlen fun i d hd => ?_⟩⟩
   obtain ⟨hl, hr⟩ := X0v h7
   obtain ⟨u, hu, hsu⟩ := hr i d hd
   refine ⟨u, ?_, D.rep_mono hle _ _ hsu⟩
   show (if _ then _ else _) = _
   rw [if_pos ⟨rfl, rfl⟩, Nat.zero_add]
   rw [List.getElem?_take] at hu
   split at hu
   ·simpa using hu
   ·simp at hu
  ·have h' : (if a.block = b ∧ a.spot = none then vs[a.off]? else g.M a) = some v := h
   split at h'
   ·rename_i hc
    obtain ⟨b', o, s⟩ := a
    simp only at hc
    obtain ⟨rfl, rfl⟩ := hc
    right
    exact ⟨by rw [cell_of_row w _ _ vs e fr h4]; exact h', hlv⟩
   ·exact .inl h'
theorem U0 {S : St} (γ : Nat) {sz : Nat} {xs : List (List D)} (hL : S.obj γ = .row sz xs) : S.le (S.own γ (.froz sz xs)) := by
 rintro E a w ⟨g, hs⟩
 obtain ⟨M', hle, hi⟩ := X4N hs.1 hL
 exact X09 hs hi rfl fun t => X1u (g := g) (g' := { g with M := M' }) hle rfl rfl rfl (hs.2.2.2 t)
theorem X2l {g : Gh} {w : World} {γ sz n : Nat} {xs : List (List D)} {u : Value} (ho : Y3 g w γ (.froz sz xs)) (hn : n = xs.length) (h : (AVal.own γ n).sat g u) : (AVal.d (.sl sz xs)).sat g u := by
 simp only [AVal.sat] at h ⊢
 obtain ⟨_, a, m, c, h1, h2, h3⟩ := h
 have ho' := ho
 simp only [Y3, D.rep] at ho
 obtain ⟨a', cap, k1, _⟩ := ho
 rw [k1] at h1; cases h1
 rw [h3 hn, ← k1]; exact ho'
theorem U3 {S : St} (t γ : Nat) {n sz : Nat} {xs : List (List D)} (ht : S.get t = .own γ n) (hL : S.obj γ = .froz sz xs) (hn : n = xs.length) : S.le (S.set t (.d (.sl sz xs))) := by
 rintro E a w ⟨g, hs⟩
 refine X09 hs hs.1 rfl fun k => ?_
 by_cases hk : k = t
 ·subst hk
  show AVal.sat _ (Xb .any ((k, _) :: S.τ) k) _
  rw [Y5]
  have := hs.2.2.2 k
  rw [ht] at this
  have ho := hs.1.obj γ
  rw [hL] at ho
  exact X2l ho hn this
 ·show AVal.sat _ (Xb .any ((t, _) :: S.τ) k) _
  rw [Yg _ _ _ (Ne.symm hk)]
  exact hs.2.2.2 k
end Go.Fw

/- A block of cells: its slices, its cells read, written, copied, cleared. -/
import Derived.Test.YtonekjkmnhfjmaaGreatDoorM07
namespace Go.Fw
open Go
set_option linter.unusedVariables false
set_option linter.unusedSimpArgs false
section
variable {P : Program}
theorem X7L {E : Env} {S : St} {g : Gh} {w : World} (hi : Inv E S.obj g w) {β o : Nat} {cs cs' : List (Option D)} {ho ho' : Option (Nat × AVal)} {ys : List AVal} (hL : S.obj β = .raw cs ho) {news : Array Value} (hs : Xk g ys news.toList) (h1 : ∀ u ∈ news.toList, u.oneCell' = true) (hb : o + ys.length ≤ cs.length)
  (hc : XA cs' ho' = (XA cs ho).take o ++ ys ++ (XA cs ho).drop (o + ys.length)) :
  ∃ w', (storeCells ⟨g.blk β, o, none⟩ news.toList).run P w = .ok () w' ∧ Inv E (Xa .dead ((β, .raw cs' ho') :: S.L)) g w' := by
 have hob := hi.obj β
 rw [hL] at hob
 obtain ⟨vs, e, fr, h2, h3, h4⟩ := hob
 have hlen : news.toList.length = ys.length := Y6 hs
 have hrl : (XA cs ho).length = cs.length := by cases ho <;> simp [XA]
 have hvl : vs.size = cs.length := by have := Y6 h4; rw [hrl] at this; simpa using this
 obtain ⟨vs', k1, k2⟩ := X2n (P := P) (g.blk β) e fr vs.size h3 news.toList o 0 vs w h2 rfl (by rw [hlen]; omega) h1
 simp only [Nat.add_zero, hlen] at k1 k2
 have hsz' : vs'.size = vs.size := by
  have := congrArg List.length k2
  simp only [Array.length_toList, List.length_append, List.length_take, List.length_drop, hlen] at this
  rw [this]; simp only [Array.length_toList] at hlen; omega
 refine ⟨w.setRow (g.blk β) vs', k1, Inv.upd hi β _ (XT _ _ _ _) (fun k hk => XK _ _ _ (Ne.symm hk)) (fun b hb hnl => ?_) (by simp) rfl rfl rfl (fun k hk => ⟨rfl, rfl, rfl⟩) (fun k cs us _ _ h => h) ?_ (fun b hb => .inl (by rw [hL]; exact hb)) (fun _ => Gh.keeps_refl _ _)⟩
 ·refine setRow_other w _ b vs' (fun e => hnl ?_)
  rw [hL, e]; rfl
 ·refine ⟨vs', e, fr, setRow_heap w _ vs _ e fr h2, by rw [hsz']; exact h3, ?_⟩
  rw [k2, hc]
  exact Vm (Vm (VO h4 o) hs) (X09 h4 _)
theorem X4U {E : Env} {S : St} {g : Gh} {w : World} (hi : Inv E S.obj g w) {β o : Nat} {cs ys : List (Option D)} (hL : S.obj β = .raw cs none) {news : Array Value} (hs : Xk g (ys.map oA) news.toList) (h1 : ∀ u ∈ news.toList, u.oneCell' = true) (hb : o + ys.length ≤ cs.length) :
  ∃ w', (storeCells ⟨g.blk β, o, none⟩ news.toList).run P w = .ok () w' ∧ Inv E (Xa .dead ((β, .raw (cs.take o ++ ys ++ cs.drop (o + ys.length)) none) :: S.L)) g w' :=
 X7L hi hL hs h1 (by rw [List.length_map]; exact hb) (by simp only [XA, List.map_append, List.map_take, List.map_drop, List.length_map])
theorem X5p {g : Gh} {w : World} {β o q : Nat} {cs : List (Option D)} (ho : Y7 g w β (.raw cs none)) (hb : o + q ≤ cs.length) :
  ∃ vs : List Value, vs.length = q ∧ Xk g (((cs.drop o).take q).map oA) vs ∧ ∀ w', w'.heap = w.heap → (loadCells ⟨g.blk β, o, none⟩ q).run P w' = .ok vs.toArray w' := by
 obtain ⟨vs, e, fr, h2, h3, h4⟩ := ho
 have hsub := VO (X09 h4 o) q
 have hl := Y6 hsub
 have hlq : ((vs.toList.drop o).take q).length = q := by rw [hl, List.length_take, List.length_drop]; simp only [XA, List.length_map]; omega
 refine ⟨(vs.toList.drop o).take q, hlq, by simpa only [XA, List.map_take, List.map_drop] using hsub, fun w' hw' => ?_⟩
 have := run_loadCells_list (P := P) w' ⟨g.blk β, o, none⟩ ((vs.toList.drop o).take q) (fun j v hv => by
  rw [YQ, cell_of_row w' _ _ vs e fr (by rw [hw']; exact h2)]
  rw [List.getElem?_take] at hv
  split at hv
  ·rw [List.getElem?_drop] at hv; simpa using hv
  ·simp at hv)
 rw [hlq] at this
 exact this
def Uw : List (Option D) → Bool
 | [] => true
 | c :: r => c.isSome && Uw r
theorem X5u {g : Gh} : ∀ {cs : List (Option D)} {us : List Value}, Uw cs = true → Xk g (cs.map oA) us → ∀ u ∈ us, u.oneCell' = true
 | [], [], _, _, u, hu => by simp at hu
 | [], _ :: _, _, h, _, _ => h.elim
 | c :: cs, [], _, h, _, _ => h.elim
 | c :: cs, v :: us, hc, h, u, hu => by
  simp only [Uw, Bool.and_eq_true] at hc
  simp only [List.map_cons, Xk] at h
  rcases List.mem_cons.1 hu with rfl | hu
  ·cases c with
   | none => simp at hc
   | some d => exact D.rep_one (by simpa only [oA, AVal.sat] using h.1)
  ·exact X5u hc.2 h.2 u hu
theorem X97 {g : Gh} {ys : List AVal} {us : List Value} (h : Xk g ys us) (hc : UX ys = true) : ∀ u ∈ us, u.oneCell' = true := by
 intro u hu
 obtain ⟨i, hi⟩ := List.getElem?_of_mem hu
 have hl := Y6 h
 have hlt : i < us.length := (List.getElem?_eq_some_iff.1 hi).1
 obtain ⟨u', h1, h2⟩ := YG h i _ (List.getElem?_eq_getElem (by omega))
 rw [hi] at h1; cases h1
 exact AVal.sat_one ((X0U _).1 hc _ (List.getElem_mem _)) h2
variable {ops : Array Oper} {draw : Bool} {K : Xy → St → Prop} {rest : List Oper} {l : Xy} {S : St}
variable {d : Nat} {ty : TypeId} {pos : String} {aft : Array Edge} {gd : Option (Nat × Bool)}
theorem Vs {g : Gh} {β o n c : Nat} {u : Value} (h : (AVal.rs β o n c).sat g u) : u = .slice (some ⟨g.blk β, o, none⟩) n c := by simpa only [AVal.sat] using h
theorem Xfq {x : Operand} {T : TypeId} {β o n c : Nat} (hx : S.ev x = .rs β o n c) (hT : isSl P T = true)
  (hd : Nat.blt d S.n = true) (hg : Xj ops S gd)
  (h : Walk P ops draw K rest ((l.length, ⟨some d, .call ⟨.builtin .len, #[x], #[T]⟩, ty, pos, aft, gd⟩, ⟨Xg ops gd ++ [(x, .rs β o n c)], some (d, ai n), [], [], []⟩) :: l) (S.set d (ai n))) :
  Walk P ops draw K (⟨some d, .call ⟨.builtin .len, #[x], #[T]⟩, ty, pos, aft, gd⟩ :: rest) l S :=
 XO ⟨[(x, .rs β o n c)], some (d, ai n), [], [], []⟩ (Y2 rfl fun E S g a w hs hq hl => by
  obtain ⟨e, h1⟩ := X3g hT
  have hv := Vs hq.1
  refine ⟨.int .i64 n, ?_, Ui rfl⟩
  simp [execOp, resolve, invoke, builtin, hv, Builtin.len_, run_underlying h1, goInt]) hg ⟨⟨hx, trivial⟩, trivial, trivial, hd⟩ h
theorem Xgg {x : Operand} {T : TypeId} {β o n c : Nat} (hx : S.ev x = .rs β o n c) (hT : isSl P T = true)
  (hd : Nat.blt d S.n = true) (hg : Xj ops S gd)
  (h : Walk P ops draw K rest ((l.length, ⟨some d, .call ⟨.builtin .cap, #[x], #[T]⟩, ty, pos, aft, gd⟩, ⟨Xg ops gd ++ [(x, .rs β o n c)], some (d, ai c), [], [], []⟩) :: l) (S.set d (ai c))) :
  Walk P ops draw K (⟨some d, .call ⟨.builtin .cap, #[x], #[T]⟩, ty, pos, aft, gd⟩ :: rest) l S :=
 XO ⟨[(x, .rs β o n c)], some (d, ai c), [], [], []⟩ (Y2 rfl fun E S g a w hs hq hl => by
  obtain ⟨e, h1⟩ := X3g hT
  have hv := Vs hq.1
  refine ⟨.int .i64 c, ?_, Ui rfl⟩
  simp [execOp, resolve, invoke, builtin, hv, Builtin.cap_, run_underlying h1, goInt]) hg ⟨⟨hx, trivial⟩, trivial, trivial, hd⟩ h
theorem Xeh {x i : Operand} {T : TypeId} {β o n c k sz p : Nat} {kd : IntKind} {m : Int} (hx : S.ev x = .rs β o n c) (hi : S.ev i = .d (.v (.int kd m))) (hk : m = (k : Nat)) (hlt : k < n) (hp : o + k * sz = p)
  (hT : Y8 P T sz = true) (hd : Nat.blt d S.n = true) (hg : Xj ops S gd)
  (h : Walk P ops draw K rest ((l.length, ⟨some d, .indexAddr T x i, ty, pos, aft, gd⟩, ⟨Xg ops gd ++ [(x, .rs β o n c), (i, .d (.v (.int kd m)))], some (d, .ptr β p), [], [], []⟩) :: l) (S.set d (.ptr β p))) :
  Walk P ops draw K (⟨some d, .indexAddr T x i, ty, pos, aft, gd⟩ :: rest) l S :=
 XO ⟨[(x, .rs β o n c), (i, .d (.v (.int kd m)))], some (d, .ptr β p), [], [], []⟩ (Y2 rfl fun E S g a w hs hq hl => by
  obtain ⟨e, h1, h2, h3⟩ := VX hT
  have hv := Vs hq.1
  refine ⟨.pointer (some ⟨g.blk β, p, none⟩), ?_, by simp only [AVal.sat]⟩
  have hb : (0 : Int) ≤ m ∧ m < (n : Int) := by omega
  have hm : m.toNat = k := by omega
  have := run_indexAt_slice (P := P) w T ⟨g.blk β, o, none⟩ n c kd m (by rw [h3]; exact h1)
  rw [if_pos hb, h3, h2 w, Result.andThen_ok, YQ, hm, hp] at this
  simp only [execOp, hv, Yn hq.2.1, Sem.run_bind, this]; rfl) hg ⟨⟨hx, hi, trivial⟩, trivial, trivial, hd⟩ h
theorem XgO {t : TypeId} {x : Operand} {γ o : Nat} {cs : List (Option D)} {ho : Option (Nat × AVal)} {y : AVal} (hx : S.ev x = .ptr γ o) (hL : S.obj γ = .raw cs ho) (hy : (XA cs ho)[o]? = some y)
  (ht : YO P t false 1 = true) (hd : Nat.blt d S.n = true) (hg : Xj ops S gd)
  (h : Walk P ops draw K rest ((l.length, ⟨some d, .load t x, ty, pos, aft, gd⟩, ⟨Xg ops gd ++ [(x, .ptr γ o)], some (d, y), [(γ, .raw cs ho)], [], []⟩) :: l) (S.set d (y))) :
  Walk P ops draw K (⟨some d, .load t x, ty, pos, aft, gd⟩ :: rest) l S :=
 XO ⟨[(x, .ptr γ o)], some (d, y), [(γ, .raw cs ho)], [], []⟩ (Y2 rfl fun E S g a w hs hq hl => by
  have ho := hs.1.obj γ
  rw [hl.1] at ho
  obtain ⟨vs, e, fr, h1, h2, h3⟩ := ho
  obtain ⟨u, hu, hsu⟩ := YG h3 o y hy
  refine ⟨u, ?_, hsu⟩
  have hp : a.eval x = .pointer (some ⟨g.blk γ, o, none⟩) := by have := hq.1; simpa only [AVal.sat] using this
  have hc : w.cell? ⟨g.blk γ, o, none⟩ = some u := by rw [cell_of_row w _ o vs e fr h1]; simpa using hu
  simp [execOp, hp, Instr.loadAt, Instr.sureAddr, X38 ht hc]) hg ⟨⟨hx, trivial⟩, ⟨hL, trivial⟩, trivial, hd⟩ h
theorem Xgn {t : TypeId} {x : Operand} {γ o sz : Nat} {cs : List (Option D)} {ho : Option (Nat × AVal)} {ys : List AVal} (hx : S.ev x = .ptr γ o) (hL : S.obj γ = .raw cs ho)
  (ht : YO P t true sz = true) (hy : ((XA cs ho).drop o).take sz = ys) (hlen : ys.length = sz) (hd : Nat.blt d S.n = true) (hg : Xj ops S gd)
  (h : Walk P ops draw K rest ((l.length, ⟨some d, .load t x, ty, pos, aft, gd⟩, ⟨Xg ops gd ++ [(x, .ptr γ o)], some (d, .agg ys), [(γ, .raw cs ho)], [], []⟩) :: l) (S.set d (.agg ys))) :
  Walk P ops draw K (⟨some d, .load t x, ty, pos, aft, gd⟩ :: rest) l S :=
 XO ⟨[(x, .ptr γ o)], some (d, .agg ys), [(γ, .raw cs ho)], [], []⟩ (Y2 rfl fun E S g a w hs hq hl => by
  have ho := hs.1.obj γ
  rw [hl.1] at ho
  obtain ⟨vs, e, fr, h1, h2, h3⟩ := ho
  have hsub := VO (X09 h3 o) sz
  rw [hy] at hsub
  have hl1 := Y6 hsub
  refine ⟨.agg ((vs.toList.drop o).take sz).toArray, ?_, by simp only [AVal.sat]; exact ⟨_, rfl, hsub⟩⟩
  have hp : a.eval x = .pointer (some ⟨g.blk γ, o, none⟩) := by have := hq.1; simpa only [AVal.sat] using this
  have := X2R (P := P) (p := ⟨g.blk γ, o, none⟩) (w := w) (vs := (vs.toList.drop o).take sz) (t := t) (by rw [hl1, hlen]; exact ht) (fun j v hv => by
   rw [YQ, cell_of_row w _ _ vs e fr h1]
   rw [List.getElem?_take] at hv
   split at hv
   ·rw [List.getElem?_drop] at hv; simpa using hv
   ·simp at hv)
  simp [execOp, hp, Instr.loadAt, Instr.sureAddr, this]) hg ⟨⟨hx, trivial⟩, ⟨hL, trivial⟩, trivial, hd⟩ h
theorem Xca {t : TypeId} {x v : Operand} {γ o : Nat} {cs cs' : List (Option D)} {ho ho' : Option (Nat × AVal)} {y : AVal} (hx : S.ev x = .ptr γ o) (hL : S.obj γ = .raw cs ho) (hv : S.ev v = y) (hc : UX y.parts = true)
  (ht : X0b P t y.parts.length = true) (hb : o + y.parts.length ≤ cs.length) (hcs : XA cs' ho' = (XA cs ho).take o ++ y.parts ++ (XA cs ho).drop (o + y.parts.length)) (hg : Xj ops S gd)
  (h : Walk P ops draw K rest ((l.length, ⟨none, .store t x v, ty, pos, aft, gd⟩, ⟨Xg ops gd ++ [(x, .ptr γ o), (v, y)], none, [(γ, .raw cs ho)], [(γ, .raw cs' ho')], []⟩) :: l)
   (S.own γ (.raw cs' ho'))) :
  Walk P ops draw K (⟨none, .store t x v, ty, pos, aft, gd⟩ :: rest) l S := by
 refine XO ⟨[(x, .ptr γ o), (v, y)], none, [(γ, .raw cs ho)], [(γ, .raw cs' ho')], []⟩ (X45 rfl fun E S g a w hs hq hl hn => ?_) hg ⟨⟨hx, hv, trivial⟩, ⟨hL, trivial⟩, trivial, trivial⟩ h
 have hp : a.eval x = .pointer (some ⟨g.blk γ, o, none⟩) := by have := hq.1; simpa only [AVal.sat] using this
 have hps := X3h hq.2.1 hc
 obtain ⟨w', k1, k2⟩ := X7L (P := P) hs.1 hl.1 hps (X97 hps hc) hb hcs
 have hlen : (a.eval v).cells.toList.length = y.parts.length := Y6 hps
 refine ⟨g, w', ?_, k2, hs.2.2.2⟩
 have hsz := X4X ht w
 simp only [Array.length_toList] at hlen
 simp [execOp, hp, Instr.storeAt, Instr.sureAddr, storeVar, hsz, hlen, k1]
theorem XcS {T : TypeId} {x : Operand} {lo hi : Option Operand} {β o n c sz lb hb o' m c' : Nat} (hx : S.ev x = .rs β o n c) (hlo : X1Y S lo lb) (hhi : X2o S n hi hb) (hlh : lb ≤ hb) (hh : hb ≤ c)
  (hm : hb - lb = m) (hc' : c - lb = c') (ho' : (if c = lb then o else o + lb * sz) = o')
  (hT : Y8 P T sz = true) (hd : Nat.blt d S.n = true) (hg : Xj ops S gd)
  (h : Walk P ops draw K rest ((l.length, ⟨some d, .slice T x lo hi none, ty, pos, aft, gd⟩, ⟨Xg ops gd ++ ((x, .rs β o n c) :: (Uv lo lb ++ Uv hi hb)), some (d, .rs β o' m c'), [], [], []⟩) :: l) (S.set d (.rs β o' m c'))) :
  Walk P ops draw K (⟨some d, .slice T x lo hi none, ty, pos, aft, gd⟩ :: rest) l S := by
 refine XO ⟨(x, .rs β o n c) :: (Uv lo lb ++ Uv hi hb), some (d, .rs β o' m c'), [], [], []⟩ (Y2 rfl fun E S g a w hs hq hl => ?_) hg
  ⟨⟨hx, X86.2 ⟨X4k fun y e => by subst e; exact hlo, X4k fun y e => by subst e; exact hhi⟩⟩, trivial, trivial, hd⟩ h
 obtain ⟨e, h1, h2, h3⟩ := VX hT
 obtain ⟨hq1, hq2⟩ := hq
 rw [X71] at hq2
 have hv := Vs hq1
 have hbd := X6F (P := P) (isSl := true) (len := n) (cap := c) (fun e => by subst e; exact hlo) (fun e => by subst e; exact hhi) hq2.1 hq2.2 hlh hh w
 have hrun := run_slice_any (P := P) w T (some ⟨g.blk β, o, none⟩) n c (by rw [h3]; exact h1) (lo.map a.eval) (hi.map a.eval) none
 rw [hbd, Result.andThen_ok, h3, h2 w, Result.andThen_ok] at hrun
 refine ⟨sliced (some ⟨g.blk β, o, none⟩) lb hb c sz, ?_, ?_⟩
 ·simp only [execOp, hv, Instr.sliceAt, Sem.run_bind, run_underlying h1, Result.andThen_ok, Option.map_none, hrun]; rfl
 ·simp only [AVal.sat, sliced]
  subst hm hc' ho'
  by_cases hcl : c = lb
  ·rw [if_pos hcl, if_pos hcl]
  ·rw [if_neg hcl, if_neg hcl, Option.map_some, YQ]
end
section
variable {P : Program}
variable {ops : Array Oper} {draw : Bool} {K : Xy → St → Prop} {rest : List Oper} {l : Xy} {S : St}
variable {d : Nat} {ty : TypeId} {pos : String} {aft : Array Edge} {gd : Option (Nat × Bool)}
theorem X6e {w : World} {p : Addr} {n c sz m : Nat} {vs : Array Value} (h : (loadCells p (m * sz)).run P w = .ok vs w) : (Builtin.firstCells sz m (.slice (some p) n c)).run P w = .ok vs w := by
 simp only [Builtin.firstCells]; exact h
theorem Xep {x y : Operand} {T T2 : TypeId} {β o1 n1 c1 o2 n2 c2 sz m : Nat} {cs cs' : List (Option D)} (hx : S.ev x = .rs β o1 n1 c1) (hy : S.ev y = .rs β o2 n2 c2) (hL : S.obj β = .raw cs none) (hm : m = min n2 n1)
  (hc : Uw ((cs.drop o2).take (m * sz)) = true) (h2 : o2 + m * sz ≤ cs.length) (h1 : o1 + m * sz ≤ cs.length) (hcs : cs.take o1 ++ (cs.drop o2).take (m * sz) ++ cs.drop (o1 + m * sz) = cs')
  (hT : Y8 P T sz = true) {d' : Option (Nat × AVal)} (hd : X0M S d') (hd' : d' = none ∨ ∃ t, d' = some (t, ai m)) (hg : Xj ops S gd)
  (h : Walk P ops draw K rest ((l.length, ⟨d'.map (·.1), .call ⟨.builtin .copy, #[x, y], #[T, T2]⟩, ty, pos, aft, gd⟩, ⟨Xg ops gd ++ [(x, .rs β o1 n1 c1), (y, .rs β o2 n2 c2)], d', [(β, .raw cs none)], [(β, .raw cs' none)], []⟩) :: l)
   ⟨S.n, d'.toList ++ S.τ, (β, .raw cs' none) :: S.L⟩) :
  Walk P ops draw K (⟨d'.map (·.1), .call ⟨.builtin .copy, #[x, y], #[T, T2]⟩, ty, pos, aft, gd⟩ :: rest) l S := by
 refine XO ⟨[(x, .rs β o1 n1 c1), (y, .rs β o2 n2 c2)], d', [(β, .raw cs none)], [(β, .raw cs' none)], []⟩ ?_ hg ⟨⟨hx, hy, trivial⟩, ⟨hL, trivial⟩, trivial, hd⟩ h
 intro E S a w g hs hok Q K hK
 obtain ⟨ok1, ⟨l1, _⟩, _, ok4⟩ := hok
 have hq := Vr hs _ ok1
 have ho := hs.1.obj β
 rw [l1] at ho
 have hx' := Vs hq.1
 have hy' := Vs hq.2.1
 obtain ⟨vs, r1, r2, r3⟩ := X5p (P := P) (q := m * sz) ho h2
 have hyl : ((cs.drop o2).take (m * sz)).length = m * sz := by rw [List.length_take, List.length_drop]; omega
 obtain ⟨w', k1, k2⟩ := X4U (P := P) (o := o1) (ys := (cs.drop o2).take (m * sz)) (news := vs.toArray) hs.1 l1 r2 (X5u hc r2) (by rw [hyl]; exact h1)
 rw [hyl, hcs] at k2
 have hrun := X6n (P := P) (T2 := T2) (ty := ty) (sz := sz) (m := m) (x := .slice (some ⟨g.blk β, o1, none⟩) n1 c1) (y := .slice (some ⟨g.blk β, o2, none⟩) n2 c2) (news := vs.toArray) (w := w) (w' := w') hT rfl (by simp [Builtin.lenOf]) hm (X6e (r3 w rfl)) (by
  simp only [Nat.zero_mul, Addr.add_zero']; exact k1)
 have hrun' : (execOp a.eval ⟨d'.map (·.1), .call ⟨.builtin .copy, #[x, y], #[T, T2]⟩, ty, pos, aft, gd⟩).run P w = .ok (.value (.int .i64 m)) w' := by
  simp [execOp, resolve, invoke, builtin, hx', hy', hrun]
 unfold Oper.wp
 rw [hrun', Oper.upon_value]
 rcases hd' with rfl | ⟨t, rfl⟩
 ·exact hK _ _ ⟨g, k2, hs.2.1, hs.2.2.1, hs.2.2.2⟩
 ·exact hK _ _ (X00 k2 hs.2.1 hs.2.2.1 hs.2.2.2 (Ui rfl) ok4)
theorem Xh3 {x y : Operand} {T T2 : TypeId} {β o1 n1 c1 o2 n2 c2 sz m : Nat} {cs cs' : List (Option D)} (hx : S.ev x = .rs β o1 n1 c1) (hy : S.ev y = .rs β o2 n2 c2) (hL : S.obj β = .raw cs none) (hm : m = min n2 n1)
  (hc : Uw ((cs.drop o2).take (m * sz)) = true) (h2 : o2 + m * sz ≤ cs.length) (h1 : o1 + m * sz ≤ cs.length) (hcs : cs.take o1 ++ (cs.drop o2).take (m * sz) ++ cs.drop (o1 + m * sz) = cs')
  (hT : Y8 P T sz = true) (hd : Nat.blt d S.n = true) (hg : Xj ops S gd)
  (h : Walk P ops draw K rest ((l.length, ⟨some d, .call ⟨.builtin .copy, #[x, y], #[T, T2]⟩, ty, pos, aft, gd⟩, ⟨Xg ops gd ++ [(x, .rs β o1 n1 c1), (y, .rs β o2 n2 c2)], some (d, ai m), [(β, .raw cs none)], [(β, .raw cs' none)], []⟩) :: l)
   ⟨S.n, (d, ai m) :: S.τ, (β, .raw cs' none) :: S.L⟩) :
  Walk P ops draw K (⟨some d, .call ⟨.builtin .copy, #[x, y], #[T, T2]⟩, ty, pos, aft, gd⟩ :: rest) l S :=
 Xep (d' := some (d, ai m)) hx hy hL hm hc h2 h1 hcs hT hd (.inr ⟨d, rfl⟩) hg h
theorem Xhm {x y : Operand} {yv : AVal} {T T2 : TypeId} {β o1 n1 c1 sz m : Nat} {ys : List (List D)} {cs cs' : List (Option D)} (hx : S.ev x = .rs β o1 n1 c1) (hL : S.obj β = .raw cs none) (hy : S.ev y = yv) (hsrc : SrcV P yv sz ys) (hm : m = min ys.length n1)
  (h1 : o1 + m * sz ≤ cs.length) (hcs : cs.take o1 ++ (ys.take m).flatten.map some ++ cs.drop (o1 + m * sz) = cs')
  (hT : Y8 P T sz = true) {d' : Option (Nat × AVal)} (hd : X0M S d') (hd' : d' = none ∨ ∃ t, d' = some (t, ai m)) (hg : Xj ops S gd)
  (h : Walk P ops draw K rest ((l.length, ⟨d'.map (·.1), .call ⟨.builtin .copy, #[x, y], #[T, T2]⟩, ty, pos, aft, gd⟩, ⟨Xg ops gd ++ [(x, .rs β o1 n1 c1), (y, yv)], d', [(β, .raw cs none)], [(β, .raw cs' none)], []⟩) :: l)
   ⟨S.n, d'.toList ++ S.τ, (β, .raw cs' none) :: S.L⟩) :
  Walk P ops draw K (⟨d'.map (·.1), .call ⟨.builtin .copy, #[x, y], #[T, T2]⟩, ty, pos, aft, gd⟩ :: rest) l S := by
 refine XO ⟨[(x, .rs β o1 n1 c1), (y, yv)], d', [(β, .raw cs none)], [(β, .raw cs' none)], []⟩ ?_ hg ⟨⟨hx, hy, trivial⟩, ⟨hL, trivial⟩, trivial, hd⟩ h
 intro E S a w g hs hok Q K hK
 obtain ⟨ok1, ⟨l1, _⟩, _, ok4⟩ := hok
 have hq := Vr hs _ ok1
 have hx' := Vs hq.1
 obtain ⟨news, n1', n2', n3', n4', n5'⟩ := hsrc.src E _ g w _ hs.1 hq.2.1 m (by omega)
 have hyl : ((ys.take m).flatten.map some).length = m * sz := by
  have := Y6 n3'
  rw [List.length_map] at this ⊢
  rw [← this, Array.length_toList, n2']
 have n3 : Xk g (((ys.take m).flatten.map some).map oA) news.toList := by rw [List.map_map]; exact n3'
 have hone : ∀ u ∈ news.toList, u.oneCell' = true := by
  refine X97 n3' ((X0U _).2 fun c hc => ?_)
  obtain ⟨y, _, rfl⟩ := List.mem_map.1 hc
  rfl
 obtain ⟨w', k1, k2⟩ := X4U (P := P) (o := o1) (ys := (ys.take m).flatten.map some) (news := news) hs.1 l1 n3 hone (by rw [hyl]; exact h1)
 rw [hyl, hcs] at k2
 have hrun := X6n (P := P) (T2 := T2) (ty := ty) (sz := sz) (m := m) (x := .slice (some ⟨g.blk β, o1, none⟩) n1 c1) (y := a.eval y) (news := news) (w := w) (w' := w') hT rfl n4' hm n1' (by
  simp only [Nat.zero_mul, Addr.add_zero']; exact k1)
 have hrun' : (execOp a.eval ⟨d'.map (·.1), .call ⟨.builtin .copy, #[x, y], #[T, T2]⟩, ty, pos, aft, gd⟩).run P w = .ok (.value (.int .i64 m)) w' := by
  simp [execOp, resolve, invoke, builtin, hx', hrun]
 unfold Oper.wp
 rw [hrun', Oper.upon_value]
 rcases hd' with rfl | ⟨t, rfl⟩
 ·exact hK _ _ ⟨g, k2, hs.2.1, hs.2.2.1, hs.2.2.2⟩
 ·exact hK _ _ (X00 k2 hs.2.1 hs.2.2.1 hs.2.2.2 (Ui rfl) ok4)
theorem Xc4 {x y : Operand} {yv : AVal} {T T2 : TypeId} {β o1 n1 c1 sz m : Nat} {ys : List (List D)} {cs cs' : List (Option D)} (hx : S.ev x = .rs β o1 n1 c1) (hL : S.obj β = .raw cs none) (hy : S.ev y = yv) (hsrc : SrcV P yv sz ys) (hm : m = min ys.length n1)
  (h1 : o1 + m * sz ≤ cs.length) (hcs : cs.take o1 ++ (ys.take m).flatten.map some ++ cs.drop (o1 + m * sz) = cs')
  (hT : Y8 P T sz = true) (hd : Nat.blt d S.n = true) (hg : Xj ops S gd)
  (h : Walk P ops draw K rest ((l.length, ⟨some d, .call ⟨.builtin .copy, #[x, y], #[T, T2]⟩, ty, pos, aft, gd⟩, ⟨Xg ops gd ++ [(x, .rs β o1 n1 c1), (y, yv)], some (d, ai m), [(β, .raw cs none)], [(β, .raw cs' none)], []⟩) :: l)
   ⟨S.n, (d, ai m) :: S.τ, (β, .raw cs' none) :: S.L⟩) :
  Walk P ops draw K (⟨some d, .call ⟨.builtin .copy, #[x, y], #[T, T2]⟩, ty, pos, aft, gd⟩ :: rest) l S :=
 Xhm (d' := some (d, ai m)) hx hL hy hsrc hm h1 hcs hT hd (.inr ⟨d, rfl⟩) hg h
theorem Xgs {w : World} {p : Addr} {n c sz : Nat} {vs : List Value} (hl : vs.length = n * sz) (h : ∀ w', w'.heap = w.heap → (loadCells p (n * sz)).run P w' = .ok vs.toArray w') : Src P w sz (.slice (some p) n c) n vs.toArray :=
 ⟨fun w' hw' => ⟨by simp [Builtin.lenOf], X6e (h w' hw')⟩, by simpa using hl⟩
theorem XfI {x y : Operand} {T T2 : TypeId} {β o1 n1 c1 o2 n2 c2 sz bytes n' : Nat} {cs cs' : List (Option D)} (hx : S.ev x = .rs β o1 n1 c1) (hy : S.ev y = .rs β o2 n2 c2) (hL : S.obj β = .raw cs none) (hroom : n1 + n2 ≤ c1) (hn' : n1 + n2 = n')
  (hc : Uw ((cs.drop o2).take (n2 * sz)) = true) (h2 : o2 + n2 * sz ≤ cs.length) (h1 : o1 + n1 * sz + n2 * sz ≤ cs.length) (hcs : cs.take (o1 + n1 * sz) ++ (cs.drop o2).take (n2 * sz) ++ cs.drop (o1 + n1 * sz + n2 * sz) = cs')
  (hB : elB P T = bytes) (hT : UE P T sz bytes = true) (hT2 : X0P P T2 = true) (hd : Nat.blt d S.n = true) (hg : Xj ops S gd)
  (h : Walk P ops draw K rest ((l.length, ⟨some d, .call ⟨.builtin .append, #[x, y], #[T, T2]⟩, ty, pos, aft, gd⟩, ⟨Xg ops gd ++ [(x, .rs β o1 n1 c1), (y, .rs β o2 n2 c2)], some (d, .rs β o1 n' c1), [(β, .raw cs none)], [(β, .raw cs' none)], []⟩) :: l)
   ((S.set d (.rs β o1 n' c1)).own β (.raw cs' none))) :
  Walk P ops draw K (⟨some d, .call ⟨.builtin .append, #[x, y], #[T, T2]⟩, ty, pos, aft, gd⟩ :: rest) l S := by
 refine XO ⟨[(x, .rs β o1 n1 c1), (y, .rs β o2 n2 c2)], some (d, .rs β o1 n' c1), [(β, .raw cs none)], [(β, .raw cs' none)], []⟩ (X0e rfl fun E S g a w hs hq hl hnw => ?_) hg ⟨⟨hx, hy, trivial⟩, ⟨hL, trivial⟩, trivial, hd⟩ h
 obtain ⟨e, i, z, hu, hi, hsz, hbt, hz, hzs, hz1⟩ := X2J hT
 have ho := hs.1.obj β
 rw [hl.1] at ho
 have hx' := Vs hq.1
 have hy' := Vs hq.2.1
 obtain ⟨vs, r1, r2, r3⟩ := X5p (P := P) (q := n2 * sz) ho h2
 have hyl : ((cs.drop o2).take (n2 * sz)).length = n2 * sz := by rw [List.length_take, List.length_drop]; omega
 obtain ⟨w', k1, k2⟩ := X4U (P := P) (o := o1 + n1 * sz) (ys := (cs.drop o2).take (n2 * sz)) (news := vs.toArray) hs.1 hl.1 r2 (X5u hc r2) (by rw [hyl]; exact h1)
 rw [hyl, hcs] at k2
 have hr := X6B (P := P) (w := w) (T := T) (T2 := T2) (ty := ty) (base := some ⟨g.blk β, o1, none⟩) (n := n1) (cap := c1) (x := .slice (some ⟨g.blk β, o2, none⟩) n2 c2) (news := vs.toArray) (m := n2) hu hi (XaE hT2) (by rw [hsz]; exact Xgs r1 r3) hroom
 simp only at hr
 rw [hsz, YQ, k1, Result.andThen_ok, hn'] at hr
 exact ⟨_, g, w', X3H rfl (by rw [hx', hy']; exact hr), by simp only [AVal.sat], k2, hs.2.2.2⟩
end
section
variable {P : Program}
variable {ops : Array Oper} {draw : Bool} {K : Xy → St → Prop} {rest : List Oper} {l : Xy} {S : St}
variable {d : Nat} {ty : TypeId} {pos : String} {aft : Array Edge} {gd : Option (Nat × Bool)}
theorem XdY {z : Array Value} (h : YV z.toList = true) (n : Nat) : ∀ u ∈ (Builtin.zeroCells z n).toList, u.oneCell' = true := by
 intro u hu
 unfold Builtin.zeroCells at hu
 rw [X3w] at hu
 unfold Yg at hu
 rw [List.mem_flatten] at hu
 obtain ⟨l, h1, h2⟩ := hu
 rw [List.mem_replicate] at h1
 rw [h1.2] at h2
 exact (Xav _).1 h u h2
theorem Xdu {x : Operand} {T : TypeId} {β o n c sz bytes : Nat} {cs cs' : List (Option D)} (hx : S.ev x = .rs β o n c) (hL : S.obj β = .raw cs none) (hn : 0 < n) (hb : o + n * sz ≤ cs.length)
  (hcs : cs.take o ++ List.replicate (n * sz) none ++ cs.drop (o + n * sz) = cs') (hB : elB P T = bytes) (hT : UE P T sz bytes = true) (hg : Xj ops S gd)
  (h : Walk P ops draw K rest ((l.length, ⟨none, .call ⟨.builtin .clear, #[x], #[T]⟩, ty, pos, aft, gd⟩, ⟨Xg ops gd ++ [(x, .rs β o n c)], none, [(β, .raw cs none)], [(β, .raw cs' none)], []⟩) :: l) (S.own β (.raw cs' none))) :
  Walk P ops draw K (⟨none, .call ⟨.builtin .clear, #[x], #[T]⟩, ty, pos, aft, gd⟩ :: rest) l S := by
 refine XO ⟨[(x, .rs β o n c)], none, [(β, .raw cs none)], [(β, .raw cs' none)], []⟩ ?_ hg ⟨⟨hx, trivial⟩, ⟨hL, trivial⟩, trivial, trivial⟩ h
 intro E S a w g hs hok Q K hK
 obtain ⟨ok1, ⟨l1, _⟩, _, ok4⟩ := hok
 have hq := Vr hs _ ok1
 obtain ⟨e, i, z, hu, hi, hsz, hbt, hz, hzs, hz1⟩ := X2J hT
 have hx' := Vs hq.1
 have hzl : (Builtin.zeroCells z.cells n).toList.length = n * sz := by rw [Array.length_toList, X30, hzs]
 obtain ⟨w', k1, k2⟩ := X4U (P := P) (o := o) (ys := List.replicate (n * sz) none) (news := Builtin.zeroCells z.cells n) hs.1 l1 (by have := X5Z (g := g) (Builtin.zeroCells z.cells n).toList; rw [hzl] at this; rw [List.map_replicate]; exact this) (XdY hz1 n) (by rw [List.length_replicate]; exact hb)
 rw [List.length_replicate, hcs] at k2
 obtain ⟨m, rfl⟩ : ∃ m, n = m + 1 := ⟨n - 1, by omega⟩
 have hrun : (Builtin.clear_ #[T] ty #[.slice (some ⟨g.blk β, o, none⟩) (m + 1) c]).run P w = .ok (.tuple #[]) w' := by
  simp [Builtin.clear_, run_underlying hu, zeroValue, typeInfo, hi, hz, k1]
 have hrun' : (execOp a.eval ⟨none, .call ⟨.builtin .clear, #[x], #[T]⟩, ty, pos, aft, gd⟩).run P w = .ok (.value (.tuple #[])) w' := by
  simp [execOp, resolve, invoke, builtin, hx', hrun]
 unfold Oper.wp
 rw [hrun', Oper.upon_value]
 exact hK _ _ ⟨g, k2, hs.2.1, hs.2.2.1, hs.2.2.2⟩
theorem Xdw (w : World) (ps rs : Array TypeId) (tS e : TypeId) (hp : ps[0]? = some tS) (ht : P.underlying tS = some (.slice e)) (size : Nat) (hz : ∀ w, (Go.sizeOf e).run P w = .ok size w)
  (a b : Addr) (la ca lb cb : Nat) (hne : a.block ≠ b.block) (tA tB : TypeId) (kA kB : Nat)
  (hsa : w.shape? a.block = some (tA, kA)) (hsb : w.shape? b.block = some (tB, kB)) (hkB : kB ≠ 0) (hkA : kA ≠ 0)
  (hfb : w.frozen? b = false) (hfe : w.frozen? { block := b.block, off := kB } = false) :
  (Extern.SlicesOverlaps.overlaps ps rs #[.slice (some a) la ca, .slice (some b) lb cb]).run P w = .ok (.bool false) w := by
 have hnb : (a.block != b.block) = true := by simpa using hne
 have hnb' : (a.block == b.block) = false := by simpa using hne
 change Sem.run P (α := Value) (do
  let some t := ps[0]? | stuck "slices.overlaps: no parameter types"
  let .slice elem ← underlying t | stuck "slices.overlaps: slice type expected"
  let size ← sizeOf elem
  match (some a : Option Addr), (some b : Option Addr) with
  | some a, some b =>
   if la = 0 ∨ lb = 0 ∨ size = 0 then pure (Value.bool false)
   else if a.block != b.block && (← frozen a) && (← frozen b) then unsupported .addressObserved
   else do
    if a.block != b.block then do
     noView a; noView b
     if ← mayBeOne a b then return Value.bool ((← choose (.extern "sameAddr.stringBytes" 2)) == 1)
    pure (Value.bool (a.block == b.block && a.off < b.off + lb * size && b.off < a.off + la * size))
  | _, _ => pure (Value.bool false)) w = _
 rw [hp]
 by_cases h0 : la = 0 ∨ lb = 0 ∨ size = 0
 ·simp [run_underlying ht, hz, h0]
 ·cases kB with
  | zero => exact absurd rfl hkB
  | succ kB =>
   cases kA with
   | zero => exact absurd rfl hkA
   | succ kA =>
   cases hA : w.frozen? a <;> cases hA2 : w.frozen? { block := a.block, off := kA + 1 } <;>
    simp [run_underlying ht, hz, h0, hnb, hnb', frozen, noView, viewAt, mayBeOne, stringish, shape, Sem.run, hsa, hsb, hfb, hfe, hA, hA2]
theorem X9X {w : World} {b : Nat} {vs : Array Value} {e : TypeId} {fr : Nat × Nat} (h : w.heap[b]? = some (.cells vs e fr)) : w.shape? b = some (e, vs.size) := by
 simp [World.shape?, h]
theorem Xgx {f : FuncId} {tys ps rs : Array TypeId} {T : TypeId} {x y : Operand} {β o n c sz : Nat} {cs : List (Option D)} {ys : List (List D)} {fn : Func} (hx : S.ev x = .d (.sl sz ys)) (hy : S.ev y = .rs β o n c) (hL : S.obj β = .raw cs none) (hys : ys ≠ []) (hsz : 0 < sz) (ho : o ≤ cs.length) (hcs : cs ≠ [])
  (hf : P.funcs[f]? = some fn) (h1 : (fn.name == "runtime.NumGoroutine") = false) (h2 : fn.body.isNone = true) (h3 : Extern.findNext fn = none) (h4 : Extern.find fn = some (Extern.SlicesOverlaps.overlaps ps rs)) (hp : ps[0]? = some T) (hT : Y8 P T sz = true)
  (hd : Nat.blt d S.n = true) (hg : Xj ops S gd)
  (h : Walk P ops draw K rest ((l.length, ⟨some d, .call ⟨.value (.func f), #[x, y], tys⟩, ty, pos, aft, gd⟩, ⟨Xg ops gd ++ [(x, .d (.sl sz ys)), (y, .rs β o n c)], some (d, ab false), [(β, .raw cs none)], [], []⟩) :: l) (S.set d (ab false))) :
  Walk P ops draw K (⟨some d, .call ⟨.value (.func f), #[x, y], tys⟩, ty, pos, aft, gd⟩ :: rest) l S :=
 XO ⟨[(x, .d (.sl sz ys)), (y, .rs β o n c)], some (d, ab false), [(β, .raw cs none)], [], []⟩ (Y2 rfl fun E S g a w hs hq hl => by
  obtain ⟨e, q1, q2, q3⟩ := VX hT
  have hy' := Vs hq.2.1
  have hob := hs.1.obj β
  rw [hl.1] at hob
  obtain ⟨vs, eb, fr, b1, b2, b3⟩ := hob
  have hvl : vs.size = cs.length := by have := Y6 b3; simpa [XA] using this
  have hcl : 0 < cs.length := List.length_pos_iff.2 hcs
  have hxs := hq.1
  simp only [AVal.sat, D.rep] at hxs
  obtain ⟨ad, cap, e1, e2, e3, e4⟩ := hxs
  rcases e4 with e4 | ⟨b0, o0, rfl, hr⟩
  ·exact absurd e4 hys
  obtain ⟨y0, hy0⟩ : ∃ y0, ys[0]? = some y0 := ⟨_, List.getElem?_eq_getElem (List.length_pos_iff.2 hys)⟩
  obtain ⟨r1, r2⟩ := X1f ys b0 o0 0 y0 hr hy0
  obtain ⟨d0, hd0⟩ : ∃ d0, y0[0]? = some d0 := ⟨_, List.getElem?_eq_getElem (by omega)⟩
  obtain ⟨u, hu, _⟩ := X2d y0 b0 _ 0 d0 r2 hd0
  have hne : b0 ≠ g.blk β := hs.1.sep β (g.blk β) (by rw [hl.1]; rfl) _ _ hu
  have hcell := hs.1.mem _ _ hu
  have hsa : ∃ tA kA, w.shape? b0 = some (tA, kA) ∧ kA ≠ 0 := by
   simp only [World.cell?] at hcell
   cases hh : w.heap[b0]? with
   | none => rw [hh] at hcell; simp at hcell
   | some ob =>
    rw [hh] at hcell
    cases ob with
    | cells cc ee ff =>
     refine ⟨ee, cc.size, X9X hh, fun e0 => ?_⟩
     simp [Array.getElem?_eq_none (xs := cc) (Nat.le_trans (Nat.le_of_eq e0) (Nat.zero_le _))] at hcell
    | _ => simp at hcell
  obtain ⟨tA, kA, hsa, hkA⟩ := hsa
  have hfr : ∀ i, i < vs.size + 1 → w.frozen? ⟨g.blk β, i, none⟩ = false := by
   intro i hi
   have := b2 i hi
   simp only [World.frozen?, b1]
   simpa using this
  have hrun := Xdw (P := P) w ps rs T e hp q1 sz q2 ⟨b0, o0, none⟩ ⟨g.blk β, o, none⟩ ys.length cap n c hne tA eb kA vs.size hsa (X9X b1) (by omega) hkA (hfr o (by omega)) (hfr vs.size (by omega))
  refine ⟨.bool false, ?_, Ui rfl⟩
  have e5 := run_callFunc_extern hf h1 h2 h3 h4 #[a.eval x, a.eval y] w
  rw [e1, hy', hrun, Result.andThen_ok, ← e1, ← hy'] at e5
  have ef : a.eval (.func f) = .func (.func f) #[] #[] := rfl
  generalize hE : a.eval = ev at *
  simp [execOp, resolve, invoke, Deferred.ofValue, ef, e5]) hg ⟨⟨hx, hy, trivial⟩, ⟨hL, trivial⟩, trivial, hd⟩ h
end
def NC.toD : NC → D
 | .d x => x
 | .r z rows => .sl z rows
theorem X7d : ∀ (cs : List NC) (ds : List D) (hs : List Hd), U2 cs ds hs → ∀ (i : Nat) (c : NC), cs[i]? = some c → ∃ y, ds[i]? = some y ∧ ((∃ x, c = .d x ∧ y = x) ∨ ∃ z rows, c = .r z rows ∧ ∃ h ∈ hs, y = .v h.1 ∧ h.2 = (z, rows))
 | [], _, _, _, _, _, h => by simp at h
 | .d x :: cs, [], hs, h, _, _, _ => by simp [U2] at h
 | .r z rows :: cs, [], hs, h, _, _, _ => by simp [U2] at h
 | .r z rows :: cs, _ :: _, [], h, _, _, _ => by simp [U2] at h
 | .d x :: cs, y :: ds, hs, h, 0, c, hc => by
  simp only [List.getElem?_cons_zero, Option.some.injEq] at hc ⊢
  subst hc
  exact ⟨y, rfl, .inl ⟨x, rfl, h.1⟩⟩
 | .r z rows :: cs, y :: ds, k :: hs, h, 0, c, hc => by
  simp only [List.getElem?_cons_zero, Option.some.injEq] at hc ⊢
  subst hc
  exact ⟨y, rfl, .inr ⟨z, rows, rfl, k, by simp, h.1, h.2.1⟩⟩
 | .d x :: cs, y :: ds, hs, h, i + 1, c, hc => by
  simp only [List.getElem?_cons_succ] at hc ⊢
  exact X7d cs ds hs h.2 i c hc
 | .r z rows :: cs, y :: ds, k :: hs, h, i + 1, c, hc => by
  simp only [List.getElem?_cons_succ] at hc ⊢
  obtain ⟨y', h1, h2⟩ := X7d cs ds hs h.2.2 i c hc
  refine ⟨y', h1, h2.imp id ?_⟩
  rintro ⟨z', rows', e, q, hq, h3⟩
  exact ⟨z', rows', e, q, List.mem_cons_of_mem _ hq, h3⟩
theorem X9e {α β : Type} (f : α → β) : ∀ xs : List (List α), (xs.map fun x => x.map f).flatten = xs.flatten.map f
 | [] => rfl
 | r :: rs => by rw [List.map_cons, List.flatten_cons, List.flatten_cons, List.map_append, X9e f rs]
theorem XaS {S : St} (γ : Nat) {sz : Nat} {xs : List (List NC)} (hL : S.obj γ = .nest sz xs) (hsz : ∀ x ∈ xs, x.length = sz) : S.le (S.own γ (.froz sz (xs.map fun x => x.map NC.toD))) := by
 rintro E a w ⟨g, hs⟩
 have ho := hs.1.obj γ
 rw [hL] at ho
 have hle : XQ g.M (YU g w (S.obj γ) γ) := by
  intro a v h
  unfold YU
  rw [if_neg (fun hc => hs.1.sep γ _ hc.2 a v h rfl)]; exact h
 have hcell : ∀ b o, Xr g (S.obj γ) γ b → YU g w (S.obj γ) γ ⟨b, o, none⟩ = w.cell? ⟨b, o, none⟩ := by
  intro b o hb
  unfold YU
  rw [if_pos ⟨rfl, hb⟩]
 have hrep : (D.sl sz (xs.map fun x => x.map NC.toD)).rep (YU g w (S.obj γ) γ) (g.hd γ) := by
  obtain ⟨⟨rows, h1, h2, h3⟩, h4, h5⟩ := ho
  simp only [D.rep, List.length_map]
  rcases h3.2 with ⟨e, rfl⟩ | ⟨b, cap, vs, e, fr, k1, k2, k3, k4, k5, k6, k7⟩
  ·have hx : xs = [] := List.eq_nil_of_length_eq_zero h1.symm
   subst hx
   exact ⟨none, 0, e, Nat.le_refl _, Nat.zero_le _, .inl rfl⟩
  ·refine ⟨_, cap, by rw [k1, h1], by omega, k3, .inr ⟨b, 0, rfl, X2t _ 0 (fun r hr => ?_) fun i d hd => ?_⟩⟩
   ·obtain ⟨x, hx, rfl⟩ := List.mem_map.1 hr
    show (List.map NC.toD x).length = sz
    rw [List.length_map]; exact hsz x hx
   have hfl : (xs.map fun x => x.map NC.toD).flatten = xs.flatten.map NC.toD := X9e _ xs
   rw [hfl, List.getElem?_map, Option.map_eq_some_iff] at hd
   obtain ⟨c, hc, rfl⟩ := hd
   obtain ⟨y, hy, hyc⟩ := X7d _ _ _ h2 i c hc
   obtain ⟨_, hrr⟩ := X1G k7
   obtain ⟨u, hu, hsu⟩ := hrr i y hy
   refine ⟨u, ?_, ?_⟩
   ·rw [hcell b _ (by rw [hL]; exact .inl ⟨_, _, _, k1, rfl⟩), cell_of_row w _ _ vs e fr k4, Nat.zero_add]
    rw [List.getElem?_take] at hu
    split at hu
    ·simpa using hu
    ·simp at hu
   ·rcases hyc with ⟨x, rfl, rfl⟩ | ⟨z, rws, rfl, h, hh, rfl, e2⟩
    ·exact D.rep_mono hle _ _ hsu
    ·simp only [D.rep] at hsu
     have hr := h4.1 h hh
     rw [e2] at hr
     rw [hsu.1]
     exact Xbe hr hle (fun b' o hb' => hcell b' o (by rw [hL]; exact .inr ⟨h, hh, hb'⟩))
 obtain ⟨_, hi⟩ := Xcz hs.1 hrep
 exact X1d hs hi rfl fun t => X1N (g := g) (g' := { g with M := YU g w (S.obj γ) γ }) hle rfl rfl rfl (hs.2.2.2 t)
def X1H (ρ : Nat → Nat) : List (Nat × AVal) → List (Nat × AVal)
 | [] => []
 | (t, x) :: r => (t, x.ren ρ) :: X1H ρ r
theorem X5C (ρ : Nat → Nat) : ∀ (τ : List (Nat × AVal)) (t : Nat), Xa .any (X1H ρ τ) t = (Xa .any τ t).ren ρ
 | [], _ => rfl
 | (k, x) :: r, t => by
  simp only [X1H]
  by_cases h : k = t
  ·subst h; rw [XT, XT]
  ·rw [XK _ _ _ h, XK _ _ _ h, X5C ρ r t]
theorem X6x {a b k : Nat} (ha : 100 ≤ a) (hb : 100 ≤ b) (hk : k < 100) : swp a b k = k := by
 unfold swp
 have h1 : Nat.beq k a = false := by cases h : Nat.beq k a with | false => rfl | true => have := Nat.eq_of_beq_eq_true h; omega
 have h2 : Nat.beq k b = false := by cases h : Nat.beq k b with | false => rfl | true => have := Nat.eq_of_beq_eq_true h; omega
 rw [h1, h2]; rfl
theorem X9b {S : St} (a b : Nat) (ha : 100 ≤ a) (hb : 100 ≤ b) : S.le ⟨S.n, X1H (swp a b) S.τ, Ut (swp a b) S.L⟩ := by
 rintro E act w ⟨g, hs⟩
 have hpp : (g.pull (swp a b)).pull (swp a b) = g := by simp only [Gh.pull, X0T]
 have hi : Inv { E with g0 := (g.pull (swp a b)).pull (swp a b) } (Xa .dead S.L) ((g.pull (swp a b)).pull (swp a b)) w := by
  rw [hpp]
  exact hs.1.free fun _ _ => Gh.keeps_refl _ _
 have hi2 := (X3S (E := E) (g0 := g) (X0T a b) (X0T a b)).2 hi
 refine ⟨g.pull (swp a b), ?_, hs.2.1, hs.2.2.1, fun t => ?_⟩
 ·refine (show Inv E (Xa .dead (Ut (swp a b) S.L)) (g.pull (swp a b)) w from ?_)
  have := hi2.free (g0 := E.g0) fun γ hγ => (hs.1.kp γ hγ).trans' (Gh.keeps_of (by simp only [Gh.pull, X6x ha hb hγ]) (by simp only [Gh.pull, X6x ha hb hγ]) (by simp only [Gh.pull, X6x ha hb hγ]))
  exact this
 ·show AVal.sat _ (Xa .any (X1H (swp a b) S.τ) t) _
  rw [X5C, X3R, hpp]
  exact hs.2.2.2 t
theorem Xgl {P : Program} {f : FuncId} {sz : Nat} {xs : List (List D)} {pre post : List AVal} {res : AVal} (γ : Nat) (hcon : Con P f [] (pre ++ .d (.sl sz xs) :: post) [] res) (hres : ∀ g g' v, res.sat g v → res.sat g' v) :
  Con P f [(γ, .row sz xs)] (pre ++ .own γ xs.length :: post) [(γ, .row sz xs)] res := by
 intro g w vs hi hs
 have eγ : Xa .dead [(γ, AObj.row sz xs)] γ = .row sz xs := XT _ _ _ _
 have ho := hi.obj γ
 rw [eγ] at ho
 have hrow : Yp g w (g.hd γ) sz xs := ho
 have hlv : ∀ b, Xr g (.row sz xs) γ b → Xr g (Xa .dead [(γ, AObj.row sz xs)] γ) γ b := fun b h => by rw [eγ]; exact h
 let M1 := YU g w (.row sz xs) γ
 let g1 : Gh := { g with M := M1 }
 have hle : XQ g.M M1 := by
  intro a v h
  show YU _ _ _ _ a = _
  unfold YU
  rw [if_neg (fun hc => hi.sep γ _ (hlv _ hc.2) a v h rfl)]; exact h
 have hcell : ∀ b o, Ym (g.hd γ) b → M1 ⟨b, o, none⟩ = w.cell? ⟨b, o, none⟩ := by
  intro b o hb
  show YU _ _ _ _ _ = _
  unfold YU
  rw [if_pos ⟨rfl, hb⟩]
 have hM1 : ∀ a v, M1 a = some v → w.cell? a = some v := by
  intro a v h
  replace h : YU _ _ _ _ a = some v := h
  unfold YU at h
  split at h
  ·exact h
  ·exact hi.mem a v h
 have hrep := Xbe hrow hle hcell
 have hi1 : Inv (YL g1 w []) (Xa .dead []) g1 w := ⟨fun _ => trivial, fun _ _ _ h => h.elim, hM1, fun _ _ h => h.elim, fun _ _ h => h.elim, XQ.refl _, fun a v h => .inl ⟨v, h⟩, fun _ _ _ => rfl, Nat.le_refl _, rfl, rfl, fun _ _ => Gh.keeps_refl _ _⟩
 have hs1 : Xk g1 (pre ++ .d (.sl sz xs) :: post) vs := by
  have h1 : Xk g1 (pre ++ .own γ xs.length :: post) vs := Vo (g := g) (g' := g1) hle _ _ (fun k _ => Gh.keeps_of rfl rfl rfl) hs
  have h2 := X4G (j := pre.length) (x := .d (.sl sz xs)) h1 (fun u hu => by
   obtain ⟨u', q1, q2⟩ := YG hs pre.length (.own γ xs.length) (by simp)
   rw [hu] at q1; cases q1
   have := X0J q2 (w := w) (show Y7 g w γ (.row sz xs) from hrow) rfl
   simp only [AVal.sat]
   rw [this]; exact hrep)
  have e : (pre ++ .own γ xs.length :: post).set pre.length (.d (.sl sz xs)) = pre ++ .d (.sl sz xs) :: post := by simp
  rwa [e] at h2
 refine (hcon g1 w vs hi1 hs1).mono ?_
 rintro e w' ⟨v, g', rfl, hv, hi', _⟩
 have hfr : ∀ b, b < w.heap.size → w'.heap[b]? = w.heap[b]? := fun b hb => hi'.frame b hb (by
  rintro ⟨k, hk⟩; exact hk)
 refine ⟨v, g, rfl, hres _ _ _ hv, ⟨fun k => ?_, hi.inj, fun a v h => ?_, hi.sep, hi.new, XQ.refl _, fun a v h => .inl ⟨v, h⟩, fun b hb _ => hfr b hb, hi'.size, hi'.os, hi'.out, fun _ _ => Gh.keeps_refl _ _⟩, fun _ _ => Gh.keeps_refl _ _⟩
 ·exact X2f (XQ.refl _) rfl rfl rfl (fun b hb => hfr b (X0d hi hb)) (fun _ _ _ h => h) (hi.obj k)
 ·have hc := hi.mem a v h
  have := hfr a.block (block_lt_of_cell hc)
  simp only [World.cell?] at hc ⊢
  rw [this]; exact hc
theorem X33 {S : St} (t γ γ2 : Nat) {sz n : Nat} {xs : List (List D)} (hL : S.obj γ = .row sz xs) (ht : S.get t = .own γ n) (hn : n = xs.length) (hdead : S.obj γ2 = .dead) (hf : S.free γ2 = true) :
  S.le ⟨S.n, (t, .own γ2 n) :: S.τ, (γ, .dead) :: (γ2, .row sz xs) :: S.L⟩ := by
 rintro E a w ⟨g, hs⟩
 have hne : γ ≠ γ2 := by rintro rfl; rw [hL] at hdead; cases hdead
 have ho := hs.1.obj γ
 rw [hL] at ho
 have hrow : Yp g w (g.hd γ) sz xs := ho
 obtain ⟨ua, uc, hu⟩ := X7H hrow
 have hhd : (g.put γ2 0 (g.hd γ)).hd γ2 = g.hd γ := by simp [Gh.put]
 have e1 : Xa .dead ((γ, AObj.dead) :: (γ2, .row sz xs) :: S.L) γ = .dead := XT _ _ _ _
 have e2 : Xa .dead ((γ, AObj.dead) :: (γ2, .row sz xs) :: S.L) γ2 = .row sz xs := by rw [XK _ _ _ hne, XT]
 have hsl := X2V (S := S) (g := g) (g' := g.put γ2 0 (g.hd γ)) (a := a) rfl (fun k => k = γ2) (fun k e => .inl (e ▸ hf)) (fun k hk => Yl hk) hs.2.2.2
 refine ⟨g.put γ2 0 (g.hd γ), Inv.part hs.1 (fun k => k = γ ∨ k = γ2) rfl (fun k hk => ?_) (fun k cs us _ e h => X3l (S := S) (g := g) (g' := g.put γ2 0 (g.hd γ)) rfl (fun k => k = γ2) (fun k e => .inl (e ▸ hf)) (fun k hk => Yl hk) e h) (fun k hk => ?_) (fun k b hk hb => ?_) (fun k k' b hk hk' hb hb' => ?_) (fun k hk h100 => ?_), hs.2.1, hs.2.2.1, fun t' => ?_⟩
 ·obtain ⟨k1, k2⟩ := not_or.1 hk
  exact ⟨by show Xa _ _ _ = _; rw [XK _ _ _ (Ne.symm k1), XK _ _ _ (Ne.symm k2)]; rfl, Yl k2⟩
 ·show Y7 _ _ _ (Xa _ _ _)
  rcases hk with rfl | rfl
  ·rw [e1]; trivial
  ·rw [e2]
   show Yp _ _ ((g.put k 0 (g.hd γ)).hd k) _ _
   rw [hhd]; exact X1m (g := g) (g' := g.put k 0 (g.hd γ)) (XQ.refl _) (fun _ _ => rfl) hrow
 ·replace hb : Xr _ (Xa _ _ _) k b := hb
  rcases hk with rfl | rfl
  ·rw [e1] at hb; exact hb.elim
  ·rw [e2] at hb
   replace hb : Ym ((g.put k 0 (g.hd γ)).hd k) b := hb
   rw [hhd] at hb
   exact ⟨γ, .inl rfl, by rw [hL]; exact hb⟩
 ·replace hb : Xr _ (Xa _ _ _) k b := hb
  replace hb' : Xr _ (Xa _ _ _) k' b := hb'
  rcases hk with rfl | rfl
  ·rw [e1] at hb; exact hb.elim
  ·rcases hk' with rfl | rfl
   ·rw [e1] at hb'; exact hb'.elim
   ·rfl
 ·rcases hk with rfl | rfl
  ·exact Gh.keeps_of (Yl hne).1 (Yl hne).2.1 (Yl hne).2.2
  ·have := X3V hf; omega
 ·by_cases htt : t' = t
  ·subst htt
   show AVal.sat _ (Xa .any ((t', _) :: S.τ) t') _
   rw [XT]
   have hv := hs.2.2.2 t'
   rw [ht] at hv
   have := X0J hv (w := w) (show Y7 g w γ (.row sz xs) from hrow) hn
   simp only [AVal.sat]
   rw [this, hhd, hu]
   exact ⟨rfl, ua, xs.length, uc, rfl, by omega, fun _ => rfl⟩
  ·show AVal.sat _ (Xa .any ((t, _) :: S.τ) t') _
   rw [XK _ _ _ (Ne.symm htt)]
   exact hsl t'
end Go.Fw

/- Branches on a negated test. -/
import Derived.Defers
import Derived.WalkKit
import Derived.ProofKit
import Derived.ChangeSame
import Derived.OpenShut
import Derived.Deep.Slices
import Derived.Deep.Strs
import Derived.Test.YtonekjkmnhfjmaaGreatDoorK09
namespace Go.Fw
open Go
set_option linter.unusedVariables false
section
variable {P : Program} {E : Env} {S : St} {Q : Exit → St → Prop}
theorem XO {c : Operand} {x y : Code} {b : Bool} (hc : S.ev c = ab (!b)) (ht : b = false → AWP P E x S Q) (hf : b = true → AWP P E y S Q) : AWP P E (.cond c x y) S Q :=
 X3o hc (fun h => ht (by simpa using h)) (fun h => hf (by simpa using h))
end
section
variable {P : Program} {ops : Array Oper} {draw : Bool} {K : XA → St → Prop} {rest : List Oper} {l : XA} {S : St}
theorem Y4 {o : Oper} {j : Nat} {b x : Bool} (hg : o.guard = some (j, b)) (hx : S.get (X09 ops j) = ab (!x)) (ht : x = true → Walk P ops draw K (o :: rest) l S) (hf : x = false → Walk P ops draw K (o :: rest) l S) : Walk P ops draw K (o :: rest) l S := by
 cases x
 ·exact hf rfl
 ·exact ht rfl
end
section
variable {P : Program} {t : TypeId} {x y : Operand} {a b : List UInt8}
theorem Xgv (w : World) : (do eqGuard .lss t x y (.string (X5 a)) (.string (X5 b)); binOp .lss t (.string (X5 a)) (.string (X5 b)) : Sem Value).run P w = .ok (.bool (Op.bytesLess a b)) w := by
 simp [go_sem, binOp, Op.stringOp, X0q]
theorem XgS (w : World) : (do eqGuard .gtr t x y (.string (X5 a)) (.string (X5 b)); binOp .gtr t (.string (X5 a)) (.string (X5 b)) : Sem Value).run P w = .ok (.bool (!(Op.bytesLess a b || decide (a = b)))) w := by
 simp [go_sem, binOp, Op.stringOp, X0q]; rw [show (a == b) = decide (a = b) from Bool.beq_eq_decide_eq a b]
theorem Xc9 (w : World) : (do eqGuard .leq t x y (.string (X5 a)) (.string (X5 b)); binOp .leq t (.string (X5 a)) (.string (X5 b)) : Sem Value).run P w = .ok (.bool (Op.bytesLess a b || decide (a = b))) w := by
 simp [go_sem, binOp, Op.stringOp, X0q]; rw [show (a == b) = decide (a = b) from Bool.beq_eq_decide_eq a b]
end
theorem X43 : ∀ s : List UInt8, Op.bytesLess s s = false
 | [] => by simp [Op.bytesLess]
 | b :: s => by simp [Op.bytesLess, X43 s]
theorem X8y : ∀ s t : List UInt8, Op.bytesLess s t = true → Op.bytesLess t s = false
 | [], [], h => by simp [Op.bytesLess]
 | [], b :: t, h => by simp [Op.bytesLess]
 | a :: s, [], h => by simp [Op.bytesLess] at h
 | a :: s, b :: t, h => by
  simp only [Op.bytesLess, Bool.or_eq_true, decide_eq_true_eq, Bool.and_eq_true, beq_iff_eq, Bool.or_eq_false_iff, decide_eq_false_iff_not, Bool.and_eq_false_iff] at h ⊢
  rcases h with h | ⟨rfl, h⟩
  ·refine ⟨fun h' => ?_, .inl ?_⟩
   ·exact absurd (UInt8.lt_trans h h') (UInt8.lt_irrefl _)
   ·simp only [beq_eq_false_iff_ne, ne_eq]
    rintro rfl
    exact absurd h (UInt8.lt_irrefl _)
  ·exact ⟨UInt8.lt_irrefl _, .inr (X8y s t h)⟩
theorem X6j : ∀ s t : List UInt8, Op.bytesLess s t = false → Op.bytesLess t s = false → s = t
 | [], [], _, _ => rfl
 | [], b :: t, h, _ => by simp [Op.bytesLess] at h
 | a :: s, [], _, h => by simp [Op.bytesLess] at h
 | a :: s, b :: t, h, h' => by
  simp only [Op.bytesLess, Bool.or_eq_false_iff, decide_eq_false_iff_not, Bool.and_eq_false_iff, beq_eq_false_iff_ne] at h h'
  have e : a = b := by
   rcases UInt8.lt_or_lt_of_ne (a := a) (b := b) with h1
   by_cases e : a = b
   ·exact e
   ·rcases h1 e with h1 | h1
    ·exact absurd h1 h.1
    ·exact absurd h1 h'.1
  subst e
  have h2 := h.2.resolve_left (by simp)
  have h3 := h'.2.resolve_left (by simp)
  rw [X6j s t h2 h3]
set_option linter.unusedSimpArgs false
def X4X (P : Program) (t : TypeId) : Bool := match P.underlying t with | some (.interface _) => false | some _ => true | none => false
theorem Xhu {P : Program} {t : TypeId} (h : X4X P t = true) (v : Value) (w : World) : (Instr.makeInterface t v).run P w = .ok (.iface t v) w := by
 unfold X4X at h
 cases hu : P.underlying t with
 | none => simp [hu] at h
 | some d =>
  unfold Instr.makeInterface
  rw [Sem.run_bind, run_underlying hu w]
  cases d <;> simp_all
section
variable {P : Program} {ops : Array Oper} {draw : Bool} {K : XA → St → Prop} {rest : List Oper} {l : XA} {S : St}
variable {d : Nat} {ty : TypeId} {pos : String} {aft : Array Edge} {gd : Option (Nat × Bool)}
theorem XhP {t : TypeId} {x : Operand} {u : Value} (hx : S.ev x = .d (.v u)) (ht : X4X P t = true) (hd : Nat.blt d S.n = true) (hg : Xh ops S gd)
  (h : Walk P ops draw K rest ((l.length, ⟨some d, .makeInterface t x, ty, pos, aft, gd⟩, ⟨Xe ops gd ++ [(x, .d (.v u))], some (d, .d (.v (.iface t u))), [], [], []⟩) :: l) (S.set d (.d (.v (.iface t u))))) :
  Walk P ops draw K (⟨some d, .makeInterface t x, ty, pos, aft, gd⟩ :: rest) l S :=
 XH ⟨[(x, .d (.v u))], some (d, .d (.v (.iface t u))), [], [], []⟩ (Y2 rfl fun E S g a w hs hq _ => by
  refine ⟨.iface t u, ?_, Us rfl⟩
  simp only [execOp, Yj hq.1, Sem.run_bind, Xhu ht]; rfl) hg ⟨⟨hx, trivial⟩, trivial, trivial, hd⟩ h
end
theorem X9S {g g' : Gh} : ∀ {xs us : List Value}, Xi g (xs.map fun x => .d (.v x)) us → Xi g' (xs.map fun x => .d (.v x)) us
 | [], [], _ => by simp only [List.map_nil, Xi]
 | [], _ :: _, h => by simp only [List.map_nil, Xi] at h
 | _ :: _, [], h => by simp only [List.map_cons, Xi] at h
 | x :: xs, u :: us, h => by
  simp only [List.map_cons, Xi, AVal.sat, D.rep] at h ⊢
  exact ⟨h.1, X9S h.2⟩
theorem Xda (xs : List Value) (g g' : Gh) (v : Value) (h : (AVal.tup (xs.map fun x => .d (.v x))).sat g v) : (AVal.tup (xs.map fun x => .d (.v x))).sat g' v := by
 simp only [AVal.sat] at h ⊢
 obtain ⟨vs, h1, h2⟩ := h
 exact ⟨vs, h1, X9S h2⟩
theorem X0R {P : Program} {f : FuncId} {sz : Nat} {xs : List (List D)} {post : List AVal} {a b : Value} (γ : Nat) (hcon : Con P f [] (.d (.sl sz xs) :: post) [] (.tup [.d (.v a), .d (.v b)])) :
  Con P f [(γ, .row sz xs)] (.own γ xs.length :: post) [(γ, .row sz xs)] (.tup [.d (.v a), .d (.v b)]) :=
 XgX (pre := []) γ hcon (Xda [a, b])
structure AW (P : Program) (E : Env) (c : Code) (S : St) (R : Exit → Act → World → Prop) : Prop where
 run : ∀ a w, holds E S a w → c.wp P R a w
section
variable {P : Program} {E : Env} {S : St} {R : Exit → Act → World → Prop}
theorem X4c {c : Code} (h : AWP P E c S (fun e T => ∀ a w, holds E T a w → R e a w)) : AW P E c S R :=
 ⟨fun a w hs => wp_mono (h.run a w hs) fun e a' w' ⟨T, h1, h2⟩ => h1 a' w' h2⟩
theorem X0O {x y : Code} (h : AWP P E x S (X0j (fun T => AW P E y T R) (fun e T => ∀ a w, holds E T a w → R e a w))) : AW P E (.seq x y) S R := by
 refine ⟨fun a w hs => wp_seq (wp_mono (h.run a w hs) ?_)⟩
 rintro e a' w' ⟨T, hq, ht⟩
 cases e <;> first | exact hq.run a' w' ht | exact hq a' w' ht
theorem X4l {c : Code} {T : St} (h : S.le T) (k : AW P E c T R) : AW P E c S R := ⟨fun a w hs => k.run a w (h E a w hs)⟩
end
def X2m (E : Env) (Li Lo : List (Nat × AObj)) (xs : List AVal) : Ending → World → Prop := fun e w' =>
 ∃ v g', e = .returned v ∧ (X1o xs).sat g' v ∧ Inv { E with g0 := g' } (Xb .dead Lo) g' w' ∧ ∀ γ, Xp γ Li = true → E.g0.keeps g' γ
theorem X3h {P : Program} {f : FuncId} {fn : Func} {c : Code} {n : Nat} {Li Lo : List (Nat × AObj)} {args xs : List AVal} (hf : P.funcs[f]? = some fn) (hb : fn.body = some c) (hn : fn.ntmps = n)
  (hle : Nat.ble args.length n = true) (h : ∀ E, E.ds = [] → AW P E c (VU n args Li) (bodyPostD P fn (X2m E Li Lo xs))) : Con P f Li args Lo (X1o xs) := by
 intro g w vs hi hs
 have hl := Y9 hs
 refine calls_of_wp_defers hf hb ?_
 have hstart : holds (YT g w Li) (VU n args Li) { tmps := vs.toArray ++ Array.replicate (fn.ntmps - vs.toArray.size) undef, defers := [] } w := by
  refine ⟨g, hi, rfl, ?_, fun t => ?_⟩
  ·have : args.length ≤ n := by simpa using hle
   simp [VU, hn, hl]; omega
  ·show AVal.sat g (Xb _ _ _) _
   simp only [VU]
   rw [X3W]
   simp only [Nat.zero_le, if_true, Nat.sub_zero]
   cases hx : args[t]? with
   | none => simp [AVal.sat]
   | some x =>
    obtain ⟨u, hu, hsu⟩ := U2 hs t x hx
    have hlt : t < vs.length := (List.getElem?_eq_some_iff.1 hu).1
    have : (vs.toArray ++ Array.replicate (fn.ntmps - vs.toArray.size) undef).getD t undef = u := by
     rw [Array.getD_eq_getD_getElem?, Array.getElem?_append_left (by simpa using hlt)]
     simp [hu]
    rw [this]; exact hsu
 exact (h (YT g w Li) rfl).run _ w hstart
section
variable {P : Program} {E : Env} {fn : Func} {rs : List ResultVar} {Li Lo : List (Nat × AObj)} {xs : List AVal}
theorem XfJ {T : St} (hds : E.ds = []) (hr : fn.results.toList = rs) (hlow : X1J Li = true) (h : Xd P rs Lo xs T) {a : Act} {w : World} (hs : holds E T a w) : Leaves P fn a.tmps (X2m E Li Lo xs) a.defers .returning w := by
 obtain ⟨U, hU, hres, hsub⟩ := h
 obtain ⟨g', hg'⟩ := hU _ _ _ hs
 obtain ⟨v, r1, r2⟩ := X5h hg' hr hres
 rw [hg'.2.1, hds]
 exact ⟨v, r1, v, g', rfl, r2, (hg'.1.sub hsub).free (fun γ _ => Gh.keeps_refl _ _), fun γ hγ => hg'.1.kp γ (X3y Li γ hlow hγ)⟩
abbrev dfr (f : FuncId) (b : Nat) : Deferred := { target := .fn (.func f) #[.pointer (some ⟨b, 0, none⟩)], args := #[] }
theorem Xaj {f : FuncId} (hf : VC P f = true) (b : Nat) (w : World) : (invoke (dfr f b).target (dfr f b).args).run P w = .ok (.enter f #[.pointer (some ⟨b, 0, none⟩)]) w := by
 simp only [invoke]
 rw [X4p hf]
 rfl
theorem Xbf {T : St} {f : FuncId} {b : Nat} {R : Ending → World → Prop} (hf : VC P f = true) (hds : E.ds = [dfr f b]) (hr : fn.results.toList = rs) (hlow : X1J Li = true)
  (hR : ∀ x w', X2m E Li Lo xs x w' → R x w')
  (hidle : ∀ p w, CallsD P f #[.pointer (some p)] .returning w fun e u' w' => e = .returned (.tuple #[]) ∧ u' = .returning ∧ w' = w) (h : Xd P rs Lo xs T) {a : Act} {w : World} (hs : holds E T a w) : Leaves P fn a.tmps R a.defers .returning w := by
 obtain ⟨U, hU, hres, hsub⟩ := h
 obtain ⟨g', hg'⟩ := hU _ _ _ hs
 obtain ⟨v, r1, r2⟩ := X5h hg' hr hres
 rw [hg'.2.1, hds]
 refine leaves_cons (f := f) (args := #[.pointer (some ⟨b, 0, none⟩)]) (by simp) (Xaj hf b w) ((hidle _ _).mono ?_)
 rintro e u' w' ⟨rfl, rfl, rfl⟩
 exact ⟨v, r1, hR _ _ ⟨v, g', rfl, r2, (hg'.1.sub hsub).free (fun γ _ => Gh.keeps_refl _ _), fun γ hγ => hg'.1.kp γ (X3y Li γ hlow hγ)⟩⟩
end
theorem Xco {E : Env} {S : St} {g : Gh} {a : Act} {w : World} {γ : Nat} {x0 y : AVal} {u : Value} (hs : Uu E S g a w) (hL : S.obj γ = .box [x0]) (hy : y.sat g u) (hc : y.cellish = true) :
  ∃ c0, w.cell? ⟨g.blk γ, 0, none⟩ = some c0 ∧ x0.sat g c0 ∧ w.frozen? ⟨g.blk γ, 0, none⟩ = false ∧ Uu E (S.own γ (.box [y])) g a (w.setCell ⟨g.blk γ, 0, none⟩ u) := by
 have ho := hs.1.obj γ
 rw [hL] at ho
 obtain ⟨vs, e, fr, h1, h2, h3, h4⟩ := ho
 obtain ⟨c0, hc0, hsat⟩ := U2 h3 0 x0 rfl
 have hsz : vs.size = 1 := by have := Y9 h3; simpa using this
 have hvs : vs = #[c0] := by
  apply Array.ext'
  match h : vs.toList, hc0 with
  | [c], hc0 => simp only [List.getElem?_cons_zero, Option.some.injEq] at hc0; rw [hc0]
  | [], hc0 => simp at hc0
  | c :: d :: r, _ => have := congrArg List.length h; simp [hsz] at this
 subst hvs
 have hb : (w.setCell ⟨g.blk γ, 0, none⟩ u).heap[g.blk γ]? = some (.cells #[u] e fr) := by
  simp [World.setCell, Array.getElem?_modify, h1]
 refine ⟨c0, by rw [cell_of_row w _ 0 _ e fr h1]; rfl, hsat, ?_, ?_, hs.2.1, hs.2.2.1, hs.2.2.2⟩
 ·have := h2 0 (by omega)
  unfold World.frozen?
  simp only [h1]
  by_cases h : fr.1 ≤ 0
  ·have : ¬ 0 < fr.2 := fun k => this ⟨h, k⟩
   simp [this]
  ·simp [h]
 ·refine Inv.upd hs.1 γ _ (XS _ _ _ _) (fun k hk => XF _ _ _ (Ne.symm hk)) (fun b hb hnl => ?_) (by simp [World.setCell]) rfl rfl rfl (fun k hk => ⟨rfl, rfl, rfl⟩) (fun k cs us _ _ h => h) ?_ (fun b hb => .inl (by rw [hL]; exact hb)) (fun _ => Gh.keeps_refl _ _)
  ·have : g.blk γ ≠ b := fun e => hnl (by rw [hL, ← e]; rfl)
   simp [World.setCell, Array.getElem?_modify, this]
  ·refine ⟨#[u], e, fr, hb, h2, ?_, fun c hcm => ?_⟩
   ·simp only [Xi, and_true]; exact hy
   ·rw [List.mem_singleton.1 hcm]; exact hc
theorem X7I {P : Program} {E : Env} {fn : Func} {Li Lo : List (Nat × AObj)} {T : St} {f : FuncId} {b β t : Nat} {ty : TypeId} {x : PanicEntry} {e e0 : Int} {R : Ending → World → Prop} (hf : VC P f = true) (hds : E.ds = [dfr f b]) (hb : E.g0.blk β = b) (hβ : β < 100) (hr : fn.results.toList = [.cell t ty]) (hty : YY P ty false 1 = true) (hlow : X1J Li = true)
  (hR : ∀ x w', X2m E Li Lo [ai e] x w' → R x w') (hrec : x.recovered = true)
  (hcatch : ∀ (p : Addr) (e0 : Int) (w : World), w.cell? p = some (.int .i64 e0) → w.frozen? p = false → CallsD P f #[.pointer (some p)] (.panicking [{ x with recovered := false }]) w fun y u' w' => y = .returned (.tuple #[]) ∧ u' = .panicking [{ x with recovered := true }] ∧ w' = w.setCell p (.int .i64 e))
  (hg : T.get t = .ptr β 0) (hL : T.obj β = .box [ai e0]) (hLo : ∀ γ, Xb .dead Lo γ = .dead) {a : Act} {w : World} (hs : holds E T a w) : Leaves P fn a.tmps R a.defers (.panicking [{ x with recovered := false }]) w := by
 obtain ⟨g, hs⟩ := hs
 obtain ⟨c0, k1, k2, k3, k4⟩ := Xco (y := ai e) (u := .int .i64 e) hs hL (Us rfl) rfl
 have hbk : g.blk β = b := ((hs.1.kp β hβ).1).trans hb
 have hc0 : c0 = .int .i64 e0 := Yj k2
 subst hc0
 rw [hbk] at k1 k3 k4
 rw [hs.2.1, hds]
 refine leaves_cons (f := f) (args := #[.pointer (some ⟨b, 0, none⟩)]) (by simp) (Xaj hf b w) ((hcatch _ _ _ k1 k3).mono ?_)
 rintro y u' w' ⟨rfl, rfl, rfl⟩
 have hres : X38 P (T.own β (.box [ai e])) [.cell t ty] [ai e] := ⟨⟨β, 0, _, hg, XS _ _ _ _, .inl ⟨hty, rfl⟩⟩, trivial⟩
 obtain ⟨v, r1, r2⟩ := X5h k4 hr hres
 exact ⟨v, r1, hR _ _ ⟨v, g, rfl, r2, (k4.1.sub fun γ => .inr (hLo γ)).free (fun γ _ => Gh.keeps_refl _ _), fun γ hγ => k4.1.kp γ (X3y Li γ hlow hγ)⟩⟩
theorem XgJ {a b k : Nat} (h1 : k ≠ a) (h2 : k ≠ b) : swp a b k = k := by
 simp only [swp]
 have e1 : Nat.beq k a = false := by cases h : Nat.beq k a with | false => rfl | true => exact absurd (Nat.eq_of_beq_eq_true h) h1
 have e2 : Nat.beq k b = false := by cases h : Nat.beq k b with | false => rfl | true => exact absurd (Nat.eq_of_beq_eq_true h) h2
 simp [e1, e2]
theorem X4Q {P : Program} {E : Env} {S : St} {R : Exit → Act → World → Prop} {id : Nat} {ops : Array Oper} {y : Code} (k : Nat) {t : Tmp} {f : FuncId} {Li Lo : List (Nat × AObj)} {xs : List AVal} (β β' : Nat) {ty : TypeId} {pos : String} {aft : Array Edge}
  (ho : ops[k]? = some ⟨none, .defer ⟨.value (.tmp t), #[], #[]⟩, ty, pos, aft, none⟩) (hsz : ops.size = k + 1) (hds : E.ds = []) (hβ : β ≥ 100) (hLi : ∀ γ, Xp γ Li = true → γ < 100 ∧ γ ≠ β')
  (h : Walk P ops false (fun _ T => T.ev (.tmp t) = .fn f [.ptr β 0] ∧ ∀ E' b, E'.ds = [dfr f b] → E'.g0.blk β' = b → (∀ x w', X2m E' Li Lo xs x w' → X2m E Li Lo xs x w') → AW P E' y ⟨T.n, X27 (swp β β') T.τ, UH (swp β β') T.L⟩ R) (ops.toList.take k) [] S) : AW P E (.seq (.region id ops false) y) S R := by
 refine ⟨fun a w hs => wp_seq ?_⟩
 refine wp_region ?_
 obtain ⟨m, T, -, ⟨hT, hrest⟩, h3, h4, h5⟩ := h.chain
 have hlen : m.length = k := by have := congrArg List.length h4; simp only [List.length_map, List.length_take, Array.length_toList] at this; omega
 have hat : ∀ x ∈ m, ops[x.1]? = some x.2.1 := by
  intro x hx
  obtain ⟨i, hi, rfl⟩ := List.getElem_of_mem hx
  have e1 : (m[i]).1 = i := by
   have := congrArg (fun l => l[i]?) h5
   simpa [hi] using this
  have e2 := congrArg (fun l => l[i]?) h4
  simp only [List.getElem?_map, List.getElem?_eq_getElem hi, Option.map_some, List.getElem?_take, if_pos (show i < k by omega)] at e2
  rw [e1]; simpa using e2.symm
 have hfin : ∀ a w, holds E T a w → wpOps P ops (fun | .normal, a, w => y.wp P R a w | e, a, w => R e a w) [k] a w := by
  rintro a w ⟨g, hg⟩
  rw [wpOps_cons]
  unfold wpOp
  simp only [ho]
  rw [if_pos (show Region.wanted _ _ = true from rfl)]
  have hv := X2N hg (.tmp t)
  rw [hT] at hv
  simp only [AVal.sat] at hv
  obtain ⟨vs, hv, hvs⟩ := hv
  have hvs' : vs = #[.pointer (some ⟨g.blk β, 0, none⟩)] := by
   apply Array.ext'
   match hq : vs.toList, hvs with
   | [v], hvs => simp only [Xi, AVal.sat, and_true] at hvs; rw [hvs]
   | [], hvs => simp [Xi] at hvs
   | _ :: _ :: _, hvs => simp [Xi] at hvs
  subst hvs'
  left
  unfold Oper.wp
  have hrun : (execOp a.eval ⟨none, .defer ⟨.value (.tmp t), #[], #[]⟩, ty, pos, aft, none⟩).run P w = .ok (.defer (dfr f (g.blk β))) w := by
   simp [execOp, resolve, hv, Deferred.ofValue]
  rw [hrun, Oper.upon_defer]
  show Code.wp P y R _ _
  refine (hrest { E with ds := [dfr f (g.blk β)], g0 := g.pull (swp β β') } (g.blk β) rfl ?_ ?_).run _ _ ?_
  ·show g.blk (swp β β' β') = g.blk β
   have : swp β β' β' = β := by
    have := X16 β β' β
    rwa [show swp β β' β = β' from by simp [swp]] at this
   rw [this]
  ·rintro x w' ⟨v, g', e1, e2, e3, e4⟩
   refine ⟨v, g', e1, e2, ⟨e3.obj, e3.inj, e3.mem, e3.sep, e3.new, e3.ext, e3.lim, e3.frame, e3.size, e3.os, e3.out, e3.kp⟩, fun γ hγ => ?_⟩
   obtain ⟨q1, q2⟩ := hLi γ hγ
   have e := e4 γ hγ
   have hid : swp β β' γ = γ := XgJ (by omega) q2
   exact (hg.1.kp γ q1).trans' ((Gh.keeps_of (g' := g.pull (swp β β')) (by simp only [Gh.pull, hid]) (by simp only [Gh.pull, hid]) (by simp only [Gh.pull, hid])).trans' e)
  ·have hpp : (g.pull (swp β β')).pull (swp β β') = g := by simp only [Gh.pull, X16]
   have hi : Inv { E with g0 := (g.pull (swp β β')).pull (swp β β') } (Xb .dead T.L) ((g.pull (swp β β')).pull (swp β β')) w := by
    rw [hpp]
    exact hg.1.free fun _ _ => Gh.keeps_refl _ _
   have hi2 := (X4O (E := E) (g0 := g.pull (swp β β')) (X16 β β') (X16 β β')).2 hi
   refine ⟨g.pull (swp β β'), ⟨hi2.obj, hi2.inj, hi2.mem, hi2.sep, hi2.new, hi2.ext, hi2.lim, hi2.frame, hi2.size, hi2.os, hi2.out, hi2.kp⟩, ?_, hg.2.2.1, fun t' => ?_⟩
   ·show _ :: a.defers = _
    rw [hg.2.1, hds]
   ·show AVal.sat _ (Xb .any (X27 (swp β β') T.τ) t') _
    rw [X5Y, X45, hpp]
    exact hg.2.2.2 t'
 obtain ⟨g, hs⟩ := hs
 have := X7w (P := P) (Q := fun | .normal, a, w => y.wp P R a w | e, a, w => R e a w) [k] hfin m S a w hat h3 ⟨g, hs⟩
 rw [h5, hlen, List.length_nil] at this
 have e : List.range' 0 k ++ [k] = List.range ops.size := by
  rw [hsz, List.range_succ, List.range_eq_range']
 rw [e] at this
 exact this
section
variable {P : Program} {t : TypeId} {x y : Operand} {a b : List UInt8}
theorem Xc5 (w : World) : (do eqGuard .geq t x y (.string (X5 a)) (.string (X5 b)); binOp .geq t (.string (X5 a)) (.string (X5 b)) : Sem Value).run P w = .ok (.bool (!(Op.bytesLess a b))) w := by
 simp [go_sem, binOp, Op.stringOp, X0q]
end
def X2k (P : Program) (t : TypeId) (n sz : Nat) : Bool :=
 match P.underlying t with
 | some (.array m e) => Nat.beq m n && (match P.info? e with | some i => Nat.beq i.size sz | none => false)
 | _ => false
theorem X8g {P : Program} {t : TypeId} {n sz : Nat} (h : X2k P t n sz = true) : P.underlying t = some (.array (P.arrayLen t) (P.elem t)) ∧ P.arrayLen t = n ∧ ∀ w, (sizeOf (P.elem t)).run P w = .ok sz w := by
 unfold X2k at h
 cases hu : P.underlying t with
 | none => simp [hu] at h
 | some de =>
  cases de <;> rw [hu] at h <;> simp at h
  rename_i m e
  cases hq : P.info? e with
  | none => simp [hq] at h
  | some i =>
   rw [hq] at h
   obtain ⟨h1, h2⟩ := h
   have h2 : i.size = sz := by simpa using h2
   have h1 : m = n := by simpa using h1
   have ha : P.arrayLen t = m := by simp [Program.arrayLen, hu]
   have he : P.elem t = e := by simp [Program.elem, hu]
   exact ⟨by rw [ha, he], by rw [ha, h1], fun w => by rw [he]; simp [sizeOf, typeInfo, hq, h2]⟩
section
variable {P : Program} {ops : Array Oper} {draw : Bool} {K : XA → St → Prop} {rest : List Oper} {l : XA} {S : St}
variable {d : Nat} {ty : TypeId} {pos : String} {aft : Array Edge} {gd : Option (Nat × Bool)}
theorem XgY {x i : Operand} {T : TypeId} {γ o off n sz k : Nat} {kd : IntKind} {m : Int} (hx : S.ev x = .ptr γ o) (hi : S.ev i = .d (.v (.int kd m))) (hT : X2k P T n sz = true) (hk : m = (k : Nat)) (hlt : k < n)
  (hoff : o + k * sz = off) (hd : Nat.blt d S.n = true) (hg : Xh ops S gd)
  (h : Walk P ops draw K rest ((l.length, ⟨some d, .indexAddr T x i, ty, pos, aft, gd⟩, ⟨Xe ops gd ++ [(x, .ptr γ o), (i, .d (.v (.int kd m)))], some (d, .ptr γ off), [], [], []⟩) :: l) (S.set d (.ptr γ off))) :
  Walk P ops draw K (⟨some d, .indexAddr T x i, ty, pos, aft, gd⟩ :: rest) l S :=
 XH ⟨[(x, .ptr γ o), (i, .d (.v (.int kd m)))], some (d, .ptr γ off), [], [], []⟩ (Y2 rfl fun E S g a w hs hq hl => by
  obtain ⟨h1, h2, h3⟩ := X8g hT
  have hp : a.eval x = .pointer (some ⟨g.blk γ, o, none⟩) := by have := hq.1; simpa only [AVal.sat] using this
  refine ⟨.pointer (some ⟨g.blk γ, off, none⟩), ?_, by simp only [AVal.sat]⟩
  have hb : (0 : Int) ≤ m ∧ m < (P.arrayLen T : Int) := by rw [h2]; omega
  have hm : m.toNat = k := by omega
  have := run_indexAt_array (P := P) (w := w) T ⟨g.blk γ, o, none⟩ kd m h1
  rw [if_pos hb, h3 w, Result.andThen_ok, YX, hm, hoff] at this
  simp only [execOp, hp, Yj hq.2.1, Sem.run_bind, this]; rfl) hg ⟨⟨hx, hi, trivial⟩, trivial, trivial, hd⟩ h
end
section
variable {P : Program} {ops : Array Oper} {draw : Bool} {K : XA → St → Prop} {rest : List Oper} {l : XA} {S : St}
variable {d : Nat} {ty : TypeId} {pos : String} {aft : Array Edge} {gd : Option (Nat × Bool)}
theorem Xi1 {x i : Operand} {T : TypeId} {n sz k : Nat} {row : List D} {kd : IntKind} {m : Int} (hx : S.ev x = .dptr row) (hi : S.ev i = .d (.v (.int kd m))) (hT : X2k P T n sz = true) (hk : m = (k : Nat)) (hlt : k < n)
  (hd : Nat.blt d S.n = true) (hg : Xh ops S gd)
  (h : Walk P ops draw K rest ((l.length, ⟨some d, .indexAddr T x i, ty, pos, aft, gd⟩, ⟨Xe ops gd ++ [(x, .dptr row), (i, .d (.v (.int kd m)))], some (d, .dptr (row.drop (k * sz))), [], [], []⟩) :: l) (S.set d (.dptr (row.drop (k * sz))))) :
  Walk P ops draw K (⟨some d, .indexAddr T x i, ty, pos, aft, gd⟩ :: rest) l S :=
 XH ⟨[(x, .dptr row), (i, .d (.v (.int kd m)))], some (d, .dptr (row.drop (k * sz))), [], [], []⟩ (Y2 rfl fun E S g a w hs hq hl => by
  obtain ⟨h1, h2, h3⟩ := X8g hT
  have := hq.1
  simp only [AVal.sat] at this
  obtain ⟨b, o, hp, hr⟩ := this
  refine ⟨.pointer (some ⟨b, o + k * sz, none⟩), ?_, by simp only [AVal.sat]; exact ⟨b, o + k * sz, rfl, X8n hr _⟩⟩
  have hb : (0 : Int) ≤ m ∧ m < (P.arrayLen T : Int) := by rw [h2]; omega
  have hm : m.toNat = k := by omega
  have := run_indexAt_array (P := P) (w := w) T ⟨b, o, none⟩ kd m h1
  rw [if_pos hb, h3 w, Result.andThen_ok, YX, hm] at this
  simp only [execOp, hp, Yj hq.2.1, Sem.run_bind, this]; rfl) hg ⟨⟨hx, hi, trivial⟩, trivial, trivial, hd⟩ h
end
def X0U (W W' : World) : Prop := W'.os = W.os ∧ W'.output = W.output ∧ W.heap.size ≤ W'.heap.size ∧ ∀ b, b < W.heap.size → W'.heap[b]? = W.heap[b]?
def g0 (M : Mem) : Gh := ⟨fun _ => 0, fun _ => .slice none 0 0, fun _ _ => .slice none 0 0, M⟩
theorem XcT {P : Program} {f : FuncId} {aZ : List AVal} {res : AVal} {args : Array Value} {W : World} (hc : Con P f [] aZ [] res) (M : Mem) (hM : ∀ a v, M a = some v → W.cell? a = some v)
  (hs : Xi (g0 M) aZ args.toList) : Calls P f args W fun e W' => ∃ v g', e = .returned v ∧ res.sat g' v ∧ X0U W W' := by
 have hi : Inv (YT (g0 M) W []) (Xb .dead []) (g0 M) W := by
  refine ⟨fun _ => trivial, fun _ _ _ h => h.elim, hM, fun _ _ h => h.elim, fun _ _ h => h.elim, XK.refl _, fun a v h => .inl ⟨v, h⟩, fun _ _ _ => rfl, Nat.le_refl _, rfl, rfl, fun γ _ => Gh.keeps_refl _ _⟩
 refine (hc (g0 M) W args.toList hi hs).mono ?_
 rintro e W' ⟨v, g', rfl, hv, hi', _⟩
 exact ⟨v, g', rfl, hv, hi'.os, hi'.out, hi'.size, fun b hb => hi'.frame b hb fun ⟨γ, h⟩ => h.elim⟩
theorem X0U.but {W W' : World} (h : X0U W W') (may : MemPlace → Prop) : W.keptBut W' may := by
 refine ⟨h.1, h.2.1, fun i hi => ?_⟩
 have e := h.2.2.2 i hi
 have := (World.keptBut_refl W may).2.2 i hi
 rw [e]; exact this
theorem X0U.frozen {W W' : World} (h : X0U W W') {a : Addr} (ha : a.block < W.heap.size) : W'.frozen? a = W.frozen? a := by
 unfold World.frozen?
 rw [h.2.2.2 _ ha]
section
open Go.ChangeShapes Go.WideShapes Go.ChangeAt Go.RowKit
variable {H : Type} {enc : TypeId × Value → H} {P : Program}
theorem X0U.same {W W' : World} (h : X0U W W') {p : MemPlace} (hp : p.block < W.heap.size) : W.sameAt W' p := by
 cases p with
 | cell b off =>
  show W'.cell? _ = W.cell? _
  have := h.2.2.2 b hp
  simp only [World.cell?, this]
 | map b => exact h.2.2.2 b hp
theorem Xa6 {W W' : World} (h : X0U W W') {base : Nat} {spare : Nat → Bool} {held : Bool} : ∀ {ts : List TypeId} {vs : List Value} {ds : List (DataW H)} {ps : List MemPlace}, DataW.TrodAll enc P W base spare held ts vs ds ps → DataW.TrodAll enc P W' base spare held ts vs ds ps
 | [], [], [], _, k => k
 | _ :: _, _ :: _, _ :: _, _, ⟨p, q, ⟨n, h1⟩, h2, e⟩ =>
  ⟨p, q, ⟨n, DataW.trod_carry n _ _ _ h1 fun x hx => h.same (DataW.trod_lt n _ _ _ h1 x hx)⟩, Xa6 h h2, e⟩
theorem XfQ {f : Func} {s : ChangeSpec} {apart fresh handsOn again : Bool} {W W' : World} {args : Array Value} {ds gs : List (DataW H)} {before : List MemPlace} {tb : TypeId} {T : TypeId → Prop}
  (hW : DataW.Whole enc P f.params.toList s.vars apart W args.toList ds gs before) (hv : s.vars = [])
  (h1 : (s.fn H (ds ++ gs)).results = [.lit (.bool true)]) (h2 : (s.fn H (ds ++ gs)).args = ds) (h3 : (s.fn H (ds ++ gs)).vars = gs)
  (hrt : f.resultTypes = #[tb]) (htb : P.underlying tb = some .bool) (hk : X0U W W') (K : Kids P T) (hz : ∀ t e, T t → P.underlying t = some (.slice e) → 0 < P.cellsOf e) (hT : ∀ t ∈ f.params.toList, T t) :
  s.post enc P f apart fresh handsOn again W args (.bool true) W' := by
 have hlt := hW.lt
 have hW' := hW
 obtain ⟨p, q, hA, hV, hpq, hfr, hnd⟩ := hW
 have hV' : ∀ sp : Nat → Bool, DataW.TrodVars enc P W' sp s.vars (s.fn H (ds ++ gs)).vars q := by
  intro sp
  rw [h3]
  rw [hv] at hV ⊢
  obtain ⟨e1, e2⟩ := trodVars_none hV
  subst e1 e2
  rfl
 have hres : ∀ (b : Nat) (sp : Nat → Bool) (hd : Bool), DataW.TrodAll enc P W' b sp hd f.resultTypes.toList ((Value.bool true).resultList f.resultTypes.size) (s.fn H (ds ++ gs)).results [] := by
  intro b sp hd
  rw [h1, hrt]
  exact trodAll_mk1 (shut_bool htb true)
 have hargs : ∀ sp : Nat → Bool, (∀ x ∈ before, sp x.block = true) → DataW.TrodAll enc P W' 0 sp true f.params.toList args.toList (s.fn H (ds ++ gs)).args p := by
  intro sp hsp
  rw [h2]
  exact DataW.TrodAll.respare K hz hT (Xa6 hk hA) fun x hx => hsp x (by rw [hpq]; exact List.mem_append_left _ hx)
 have hold : ∀ x ∈ before, (fun b => decide (b < W.heap.size)) x.block = true := fun x hx => by simpa using hlt x hx
 refine ⟨ds, gs, before, [], p, q, hW', hres _ _ _, hargs _ hold, hV' _, hk.but _, fun _ => ?_⟩
 refine ⟨ok_one hrt rfl (okWide_bool_mk htb true), _, _, ([] ++ p) ++ q, ⟨[] ++ p, q, trodAll_append (hargs _ (fun _ _ => rfl)) (hres _ _ _), hV' _, rfl, ?_, ?_⟩, ?_⟩
 ·intro b off hp
  have hm : MemPlace.cell b off ∈ before := by rw [hpq]; simpa using hp
  rw [hk.frozen (a := ⟨b, off, none⟩) (hlt _ hm)]
  exact hfr b off hm
 ·intro ha
  have := hnd ha
  rw [hpq] at this
  simpa using this
 ·intro x hx _
  rw [hpq]
  simpa using hx
end
open Go Go.ChangeShapes Go.WideShapes Go.Deep
def YQ (M : Mem) : List D → List Value → Prop
 | [], [] => True
 | d :: ds, v :: vs => d.rep M v ∧ YQ M ds vs
 | _, _ => False
theorem X79 {M : Mem} : ∀ {ds es : List D} {us vs : List Value}, YQ M ds us → YQ M es vs → YQ M (ds ++ es) (us ++ vs)
 | [], _, [], _, _, h => h
 | [], _, _ :: _, _, h, _ => by simp only [YQ] at h
 | _ :: _, _, [], _, h, _ => by simp only [YQ] at h
 | d :: ds, es, u :: us, vs, h, k => by
  simp only [YQ, List.cons_append] at h ⊢
  exact ⟨h.1, X79 h.2 k⟩
theorem X84 {M : Mem} : ∀ {ds : List D} {us : List Value}, YQ M ds us → us.length = ds.length
 | [], [], _ => rfl
 | [], _ :: _, h => by simp only [YQ] at h
 | _ :: _, [], h => by simp only [YQ] at h
 | d :: ds, u :: us, h => by simp only [YQ] at h; simp [X84 h.2]
theorem X8H {M : Mem} : ∀ {ds : List D} {us : List Value}, YQ M ds us → ∀ (i : Nat) (d : D), ds[i]? = some d → ∃ u, us[i]? = some u ∧ d.rep M u
 | [], [], _, _, _, h => by simp at h
 | [], _ :: _, h, _, _, _ => by simp only [YQ] at h
 | _ :: _, [], h, _, _, _ => by simp only [YQ] at h
 | d :: ds, u :: us, h, 0, e, he => by simp only [YQ] at h; simp at he; subst he; exact ⟨u, by simp, h.1⟩
 | d :: ds, u :: us, h, i + 1, e, he => by
  simp only [YQ] at h
  simpa using X8H h.2 i e (by simpa using he)
theorem X5p {M : Mem} {g : Gh} (hM : g.M = M) : ∀ {ds : List D} {us : List Value}, YQ M ds us → Xi g (ds.map .d) us
 | [], [], _ => by simp only [List.map_nil, Xi]
 | [], _ :: _, h => by simp only [YQ] at h
 | _ :: _, [], h => by simp only [YQ] at h
 | d :: ds, u :: us, h => by
  simp only [YQ] at h
  simp only [List.map_cons, Xi, AVal.sat]
  exact ⟨hM ▸ h.1, X5p hM h.2⟩
theorem X9T {α : Type} {p : Nat → α → Prop} : ∀ n, (∀ i, i < n → ∃ r, p i r) → ∃ l : List α, l.length = n ∧ ∀ (i : Nat) (r : α), l[i]? = some r → p i r
 | 0, _ => ⟨[], rfl, fun i r h => by simp at h⟩
 | n + 1, h => by
  obtain ⟨l, h1, h2⟩ := X9T n (fun i hi => h i (by omega))
  obtain ⟨r, hr⟩ := h n (by omega)
  refine ⟨l ++ [r], by simp [h1], fun i x hx => ?_⟩
  rw [List.getElem?_append] at hx
  split at hx
  ·exact h2 i x hx
  ·rename_i hi
   have : i = n := by
    rcases Nat.lt_or_ge (i - l.length) 1 with hj | hj
    ·omega
    ·simp [show i - l.length ≠ 0 by omega] at hx
   subst this
   simp [h1] at hx
   subst hx; exact hr
section
variable {H : Type} {enc : TypeId × Value → H} {P : Program} {W : World}
structure Opens {α : Type} (enc : TypeId × Value → H) (P : Program) (W : World) (t : TypeId) (p : α → Prop) (f : α → List D) : Prop where
 op : ∀ n cs x, DataW.trod enc P W 0 (fun _ => true) true n t cs = some x → ∃ r, p r ∧ YQ W.cell? (f r) cs
theorem Opens.to {α β : Type} {t : TypeId} {p : α → Prop} {f : α → List D} (h : Opens enc P W t p f) {q : β → Prop} {g : β → List D} (φ : α → β) (hφ : ∀ a, p a → q (φ a) ∧ f a = g (φ a)) : Opens enc P W t q g := by
 refine ⟨fun n cs x hx => ?_⟩
 obtain ⟨r, h1, h2⟩ := h.op n cs x hx
 exact ⟨φ r, (hφ r h1).1, (hφ r h1).2 ▸ h2⟩
theorem Xcq {t : TypeId} {k : IntKind} (ht : P.underlying t = some (.int k)) : Opens enc P W t (fun n : Int => (Lit.int k n).wf = true) (fun n => [.v (.int k n)]) := by
 refine ⟨fun n cs x hx => ?_⟩
 obtain ⟨n', rfl, _, hw⟩ := DataW.trod_int ht hx
 refine ⟨n', hw, ?_⟩
 simp [YQ, D.rep, Value.oneCell']
theorem Vl {t : TypeId} (ht : P.underlying t = some (.int .i64)) : Opens enc P W t (fun n : Int => -9223372036854775808 ≤ n ∧ n ≤ 9223372036854775807) (fun n => [.v (.int .i64 n)]) :=
 (Xcq ht).to id fun a ha => ⟨bounds_i64 ha, rfl⟩
structure OpensF {α : Type} (enc : TypeId × Value → H) (P : Program) (W : World) (N : Nat) (fs : List Field) (off : Nat) (p : α → Prop) (f : α → List D) : Prop where
 op : ∀ cs : List Value, cs.length = N → (∀ q ∈ fs, ∃ n x, DataW.trod enc P W 0 (fun _ => true) true n q.type ((cs.drop q.offset).take (P.cellsOf q.type)) = some x) → ∃ r, p r ∧ YQ W.cell? (f r) (cs.drop off)
theorem X2n {N : Nat} : OpensF enc P W N [] N (fun _ : Unit => True) (fun _ => []) := by
 refine ⟨fun cs hN _ => ⟨(), trivial, ?_⟩⟩
 rw [List.drop_of_length_le (by omega)]; trivial
theorem U0 {α β : Type} {N : Nat} {q : Field} {fs : List Field} {off s : Nat} {p : α → Prop} {f : α → List D} {p' : β → Prop} {f' : β → List D} (hoff : q.offset = off) (hs : P.cellsOf q.type = s)
  (h : Opens enc P W q.type p f) (k : OpensF enc P W N fs (off + s) p' f') : OpensF enc P W N (q :: fs) off (fun r : α × β => p r.1 ∧ p' r.2) (fun r => f r.1 ++ f' r.2) := by
 refine ⟨fun cs hN hall => ?_⟩
 obtain ⟨n, x, hx⟩ := hall q (by simp)
 rw [hoff, hs] at hx
 obtain ⟨r, h1, h2⟩ := h.op _ _ _ hx
 obtain ⟨r', h3, h4⟩ := k.op cs hN fun q' hq' => hall q' (by simp [hq'])
 refine ⟨(r, r'), ⟨h1, h3⟩, ?_⟩
 have := X79 h2 h4
 rwa [← List.drop_drop, List.take_append_drop] at this
theorem X2y {α : Type} {t : TypeId} {fs : Array Field} {N : Nat} {p : α → Prop} {f : α → List D} (ht : P.underlying t = some (.struct fs)) (hN : P.cellsOf t = N) (h : OpensF enc P W N fs.toList 0 p f) : Opens enc P W t p f := by
 refine ⟨fun n cs x hx => ?_⟩
 obtain ⟨xs, n', _, _, hl, hlen, hf⟩ := DataW.trod_struct ht hx
 have := h.op cs (hl.trans hN) fun q hq => by
  obtain ⟨i, hi⟩ := List.getElem?_of_mem hq
  have h1 := hf i q (by simpa using hi)
  have hlt := (List.getElem?_eq_some_iff.1 hi).1
  simp only [Array.length_toList] at hlt
  exact ⟨n', _, h1.trans (List.getElem?_eq_getElem (by omega))⟩
 simpa using this
theorem Xhk {α : Type} {t : TypeId} {fs : Array Field} {r : Reach} {b0 : Nat} {v : Value} {d : DataW H} {ps : List MemPlace} {p : α → Prop} {f : α → List D} (ht : P.underlying t = some (.struct fs))
  (hval : Value.okWide P W r b0 t v) (hd : DataW.Trod enc P W 0 (fun _ => true) true t v d ps) (ho : Opens enc P W t p f) : ∃ x, p x ∧ (AVal.agg ((f x).map .d)).sat (g0 W.cell?) v := by
 simp only [Value.okWide, ht] at hval
 obtain ⟨cs, rfl, _, _⟩ := hval
 obtain ⟨n, hn⟩ := hd
 obtain ⟨x, h1, h2⟩ := ho.op _ _ _ hn
 refine ⟨x, h1, ?_⟩
 simp only [AVal.sat]
 exact ⟨cs, rfl, X5p rfl h2⟩
theorem XaD {α : Type} {t e : TypeId} {r : Reach} {b0 : Nat} {v : Value} {d : DataW H} {ps : List MemPlace} {p : α → Prop} {f : α → D} (ht : P.underlying t = some (.slice e))
  (hval : Value.okWide P W r b0 t v) (hd : DataW.Trod enc P W 0 (fun _ => true) true t v d ps) (ho : Opens enc P W t p (fun x => [f x])) : ∃ x, p x ∧ (AVal.d (f x)).sat (g0 W.cell?) v := by
 obtain ⟨a, n, c, rfl⟩ := okWide_slice ht hval
 obtain ⟨n, hn⟩ := hd
 obtain ⟨x, h1, h2⟩ := ho.op _ _ _ hn
 refine ⟨x, h1, ?_⟩
 have := X5p (g := g0 W.cell?) rfl h2
 simp only [List.map_cons, List.map_nil, Value.cells, Xi] at this
 exact this.1
end
section
variable {H : Type} {enc : TypeId × Value → H} {P : Program} {W : World}
theorem Xc4 (s : ByteArray) : X5 s.data.toList = s := by
 cases s; simp [X5]
theorem X10 {t : TypeId} (ht : P.underlying t = some .string) : Opens enc P W t (fun s : List UInt8 => s.length ≤ 9223372036854775807) (fun s => [.v (.string (X5 s))]) := by
 refine ⟨fun n cs x hx => ?_⟩
 obtain ⟨s, rfl, _, hl⟩ := DataW.trod_string ht hx
 refine ⟨s.data.toList, by simpa [maxLen] using hl, ?_⟩
 simp only [YQ, D.rep, Xc4]
 exact ⟨⟨trivial, rfl⟩, trivial⟩
structure OpensN {α : Type} (enc : TypeId × Value → H) (P : Program) (W : World) (n : Nat) (t : TypeId) (p : α → Prop) (f : α → List D) : Prop where
 op : ∀ cs x, DataW.trod enc P W 0 (fun _ => true) true n t cs = some x → ∃ r, p r ∧ YQ W.cell? (f r) cs
theorem Opens.at {α : Type} {t : TypeId} {p : α → Prop} {f : α → List D} (h : Opens enc P W t p f) (n : Nat) : OpensN enc P W n t p f := ⟨h.op n⟩
theorem X1V {α : Type} {t : TypeId} {p : α → Prop} {f : α → List D} (h : ∀ n, OpensN enc P W n t p f) : Opens enc P W t p f := ⟨fun n => (h n).op⟩
theorem OpensN.to {α β : Type} {n : Nat} {t : TypeId} {p : α → Prop} {f : α → List D} (h : OpensN enc P W n t p f) {q : β → Prop} {g : β → List D} (φ : α → β) (hφ : ∀ a, p a → q (φ a) ∧ f a = g (φ a)) : OpensN enc P W n t q g := by
 refine ⟨fun cs x hx => ?_⟩
 obtain ⟨r, h1, h2⟩ := h.op cs x hx
 exact ⟨φ r, (hφ r h1).1, (hφ r h1).2 ▸ h2⟩
theorem X1L {α : Type} {n : Nat} {t e : TypeId} {sz : Nat} {p : α → Prop} {f : α → List D} (ht : P.underlying t = some (.slice e)) (hz : P.cellsOf e = sz) (h0 : 0 < sz) (ho : ∀ m, n = m + 1 → OpensN enc P W m e p f) :
  OpensN enc P W n t (fun l : List α => (∀ r ∈ l, p r) ∧ l.length ≤ 9223372036854775807) (fun l => [.sl sz (l.map f)]) := by
 refine ⟨fun cs x hx => ?_⟩
 rcases DataW.trod_slice ht hx with ⟨rfl, _⟩ | ⟨a, len, cap, elems, rest, n', hn, rfl, _, _, hl, hm, hlen, hel, _, _⟩
 ·refine ⟨[], ⟨by simp, by simp⟩, ?_⟩
  simp only [YQ, D.rep, List.map_nil]
  exact ⟨⟨none, 0, rfl, Nat.le_refl _, Nat.zero_le _, .inl trivial⟩, trivial⟩
 have hel' : ∀ i, i < len → ∃ r, p r ∧ (f r).length = sz ∧ ∀ j d, (f r)[j]? = some d → ∃ u, W.cell? ((a.add (i * sz)).add j) = some u ∧ d.rep W.cell? u := by
  intro i hi
  have h0 := hel i hi
  rw [List.getElem?_eq_getElem (by omega)] at h0
  obtain ⟨cs', h1, h2⟩ := Option.bind_eq_some_iff.1 h0
  obtain ⟨r, h3, h4⟩ := (ho n' hn).op _ _ h2
  obtain ⟨_, h5, h6⟩ := World.cells?_some h1
  rw [hz] at h5 h6
  refine ⟨r, h3, by rw [← X84 h4, h5], fun j d hd => ?_⟩
  obtain ⟨u, h7, h8⟩ := X8H h4 j d hd
  have hj : j < sz := by
   have := (List.getElem?_eq_some_iff.1 h7).1
   omega
  exact ⟨u, (h6 j hj).trans h7, h8⟩
 obtain ⟨l, h1, h2⟩ := X9T len hel'
 refine ⟨l, ⟨fun r hr => ?_, by rw [h1]; have hm' : cap ≤ 9223372036854775807 := hm; omega⟩, ?_⟩
 ·obtain ⟨i, hi⟩ := List.getElem?_of_mem hr
  exact (h2 i r hi).1
 simp only [YQ, D.rep]
 refine ⟨⟨some a, cap, by rw [List.length_map, h1], by rw [List.length_map, h1]; exact hl, hm, ?_⟩, trivial⟩
 by_cases h00 : len = 0
 ·exact .inl (by rw [List.eq_nil_of_length_eq_zero (h1.trans h00)]; rfl)
 right
 obtain ⟨b, o, sp⟩ := a
 have hsp : sp = none := by
  obtain ⟨r, hr⟩ : ∃ r, l[0]? = some r := ⟨_, List.getElem?_eq_getElem (by omega)⟩
  obtain ⟨_, hlen, hcell⟩ := h2 0 r hr
  obtain ⟨d, hd⟩ : ∃ d, (f r)[0]? = some d := ⟨_, List.getElem?_eq_getElem (by omega)⟩
  obtain ⟨u, hu, _⟩ := hcell 0 d hd
  simpa [Addr.add] using World.cell?_spot hu
 subst hsp
 refine ⟨b, o, rfl, X53 _ _ _ fun i r hr => ?_⟩
 obtain ⟨x, hx, rfl⟩ : ∃ x, l[i]? = some x ∧ f x = r := by simpa using hr
 obtain ⟨_, hlen, hcell⟩ := h2 i x hx
 refine ⟨hlen, X2D _ _ _ fun j d hd => ?_⟩
 obtain ⟨u, hu, hd⟩ := hcell j d hd
 rw [YX, YX] at hu
 exact ⟨u, hu, hd⟩
structure OpensFN {α : Type} (enc : TypeId × Value → H) (P : Program) (W : World) (n : Nat) (N : Nat) (fs : List Field) (off : Nat) (p : α → Prop) (f : α → List D) : Prop where
 op : ∀ cs : List Value, cs.length = N → (∀ q ∈ fs, ∃ x, DataW.trod enc P W 0 (fun _ => true) true n q.type ((cs.drop q.offset).take (P.cellsOf q.type)) = some x) → ∃ r, p r ∧ YQ W.cell? (f r) (cs.drop off)
theorem XfR {n N : Nat} : OpensFN enc P W n N [] N (fun _ : Unit => True) (fun _ => []) := by
 refine ⟨fun cs hN _ => ⟨(), trivial, ?_⟩⟩
 rw [List.drop_of_length_le (by omega)]; trivial
theorem X3C {α β : Type} {n N : Nat} {q : Field} {fs : List Field} {off s : Nat} {p : α → Prop} {f : α → List D} {p' : β → Prop} {f' : β → List D} (hoff : q.offset = off) (hs : P.cellsOf q.type = s)
  (h : OpensN enc P W n q.type p f) (k : OpensFN enc P W n N fs (off + s) p' f') : OpensFN enc P W n N (q :: fs) off (fun r : α × β => p r.1 ∧ p' r.2) (fun r => f r.1 ++ f' r.2) := by
 refine ⟨fun cs hN hall => ?_⟩
 obtain ⟨x, hx⟩ := hall q (by simp)
 rw [hoff, hs] at hx
 obtain ⟨r, h1, h2⟩ := h.op _ _ hx
 obtain ⟨r', h3, h4⟩ := k.op cs hN fun q' hq' => hall q' (by simp [hq'])
 refine ⟨(r, r'), ⟨h1, h3⟩, ?_⟩
 have := X79 h2 h4
 rwa [← List.drop_drop, List.take_append_drop] at this
theorem Xhf {α : Type} {n : Nat} {t : TypeId} {fs : Array Field} {N : Nat} {p : α → Prop} {f : α → List D} (ht : P.underlying t = some (.struct fs)) (hN : P.cellsOf t = N) (h : ∀ m, n = m + 1 → OpensFN enc P W m N fs.toList 0 p f) : OpensN enc P W n t p f := by
 refine ⟨fun cs x hx => ?_⟩
 obtain ⟨xs, n', hn, _, hl, hlen, hf⟩ := DataW.trod_struct ht hx
 have := (h n' hn).op cs (hl.trans hN) fun q hq => by
  obtain ⟨i, hi⟩ := List.getElem?_of_mem hq
  have h1 := hf i q (by simpa using hi)
  have hlt := (List.getElem?_eq_some_iff.1 hi).1
  simp only [Array.length_toList] at hlt
  exact ⟨_, h1.trans (List.getElem?_eq_getElem (by omega))⟩
 simpa using this
end
end Go.Fw

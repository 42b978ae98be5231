/- Functions that panic: contracts, and the region in which a call panics. -/
import Derived.WalkSmall
import Derived.Defers
import Derived.Test.YtonekjkmnhfjmaaGreatDoorM08
namespace Go.Fw
open Go
set_option linter.unusedVariables false
set_option linter.unusedSimpArgs false
def YI (P : Program) (f : FuncId) (Li : List (Nat × AObj)) (args : List AVal) (ch : List PanicEntry) : Prop :=
 ∀ (g : Gh) (w : World) (vs : List Value), Inv (YL g w Li) (Xa .dead Li) g w → Xk g args vs →
  Calls P f vs.toArray w fun e w' => e = .panicked ch ∧ ∃ M', XQ g.M M' ∧ Inv { YL g w Li with g0 := { g with M := M' } } (fun _ => .dead) { g with M := M' } w'
def XcU (ch : List PanicEntry) : Exit → St → Prop
 | .panic c, _ => c = ch
 | _, _ => False
theorem UL {P : Program} {f : FuncId} {fn : Func} {c : Code} {n : Nat} {Li : List (Nat × AObj)} {args : List AVal} {ch : List PanicEntry} (hf : P.funcs[f]? = some fn) (hb : fn.body = some c) (hn : fn.ntmps = n)
  (hle : Nat.ble args.length n = true) (h : ∀ E, AWP P E c (VC n args Li) (XcU ch)) : YI P f Li args ch := by
 intro g w vs hi hs
 have hl := Y6 hs
 refine calls_of_wp hf hb ?_
 have hstart : holds (YL g w Li) (VC n args Li) { tmps := vs.toArray ++ Array.replicate (fn.ntmps - vs.toArray.size) undef, defers := [] } w := by
  refine ⟨g, hi, rfl, ?_, fun t => ?_⟩
  ·have : args.length ≤ n := by simpa using hle
   simp [VC, hn, hl]; omega
  ·show AVal.sat g (Xa _ _ _) _
   simp only [VC]
   rw [X4y]
   simp only [Nat.zero_le, if_true, Nat.sub_zero]
   cases hx : args[t]? with
   | none => simp [AVal.sat]
   | some x =>
    obtain ⟨u, hu, hsu⟩ := YG hs t x hx
    have hlt : t < vs.length := (List.getElem?_eq_some_iff.1 hu).1
    have : (vs.toArray ++ Array.replicate (fn.ntmps - vs.toArray.size) undef).getD t undef = u := by
     rw [Array.getD_eq_getD_getElem?, Array.getElem?_append_left (by simpa using hlt)]
     simp [hu]
    rw [this]; exact hsu
 refine wp_mono ((h (YL g w Li)).run _ w hstart) ?_
 rintro e a' w' ⟨T, hq, g', ht⟩
 cases e with
 | panic c =>
  obtain rfl : c = ch := hq
  refine ⟨ht.2.1, rfl, g'.M, ht.1.ext, ?_⟩
  exact ⟨fun _ => trivial, fun _ _ _ h => h.elim, ht.1.mem, fun _ _ h => h.elim, fun _ _ h => h.elim, ht.1.ext, ht.1.lim, ht.1.frame, ht.1.size, ht.1.os, ht.1.out, fun _ _ => Gh.keeps_refl _ _⟩
 | _ => exact hq.elim
def Vx : List (Nat × AObj) → List (Nat × AObj)
 | [] => []
 | p :: r => (p.1, .dead) :: Vx r
theorem XaX (γ : Nat) : ∀ Li : List (Nat × AObj), Xa .dead (Vx Li) γ = .dead
 | [] => rfl
 | p :: r => by
  rw [Vx]
  by_cases h : p.1 = γ
  ·rw [h, XT]
  ·rw [XK _ _ _ h, XaX γ r]
theorem X70 (γ : Nat) : ∀ Li : List (Nat × AObj), Xt γ (Vx Li) = Xt γ Li
 | [] => rfl
 | p :: r => by rw [Vx, Xt, Xt, X70 γ r]
theorem Xbr (Lo : List (Nat × AObj)) : ∀ Li : List (Nat × AObj), (∀ γ, Xt γ Li = true → Xt γ Lo = true) → X0o Li Lo = true
 | [], _ => rfl
 | p :: r, h => by
  rw [X0o, Bool.and_eq_true]
  exact ⟨h _ (by simp [Xt]), Xbr Lo r fun γ hγ => h γ (by simp [Xt, hγ])⟩
theorem X8i (Lo : List (Nat × AObj)) : ∀ Li : List (Nat × AObj), X03 Lo (Vx Li) = true
 | [] => rfl
 | p :: r => by rw [Vx, X03, X8i Lo r]; rfl
theorem Xb8 (Li : List (Nat × AObj)) : ∀ Lo : List (Nat × AObj), (∀ γ, Xt γ Lo = true → Xt γ Li = true) → Yv Li Lo = []
 | [], _ => rfl
 | p :: r, h => by
  rw [Yv, h _ (by simp [Xt])]
  exact Xb8 Li r fun γ hγ => h γ (by simp [Xt, hγ])
theorem Xap (S : St) : ∀ xs, (evA S xs).length = xs.length
 | [] => rfl
 | x :: r => by rw [evA, List.length_cons, List.length_cons, Xap S r]
structure Booms (P : Program) (f : FuncId) (args : Array Operand) (ch : List PanicEntry) (S : St) : Prop where
 ex : ∃ Li zs, leL (evA S args.toList) zs ∧ YI P f Li zs ch ∧ Vk P f = true ∧ Yu S Li
theorem V4 {P : Program} {f : FuncId} {args : Array Operand} {ch : List PanicEntry} {S : St} {Li : List (Nat × AObj)} {xs : List Operand} {ys zs : List AVal} (hcon : YI P f Li zs ch) (hxs : args.toList = xs) (hys : evA S xs = ys) (hle : leL ys zs) (hf : Vk P f = true) (hLi : Yu S Li) : Booms P f args ch S :=
 ⟨Li, zs, by rw [hxs, hys]; exact hle, hcon, hf, hLi⟩
theorem X7Q {P : Program} {E : Env} {S : St} {a : Act} {w : World} {f : FuncId} {args : Array Operand} {tys : Array TypeId} {ch : List PanicEntry} (hs : holds E S a w) {Li : List (Nat × AObj)} {zs : List AVal} (hle : leL (evA S args.toList) zs) (hcon : YI P f Li zs ch) (hf : Vk P f = true) (hLi : Yu S Li) {o : Oper} (ho : o.op = .call ⟨.value (.func f), args, tys⟩) {K : Act → World → Prop} {Q : Exit → Act → World → Prop}
  (hQ : ∀ w', holds E (S.cat (Vx Li)) a w' → Q (.panic ch) a w') : o.wp P a w K Q := by
 obtain ⟨g, hs⟩ := hs
 have hsat : Xk g zs (args.toList.map a.eval) := by
  refine X2c hle (X36 (Xap S _) (Vr hs _ (X2U S _)))
 have hinv : Inv (YL g w Li) (Xa .dead Li) g w := by
  have hsub := XZ hLi
  have hl : ∀ γ b, Xr g (Xa .dead Li γ) γ b → Xr g (S.obj γ) γ b := by
   intro γ b hb
   rcases hsub γ with e | e
   ·rw [← e]; exact hb
   ·rw [e] at hb; exact hb.elim
  refine ⟨fun γ => ?_, fun γ γ' b k k' => hs.1.inj γ γ' b (hl _ _ k) (hl _ _ k'), hs.1.mem, fun γ b k => hs.1.sep γ b (hl _ _ k), fun γ b k => .inr ⟨γ, k⟩, XQ.refl _, fun a v ha => .inl ⟨v, ha⟩, fun _ _ _ => rfl, Nat.le_refl _, rfl, rfl, fun _ _ => Gh.keeps_refl _ _⟩
  rcases hsub γ with e | e
  ·rw [e]; exact hs.1.obj γ
  ·rw [e]; trivial
 have hcall := hcon g w (args.toList.map a.eval) hinv hsat
 have hrun : (execOp a.eval o).run P w = .ok (.enter f (args.toList.map a.eval).toArray) w := by
  have e1 : (#[] ++ args.map a.eval ++ #[] : Array Value) = (args.toList.map a.eval).toArray := by
   apply Array.ext'; simp
  simp only [execOp, ho, resolve, Act.eval, Deferred.ofValue, Sem.run_bind, Sem.run_pure, Result.andThen_ok, invoke]
  rw [X4V hf]
  congr 2
 unfold Oper.wp
 rw [hrun, Oper.upon_enter]
 refine hcall.mono ?_
 rintro e w' ⟨rfl, M', hM, hi'⟩
 have hc : Inv { YL g w Li with g0 := { g with M := M' } } (Xa .dead (Vx Li)) { g with M := M' } w' := by
  have : Xa .dead (Vx Li) = fun _ => AObj.dead := funext fun γ => XaX γ Li
  rw [this]; exact hi'
 have hnew := Xb8 Li (Vx Li) (fun γ h => by rw [X70] at h; exact h)
 obtain ⟨j1, j2, j3⟩ := X6U hs.1 hLi (Xbr (Vx Li) Li (fun γ h => by rw [X70]; exact h)) (X8i _ Li) (by rw [hnew]; trivial) (by rw [hnew]; trivial) hc (fun γ _ => Gh.keeps_of rfl rfl rfl)
 exact hQ w' ⟨_, j1, hs.2.1, hs.2.2.1, fun t => j3 t _ (hs.2.2.2 t)⟩
theorem X7R {P : Program} {E : Env} {S : St} {a : Act} {w : World} {f : FuncId} {args : Array Operand} {tys : Array TypeId} {ch : List PanicEntry} (hs : holds E S a w) (hb : Booms P f args ch S) {o : Oper} (ho : o.op = .call ⟨.value (.func f), args, tys⟩) {K : Act → World → Prop} {Q : Exit → Act → World → Prop}
  (hQ : ∀ T w', holds E T a w' → Q (.panic ch) a w') : o.wp P a w K Q := by
 obtain ⟨Li, zs, hle, hcon, hf, hLi⟩ := hb.ex
 exact X7Q hs hle hcon hf hLi ho fun w' h => hQ _ w' h
theorem X6Y {P : Program} {ops : Array Oper} {Q : Exit → Act → World → Prop} {E : Env} {T : St} (js : List Nat) (hQ : ∀ a w, holds E T a w → wpOps P ops Q js a w) :
  ∀ (l : Xy) (S : St) (a : Act) (w : World), (∀ x ∈ l, ops[x.1]? = some x.2.1) → X4q P ops l S T → holds E S a w → wpOps P ops Q (l.map (·.1) ++ js) a w
 | [], S, a, w, _, hc, hs => hQ _ _ (St.Eqv.holds hc hs)
 | x :: r, S, a, w, ha, hc, hs => by
  obtain ⟨hv, hok, hr⟩ := hc
  rw [List.map_cons, List.cons_append, wpOps_cons]
  unfold wpOp
  simp only [ha x (by simp)]
  have hvk := hv E S a w hs hok Q (wpOps P ops Q (r.map (·.1) ++ js)) (fun a' w' h' => X6Y js hQ r _ _ _ (fun y hy => ha y (by simp [hy])) hr h')
  split
  ·rename_i hw; rw [if_pos hw] at hvk; exact .inl hvk
  ·rename_i hw; rw [if_neg hw] at hvk; exact hvk
theorem X60 {P : Program} {E : Env} {S : St} {Q : Exit → St → Prop} {id : Nat} {ops : Array Oper} (k : Nat) {K : Xy → St → Prop} (hk : k ≤ ops.size) (h : Walk P ops false K (ops.toList.take k) [] S)
  (hK : ∀ l T, K l T → ∀ a w, holds E T a w → wpOps P ops (fun e a' w' => ∃ T, Q e T ∧ holds E T a' w') (List.range' k (ops.size - k)) a w) : AWP P E (.region id ops false) S Q := by
 refine ⟨fun a w hs => wp_region ?_⟩
 obtain ⟨m, T, h1, h2, h3, h4, h5⟩ := h.chain
 have hlen : m.length = k := by have := congrArg List.length h4; simp only [List.length_map, List.length_take, Array.length_toList] at this; omega
 have hat : ∀ x ∈ m, ops[x.1]? = some x.2.1 := by
  intro x hx
  obtain ⟨i, hi, rfl⟩ := List.getElem_of_mem hx
  have e1 : (m[i]).1 = i := by
   have := congrArg (fun l => l[i]?) h5
   simpa [hi] using this
  have e2 := congrArg (fun l => l[i]?) h4
  simp only [List.getElem?_map, List.getElem?_eq_getElem hi, Option.map_some, List.getElem?_take, if_pos (show i < k by omega)] at e2
  rw [e1]; simpa using e2.symm
 have := X6Y (P := P) (Q := fun e a' w' => ∃ T, Q e T ∧ holds E T a' w') (List.range' k (ops.size - k)) (hK _ T h2) m S a w hat h3 hs
 rw [h5, hlen, List.length_nil] at this
 have e : List.range' 0 k ++ List.range' k (ops.size - k) = List.range ops.size := by
  rw [List.range_eq_range']
  have := List.range'_append_1 (s := 0) (m := k) (n := ops.size - k)
  rw [Nat.zero_add] at this
  rw [this]; congr 1; omega
 rwa [e] at this
theorem Va {P : Program} {E : Env} {S : St} {Q : Exit → St → Prop} {id : Nat} {ops : Array Oper} (k : Nat) {d : Option Nat} {f : FuncId} {args : Array Operand} {tys : Array TypeId} {ty : TypeId} {pos : String} {aft : Array Edge} {ch : List PanicEntry}
  (ho : ops[k]? = some ⟨d, .call ⟨.value (.func f), args, tys⟩, ty, pos, aft, none⟩) (hQ : ∀ T, Q (.panic ch) T) (h : Walk P ops false (fun _ => Booms P f args ch) (ops.toList.take k) [] S) : AWP P E (.region id ops false) S Q := by
 have hk : k < ops.size := (Array.getElem?_eq_some_iff.1 ho).1
 refine X60 k (Nat.le_of_lt hk) h fun _ T hT a w hs => ?_
 obtain ⟨n, hn⟩ : ∃ n, ops.size - k = n + 1 := ⟨ops.size - k - 1, by omega⟩
 rw [hn, List.range'_succ, wpOps_cons]
 unfold wpOp
 simp only [ho]
 rw [if_pos (show Region.wanted _ _ = true from rfl)]
 exact .inl (X7R hs hT rfl fun T w' hT' => ⟨T, hQ T, hT'⟩)
theorem Xhq {P : Program} {E : Env} {S : St} {Q : Exit → St → Prop} {id : Nat} {ops : Array Oper} (k : Nat) {d : Option Nat} {x : Operand} {ty : TypeId} {pos : String} {aft : Array Edge} {t : TypeId} {v : Value}
  (ho : ops[k]? = some ⟨d, .panic x, ty, pos, aft, none⟩) (hQ : ∀ T, Q (.panic [{ v := .iface t v, recovered := false }]) T) (h : Walk P ops false (fun _ T => T.ev x = .d (.v (.iface t v))) (ops.toList.take k) [] S) : AWP P E (.region id ops false) S Q := by
 have hk : k < ops.size := (Array.getElem?_eq_some_iff.1 ho).1
 refine X60 k (Nat.le_of_lt hk) h fun _ T hT a w hs => ?_
 obtain ⟨n, hn⟩ : ∃ n, ops.size - k = n + 1 := ⟨ops.size - k - 1, by omega⟩
 rw [hn, List.range'_succ, wpOps_cons]
 unfold wpOp
 simp only [ho]
 rw [if_pos (show Region.wanted _ _ = true from rfl)]
 obtain ⟨g, hs⟩ := hs
 have hv := X2x hs x
 rw [hT] at hv
 have hv := Yn hv
 left
 unfold Oper.wp
 have hrun : (execOp a.eval ⟨d, .panic x, ty, pos, aft, none⟩).run P w = .halt (.panic (.iface t v)) w := by
  simp [execOp, hv, run_panic_iface]
 rw [hrun, Oper.upon_panic]
 exact ⟨T, hQ T, g, hs⟩
theorem X9k {P : Program} {E : Env} {S : St} {Q : Exit → St → Prop} {id : Nat} {ops : Array Oper} (k : Nat) {d : Option Nat} {f : FuncId} {args : Array Operand} {tys : Array TypeId} {ty : TypeId} {pos : String} {aft : Array Edge} {ch : List PanicEntry}
  (hm : P.follows .mixedOrders = true) (ho : ops[k]? = some ⟨d, .call ⟨.value (.func f), args, tys⟩, ty, pos, aft, none⟩) (hQ : ∀ T, Q (.panic ch) T)
  (h : Walk P ops false (fun l T => ∃ c, (∀ U, c.ok U → Booms P f args ch U) ∧ c.ok T ∧ Walk P ops true (fun _ U => U.obj 999 = .box [.bq False False]) (ops.toList.drop (k + 1)) ((l.length, ⟨d, .call ⟨.value (.func f), args, tys⟩, ty, pos, aft, none⟩, c) :: l) (c.app T)) (ops.toList.take k) [] S) : AWP P E (.region id ops true) S Q := by
 have hk : k < ops.size := (Array.getElem?_eq_some_iff.1 ho).1
 refine ⟨fun a w hs => ?_⟩
 have hv : ∀ o c, X1n P ops o c → X39 P ops E (fun e a' w' => ∃ T, Q e T ∧ holds E T a' w') o c := fun o c h => h.q E _
 obtain ⟨m, T, -, ⟨c, hb, hok, h2⟩, h3, h4, h5⟩ := h.chain
 obtain ⟨m', T', g1, g2, g3, g4, g5⟩ := h2.chain
 have hlen : m.length = k := by have := congrArg List.length h4; simp only [List.length_map, List.length_take, Array.length_toList] at this; omega
 have hboom : X39 P ops E (fun e a' w' => ∃ T, Q e T ∧ holds E T a' w') ⟨d, .call ⟨.value (.func f), args, tys⟩, ty, pos, aft, none⟩ c := by
  intro U a w hs hok K hK
  rw [if_pos (show Region.wanted _ _ = true from rfl)]
  exact X7R hs (hb U hok) rfl fun T w' hT' => ⟨T, hQ T, hT'⟩
 simp only [List.append_nil, List.length_reverse, List.length_nil] at g1 g3 g4 g5 h5
 refine X7T (m := m ++ (m.length, ⟨d, .call ⟨.value (.func f), args, tys⟩, ty, pos, aft, none⟩, c) :: m') hm ?_ (T := T') ?_ ((h3.mono hv).app ⟨hboom, hok, g3.mono hv⟩) ?_ ?_ hs
 ·have := g1 trivial
  simpa [List.reverse_append] using this
 ·rintro a w ⟨g, hg⟩
  have ho := hg.1.obj 999
  rw [g2] at ho
  obtain ⟨vs, e, fr, -, -, q, -⟩ := ho
  obtain ⟨v, -, hv⟩ := YG q 0 (.bq False False) rfl
  simp only [AVal.sat] at hv
  obtain ⟨b, -, p1, p2⟩ := hv
  cases b
  ·exact (p2 rfl).elim
  ·exact (p1 rfl).elim
 ·rw [List.map_append, List.map_cons, h4, g4]
  have hd : ops.toList[k]? = some ⟨d, .call ⟨.value (.func f), args, tys⟩, ty, pos, aft, none⟩ := by simpa using ho
  obtain ⟨hk', hd⟩ := List.getElem?_eq_some_iff.1 hd
  rw [← hd, ← List.drop_eq_getElem_cons hk', List.take_append_drop]
 ·rw [List.map_append, List.map_cons, h5, g5, List.length_cons, List.length_reverse, List.length_append, List.length_cons, ← List.range'_succ, hlen]
  have := List.range'_append_1 (s := 0) (m := k) (n := m'.length + 1)
  rw [Nat.zero_add] at this
  exact this
abbrev X5P (rs : List (Operand × AVal)) (d : Option (Nat × AVal)) (Li : List (Nat × AObj)) : Cert := ⟨rs, d, Li, [(999, .box [.bq False False])], []⟩
theorem X9U {P : Program} {f : FuncId} {args : Array Operand} {ch : List PanicEntry} {Li : List (Nat × AObj)} {xs : List Operand} {ys zs : List AVal} {d : Option (Nat × AVal)} (hcon : YI P f Li zs ch) (hxs : args.toList = xs) (hl : ys.length = xs.length) (hle : leL ys zs) (hf : Vk P f = true) :
  ∀ U, (X5P (xs.zip ys) d Li).ok U → Booms P f args ch U := by
 intro U hU
 have h1 := hU.1
 have h2 := hU.2.1
 refine ⟨Li, zs, ?_, hcon, hf, h2⟩
 rw [hxs]
 have : evA U xs = ys := by
  clear hle hcon hxs hU h2
  induction xs generalizing ys with
  | nil => cases ys with
   | nil => rfl
   | cons y ys => simp at hl
  | cons x xs ih =>
   cases ys with
   | nil => simp at hl
   | cons y ys =>
    rw [List.zip_cons_cons] at h1
    rw [evA, h1.1, ih (by simpa using hl) h1.2]
 rw [this]; exact hle
theorem Xb4 {P : Program} {E : Env} {S : St} {Q : Exit → St → Prop} {id : Nat} {ops : Array Oper} (k : Nat) {d : Option Nat} {f : FuncId} {args : Array Operand} {tys : Array TypeId} {ty : TypeId} {pos : String} {aft : Array Edge} {ch : List PanicEntry}
  (ho : ops[k]? = some ⟨d, .call ⟨.value (.func f), args, tys⟩, ty, pos, aft, none⟩) (h : Walk P ops false (fun _ T => ∃ Li zs, leL (evA T args.toList) zs ∧ YI P f Li zs ch ∧ Vk P f = true ∧ Yu T Li ∧ Q (.panic ch) (T.cat (Vx Li))) (ops.toList.take k) [] S) : AWP P E (.region id ops false) S Q := by
 have hk : k < ops.size := (Array.getElem?_eq_some_iff.1 ho).1
 refine X60 k (Nat.le_of_lt hk) h fun _ T hT a w hs => ?_
 obtain ⟨n, hn⟩ : ∃ n, ops.size - k = n + 1 := ⟨ops.size - k - 1, by omega⟩
 obtain ⟨Li, zs, h1, h2, h3, h4, h5⟩ := hT
 rw [hn, List.range'_succ, wpOps_cons]
 unfold wpOp
 simp only [ho]
 rw [if_pos (show Region.wanted _ _ = true from rfl)]
 exact .inl (X7Q hs h1 h2 h3 h4 rfl fun w' hT' => ⟨_, h5, hT'⟩)
section
variable {P : Program} {ops : Array Oper} {draw : Bool} {K : Xy → St → Prop} {rest : List Oper} {l : Xy} {S : St}
variable {d : Nat} {ty : TypeId} {pos : String} {aft : Array Edge} {gd : Option (Nat × Bool)}
theorem Xce {T : TypeId} {x lo hi mx : Operand} {β o n c sz lb hb mb : Nat} (hx : S.ev x = .rs β o n c) (hlo : S.ev lo = ai lb) (hhi : S.ev hi = ai hb) (hmx : S.ev mx = ai mb) (hlh : lb ≤ hb) (hh : hb ≤ mb) (hm : mb ≤ c)
  (hT : Y8 P T sz = true) (hd : Nat.blt d S.n = true) (hg : Xj ops S gd)
  (h : Walk P ops draw K rest ((l.length, ⟨some d, .slice T x (some lo) (some hi) (some mx), ty, pos, aft, gd⟩, ⟨Xg ops gd ++ [(x, .rs β o n c), (lo, ai lb), (hi, ai hb), (mx, ai mb)], some (d, .any), [], [], []⟩) :: l) (S.set d .any)) :
  Walk P ops draw K (⟨some d, .slice T x (some lo) (some hi) (some mx), ty, pos, aft, gd⟩ :: rest) l S := by
 refine XO ⟨[(x, .rs β o n c), (lo, ai lb), (hi, ai hb), (mx, ai mb)], some (d, .any), [], [], []⟩ (Y2 rfl fun E S g a w hs hq hl => ?_) hg
  ⟨⟨hx, hlo, hhi, hmx, trivial⟩, trivial, trivial, hd⟩ h
 obtain ⟨e, h1, h2, h3⟩ := VX hT
 obtain ⟨hq1, hq2, hq3, hq4, _⟩ := hq
 have hv := Vs hq1
 have e2 := Yn hq2
 have e3 := Yn hq3
 have e4 := Yn hq4
 have hbd : (Instr.sliceBounds true n c (some (a.eval lo)) (some (a.eval hi)) (some (a.eval mx))).run P w = .ok (lb, hb, mb) w := by
  simp [Instr.sliceBounds, e2, e3, e4, run_sliceBound, hlh, hh, hm]
 have hrun := run_slice_any (P := P) w T (some ⟨g.blk β, o, none⟩) n c (by rw [h3]; exact h1) (some (a.eval lo)) (some (a.eval hi)) (some (a.eval mx))
 rw [hbd, Result.andThen_ok, h3, h2 w, Result.andThen_ok] at hrun
 refine ⟨sliced (some ⟨g.blk β, o, none⟩) lb hb mb sz, ?_, by simp only [AVal.sat]⟩
 simp only [execOp, hv, Instr.sliceAt, Sem.run_bind, run_underlying h1, Result.andThen_ok, Option.map_some, Option.map_none, hrun]; rfl
end
section
variable {P : Program}
theorem Xge {w : World} {T T2 ty e : TypeId} {i : TypeInfo} {z : Value} {base : Option Addr} {n cap m : Nat} {kd : IntKind} {k2 : IntKind} {olds : Array Value}
  (hT : P.underlying T = some (.slice e)) (hi : P.info? e = some i) (hz : i.zero = some z) (h2 : P.underlying T2 = some (.int k2)) (hbytes : i.bytes ≠ 0) (hs0 : i.size ≠ 0) (hm : 0 < m)
  (hold : ∀ w' : World, w'.heap = w.heap → (Builtin.firstCells i.size n (.slice base n cap)).run P w' = .ok olds w') (hroom : ¬ n + m ≤ cap)
  (hmb : m * i.bytes ≤ 2 ^ 48) (hneed : n + m < 2 ^ 63) (hcap : Builtin.nextslicecap (n + m) cap * i.bytes ≤ 2 ^ 48) :
  let newCap := (Question.appendCap (n + m) cap e).cut (w.tape w.drawn (.appendCap (n + m) cap e))
  (Builtin.append_ #[T, T2] ty #[.slice base n cap, .int kd m]).run P w =
   .ok (.slice (some ⟨w.heap.size, 0, none⟩) (n + m) newCap) (w.drew.alloc (.cells (olds ++ Builtin.zeroCells z.cells m ++ Builtin.zeroCells z.cells (newCap - (n + m))) e)) := by
 have ho := hold w.drew rfl
 have hw : IntKind.i64.wrap (m : Int) = m := by rw [IntKind.wrap_i64]; omega
 have hneg : ¬ ((m : Int) < 0) := by omega
 have h48i : ¬ (281474976710656 < (m : Int) * (i.bytes : Int)) := by rw [← Int.natCast_mul]; omega
 have h63' : ¬ (9223372036854775807 < ((n : Int) + (m : Int))) := by omega
 have hns : ¬ (m * i.size = 0) := Nat.mul_ne_zero (by omega) hs0
 have hm0 : m ≠ 0 := by omega
 simp [Builtin.append_, run_underlying hT, run_underlying h2, sizeOf, typeInfo, zeroValue, hi, hz, asInt, asIntOf, hw, hneg, hm0, hs0, hroom, hbytes, h48i, h63', Nat.not_lt.2 hcap, Question.forced, ho, newRow]
 intro q
 exact absurd q hns
def X4d (P : Program) (t : TypeId) : Bool := match P.underlying t with | some (.int _) => true | _ => false
theorem Xek {t : TypeId} (h : X4d P t = true) : ∃ k, P.underlying t = some (.int k) := by
 unfold X4d at h
 cases hu : P.underlying t with
 | none => simp [hu] at h
 | some u => rw [hu] at h; cases u <;> simp at h; exact ⟨_, rfl⟩
variable {ops : Array Oper} {draw : Bool} {K : Xy → St → Prop} {rest : List Oper} {l : Xy} {S : St}
variable {d : Nat} {ty : TypeId} {pos : String} {aft : Array Edge} {gd : Option (Nat × Bool)}
theorem Xg8 {x y : Operand} {T T2 : TypeId} {β γ n1 c1 sz bytes n' m : Nat} {kd : IntKind} {cs : List (Option D)} {xs : List (List D)} {zs : List Value} (hx : S.ev x = .rs β 0 n1 c1) (hy : S.ev y = .d (.v (.int kd (m : Nat)))) (hL : S.obj β = .raw cs none) (hfull : ¬ n1 + m ≤ c1) (hn' : n1 + m = n')
  (hm : 0 < m) (hxs : cs.take (n1 * sz) = xs.flatten.map some) (hxl : xs.length = n1) (hxz : ∀ r ∈ xs, r.length = sz) (hle : n1 * sz ≤ cs.length)
  (hz : UZ P T = some zs) (hB : elB P T = bytes) (hT : UE P T sz bytes = true) (hT2 : X4d P T2 = true) (hb0 : Nat.beq bytes 0 = false) (hs0 : Nat.beq sz 0 = false) (hcap : n' * bytes ≤ 70368744177664) (hold : c1 < n')
  (hdead : S.obj γ = .dead) (hf : S.free γ = true) (hd : Nat.blt d S.n = true) (hg : Xj ops S gd)
  (h : Walk P ops draw K rest ((l.length, ⟨some d, .call ⟨.builtin .append, #[x, y], #[T, T2]⟩, ty, pos, aft, gd⟩, ⟨Xg ops gd ++ [(x, .rs β 0 n1 c1), (y, .d (.v (.int kd (m : Nat))))], some (d, .own γ n'), [(β, .raw cs none), (γ, .dead)], [(γ, .row sz (xs ++ List.replicate m (zD zs)))], [γ]⟩) :: l)
   ((S.set d (.own γ n')).own γ (.row sz (xs ++ List.replicate m (zD zs))))) :
  Walk P ops draw K (⟨some d, .call ⟨.builtin .append, #[x, y], #[T, T2]⟩, ty, pos, aft, gd⟩ :: rest) l S := by
 refine XO ⟨[(x, .rs β 0 n1 c1), (y, .d (.v (.int kd (m : Nat))))], some (d, .own γ n'), [(β, .raw cs none), (γ, .dead)], [(γ, .row sz (xs ++ List.replicate m (zD zs)))], [γ]⟩ (X0e rfl fun E S g a w hs hq hl hnw => ?_) hg ⟨⟨hx, hy, trivial⟩, ⟨hL, hdead, trivial⟩, ⟨hf, trivial⟩, hd⟩ h
 obtain ⟨e, i, z, hu, hi, hsz, hbt, hz0, hzs, hz1⟩ := X2J hT
 obtain ⟨k2, h2⟩ := Xek hT2
 have hzz : z.cells.toList = zs := by
  obtain ⟨e', he', hz'⟩ := X7b hz
  rw [hu] at he'
  cases he'
  unfold VL at hz'
  rw [hi] at hz'
  simp [hz0] at hz'
  exact hz'
 have ho := hs.1.obj β
 rw [hl.1] at ho
 have hx' := Vs hq.1
 have hy' := Yn hq.2.1
 obtain ⟨vs, r1, r2, r3⟩ := X5p (P := P) (o := 0) (q := n1 * sz) ho (by omega)
 rw [List.drop_zero, hxs, List.map_map] at r2
 have hb0' := X1s hb0
 have hs0' := X1s hs0
 have hnext := nextslicecap_le (need := n1 + m) (old := c1) (by omega)
 have hmb : m * i.bytes ≤ 2 ^ 48 := by
  have : m * i.bytes ≤ n' * i.bytes := Nat.mul_le_mul_right _ (by omega)
  rw [hbt] at this ⊢
  omega
 have hgrow : Builtin.nextslicecap (n1 + m) c1 * i.bytes ≤ 2 ^ 48 := by
  have h2 : Builtin.nextslicecap (n1 + m) c1 * i.bytes ≤ 2 * (n1 + m) * i.bytes := Nat.mul_le_mul_right _ hnext
  rw [hbt, hn'] at h2
  rw [hbt, hn']
  have h3 : 2 * n' * bytes = 2 * (n' * bytes) := Nat.mul_assoc _ _ _
  omega
 have hneed : n1 + m < 2 ^ 63 := by
  have : n' ≤ n' * bytes := Nat.le_mul_of_pos_right _ (by omega)
  omega
 have hr := Xge (P := P) (w := w) (T := T) (T2 := T2) (ty := ty) (base := some ⟨g.blk β, 0, none⟩) (n := n1) (cap := c1) (m := m) (kd := kd) (olds := vs.toArray) hu hi hz0 h2 (by rw [hbt]; exact hb0') (by rw [hsz]; exact hs0') hm
  (fun w' hw' => by rw [hsz]; exact X6e (r3 w' hw')) hfull hmb hneed hgrow
 obtain ⟨c1', c2'⟩ := X6D (n1 + m) c1 e (w.tape w.drawn (.appendCap (n1 + m) c1 e)) hneed
 simp only at hr
 revert hr c1' c2'
 generalize (Question.appendCap (n1 + m) c1 e).cut (w.tape w.drawn (.appendCap (n1 + m) c1 e)) = nc
 intro hr c1' c2'
 rw [hn'] at hr c1'
 have hlen : (xs ++ List.replicate m (zD zs)).length = n' := by rw [List.length_append, hxl, List.length_replicate, hn']
 have hzl : zs.length = sz := by rw [← hzz, Array.length_toList, hzs]
 have hzc : (Builtin.zeroCells z.cells m).toList = Yg zs m := by unfold Builtin.zeroCells; rw [X3w, hzz]
 have hq2 := X5I (g := g) (zs := zs) (by rw [← hzz]; exact hz1) m
 refine ⟨_, g.put γ 0 (.slice (some ⟨w.heap.size, 0, none⟩) n' nc), _, X3H rfl (by rw [hx', hy']; exact hr), X5a (w := w), X26 hs.1 γ hnw.1 hl.2.1 _ _ _ (fun k hk => X0G w.drew _ k hk) (X1P w.drew _) rfl rfl ?_ (fun k hk => ?_), X0Y hnw.1 hs.2.2.2⟩
 ·refine ⟨fun r hr => (List.mem_append.1 hr).elim (hxz r) (fun hr => by rw [(List.mem_replicate.1 hr).2, X3y, hzl]), .inr ⟨w.heap.size, nc, _, e, (0, 0), by rw [hlen]; simp [Gh.put], by omega, c2', heap_alloc_new w.drew _, X2e _, ?_, ?_⟩⟩
  ·simp only [Array.size_append, X30, hzs, List.size_toArray, r1]
   rw [← Nat.add_mul, ← Nat.add_mul]
   exact Nat.mul_le_mul_right _ (by omega)
  ·have e1 : ((vs.toArray ++ Builtin.zeroCells z.cells m ++ Builtin.zeroCells z.cells (nc - n')).toList.take ((xs ++ List.replicate m (zD zs)).length * sz)) = vs ++ Yg zs m := by
    have hzn : (Builtin.zeroCells z.cells m).size = m * sz := by rw [X30, hzs]
    rw [Array.toList_append, Array.toList_append, hlen, ← hn', Nat.add_mul, ← hzn, hzc]
    have hzrl : (Yg zs m).length = (Builtin.zeroCells z.cells m).size := by rw [← hzc, Array.length_toList]
    rw [List.take_append_of_le_length (by rw [List.length_append, hzrl]; simp [r1])]
    rw [List.take_of_length_le (by rw [List.length_append, hzrl]; simp [r1])]
   rw [e1, List.flatten_append]
   exact X3K (X5D _ _) (X6c r2 hq2)
 ·obtain ⟨a1, n2, c2, e1, e2⟩ := hk
  simp [Gh.put] at e1
  rw [← e2, ← e1.1]
  exact Nat.le_refl _
end
abbrev fl (xs : List (List D)) : List (Option D) := xs.flatten.map some
theorem Yc {sz : Nat} {xs : List (List D)} (h : ∀ x ∈ xs, x.length = sz) : (fl xs).length = xs.length * sz := by
 rw [fl, List.length_map, UN xs h]
theorem X1w (xs ys : List (List D)) : fl (xs ++ ys) = fl xs ++ fl ys := by simp [fl]
theorem X8o : ∀ ds : List D, Uw (ds.map some) = true
 | [] => rfl
 | d :: ds => by rw [List.map_cons, Uw, X8o ds]; rfl
theorem X13 (xs : List (List D)) : Uw (fl xs) = true := X8o _
theorem Ur {sz : Nat} {xs : List (List D)} (h : ∀ x ∈ xs, x.length = sz) (j : Nat) : ∀ x ∈ xs.take j, x.length = sz := fun x hx => h x (List.mem_of_mem_take hx)
theorem Vy {sz : Nat} {xs : List (List D)} (h : ∀ x ∈ xs, x.length = sz) (j : Nat) : ∀ x ∈ xs.drop j, x.length = sz := fun x hx => h x (List.mem_of_mem_drop hx)
theorem X1h {sz : Nat} {xs : List (List D)} (h : ∀ x ∈ xs, x.length = sz) (T : List (Option D)) {j : Nat} (hj : j ≤ xs.length) : (fl xs ++ T).take (j * sz) = fl (xs.take j) := by
 have e : fl xs = fl (xs.take j) ++ fl (xs.drop j) := by rw [← X1w, List.take_append_drop]
 have hl : (fl (xs.take j)).length = j * sz := by rw [Yc (Ur h j), List.length_take, Nat.min_eq_left hj]
 rw [e, List.append_assoc, List.take_left' hl]
theorem Xat {sz : Nat} {xs : List (List D)} (h : ∀ x ∈ xs, x.length = sz) (T : List (Option D)) {j : Nat} (hj : j ≤ xs.length) : (fl xs ++ T).drop (j * sz) = fl (xs.drop j) ++ T := by
 have e : fl xs = fl (xs.take j) ++ fl (xs.drop j) := by rw [← X1w, List.take_append_drop]
 have hl : (fl (xs.take j)).length = j * sz := by rw [Yc (Ur h j), List.length_take, Nat.min_eq_left hj]
 conv => lhs; rw [e, List.append_assoc, List.drop_left' hl]
theorem Xb5 {sz : Nat} {xs : List (List D)} (h : ∀ x ∈ xs, x.length = sz) (T : List (Option D)) (q : Nat) : (fl xs ++ T).drop (xs.length * sz + q) = T.drop q := by
 rw [← List.drop_drop, List.drop_left' (Yc h)]
section
variable {sz i : Nat} {xs : List (List D)} {v : List D} {T : List (Option D)}
def X06 (sz i : Nat) (xs : List (List D)) (T : List (Option D)) : List (Option D) := fl (xs.take (i + 1)) ++ (fl (xs.drop i) ++ T.drop sz)
def VT (sz i : Nat) (xs : List (List D)) (v : List D) (T : List (Option D)) : List (Option D) := fl (xs.take i) ++ (fl [v] ++ (fl (xs.drop i) ++ T.drop sz))
theorem X3n (h : ∀ x ∈ xs, x.length = sz) (hi : i < xs.length) : ((fl xs ++ T).drop (i * sz)).take ((xs.length - i) * sz) = fl (xs.drop i) := by
 rw [Xat h T (by omega), List.take_left' (by rw [Yc (Vy h i), List.length_drop])]
theorem X4s (h : ∀ x ∈ xs, x.length = sz) (hi : i < xs.length) : (fl xs ++ T).take ((i + 1) * sz) ++ ((fl xs ++ T).drop (i * sz)).take ((xs.length - i) * sz) ++ (fl xs ++ T).drop ((i + 1) * sz + (xs.length - i) * sz) = X06 sz i xs T := by
 have e : (i + 1) * sz + (xs.length - i) * sz = xs.length * sz + sz := by
  rw [← Nat.add_mul, show i + 1 + (xs.length - i) = xs.length + 1 by omega, Nat.succ_mul]
 rw [e, Xb5 h, X3n h hi, X1h h T (by omega), List.append_assoc]; rfl
theorem X3B (h : ∀ x ∈ xs, x.length = sz) (hi : i < xs.length) : (X06 sz i xs T).take (i * sz) ++ ([v].take 1).flatten.map some ++ (X06 sz i xs T).drop (i * sz + 1 * sz) = VT sz i xs v T := by
 have hl : (xs.take (i + 1)).length = i + 1 := by rw [List.length_take]; omega
 have e : i * sz + 1 * sz = (xs.take (i + 1)).length * sz + 0 := by rw [hl, ← Nat.add_mul]; rfl
 unfold X06 VT
 rw [e, Xb5 (Ur h (i + 1)), List.drop_zero, X1h (Ur h (i + 1)) _ (by omega), List.take_take, Nat.min_eq_left (by omega), List.append_assoc]
 rfl
theorem X4g (h : ∀ x ∈ xs, x.length = sz) (hv : v.length = sz) (hi : i ≤ xs.length) : (VT sz i xs v T).take ((xs.length + 1) * sz) = (xs.take i ++ v :: xs.drop i).flatten.map some := by
 have e : VT sz i xs v T = fl (xs.take i ++ v :: xs.drop i) ++ T.drop sz := by
  unfold VT
  rw [show xs.take i ++ v :: xs.drop i = xs.take i ++ ([v] ++ xs.drop i) from rfl, X1w, X1w]
  simp only [List.append_assoc]
 have hl : ∀ x ∈ xs.take i ++ v :: xs.drop i, x.length = sz := by
  intro x hx
  rcases List.mem_append.1 hx with hx | hx
  ·exact Ur h i x hx
  ·rcases List.mem_cons.1 hx with rfl | hx
   ·exact hv
   ·exact Vy h i x hx
 have hn : (xs.take i ++ v :: xs.drop i).length = xs.length + 1 := by rw [List.length_append, List.length_cons, List.length_take, List.length_drop]; omega
 rw [e, List.take_left' (by rw [Yc hl, hn])]
theorem X3P (h : ∀ x ∈ xs, x.length = sz) (hv : v.length = sz) : ∀ x ∈ xs.take i ++ v :: xs.drop i, x.length = sz := by
 intro x hx
 rcases List.mem_append.1 hx with hx | hx
 ·exact Ur h i x hx
 ·rcases List.mem_cons.1 hx with rfl | hx
  ·exact hv
  ·exact Vy h i x hx
theorem X4O (hi : i ≤ xs.length) : (xs.take i ++ v :: xs.drop i).length = xs.length + 1 := by rw [List.length_append, List.length_cons, List.length_take, List.length_drop]; omega
theorem X42 (h : ∀ x ∈ xs, x.length = sz) (hi : i < xs.length) (hT : sz ≤ T.length) : (X06 sz i xs T).length = xs.length * sz + T.length := by
 unfold X06
 rw [List.length_append, List.length_append, Yc (Ur h _), Yc (Vy h _), List.length_take, List.length_drop, List.length_drop, Nat.min_eq_left (by omega)]
 have : (i + 1) * sz + (xs.length - i) * sz = xs.length * sz + sz := by rw [← Nat.add_mul, show i + 1 + (xs.length - i) = xs.length + 1 by omega, Nat.succ_mul]
 omega
theorem X4Y (h : ∀ x ∈ xs, x.length = sz) (hv : v.length = sz) (hi : i ≤ xs.length) (hT : sz ≤ T.length) : (VT sz i xs v T).length = xs.length * sz + T.length := by
 unfold VT
 rw [List.length_append, List.length_append, List.length_append, Yc (Ur h _), Yc (Vy h _), List.length_take, List.length_drop, List.length_drop, Nat.min_eq_left hi]
 have h1 : (fl [v]).length = sz := by simp [fl, hv]
 have : i * sz + (xs.length - i) * sz = xs.length * sz := by rw [← Nat.add_mul]; congr 1; omega
 omega
theorem X3M {zs : List (List D)} (hi : i ≤ xs.length) (hz : zs.length = xs.length + 1 - i) (hlt : i < xs.length) :
  ((xs.take i ++ zs).take i ++ [v].take 1 ++ (xs.take i ++ zs).drop (i + 1)).take (i + 1) ++ ((xs.take xs.length).drop i).take (xs.length - i) ++ ((xs.take i ++ zs).take i ++ [v].take 1 ++ (xs.take i ++ zs).drop (i + 1)).drop (i + 1 + (xs.length - i)) = xs.take i ++ v :: xs.drop i := by
 have l1 : (xs.take i).length = i := by rw [List.length_take]; omega
 have l2 : (xs.take i ++ [v]).length = i + 1 := by rw [List.length_append, l1]; rfl
 have e1 : (xs.take i ++ zs).take i = xs.take i := List.take_left' l1
 have l3 : ((xs.take i ++ zs).drop (i + 1)).length = xs.length - i := by rw [List.length_drop, List.length_append, l1, hz]; omega
 have e2 : ((xs.take xs.length).drop i).take (xs.length - i) = xs.drop i := by rw [List.take_length]; exact List.take_of_length_le (by rw [List.length_drop]; omega)
 have e3 : (xs.take i ++ [v] ++ (xs.take i ++ zs).drop (i + 1)).drop (i + 1 + (xs.length - i)) = [] := List.drop_eq_nil_of_le (by rw [List.length_append, l2, l3]; omega)
 rw [e1, show [v].take 1 = [v] from rfl, List.take_left' l2, e2, e3, List.append_nil, List.append_assoc]
 rfl
def VM (sz i : Nat) (xs : List (List D)) (W : List (Option D)) : List (Option D) := fl (xs.take i) ++ (fl (xs.drop (i + 1)) ++ W)
theorem X2Q (h : ∀ x ∈ xs, x.length = sz) (hi : i < xs.length) {c off : Nat} (hc : xs.length ≤ c) (ho : (if c = i + 1 then 0 else 0 + (i + 1) * sz) = off) : ((fl xs ++ T).drop off).take ((xs.length - (i + 1)) * sz) = fl (xs.drop (i + 1)) := by
 by_cases e : xs.length = i + 1
 ·rw [e, Nat.sub_self, Nat.zero_mul, List.take_zero, List.drop_eq_nil_of_le (by omega)]; rfl
 ·have : off = (i + 1) * sz := by rw [← ho, if_neg (by omega), Nat.zero_add]
  rw [this, Xat h T (by omega), List.take_left' (by rw [Yc (Vy h _), List.length_drop])]
theorem X4b (hi : i < xs.length) {c off : Nat} (hc : xs.length ≤ c) (ho : (if c = i + 1 then 0 else 0 + (i + 1) * sz) = off) (h : ∀ x ∈ xs, x.length = sz) : off + (xs.length - (i + 1)) * sz ≤ (fl xs ++ T).length := by
 rw [List.length_append, Yc h]
 by_cases e : xs.length = i + 1
 ·rw [e, Nat.sub_self, Nat.zero_mul, ← ho]
  split
  ·omega
  ·omega
 ·have : off = (i + 1) * sz := by rw [← ho, if_neg (by omega), Nat.zero_add]
  rw [this, ← Nat.add_mul, show i + 1 + (xs.length - (i + 1)) = xs.length by omega]
  omega
theorem X4o (h : ∀ x ∈ xs, x.length = sz) (hi : i < xs.length) {c off : Nat} (hc : xs.length ≤ c) (ho : (if c = i + 1 then 0 else 0 + (i + 1) * sz) = off) : (fl xs ++ T).take (0 + i * sz) ++ ((fl xs ++ T).drop off).take ((xs.length - (i + 1)) * sz) ++ (fl xs ++ T).drop (0 + i * sz + (xs.length - (i + 1)) * sz) = VM sz i xs ((fl xs ++ T).drop (i * sz + (xs.length - (i + 1)) * sz)) := by
 rw [X2Q h hi hc ho, Nat.zero_add, X1h h T (by omega), List.append_assoc]; rfl
theorem X3Q (h : ∀ x ∈ xs, x.length = sz) (hi : i < xs.length) (W V : List (Option D)) : ((VM sz i xs W).take ((xs.length - 1) * sz) ++ V).take ((xs.length - 1) * sz) = (xs.take i ++ xs.drop (i + 1)).flatten.map some := by
 have hl : ∀ x ∈ xs.take i ++ xs.drop (i + 1), x.length = sz := by
  intro x hx
  rcases List.mem_append.1 hx with hx | hx
  ·exact Ur h i x hx
  ·exact Vy h _ x hx
 have hn : (xs.take i ++ xs.drop (i + 1)).length = xs.length - 1 := by rw [List.length_append, List.length_take, List.length_drop]; omega
 have e : VM sz i xs W = fl (xs.take i ++ xs.drop (i + 1)) ++ W := by unfold VM; rw [X1w, List.append_assoc]
 have e2 : (VM sz i xs W).take ((xs.length - 1) * sz) = fl (xs.take i ++ xs.drop (i + 1)) := by rw [e, List.take_left' (by rw [Yc hl, hn])]
 rw [e2, List.take_left' (by rw [Yc hl, hn])]
theorem X4A (hi : i < xs.length) : (xs.take i ++ xs.drop (i + 1)).length = xs.length - 1 := by rw [List.length_append, List.length_take, List.length_drop]; omega
theorem X4a (h : ∀ x ∈ xs, x.length = sz) (hi : i < xs.length) : (VM sz i xs ((fl xs ++ T).drop (i * sz + (xs.length - (i + 1)) * sz))).length = xs.length * sz + T.length := by
 unfold VM
 have e1 : i * sz + (xs.length - (i + 1)) * sz ≤ xs.length * sz := by rw [← Nat.add_mul]; exact Nat.mul_le_mul_right _ (by omega)
 rw [List.length_append, List.length_append, Yc (Ur h _), Yc (Vy h _), List.length_take, List.length_drop, List.length_drop, List.length_append, Yc h, Nat.min_eq_left (by omega)]
 omega
end
def X4r (P : Program) (t : TypeId) : Bool := match P.underlying t with | some (.interface _) => false | some _ => true | none => false
theorem XbN {P : Program} {t : TypeId} (h : X4r P t = true) (v : Value) (w : World) : (Instr.makeInterface t v).run P w = .ok (.iface t v) w := by
 unfold X4r at h
 cases hu : P.underlying t with
 | none => simp [hu] at h
 | some d =>
  unfold Instr.makeInterface
  rw [Sem.run_bind, run_underlying hu w]
  cases d <;> simp_all
section
variable {P : Program} {ops : Array Oper} {draw : Bool} {K : Xy → St → Prop} {rest : List Oper} {l : Xy} {S : St}
variable {d : Nat} {ty : TypeId} {pos : String} {aft : Array Edge} {gd : Option (Nat × Bool)}
theorem Xdb {t : TypeId} {x : Operand} {u : Value} (hx : S.ev x = .d (.v u)) (ht : X4r P t = true) (hd : Nat.blt d S.n = true) (hg : Xj ops S gd)
  (h : Walk P ops draw K rest ((l.length, ⟨some d, .makeInterface t x, ty, pos, aft, gd⟩, ⟨Xg ops gd ++ [(x, .d (.v u))], some (d, .d (.v (.iface t u))), [], [], []⟩) :: l) (S.set d (.d (.v (.iface t u))))) :
  Walk P ops draw K (⟨some d, .makeInterface t x, ty, pos, aft, gd⟩ :: rest) l S :=
 XO ⟨[(x, .d (.v u))], some (d, .d (.v (.iface t u))), [], [], []⟩ (Y2 rfl fun E S g a w hs hq _ => by
  refine ⟨.iface t u, ?_, Ui rfl⟩
  simp only [execOp, Yn hq.1, Sem.run_bind, XbN ht]; rfl) hg ⟨⟨hx, trivial⟩, trivial, trivial, hd⟩ h
end
theorem XaN {g g' : Gh} : ∀ {xs us : List Value}, Xk g (xs.map fun x => .d (.v x)) us → Xk g' (xs.map fun x => .d (.v x)) us
 | [], [], _ => by simp only [List.map_nil, Xk]
 | [], _ :: _, h => by simp only [List.map_nil, Xk] at h
 | _ :: _, [], h => by simp only [List.map_cons, Xk] at h
 | x :: xs, u :: us, h => by
  simp only [List.map_cons, Xk, AVal.sat, D.rep] at h ⊢
  exact ⟨h.1, XaN h.2⟩
theorem XfX (xs : List Value) (g g' : Gh) (v : Value) (h : (AVal.tup (xs.map fun x => .d (.v x))).sat g v) : (AVal.tup (xs.map fun x => .d (.v x))).sat g' v := by
 simp only [AVal.sat] at h ⊢
 obtain ⟨vs, h1, h2⟩ := h
 exact ⟨vs, h1, XaN h2⟩
theorem X0O {P : Program} {f : FuncId} {sz : Nat} {xs : List (List D)} {post : List AVal} {a b : Value} (γ : Nat) (hcon : Con P f [] (.d (.sl sz xs) :: post) [] (.tup [.d (.v a), .d (.v b)])) :
  Con P f [(γ, .row sz xs)] (.own γ xs.length :: post) [(γ, .row sz xs)] (.tup [.d (.v a), .d (.v b)]) :=
 Xgl (pre := []) γ hcon (XfX [a, b])
structure AW (P : Program) (E : Env) (c : Code) (S : St) (R : Exit → Act → World → Prop) : Prop where
 run : ∀ a w, holds E S a w → c.wp P R a w
section
variable {P : Program} {E : Env} {S : St} {R : Exit → Act → World → Prop}
theorem X4m {c : Code} (h : AWP P E c S (fun e T => ∀ a w, holds E T a w → R e a w)) : AW P E c S R :=
 ⟨fun a w hs => wp_mono (h.run a w hs) fun e a' w' ⟨T, h1, h2⟩ => h1 a' w' h2⟩
theorem X0x {x y : Code} (h : AWP P E x S (X01 (fun T => AW P E y T R) (fun e T => ∀ a w, holds E T a w → R e a w))) : AW P E (.seq x y) S R := by
 refine ⟨fun a w hs => wp_seq (wp_mono (h.run a w hs) ?_)⟩
 rintro e a' w' ⟨T, hq, ht⟩
 cases e <;> first | exact hq.run a' w' ht | exact hq a' w' ht
theorem X4w {c : Code} {T : St} (h : S.le T) (k : AW P E c T R) : AW P E c S R := ⟨fun a w hs => k.run a w (h E a w hs)⟩
end
def X20 (E : Env) (Li Lo : List (Nat × AObj)) (xs : List AVal) : Ending → World → Prop := fun e w' =>
 ∃ v g', e = .returned v ∧ (X12 xs).sat g' v ∧ Inv { E with g0 := g' } (Xa .dead Lo) g' w' ∧ ∀ γ, Xt γ Li = true → E.g0.keeps g' γ
theorem X37 {P : Program} {f : FuncId} {fn : Func} {c : Code} {n : Nat} {Li Lo : List (Nat × AObj)} {args xs : List AVal} (hf : P.funcs[f]? = some fn) (hb : fn.body = some c) (hn : fn.ntmps = n)
  (hle : Nat.ble args.length n = true) (h : ∀ E, E.ds = [] → AW P E c (VC n args Li) (bodyPostD P fn (X20 E Li Lo xs))) : Con P f Li args Lo (X12 xs) := by
 intro g w vs hi hs
 have hl := Y6 hs
 refine calls_of_wp_defers hf hb ?_
 have hstart : holds (YL g w Li) (VC n args Li) { tmps := vs.toArray ++ Array.replicate (fn.ntmps - vs.toArray.size) undef, defers := [] } w := by
  refine ⟨g, hi, rfl, ?_, fun t => ?_⟩
  ·have : args.length ≤ n := by simpa using hle
   simp [VC, hn, hl]; omega
  ·show AVal.sat g (Xa _ _ _) _
   simp only [VC]
   rw [X4y]
   simp only [Nat.zero_le, if_true, Nat.sub_zero]
   cases hx : args[t]? with
   | none => simp [AVal.sat]
   | some x =>
    obtain ⟨u, hu, hsu⟩ := YG hs t x hx
    have hlt : t < vs.length := (List.getElem?_eq_some_iff.1 hu).1
    have : (vs.toArray ++ Array.replicate (fn.ntmps - vs.toArray.size) undef).getD t undef = u := by
     rw [Array.getD_eq_getD_getElem?, Array.getElem?_append_left (by simpa using hlt)]
     simp [hu]
    rw [this]; exact hsu
 exact (h (YL g w Li) rfl).run _ w hstart
section
variable {P : Program} {E : Env} {fn : Func} {rs : List ResultVar} {Li Lo : List (Nat × AObj)} {xs : List AVal}
theorem Xeg {T : St} (hds : E.ds = []) (hr : fn.results.toList = rs) (hlow : X1o Li = true) (h : Xd P rs Lo xs T) {a : Act} {w : World} (hs : holds E T a w) : Leaves P fn a.tmps (X20 E Li Lo xs) a.defers .returning w := by
 obtain ⟨U, hU, hres, hsub⟩ := h
 obtain ⟨g', hg'⟩ := hU _ _ _ hs
 obtain ⟨v, r1, r2⟩ := X3C hg' hr hres
 rw [hg'.2.1, hds]
 exact ⟨v, r1, v, g', rfl, r2, (hg'.1.sub hsub).free (fun γ _ => Gh.keeps_refl _ _), fun γ hγ => hg'.1.kp γ (X2C Li γ hlow hγ)⟩
abbrev dfr (f : FuncId) (b : Nat) : Deferred := { target := .fn (.func f) #[.pointer (some ⟨b, 0, none⟩)], args := #[] }
theorem XaI {f : FuncId} (hf : Vk P f = true) (b : Nat) (w : World) : (invoke (dfr f b).target (dfr f b).args).run P w = .ok (.enter f #[.pointer (some ⟨b, 0, none⟩)]) w := by
 simp only [invoke]
 rw [X4V hf]
 rfl
theorem Xbh {T : St} {f : FuncId} {b : Nat} {R : Ending → World → Prop} (hf : Vk P f = true) (hds : E.ds = [dfr f b]) (hr : fn.results.toList = rs) (hlow : X1o Li = true)
  (hR : ∀ x w', X20 E Li Lo xs x w' → R x w')
  (hidle : ∀ p w, CallsD P f #[.pointer (some p)] .returning w fun e u' w' => e = .returned (.tuple #[]) ∧ u' = .returning ∧ w' = w) (h : Xd P rs Lo xs T) {a : Act} {w : World} (hs : holds E T a w) : Leaves P fn a.tmps R a.defers .returning w := by
 obtain ⟨U, hU, hres, hsub⟩ := h
 obtain ⟨g', hg'⟩ := hU _ _ _ hs
 obtain ⟨v, r1, r2⟩ := X3C hg' hr hres
 rw [hg'.2.1, hds]
 refine leaves_cons (f := f) (args := #[.pointer (some ⟨b, 0, none⟩)]) (by simp) (XaI hf b w) ((hidle _ _).mono ?_)
 rintro e u' w' ⟨rfl, rfl, rfl⟩
 exact ⟨v, r1, hR _ _ ⟨v, g', rfl, r2, (hg'.1.sub hsub).free (fun γ _ => Gh.keeps_refl _ _), fun γ hγ => hg'.1.kp γ (X2C Li γ hlow hγ)⟩⟩
end
theorem Xew {E : Env} {S : St} {g : Gh} {a : Act} {w : World} {γ : Nat} {x0 y : AVal} {u : Value} (hs : Ub E S g a w) (hL : S.obj γ = .box [x0]) (hy : y.sat g u) (hc : y.cellish = true) :
  ∃ c0, w.cell? ⟨g.blk γ, 0, none⟩ = some c0 ∧ x0.sat g c0 ∧ w.frozen? ⟨g.blk γ, 0, none⟩ = false ∧ Ub E (S.own γ (.box [y])) g a (w.setCell ⟨g.blk γ, 0, none⟩ u) := by
 have ho := hs.1.obj γ
 rw [hL] at ho
 obtain ⟨vs, e, fr, h1, h2, h3, h4⟩ := ho
 obtain ⟨c0, hc0, hsat⟩ := YG h3 0 x0 rfl
 have hsz : vs.size = 1 := by have := Y6 h3; simpa using this
 have hvs : vs = #[c0] := by
  apply Array.ext'
  match h : vs.toList, hc0 with
  | [c], hc0 => simp only [List.getElem?_cons_zero, Option.some.injEq] at hc0; rw [hc0]
  | [], hc0 => simp at hc0
  | c :: d :: r, _ => have := congrArg List.length h; simp [hsz] at this
 subst hvs
 have hb : (w.setCell ⟨g.blk γ, 0, none⟩ u).heap[g.blk γ]? = some (.cells #[u] e fr) := by
  simp [World.setCell, Array.getElem?_modify, h1]
 refine ⟨c0, by rw [cell_of_row w _ 0 _ e fr h1]; rfl, hsat, ?_, ?_, hs.2.1, hs.2.2.1, hs.2.2.2⟩
 ·have := h2 0 (by omega)
  unfold World.frozen?
  simp only [h1]
  by_cases h : fr.1 ≤ 0
  ·have : ¬ 0 < fr.2 := fun k => this ⟨h, k⟩
   simp [this]
  ·simp [h]
 ·refine Inv.upd hs.1 γ _ (XT _ _ _ _) (fun k hk => XK _ _ _ (Ne.symm hk)) (fun b hb hnl => ?_) (by simp [World.setCell]) rfl rfl rfl (fun k hk => ⟨rfl, rfl, rfl⟩) (fun k cs us _ _ h => h) ?_ (fun b hb => .inl (by rw [hL]; exact hb)) (fun _ => Gh.keeps_refl _ _)
  ·have : g.blk γ ≠ b := fun e => hnl (by rw [hL, ← e]; rfl)
   simp [World.setCell, Array.getElem?_modify, this]
  ·refine ⟨#[u], e, fr, hb, h2, ?_, fun c hcm => ?_⟩
   ·simp only [Xk, and_true]; exact hy
   ·rw [List.mem_singleton.1 hcm]; exact hc
theorem X9S {P : Program} {E : Env} {fn : Func} {Li Lo : List (Nat × AObj)} {T : St} {f : FuncId} {b β t : Nat} {ty : TypeId} {x : PanicEntry} {e e0 : Int} {R : Ending → World → Prop} (hf : Vk P f = true) (hds : E.ds = [dfr f b]) (hb : E.g0.blk β = b) (hβ : β < 100) (hr : fn.results.toList = [.cell t ty]) (hty : YO P ty false 1 = true) (hlow : X1o Li = true)
  (hR : ∀ x w', X20 E Li Lo [ai e] x w' → R x w') (hrec : x.recovered = true)
  (hcatch : ∀ (p : Addr) (e0 : Int) (w : World), w.cell? p = some (.int .i64 e0) → w.frozen? p = false → CallsD P f #[.pointer (some p)] (.panicking [{ x with recovered := false }]) w fun y u' w' => y = .returned (.tuple #[]) ∧ u' = .panicking [{ x with recovered := true }] ∧ w' = w.setCell p (.int .i64 e))
  (hg : T.get t = .ptr β 0) (hL : T.obj β = .box [ai e0]) (hLo : ∀ γ, Xa .dead Lo γ = .dead) {a : Act} {w : World} (hs : holds E T a w) : Leaves P fn a.tmps R a.defers (.panicking [{ x with recovered := false }]) w := by
 obtain ⟨g, hs⟩ := hs
 obtain ⟨c0, k1, k2, k3, k4⟩ := Xew (y := ai e) (u := .int .i64 e) hs hL (Ui rfl) rfl
 have hbk : g.blk β = b := ((hs.1.kp β hβ).1).trans hb
 have hc0 : c0 = .int .i64 e0 := Yn k2
 subst hc0
 rw [hbk] at k1 k3 k4
 rw [hs.2.1, hds]
 refine leaves_cons (f := f) (args := #[.pointer (some ⟨b, 0, none⟩)]) (by simp) (XaI hf b w) ((hcatch _ _ _ k1 k3).mono ?_)
 rintro y u' w' ⟨rfl, rfl, rfl⟩
 have hres : X31 P (T.own β (.box [ai e])) [.cell t ty] [ai e] := ⟨⟨β, 0, _, hg, XT _ _ _ _, .inl ⟨hty, rfl⟩⟩, trivial⟩
 obtain ⟨v, r1, r2⟩ := X3C k4 hr hres
 exact ⟨v, r1, hR _ _ ⟨v, g, rfl, r2, (k4.1.sub fun γ => .inr (hLo γ)).free (fun γ _ => Gh.keeps_refl _ _), fun γ hγ => k4.1.kp γ (X2C Li γ hlow hγ)⟩⟩
theorem Xdk {a b k : Nat} (h1 : k ≠ a) (h2 : k ≠ b) : swp a b k = k := by
 simp only [swp]
 have e1 : Nat.beq k a = false := by cases h : Nat.beq k a with | false => rfl | true => exact absurd (Nat.eq_of_beq_eq_true h) h1
 have e2 : Nat.beq k b = false := by cases h : Nat.beq k b with | false => rfl | true => exact absurd (Nat.eq_of_beq_eq_true h) h2
 simp [e1, e2]
theorem X4F {P : Program} {E : Env} {S : St} {R : Exit → Act → World → Prop} {id : Nat} {ops : Array Oper} {y : Code} (k : Nat) {t : Tmp} {f : FuncId} {Li Lo : List (Nat × AObj)} {xs : List AVal} (β β' : Nat) {ty : TypeId} {pos : String} {aft : Array Edge}
  (ho : ops[k]? = some ⟨none, .defer ⟨.value (.tmp t), #[], #[]⟩, ty, pos, aft, none⟩) (hsz : ops.size = k + 1) (hds : E.ds = []) (hβ : β ≥ 100) (hLi : ∀ γ, Xt γ Li = true → γ < 100 ∧ γ ≠ β')
  (h : Walk P ops false (fun _ T => T.ev (.tmp t) = .fn f [.ptr β 0] ∧ ∀ E' b, E'.ds = [dfr f b] → E'.g0.blk β' = b → (∀ x w', X20 E' Li Lo xs x w' → X20 E Li Lo xs x w') → AW P E' y ⟨T.n, X1H (swp β β') T.τ, Ut (swp β β') T.L⟩ R) (ops.toList.take k) [] S) : AW P E (.seq (.region id ops false) y) S R := by
 refine ⟨fun a w hs => wp_seq ?_⟩
 refine wp_region ?_
 obtain ⟨m, T, -, ⟨hT, hrest⟩, h3, h4, h5⟩ := h.chain
 have hlen : m.length = k := by have := congrArg List.length h4; simp only [List.length_map, List.length_take, Array.length_toList] at this; omega
 have hat : ∀ x ∈ m, ops[x.1]? = some x.2.1 := by
  intro x hx
  obtain ⟨i, hi, rfl⟩ := List.getElem_of_mem hx
  have e1 : (m[i]).1 = i := by
   have := congrArg (fun l => l[i]?) h5
   simpa [hi] using this
  have e2 := congrArg (fun l => l[i]?) h4
  simp only [List.getElem?_map, List.getElem?_eq_getElem hi, Option.map_some, List.getElem?_take, if_pos (show i < k by omega)] at e2
  rw [e1]; simpa using e2.symm
 have hfin : ∀ a w, holds E T a w → wpOps P ops (fun | .normal, a, w => y.wp P R a w | e, a, w => R e a w) [k] a w := by
  rintro a w ⟨g, hg⟩
  rw [wpOps_cons]
  unfold wpOp
  simp only [ho]
  rw [if_pos (show Region.wanted _ _ = true from rfl)]
  have hv := X2x hg (.tmp t)
  rw [hT] at hv
  simp only [AVal.sat] at hv
  obtain ⟨vs, hv, hvs⟩ := hv
  have hvs' : vs = #[.pointer (some ⟨g.blk β, 0, none⟩)] := by
   apply Array.ext'
   match hq : vs.toList, hvs with
   | [v], hvs => simp only [Xk, AVal.sat, and_true] at hvs; rw [hvs]
   | [], hvs => simp [Xk] at hvs
   | _ :: _ :: _, hvs => simp [Xk] at hvs
  subst hvs'
  left
  unfold Oper.wp
  have hrun : (execOp a.eval ⟨none, .defer ⟨.value (.tmp t), #[], #[]⟩, ty, pos, aft, none⟩).run P w = .ok (.defer (dfr f (g.blk β))) w := by
   simp [execOp, resolve, hv, Deferred.ofValue]
  rw [hrun, Oper.upon_defer]
  show Code.wp P y R _ _
  refine (hrest { E with ds := [dfr f (g.blk β)], g0 := g.pull (swp β β') } (g.blk β) rfl ?_ ?_).run _ _ ?_
  ·show g.blk (swp β β' β') = g.blk β
   have : swp β β' β' = β := by
    have := X0T β β' β
    rwa [show swp β β' β = β' from by simp [swp]] at this
   rw [this]
  ·rintro x w' ⟨v, g', e1, e2, e3, e4⟩
   refine ⟨v, g', e1, e2, ⟨e3.obj, e3.inj, e3.mem, e3.sep, e3.new, e3.ext, e3.lim, e3.frame, e3.size, e3.os, e3.out, e3.kp⟩, fun γ hγ => ?_⟩
   obtain ⟨q1, q2⟩ := hLi γ hγ
   have e := e4 γ hγ
   have hid : swp β β' γ = γ := Xdk (by omega) q2
   exact (hg.1.kp γ q1).trans' ((Gh.keeps_of (g' := g.pull (swp β β')) (by simp only [Gh.pull, hid]) (by simp only [Gh.pull, hid]) (by simp only [Gh.pull, hid])).trans' e)
  ·have hpp : (g.pull (swp β β')).pull (swp β β') = g := by simp only [Gh.pull, X0T]
   have hi : Inv { E with g0 := (g.pull (swp β β')).pull (swp β β') } (Xa .dead T.L) ((g.pull (swp β β')).pull (swp β β')) w := by
    rw [hpp]
    exact hg.1.free fun _ _ => Gh.keeps_refl _ _
   have hi2 := (X3S (E := E) (g0 := g.pull (swp β β')) (X0T β β') (X0T β β')).2 hi
   refine ⟨g.pull (swp β β'), ⟨hi2.obj, hi2.inj, hi2.mem, hi2.sep, hi2.new, hi2.ext, hi2.lim, hi2.frame, hi2.size, hi2.os, hi2.out, hi2.kp⟩, ?_, hg.2.2.1, fun t' => ?_⟩
   ·show _ :: a.defers = _
    rw [hg.2.1, hds]
   ·show AVal.sat _ (Xa .any (X1H (swp β β') T.τ) t') _
    rw [X5C, X3R, hpp]
    exact hg.2.2.2 t'
 obtain ⟨g, hs⟩ := hs
 have := X6Y (P := P) (Q := fun | .normal, a, w => y.wp P R a w | e, a, w => R e a w) [k] hfin m S a w hat h3 ⟨g, hs⟩
 rw [h5, hlen, List.length_nil] at this
 have e : List.range' 0 k ++ [k] = List.range ops.size := by
  rw [hsz, List.range_succ, List.range_eq_range']
 rw [e] at this
 exact this
section
variable {P : Program} {t : TypeId} {x y : Operand} {a b : List UInt8}
theorem XeN (w : World) : (do eqGuard .geq t x y (.string (X5 a)) (.string (X5 b)); binOp .geq t (.string (X5 a)) (.string (X5 b)) : Sem Value).run P w = .ok (.bool (!(Op.bytesLess a b))) w := by
 simp [go_sem, binOp, Op.stringOp, X0h]
end
end Go.Fw

/- Ninth part: the walk's rule for a call; weakening of states; more operations. -/
import Derived.Laws.BytesString
import Derived.WalkSpells
import Derived.Test.YtonekjkmnhfjmaaGreatDoorM04
namespace Go.Fw
open Go
set_option linter.unusedVariables false
set_option linter.unusedSimpArgs false
def evA (S : St) : List Operand → List AVal
 | [] => []
 | x :: r => S.ev x :: evA S r
def VD : List Operand → List AVal → List (Operand × AVal)
 | x :: r, y :: s => (x, y) :: VD r s
 | _, _ => []
theorem X36 {g : Gh} {a : Act} : ∀ {xs : List Operand} {ys : List AVal}, ys.length = xs.length → V7 g a (VD xs ys) → Xk g ys (xs.map a.eval)
 | [], [], _, _ => by simp only [List.map_nil, Xk]
 | x :: xs, y :: ys, h, hs => by
  simp only [List.map_cons, Xk]
  exact ⟨hs.1, X36 (by simpa using h) hs.2⟩
 | [], _ :: _, h, _ => by simp at h
 | _ :: _, [], h, _ => by simp at h
theorem X2U (S : St) : ∀ (xs : List Operand), Vj S (VD xs (evA S xs))
 | [] => trivial
 | x :: r => ⟨rfl, X2U S r⟩
def AVal.le (x y : AVal) : Prop := ∀ g u, x.sat g u → y.sat g u
theorem AVal.le_refl (x : AVal) : x.le x := fun _ _ h => h
theorem AVal.le_nil (sz : Nat) : AVal.le ani (.d (.sl sz [])) := fun g u h => by
 simp only [AVal.sat, D.rep] at h ⊢
 exact ⟨none, 0, h.1, by simp, by simp, by simp⟩
theorem AVal.le_of_eq {x y : AVal} (h : x = y) : x.le y := h ▸ AVal.le_refl x
def leL : List AVal → List AVal → Prop
 | [], [] => True
 | x :: r, y :: s => x.le y ∧ leL r s
 | _, _ => False
theorem X2c {g : Gh} : ∀ {xs ys : List AVal} {us : List Value}, leL xs ys → Xk g xs us → Xk g ys us
 | [], [], _, _, h => h
 | x :: xs, y :: ys, u :: us, hl, h => by
  simp only [Xk] at h ⊢
  exact ⟨hl.1 g u h.1, X2c hl.2 h.2⟩
 | _ :: _, _ :: _, [], _, h => by simp only [Xk] at h
 | [], _ :: _, _, hl, _ => hl.elim
 | _ :: _, [], _, hl, _ => hl.elim
theorem AVal.le_agg {xs ys : List AVal} (h : leL xs ys) : AVal.le (.agg xs) (.agg ys) := fun g u hs => by
 simp only [AVal.sat] at hs ⊢
 obtain ⟨vs, h1, h2⟩ := hs
 exact ⟨vs, h1, X2c h h2⟩
def Vk (P : Program) (f : FuncId) : Bool := match P.funcs[f]? with | some fn => !(fn.name == "runtime.NumGoroutine") && fn.body.isSome | none => false
theorem X4V {P : Program} {f : FuncId} (h : Vk P f = true) (args : Array Value) (w : World) : (callFunc f args).run P w = .ok (.enter f args) w := by
 unfold Vk at h
 cases hf : P.funcs[f]? with
 | none => simp [hf] at h
 | some fn =>
  rw [hf] at h
  simp only [Bool.and_eq_true, Bool.not_eq_true'] at h
  have hb : fn.body.isNone = false := by
   cases hb : fn.body with
   | none => have := h.2; simp [hb] at this
   | some c => rfl
  simp only [callFunc, Sem.run_bind, run_program, Result.andThen_ok, hf, h.1, hb, Bool.false_eq_true, if_false, Sem.run_pure]
section
variable {P : Program} {ops : Array Oper} {draw : Bool} {K : Xy → St → Prop} {rest : List Oper} {l : Xy} {S : St}
variable {d : Nat} {ty : TypeId} {pos : String} {aft : Array Edge} {gd : Option (Nat × Bool)}
theorem XcO {f : FuncId} {args : Array Operand} {tys : Array TypeId} {xs : List Operand} {ys zs : List AVal} {Li Lo : List (Nat × AObj)} {res : AVal}
  (hxs : args.toList = xs) (hys : evA S xs = ys) (hle : leL ys zs) (hcon : Con P f Li zs Lo res) (hf : Vk P f = true)
  (hLi : Yu S Li) (hin : X0o Li Lo = true) (hbox : X03 Lo Lo = true) (hres : res.within Lo = true) (hnew : VG S (Yv Li Lo)) (hdead : Yu S (VJ (Yv Li Lo)))
  (hd : Nat.blt d S.n = true) (hg : Xj ops S gd)
  (h : Walk P ops draw K rest ((l.length, ⟨some d, .call ⟨.value (.func f), args, tys⟩, ty, pos, aft, gd⟩, ⟨Xg ops gd ++ VD xs ys, some (d, res), Li ++ VJ (Yv Li Lo), Lo, Yv Li Lo⟩) :: l)
   ((S.set d res).cat Lo)) :
  Walk P ops draw K (⟨some d, .call ⟨.value (.func f), args, tys⟩, ty, pos, aft, gd⟩ :: rest) l S := by
 have hap : ∀ (A B : List (Nat × AObj)) (T : St), Yu T (A ++ B) ↔ Yu T A ∧ Yu T B := by
  intro A B T
  simp only [X0A, List.mem_append]
  exact ⟨fun h => ⟨fun p hp => h p (.inl hp), fun p hp => h p (.inr hp)⟩, fun h p hp => hp.elim (h.1 p) (h.2 p)⟩
 have hlen : ys.length = xs.length := by
  rw [← hys]; clear hys hxs h hle
  induction xs with
  | nil => rfl
  | cons x r ih => simp [evA, ih]
 refine XO ⟨VD xs ys, some (d, res), Li ++ VJ (Yv Li Lo), Lo, Yv Li Lo⟩ ?_ hg ⟨by rw [← hys]; exact X2U S xs, (hap _ _ _).2 ⟨hLi, hdead⟩, hnew, hd⟩ h
 intro E S a w g hs hok Q K hK
 obtain ⟨ok1, ok2, ok3, ok4⟩ := hok
 rw [hap] at ok2
 have hsat := X2c hle (X36 hlen (Vr hs _ ok1))
 have hinv : Inv (YL g w Li) (Xa .dead Li) g w := by
  have hsub := XZ ok2.1
  have hl : ∀ γ b, Xr g (Xa .dead Li γ) γ b → Xr g (S.obj γ) γ b := by
   intro γ b hb
   rcases hsub γ with e | e
   ·rw [← e]; exact hb
   ·rw [e] at hb; exact hb.elim
  refine ⟨fun γ => ?_, fun γ γ' b k k' => hs.1.inj γ γ' b (hl _ _ k) (hl _ _ k'), hs.1.mem, fun γ b k => hs.1.sep γ b (hl _ _ k), fun γ b k => .inr ⟨γ, k⟩, XQ.refl _, fun a v ha => .inl ⟨v, ha⟩, fun _ _ _ => rfl, Nat.le_refl _, rfl, rfl, fun γ _ => Gh.keeps_refl _ _⟩
  rcases hsub γ with e | e
  ·rw [e]; exact hs.1.obj γ
  ·rw [e]; trivial
 have hcall := hcon g w (xs.map a.eval) hinv hsat
 have hrun : (execOp a.eval ⟨some d, .call ⟨.value (.func f), args, tys⟩, ty, pos, aft, gd⟩).run P w = .ok (.enter f (xs.map a.eval).toArray) w := by
  have e1 : (#[] ++ args.map a.eval ++ #[] : Array Value) = (xs.map a.eval).toArray := by
   apply Array.ext'; simp [← hxs]
  simp only [execOp, resolve, Act.eval, Deferred.ofValue, Sem.run_bind, Sem.run_pure, Result.andThen_ok, invoke]
  rw [X4V hf]
  congr 2
 unfold Oper.wp
 rw [hrun, Oper.upon_enter]
 refine hcall.mono ?_
 rintro e w' ⟨v, g', rfl, hv, hi', hk⟩
 obtain ⟨j1, j2, j3⟩ := X6U hs.1 ok2.1 hin hbox ok3 ok2.2 hi' hk
 exact hK _ _ (X00 j1 hs.2.1 hs.2.2.1 (fun t => j3 t _ (hs.2.2.2 t)) (j2 _ _ hres hv) ok4)
end
def leT (S : St) : List (Nat × AVal) → Prop
 | [] => True
 | p :: r => (S.get p.1).le p.2 ∧ leT S r
theorem X7P {S : St} {t : Nat} : ∀ (l : List (Nat × AVal)), leT S l → (Xa .any l t = .any ∨ (S.get t).le (Xa .any l t))
 | [], _ => .inl rfl
 | (k, x) :: r, h => by
  by_cases hk : k = t
  ·subst hk; rw [XT]; exact .inr h.1
  ·rw [XK _ _ _ hk]; exact X7P r h.2
theorem X7 {S : St} {n : Nat} {τ : List (Nat × AVal)} {L : List (Nat × AObj)} (hn : S.n = n) (ht : leT S τ) (hL : Yu S L) : S.le ⟨n, τ, L⟩ := by
 rintro E a w ⟨g, h1, h2, h3, h4⟩
 refine ⟨g, h1.sub (XZ hL), h2, h3.trans hn, fun t => ?_⟩
 show AVal.sat g (Xa .any τ t) _
 rcases X7P τ ht with e | e
 ·rw [e]; simp only [AVal.sat]
 ·exact e g _ (h4 t)
theorem X1d {E : Env} {S T : St} {g g' : Gh} {a : Act} {w : World} (hs : Ub E S g a w) (hi : Inv E T.obj g' w) (hn : T.n = S.n) (ht : ∀ t, (T.get t).sat g' (a.tmps.getD t undef)) : holds E T a w :=
 ⟨g', hi, hs.2.1, by rw [hs.2.2.1, hn], ht⟩
theorem YX {S : St} (t γ sz : Nat) (ht : S.get t = ani) (hdead : S.obj γ = .dead) (hf : S.free γ = true) :
  S.le ((S.set t (.own γ 0)).own γ (.row sz [])) := by
 rintro E a w ⟨g, hs⟩
 have hi := X26 hs.1 γ hf hdead (.row sz []) 0 (.slice none 0 0) (w' := w) (fun _ _ => rfl) (Nat.le_refl _) rfl rfl
  ⟨by simp, .inl ⟨by simp [Gh.put], rfl⟩⟩ (fun k hk => by obtain ⟨a, n, c, e, _⟩ := hk; simp [Gh.put] at e)
 refine X1d hs hi rfl fun k => ?_
 by_cases hk : k = t
 ·subst hk
  show AVal.sat _ (Xa .any ((k, _) :: S.τ) k) _
  rw [XT]
  have := hs.2.2.2 k
  rw [ht] at this
  rw [Yn this]
  simp only [AVal.sat]
  exact ⟨rfl, none, 0, 0, by simp [Gh.put], Nat.le_refl _, fun _ => rfl⟩
 ·show AVal.sat _ (Xa .any ((t, _) :: S.τ) k) _
  rw [XK _ _ _ (Ne.symm hk)]
  exact X0Y hf hs.2.2.2 k
theorem X3E {S : St} (β j γ sz : Nat) {cs : List AVal} (hb : S.obj β = .box cs) (hj : cs[j]? = some ani) (hdead : S.obj γ = .dead) (hf : S.free γ = true) (hne : Nat.beq γ β = false) :
  S.le ((S.own γ (.row sz [])).own β (.box (cs.set j (.own γ 0)))) := by
 rintro E a w ⟨g, hs⟩
 have hi := X26 hs.1 γ hf hdead (.row sz []) 0 (.slice none 0 0) (w' := w) (fun _ _ => rfl) (Nat.le_refl _) rfl rfl
  ⟨by simp, .inl ⟨by simp [Gh.put], rfl⟩⟩ (fun k hk => by obtain ⟨a, n, c, e, _⟩ := hk; simp [Gh.put] at e)
 have hne' : γ ≠ β := X1s hne
 have hob : Xa .dead ((γ, .row sz []) :: S.L) β = .box cs := by rw [XK _ _ _ hne']; exact hb
 have ho := hi.obj β
 rw [hob] at ho
 obtain ⟨vs, e, fr, h1, h2, h3, h4⟩ := ho
 have hi2 : Inv E (Xa .dead ((β, .box (cs.set j (.own γ 0))) :: (γ, .row sz []) :: S.L)) (g.put γ 0 (.slice none 0 0)) w := by
  refine Inv.upd hi β _ (XT _ _ _ _) (fun k hk => XK _ _ _ (Ne.symm hk)) (fun _ _ _ => rfl) (Nat.le_refl _) rfl rfl rfl (fun _ _ => ⟨rfl, rfl, rfl⟩) (fun _ _ _ _ _ h => h) ?_ (fun b hb' => .inl (by rw [hob]; exact hb')) (fun _ => Gh.keeps_refl _ _)
  have hlen := Y6 h3
  refine ⟨vs, e, fr, h1, h2, VZ (by simp [hlen]) fun i x u hx hu => ?_, fun c hc => ?_⟩
  ·rw [List.getElem?_set] at hx
   split at hx
   ·rename_i hij
    subst hij
    obtain ⟨u', k1, k2⟩ := YG h3 j ani hj
    rw [k1] at hu; cases hu
    split at hx
    ·cases hx
     rw [Yn k2]
     simp only [AVal.sat]
     exact ⟨rfl, none, 0, 0, by simp [Gh.put], Nat.le_refl _, fun _ => rfl⟩
    ·simp at hx
   ·obtain ⟨u', k1, k2⟩ := YG h3 i x hx
    rw [k1] at hu; cases hu; exact k2
  ·rcases List.mem_or_eq_of_mem_set hc with h | h
   ·exact h4 c h
   ·rw [h]; rfl
 exact X1d hs hi2 rfl (X0Y hf hs.2.2.2)
theorem X63 {E : Env} {S : St} {g : Gh} {w : World} (hi : Inv E S.obj g w) {γ sz : Nat} {xs : List (List D)} (hL : S.obj γ = .row sz xs) :
  ∃ M', XQ g.M M' ∧ Inv E (Xa .dead ((γ, .froz sz xs) :: S.L)) { g with M := M' } w := by
 have ho := hi.obj γ
 rw [hL] at ho
 obtain ⟨hlen, ho⟩ := ho
 have key : ∀ (M' : Mem), XQ g.M M' → (D.sl sz xs).rep M' (g.hd γ) → (∀ a v, M' a = some v → g.M a = some v ∨ (w.cell? a = some v ∧ Xr g (S.obj γ) γ a.block)) →
   Inv E (Xa .dead ((γ, .froz sz xs) :: S.L)) { g with M := M' } w := by
  intro M' hle hrep hM'
  have hlook : ∀ k, Xa .dead ((γ, .froz sz xs) :: S.L) k = if k = γ then .froz sz xs else S.obj k := by
   intro k
   by_cases hk : k = γ
   ·subst hk; rw [XT, if_pos rfl]
   ·rw [XK _ _ _ (Ne.symm hk), if_neg hk]; rfl
  have hlv : ∀ k b, Xr { g with M := M' } (Xa .dead ((γ, .froz sz xs) :: S.L) k) k b → k ≠ γ ∧ Xr g (S.obj k) k b := by
   intro k b h
   rw [hlook] at h
   by_cases hk : k = γ
   ·rw [if_pos hk] at h; exact h.elim
   ·rw [if_neg hk] at h
    refine ⟨hk, ?_⟩
    rwa [X0K (g := g) (g' := { g with M := M' }) rfl rfl rfl] at h
  refine ⟨fun k => ?_, fun k k' b h h' => hi.inj k k' b (hlv _ _ h).2 (hlv _ _ h').2, fun a v h => ?_, fun k b h a v ha => ?_, fun k b h => hi.new k b (hlv _ _ h).2, hi.ext.trans hle, fun a v h => ?_, hi.frame, hi.size, hi.os, hi.out, fun k hk => (hi.kp k hk).trans' (Gh.keeps_of rfl rfl rfl)⟩
  ·rw [hlook]
   by_cases hk : k = γ
   ·subst hk; rw [if_pos rfl]; exact hrep
   ·rw [if_neg hk]; exact X5v (g := g) (g' := { g with M := M' }) hle rfl rfl rfl (fun _ _ => rfl) (hi.obj k)
  ·rcases hM' a v h with h1 | h1
   ·exact hi.mem a v h1
   ·exact h1.1
  ·obtain ⟨hk, hb⟩ := hlv k b h
   rcases hM' a v ha with h1 | h1
   ·exact hi.sep k b hb a v h1
   ·intro e
    rw [e] at h1
    exact hk (hi.inj _ _ _ hb h1.2)
  ·rcases hM' a v h with h1 | h1
   ·exact hi.lim a v h1
   ·exact .inr (hi.new γ _ h1.2)
 rcases ho with ⟨h1, rfl⟩ | ⟨b, cap, vs, e, fr, h1, h2, h3, h4, h5, h6, h7⟩
 ·refine ⟨g.M, XQ.refl _, key g.M (XQ.refl _) ?_ (fun a v h => .inl h)⟩
  simp only [D.rep]
  exact ⟨none, 0, h1, by simp, by simp, by simp⟩
 ·have hlv : Xr g (S.obj γ) γ b := by rw [hL]; exact ⟨_, _, _, h1, rfl⟩
  have hle : XQ g.M (fun p => if p.block = b ∧ p.spot = none then vs[p.off]? else g.M p) := by
   intro a v h
   have := hi.sep γ b hlv a v h
   show (if _ then _ else _) = _
   rw [if_neg (fun hc => this hc.1)]; exact h
  refine ⟨_, hle, key _ hle ?_ (fun a v h => ?_)⟩
  ·simp only [D.rep]
   refine ⟨_, cap, h1, h2, h3, .inr ⟨b, 0, rfl, X2t xs 0 hlen fun i d hd => ?_⟩⟩
   obtain ⟨hl, hr⟩ := X1G h7
   obtain ⟨u, hu, hsu⟩ := hr i d hd
   refine ⟨u, ?_, D.rep_mono hle _ _ hsu⟩
   show (if _ then _ else _) = _
   rw [if_pos ⟨rfl, rfl⟩, Nat.zero_add]
   rw [List.getElem?_take] at hu
   split at hu
   ·simpa using hu
   ·simp at hu
  ·have h' : (if a.block = b ∧ a.spot = none then vs[a.off]? else g.M a) = some v := h
   split at h'
   ·rename_i hc
    obtain ⟨b', o, s⟩ := a
    simp only at hc
    obtain ⟨rfl, rfl⟩ := hc
    right
    exact ⟨by rw [cell_of_row w _ _ vs e fr h4]; exact h', hlv⟩
   ·exact .inl h'
theorem Yb {S : St} (γ : Nat) {sz : Nat} {xs : List (List D)} (hL : S.obj γ = .row sz xs) : S.le (S.own γ (.froz sz xs)) := by
 rintro E a w ⟨g, hs⟩
 obtain ⟨M', hle, hi⟩ := X63 hs.1 hL
 exact X1d hs hi rfl fun t => X1N (g := g) (g' := { g with M := M' }) hle rfl rfl rfl (hs.2.2.2 t)
theorem X4D {g : Gh} {w : World} {γ sz n : Nat} {xs : List (List D)} {u : Value} (ho : Y7 g w γ (.froz sz xs)) (hn : n = xs.length) (h : (AVal.own γ n).sat g u) : (AVal.d (.sl sz xs)).sat g u := by
 simp only [AVal.sat] at h ⊢
 obtain ⟨_, a, m, c, h1, h2, h3⟩ := h
 have ho' := ho
 simp only [Y7, D.rep] at ho
 obtain ⟨a', cap, k1, _⟩ := ho
 rw [k1] at h1; cases h1
 rw [h3 hn, ← k1]; exact ho'
theorem Yq {S : St} (t γ : Nat) {n sz : Nat} {xs : List (List D)} (ht : S.get t = .own γ n) (hL : S.obj γ = .froz sz xs) (hn : n = xs.length) : S.le (S.set t (.d (.sl sz xs))) := by
 rintro E a w ⟨g, hs⟩
 refine X1d hs hs.1 rfl fun k => ?_
 by_cases hk : k = t
 ·subst hk
  show AVal.sat _ (Xa .any ((k, _) :: S.τ) k) _
  rw [XT]
  have := hs.2.2.2 k
  rw [ht] at this
  have ho := hs.1.obj γ
  rw [hL] at ho
  exact X4D ho hn this
 ·show AVal.sat _ (Xa .any ((t, _) :: S.τ) k) _
  rw [XK _ _ _ (Ne.symm hk)]
  exact hs.2.2.2 k
theorem X21 {S : St} (β j γ : Nat) {cs : List AVal} {n sz : Nat} {xs : List (List D)} (hb : S.obj β = .box cs) (hj : cs[j]? = some (.own γ n)) (hL : S.obj γ = .froz sz xs) (hn : n = xs.length) :
  S.le (S.own β (.box (cs.set j (.d (.sl sz xs))))) := by
 rintro E a w ⟨g, hs⟩
 have ho := hs.1.obj β
 rw [hb] at ho
 obtain ⟨vs, e, fr, h1, h2, h3, h4⟩ := ho
 have hf := hs.1.obj γ
 rw [hL] at hf
 have hi2 : Inv E (Xa .dead ((β, .box (cs.set j (.d (.sl sz xs)))) :: S.L)) g w := by
  refine Inv.upd hs.1 β _ (XT _ _ _ _) (fun k hk => XK _ _ _ (Ne.symm hk)) (fun _ _ _ => rfl) (Nat.le_refl _) rfl rfl rfl (fun _ _ => ⟨rfl, rfl, rfl⟩) (fun _ _ _ _ _ h => h) ?_ (fun b hb' => .inl (by rw [hb]; exact hb')) (fun _ => Gh.keeps_refl _ _)
  have hlen := Y6 h3
  refine ⟨vs, e, fr, h1, h2, VZ (by simp [hlen]) fun i x u hx hu => ?_, fun c hc => ?_⟩
  ·rw [List.getElem?_set] at hx
   split at hx
   ·rename_i hij
    subst hij
    obtain ⟨u', k1, k2⟩ := YG h3 j _ hj
    rw [k1] at hu; cases hu
    split at hx
    ·cases hx; exact X4D hf hn k2
    ·simp at hx
   ·obtain ⟨u', k1, k2⟩ := YG h3 i x hx
    rw [k1] at hu; cases hu; exact k2
  ·rcases List.mem_or_eq_of_mem_set hc with h | h
   ·exact h4 c h
   ·rw [h]; rfl
 exact X1d hs hi2 rfl hs.2.2.2
theorem Xb9 {g : Gh} {w : World} {sz : Nat} {xs : List (List D)} {vs : Array Value} {cap : Nat} (hlen : ∀ x ∈ xs, x.length = sz) (hsat : Xk g (xs.flatten.map .d) (vs.toList.take (xs.length * sz))) (hM : XQ g.M (g.lay w.heap.size vs).M)
  (hcap : xs.length ≤ cap) (hmax : cap ≤ maxLen) : (AVal.d (.sl sz xs)).sat (g.lay w.heap.size vs) (.slice (some ⟨w.heap.size, 0, none⟩) xs.length cap) := by
 simp only [AVal.sat, D.rep]
 refine ⟨_, cap, rfl, hcap, hmax, .inr ⟨w.heap.size, 0, rfl, X2t xs 0 hlen fun i d hd => ?_⟩⟩
 obtain ⟨hl, hr⟩ := X1G hsat
 obtain ⟨u, hu, hsu⟩ := hr i d hd
 refine ⟨u, ?_, D.rep_mono hM _ _ hsu⟩
 show (if _ then _ else _) = _
 rw [if_pos ⟨rfl, rfl⟩, Nat.zero_add]
 rw [List.getElem?_take] at hu
 split at hu
 ·simpa using hu
 ·simp at hu
theorem Xas {E : Env} {S : St} {g : Gh} {w : World} (hi : Inv E S.obj g w) (γ : Nat) (hf : S.free γ = true) (hdead : S.obj γ = .dead) {sz : Nat} {xs : List (List D)} {vs : Array Value} {e : TypeId} {fr : Nat × Nat} {cap : Nat}
  (hlen : ∀ x ∈ xs, x.length = sz) (hsat : Xk g (xs.flatten.map .d) (vs.toList.take (xs.length * sz))) (hcap : xs.length ≤ cap) (hmax : cap ≤ maxLen) (hsz : cap * sz ≤ vs.size) (hfr : X17 fr vs.size) :
  Inv E (Xa .dead ((γ, .row sz xs) :: S.L)) (g.put γ 0 (.slice (some ⟨w.heap.size, 0, none⟩) xs.length cap)) (w.alloc (.cells vs e fr)) :=
 X26 hi γ hf hdead _ _ _ (X0G w _) (X1P w _) rfl rfl
  ⟨hlen, .inr ⟨w.heap.size, cap, vs, e, fr, by simp [Gh.put], hcap, hmax, heap_alloc_new w _, hfr, hsz, X3K (X5D _ _) hsat⟩⟩
  (fun k hk => by obtain ⟨a, n, c, e, rfl⟩ := hk; simp only [Gh.put, if_true] at e; cases e; exact Nat.le_refl _)
theorem X5a {g : Gh} {w : World} {γ n cap : Nat} {a : Option Addr} : (AVal.own γ n).sat (g.put γ 0 (.slice a n cap)) (.slice a n cap) := by
 simp only [AVal.sat]
 exact ⟨rfl, a, n, cap, by simp [Gh.put], Nat.le_refl _, fun _ => rfl⟩
def Yg (z : List Value) (n : Nat) : List Value := (List.replicate n z).flatten
def UZ (P : Program) (t : TypeId) : Option (List Value) :=
 match P.underlying t with
 | some (.slice e) => VL P e
 | _ => none
theorem X7b {P : Program} {t : TypeId} {zs : List Value} (h : UZ P t = some zs) : ∃ e, P.underlying t = some (.slice e) ∧ VL P e = some zs := by
 unfold UZ at h
 cases hu : P.underlying t with
 | none => simp [hu] at h
 | some de => rw [hu] at h; cases de <;> simp at h; exact ⟨_, rfl, h⟩
theorem X3w (z : Array Value) (n : Nat) : ((Array.range (n * z.size)).map (fun i => z[i % z.size]!)).toList = Yg z.toList n := by
 induction n with
 | zero => simp [Yg]
 | succ n ih =>
  have e1 : Yg z.toList (n + 1) = Yg z.toList n ++ z.toList := by
   simp [Yg, List.replicate_succ']
  rw [e1, ← ih]
  apply List.ext_getElem?
  intro j
  simp only [Array.toList_map, Array.toList_range, List.getElem?_map, List.getElem?_append, List.length_map, List.length_range]
  have hm : (n + 1) * z.size = n * z.size + z.size := Nat.succ_mul _ _
  by_cases h1 : j < n * z.size
  ·rw [if_pos h1, List.getElem?_range (by omega), List.getElem?_range h1]
  ·rw [if_neg h1]
   by_cases h2 : j < (n + 1) * z.size
   ·rw [List.getElem?_range h2]
    have h3 : j - n * z.size < z.size := by omega
    have h4 : j % z.size = j - n * z.size := by
     have : j = (j - n * z.size) + n * z.size := by omega
     rw [this, Nat.add_mul_mod_self_right, Nat.mod_eq_of_lt h3]
     omega
    simp [h4, h3]
   ·rw [List.getElem?_eq_none (by simp; omega)]
    symm
    rw [Option.map_none, List.getElem?_eq_none (by simp; omega)]
theorem XgT {P : Program} {e : TypeId} {zs : List Value} (h : VL P e = some zs) : ∃ z : Value, z.cells.toList = zs ∧ (∀ w, (zeroValue e).run P w = .ok z w) := X73 h
section
variable {P : Program} {ops : Array Oper} {draw : Bool} {K : Xy → St → Prop} {rest : List Oper} {l : Xy} {S : St}
variable {d : Nat} {ty : TypeId} {pos : String} {aft : Array Edge} {gd : Option (Nat × Bool)}
theorem Xfi {T : TypeId} {len sz : Nat} {zs : List Value} {parts : Array (Nat × Value)} {us : Array Value} (hT : Y8 P T sz = true) (hz : UZ P T = some zs) (hzl : zs.length = sz) (hsmall : len * sz ≤ 16777216)
  (hfill : Instr.fill (fun i => some (i * sz, sz)) (Yg zs len).toArray parts.toList = some us) (w : World) :
  ∃ e, (Instr.buildSlice T len parts).run P w = .ok (.slice (some ⟨w.heap.size, 0, none⟩) len len) (w.alloc (.cells us e)) := by
 obtain ⟨e, h1, h2, _⟩ := VX hT
 obtain ⟨e', h1', hze⟩ := X7b hz
 rw [h1] at h1'; cases h1'
 obtain ⟨z, hz1, hz2⟩ := XgT hze
 refine ⟨e, ?_⟩
 have hzs : z.cells.size = sz := by rw [← hzl, ← hz1]; simp
 have hsmall' : ¬ (16777216 < len * sz) := by omega
 have hfill' : Instr.fill (fun i => some (i * sz, sz)) ((Array.range (len * sz)).map (fun i => z.cells[i % z.cells.size]!)) parts.toList = some us := by
  rw [← hfill]
  congr 1
  apply Array.ext'
  have := X3w z.cells len
  rw [hzs] at this ⊢
  rw [this, hz1]
 by_cases h0 : len * sz = 0
 ·have hem : (Yg zs len).toArray = #[] := by
   apply Array.ext'
   simp only [Yg]
   rcases Nat.mul_eq_zero.1 h0 with h | h
   ·subst h; simp
   ·have : zs = [] := by rw [← hzl] at h; exact List.length_eq_zero_iff.1 h
    subst this; simp
  rw [hem] at hfill
  simp [Instr.buildSlice, run_underlying h1, h2 w, h0, hfill, newRow, Array.range_zero']
 ·simp [Instr.buildSlice, run_underlying h1, h2 w, hsmall', h0, hz2 w, hfill', newRow]
theorem X9f {T : TypeId} {len sz : Nat} {parts : Array (Nat × Operand)} {pl : List (Nat × Operand)} {zs : List Value} {ps : List (Nat × AVal)} {out : List AVal} {xs : List (List D)} (hpl : parts.toList = pl)
  (hkeys : ps.map (·.1) = pl.map (·.1)) (hT : Y8 P T sz = true) (hz : UZ P T = some zs) (hzl : Nat.beq zs.length sz = true) (hz1 : YV (Yg zs len) = true) (hsmall : Nat.ble (len * sz) 16777216 = true) (hsl : Nat.ble len 16777216 = true)
  (hout : VQ (fun i => some (i * sz, sz)) (dvL (Yg zs len)) ps = some out) (hxs : VP sz len out = some xs) {g : Gh} {a : Act} (w : World) (hq : V7 g a (UO pl ps)) :
  ∃ e, ∃ us : Array Value, (Instr.buildSlice T len (parts.map fun p => (p.1, a.eval p.2))).run P w = .ok (.slice (some ⟨w.heap.size, 0, none⟩) len len) (w.alloc (.cells us e)) ∧
   us.toList.length = xs.length * sz ∧ Xk g (xs.flatten.map .d) us.toList ∧ xs.length = len ∧ (∀ x ∈ xs, x.length = sz) ∧ len ≤ maxLen := by
 obtain ⟨us, k1, k2⟩ := X5R (vs := (Yg zs len).toArray) hkeys hq (by simpa using X2Z hz1) hout
 obtain ⟨r1, r2, r3⟩ := XaY hxs
 have hsm : len * sz ≤ 16777216 := by simpa using hsmall
 obtain ⟨e, he⟩ := Xfi (P := P) (T := T) (len := len) (parts := parts.map fun p => (p.1, a.eval p.2)) hT hz (by simpa using hzl) hsm (by
  have : (parts.map fun p => (p.1, a.eval p.2)).toList = pl.map fun p => (p.1, a.eval p.2) := by simp [hpl]
  rw [this]; exact k1) w
 rw [← r1] at k2
 have hl := Y6 k2
 simp only [List.length_map, UN xs r3] at hl
 refine ⟨e, us, he, hl, k2, r2, r3, ?_⟩
 unfold maxLen
 have : len ≤ 16777216 := by simpa using hsl
 omega
theorem X6I (S : St) : ∀ pl : List (Nat × Operand), (evL S pl).map (·.1) = pl.map (·.1)
 | [] => rfl
 | p :: r => by simp [evL, X6I S r]
theorem X5S (S : St) : ∀ pl : List (Nat × Operand), Vj S (UO pl (evL S pl))
 | [] => trivial
 | p :: r => ⟨rfl, X5S S r⟩
theorem Xh7 {T : TypeId} {len sz : Nat} {parts : Array (Nat × Operand)} {pl : List (Nat × Operand)} {zs : List Value} {ps : List (Nat × AVal)} {out : List AVal} {xs : List (List D)} (hpl : parts.toList = pl)
  (hps : evL S pl = ps) (hz : UZ P T = some zs) (hS : zs.length = sz) (hT : Y8 P T sz = true) (hzl : Nat.beq zs.length sz = true) (hz1 : YV (Yg zs len) = true) (hsmall : Nat.ble (len * sz) 16777216 = true) (hsl : Nat.ble len 16777216 = true)
  (hout : VQ (fun i => some (i * sz, sz)) (dvL (Yg zs len)) ps = some out) (hxs : VP sz len out = some xs) (hd : Nat.blt d S.n = true) (hg : Xj ops S gd)
  (h : Walk P ops draw K rest ((l.length, ⟨some d, .buildSlice T len parts, ty, pos, aft, gd⟩, ⟨Xg ops gd ++ UO pl ps, some (d, .d (.sl sz xs)), [], [], []⟩) :: l) (S.set d (.d (.sl sz xs)))) :
  Walk P ops draw K (⟨some d, .buildSlice T len parts, ty, pos, aft, gd⟩ :: rest) l S := by
 have hkeys : ps.map (·.1) = pl.map (·.1) := by rw [← hps]; exact X6I S pl
 have hrd : Vj S (UO pl ps) := by rw [← hps]; exact X5S S pl
 refine XO ⟨UO pl ps, some (d, .d (.sl sz xs)), [], [], []⟩ ?_ hg ⟨hrd, trivial, trivial, hd⟩ h
 intro E S a w g hs hok Q K hK
 obtain ⟨e, us, k1, k2, k3, k4, k5, k6⟩ := X9f (P := P) hpl hkeys hT hz hzl hz1 hsmall hsl hout hxs w (Vr hs _ hok.1)
 have hle := X5g hs.1 us
 have hrun : (execOp a.eval ⟨some d, .buildSlice T len parts, ty, pos, aft, gd⟩).run P w = .ok (.value (.slice (some ⟨w.heap.size, 0, none⟩) len len)) (w.alloc (.cells us e)) := by
  simp only [execOp, Sem.run_bind, k1]; rfl
 unfold Oper.wp
 rw [hrun, Oper.upon_value]
 refine hK _ _ (X00 (X88 hs.1 us e (0, 0)) hs.2.1 hs.2.2.1 (fun t => X1N (g := g) (g' := g.lay w.heap.size us) hle rfl rfl rfl (hs.2.2.2 t)) ?_ hok.2.2.2)
 have := Xb9 (g := g) (w := w) (cap := len) k5 (by rw [List.take_of_length_le (by omega)]; exact k3) hle (by omega) k6
 rwa [k4] at this
theorem Xfr {T : TypeId} {len sz γ : Nat} {parts : Array (Nat × Operand)} {pl : List (Nat × Operand)} {zs : List Value} {ps : List (Nat × AVal)} {out : List AVal} {xs : List (List D)} (hpl : parts.toList = pl)
  (hps : evL S pl = ps) (hz : UZ P T = some zs) (hS : zs.length = sz) (hT : Y8 P T sz = true) (hzl : Nat.beq zs.length sz = true) (hz1 : YV (Yg zs len) = true) (hsmall : Nat.ble (len * sz) 16777216 = true) (hsl : Nat.ble len 16777216 = true)
  (hout : VQ (fun i => some (i * sz, sz)) (dvL (Yg zs len)) ps = some out) (hxs : VP sz len out = some xs) (hdead : S.obj γ = .dead) (hf : S.free γ = true) (hd : Nat.blt d S.n = true) (hg : Xj ops S gd)
  (h : Walk P ops draw K rest ((l.length, ⟨some d, .buildSlice T len parts, ty, pos, aft, gd⟩, ⟨Xg ops gd ++ UO pl ps, some (d, .own γ len), [(γ, .dead)], [(γ, .row sz xs)], [γ]⟩) :: l) ((S.set d (.own γ len)).own γ (.row sz xs))) :
  Walk P ops draw K (⟨some d, .buildSlice T len parts, ty, pos, aft, gd⟩ :: rest) l S := by
 have hkeys : ps.map (·.1) = pl.map (·.1) := by rw [← hps]; exact X6I S pl
 have hrd : Vj S (UO pl ps) := by rw [← hps]; exact X5S S pl
 refine XO ⟨UO pl ps, some (d, .own γ len), [(γ, .dead)], [(γ, .row sz xs)], [γ]⟩ (X0e rfl fun E S g a w hs hq hl hn => ?_) hg ⟨hrd, ⟨hdead, trivial⟩, ⟨hf, trivial⟩, hd⟩ h
 obtain ⟨e, us, k1, k2, k3, k4, k5, k6⟩ := X9f (P := P) hpl hkeys hT hz hzl hz1 hsmall hsl hout hxs w hq
 have hsz : us.size = len * sz := by rw [← k4]; simpa using k2
 refine ⟨.slice (some ⟨w.heap.size, 0, none⟩) xs.length len, _, w.alloc (.cells us e), by simp only [execOp, Sem.run_bind, k1]; rw [k4]; rfl, by rw [← k4]; exact X5a (w := w), Xas hs.1 γ hn.1 hl.1 (cap := len) k5 (by rw [List.take_of_length_le (by omega)]; exact k3) (by omega) k6 (by omega) (X2e _), X0Y hn.1 hs.2.2.2⟩
theorem X9x {T : TypeId} {sz bytes n : Nat} {zs : List Value} (hT : UE P T sz bytes = true) (hz : UZ P T = some zs) (hroom : n * bytes ≤ 2 ^ 48) (hn : n < 2 ^ 63) (k1 k2 : IntKind) (w : World) :
  ∃ e, (Instr.makeSlice T (.int k1 n) (.int k2 n)).run P w = .ok (.slice (some ⟨w.heap.size, 0, none⟩) n n) (w.alloc (.cells (Yg zs n).toArray e)) := by
 obtain ⟨e, i, z, hu, hi, hsz, hbt, hz0, hzs, hz1⟩ := X2J hT
 obtain ⟨e', h1', hze⟩ := X7b hz
 rw [hu] at h1'; cases h1'
 have hzz : z.cells.toList = zs := by
  unfold VL at hze
  simp [hi, hz0] at hze
  exact hze
 have hw : IntKind.i64.wrap (n : Int) = n := IntWalk.i64_in _ (by omega)
 have hnn : ¬ ((n : Int) < 0) := by omega
 have ha : ∀ k, (asInt (.int k (n : Int))).run P w = .ok (n : Int) w := fun k => by simp [asInt, asIntOf]
 have hbig : ¬ (281474976710656 < (i.bytes : Int) * (n : Int)) := by
  rw [hbt]
  have : (n * bytes : Nat) ≤ 2 ^ 48 := hroom
  have h2 : ((bytes : Int) * (n : Int)) = ((n * bytes : Nat) : Int) := by rw [Nat.mul_comm]; exact (Int.natCast_mul _ _).symm
  rw [h2]; omega
 have harr : (Array.range (n * sz)).map (fun x => z.cells[x % z.cells.size]!) = (Yg zs n).toArray := by
  apply Array.ext'
  have := X3w z.cells n
  rw [hzs] at this ⊢
  rw [this, hzz]
 refine ⟨e, ?_⟩
 by_cases h0 : n * sz = 0
 ·have hem : (Yg zs n).toArray = #[] := by rw [← harr, h0]; simp [Array.range_zero']
  rw [hem]
  simp [Instr.makeSlice, run_underlying hu, ha, typeInfo, hi, hw, hnn, hbig, sizeOf, hsz, h0, newRow, Array.range_zero']
 ·simp [Instr.makeSlice, run_underlying hu, ha, typeInfo, hi, hw, hnn, hbig, sizeOf, hsz, h0, newRow, zeroValue, hz0, harr]
def zD : List Value → List D
 | [] => []
 | v :: r => .v v :: zD r
theorem Xaf : ∀ zs : List Value, (zD zs).map .d = dvL zs
 | [] => rfl
 | v :: r => by simp [zD, dvL, Xaf r]
theorem X3y : ∀ zs : List Value, (zD zs).length = zs.length
 | [] => rfl
 | v :: r => by simp [zD, X3y r]
theorem X5I {g : Gh} {zs : List Value} (h1 : YV zs = true) (n : Nat) : Xk g ((List.replicate n (zD zs)).flatten.map .d) (Yg zs n) := by
 induction n with
 | zero => simp [Yg, Xk]
 | succ n ih =>
  simp only [List.replicate_succ, List.flatten_cons, Yg, List.map_append, Xaf]
  exact Vm (X2Z h1) ih
theorem Xc1 {T : TypeId} {sz bytes n : Nat} {k1 k2 : IntKind} {x y : Operand} {m m' : Int} {zs : List Value} (hx : S.ev x = .d (.v (.int k1 m))) (hy : S.ev y = .d (.v (.int k2 m'))) (hm : m = (n : Nat)) (hm' : m' = (n : Nat))
  (hz : UZ P T = some zs) (hB : elB P T = bytes) (hS : zs.length = sz) (hT : UE P T sz bytes = true) (h1 : YV zs = true) (hl : Nat.beq zs.length sz = true) (hroom : n * bytes ≤ 281474976710656) (hn : n < 9223372036854775808) (hd : Nat.blt d S.n = true) (hg : Xj ops S gd)
  (h : Walk P ops draw K rest ((l.length, ⟨some d, .makeSlice T x y, ty, pos, aft, gd⟩, ⟨Xg ops gd ++ [(x, .d (.v (.int k1 m))), (y, .d (.v (.int k2 m')))], some (d, .d (.sl sz (List.replicate n (zD zs)))), [], [], []⟩) :: l) (S.set d (.d (.sl sz (List.replicate n (zD zs)))))) :
  Walk P ops draw K (⟨some d, .makeSlice T x y, ty, pos, aft, gd⟩ :: rest) l S := by
 refine XO ⟨[(x, .d (.v (.int k1 m))), (y, .d (.v (.int k2 m')))], some (d, .d (.sl sz (List.replicate n (zD zs)))), [], [], []⟩ ?_ hg ⟨⟨hx, hy, trivial⟩, trivial, trivial, hd⟩ h
 intro E S a w g hs hok Q K hK
 have hq := Vr hs _ hok.1
 obtain ⟨e, he⟩ := X9x (P := P) hT hz (by simpa using hroom) (by simpa using hn) k1 k2 w
 have hle := X5g hs.1 (Yg zs n).toArray
 have hzl : zs.length = sz := by simpa using hl
 have hrun : (execOp a.eval ⟨some d, .makeSlice T x y, ty, pos, aft, gd⟩).run P w = .ok (.value (.slice (some ⟨w.heap.size, 0, none⟩) n n)) (w.alloc (.cells (Yg zs n).toArray e)) := by
  simp only [execOp, Sem.run_bind, Yn hq.1, Yn hq.2.1, hm, hm', he]; rfl
 unfold Oper.wp
 rw [hrun, Oper.upon_value]
 refine hK _ _ (X00 (X88 hs.1 _ e (0, 0)) hs.2.1 hs.2.2.1 (fun t => X1N (g := g) (g' := g.lay w.heap.size (Yg zs n).toArray) hle rfl rfl rfl (hs.2.2.2 t)) ?_ hok.2.2.2)
 have hlen : ∀ x ∈ List.replicate n (zD zs), x.length = sz := fun x hx => by rw [(List.mem_replicate.1 hx).2, X3y, hzl]
 have hs1 := X5I (g := g) h1 n
 have := Xb9 (g := g) (w := w) (vs := (Yg zs n).toArray) (cap := n) hlen (by
  have hl := Y6 hs1
  rw [List.length_map, UN _ hlen] at hl
  rw [List.take_of_length_le (by simpa using Nat.le_of_eq hl)]; exact hs1) hle (by simp) (by unfold maxLen; omega)
 rwa [List.length_replicate] at this
theorem XdF {T : TypeId} {sz bytes n γ : Nat} {k1 k2 : IntKind} {x y : Operand} {m m' : Int} {zs : List Value} (hx : S.ev x = .d (.v (.int k1 m))) (hy : S.ev y = .d (.v (.int k2 m'))) (hm : m = (n : Nat)) (hm' : m' = (n : Nat))
  (hz : UZ P T = some zs) (hB : elB P T = bytes) (hS : zs.length = sz) (hT : UE P T sz bytes = true) (h1 : YV zs = true) (hl : Nat.beq zs.length sz = true) (hroom : n * bytes ≤ 281474976710656) (hn : n < 9223372036854775808) (hdead : S.obj γ = .dead) (hf : S.free γ = true) (hd : Nat.blt d S.n = true) (hg : Xj ops S gd)
  (h : Walk P ops draw K rest ((l.length, ⟨some d, .makeSlice T x y, ty, pos, aft, gd⟩, ⟨Xg ops gd ++ [(x, .d (.v (.int k1 m))), (y, .d (.v (.int k2 m')))], some (d, .own γ n), [(γ, .dead)], [(γ, .row sz (List.replicate n (zD zs)))], [γ]⟩) :: l) ((S.set d (.own γ n)).own γ (.row sz (List.replicate n (zD zs))))) :
  Walk P ops draw K (⟨some d, .makeSlice T x y, ty, pos, aft, gd⟩ :: rest) l S := by
 refine XO ⟨[(x, .d (.v (.int k1 m))), (y, .d (.v (.int k2 m')))], some (d, .own γ n), [(γ, .dead)], [(γ, .row sz (List.replicate n (zD zs)))], [γ]⟩ (X0e rfl fun E S g a w hs hq hl' hn' => ?_) hg ⟨⟨hx, hy, trivial⟩, ⟨hdead, trivial⟩, ⟨hf, trivial⟩, hd⟩ h
 obtain ⟨e, he⟩ := X9x (P := P) hT hz (by simpa using hroom) (by simpa using hn) k1 k2 w
 have hzl : zs.length = sz := by simpa using hl
 have hlen : ∀ x ∈ List.replicate n (zD zs), x.length = sz := fun x hx => by rw [(List.mem_replicate.1 hx).2, X3y, hzl]
 have hs1 := X5I (g := g) h1 n
 have hl1 := Y6 hs1
 rw [List.length_map, UN _ hlen, List.length_replicate] at hl1
 have hinv := Xas hs.1 γ hn'.1 hl'.1 (vs := (Yg zs n).toArray) (e := e) (fr := (0, 0)) (cap := n) hlen (by
  rw [List.take_of_length_le (by simp only [List.length_replicate]; omega)]; exact hs1) (by simp) (by unfold maxLen; omega) (by simp only [List.size_toArray]; omega) (X2e _)
 rw [List.length_replicate] at hinv
 exact ⟨_, _, _, by simp only [execOp, Sem.run_bind, Yn hq.1, Yn hq.2.1, hm, hm', he]; rfl, X5a (w := w), hinv, X0Y hn'.1 hs.2.2.2⟩
def X1Y (S : St) : Option Operand → Nat → Prop
 | none, l => l = 0
 | some x, l => S.ev x = ai l
def X2o (S : St) (len : Nat) : Option Operand → Nat → Prop
 | none, h => h = len
 | some x, h => S.ev x = ai h
def Uv : Option Operand → Nat → List (Operand × AVal)
 | none, _ => []
 | some x, n => [(x, ai n)]
theorem X71 {g : Gh} {a : Act} : ∀ {l m : List (Operand × AVal)}, V7 g a (l ++ m) ↔ V7 g a l ∧ V7 g a m
 | [], m => by simp [V7]
 | p :: r, m => by simp [V7, X71, and_assoc]
theorem X86 {S : St} {l m : List (Operand × AVal)} : Vj S (l ++ m) ↔ Vj S l ∧ Vj S m := by
 simp only [X0t, List.mem_append]
 exact ⟨fun h => ⟨fun p hp => h p (.inl hp), fun p hp => h p (.inr hp)⟩, fun h p hp => hp.elim (h.1 p) (h.2 p)⟩
theorem X6F {g : Gh} {a : Act} {lo hi : Option Operand} {l h len cap : Nat} {isSl : Bool} (h1 : lo = none → l = 0) (h2 : hi = none → h = len) (hlo : V7 g a (Uv lo l)) (hhi : V7 g a (Uv hi h)) (hlh : l ≤ h) (hc : h ≤ cap) (w : World) :
  (Instr.sliceBounds isSl len cap (lo.map a.eval) (hi.map a.eval) none).run P w = .ok (l, h, cap) w := by
 cases lo with
 | none =>
  have := h1 rfl; subst this
  cases hi with
  | none => have := h2 rfl; subst this; simp [Instr.sliceBounds]
  | some y =>
   have e2 := Yn hhi.1
   simp [Instr.sliceBounds, e2, run_sliceBound, hc]
 | some x =>
  have e1 := Yn hlo.1
  cases hi with
  | none => have := h2 rfl; subst this; simp [Instr.sliceBounds, e1, run_sliceBound, hlh]
  | some y =>
   have e2 := Yn hhi.1
   simp [Instr.sliceBounds, e1, e2, run_sliceBound, hlh, hc]
theorem X4k {S : St} {lo : Option Operand} {l : Nat} (h : ∀ x, lo = some x → S.ev x = ai l) : Vj S (Uv lo l) := by
 cases lo with
 | none => trivial
 | some x => exact ⟨h x rfl, trivial⟩
theorem X9s {T : TypeId} {x : Operand} {lo hi : Option Operand} {sz lb hb : Nat} {xs : List (List D)} (hx : S.ev x = .d (.sl sz xs)) (hlo : X1Y S lo lb) (hhi : X2o S xs.length hi hb) (hlh : lb ≤ hb) (hh : hb ≤ xs.length)
  (hT : Y8 P T sz = true) (hd : Nat.blt d S.n = true) (hg : Xj ops S gd)
  (h : Walk P ops draw K rest ((l.length, ⟨some d, .slice T x lo hi none, ty, pos, aft, gd⟩, ⟨Xg ops gd ++ ((x, .d (.sl sz xs)) :: (Uv lo lb ++ Uv hi hb)), some (d, .d (.sl sz ((xs.take hb).drop lb))), [], [], []⟩) :: l) (S.set d (.d (.sl sz ((xs.take hb).drop lb))))) :
  Walk P ops draw K (⟨some d, .slice T x lo hi none, ty, pos, aft, gd⟩ :: rest) l S := by
 refine XO ⟨(x, .d (.sl sz xs)) :: (Uv lo lb ++ Uv hi hb), some (d, .d (.sl sz ((xs.take hb).drop lb))), [], [], []⟩ (Y2 rfl fun E S g a w hs hq hl => ?_) hg
  ⟨⟨hx, X86.2 ⟨X4k fun y e => by subst e; exact hlo, X4k fun y e => by subst e; exact hhi⟩⟩, trivial, trivial, hd⟩ h
 obtain ⟨e, h1, h2, h3⟩ := VX hT
 obtain ⟨hq1, hq2⟩ := hq
 rw [X71] at hq2
 simp only [AVal.sat, D.rep] at hq1
 obtain ⟨b, cap, hv, c1, c2, c3⟩ := hq1
 have hbd := X6F (P := P) (isSl := true) (len := xs.length) (cap := cap) (fun e => by subst e; exact hlo) (fun e => by subst e; exact hhi) hq2.1 hq2.2 hlh (Nat.le_trans hh c1) w
 have hrun := run_slice_any (P := P) w T b xs.length cap (by rw [h3]; exact h1) (lo.map a.eval) (hi.map a.eval) none
 rw [hbd, Result.andThen_ok, h3, h2 w, Result.andThen_ok] at hrun
 have hat : (Instr.sliceAt T (.slice b xs.length cap) (lo.map a.eval) (hi.map a.eval) none) = Instr.slice T (.slice b xs.length cap) (lo.map a.eval) (hi.map a.eval) none ∨ True := .inr trivial
 refine ⟨sliced b lb hb cap sz, ?_, ?_⟩
 ·simp only [execOp, hv, Instr.sliceAt, Sem.run_bind, run_underlying h1, Result.andThen_ok, Option.map_none, hrun]; rfl
 ·simp only [AVal.sat, D.rep, sliced]
  have hlen : ((xs.take hb).drop lb).length = hb - lb := by simp; omega
  refine ⟨if cap = lb then b else b.map fun p => p.add (lb * sz), cap - lb, by rw [hlen], by omega, by omega, ?_⟩
  rcases c3 with rfl | ⟨b', o, rfl, hr⟩
  ·left; simp
  ·by_cases hem : (xs.take hb).drop lb = []
   ·exact .inl hem
   ·right
    have hne : cap ≠ lb := by
     intro e
     apply hem
     apply List.eq_nil_of_length_eq_zero
     omega
    refine ⟨b', o + lb * sz, ?_, Xer (X7W hr hb) lb⟩
    rw [if_neg hne, Option.map_some, YQ]
theorem Xel {xt yt : TypeId} {x : Operand} {sz : Nat} {xs : List (List D)} (hx : S.ev x = .d (.sl sz xs)) (ht : isSl P xt = true) (hd : Nat.blt d S.n = true) (hg : Xj ops S gd)
  (h : Walk P ops draw K rest ((l.length, ⟨some d, .binOp .eql xt x (.const (.slice none 0 0)) yt, ty, pos, aft, gd⟩, ⟨Xg ops gd ++ [(x, .d (.sl sz xs))], some (d, .bq (xs = []) True), [], [], []⟩) :: l) (S.set d (.bq (xs = []) True))) :
  Walk P ops draw K (⟨some d, .binOp .eql xt x (.const (.slice none 0 0)) yt, ty, pos, aft, gd⟩ :: rest) l S :=
 XO ⟨[(x, .d (.sl sz xs))], some (d, .bq (xs = []) True), [], [], []⟩ (Y2 rfl fun E S g a w hs hq hl => by
  have hq1 := hq.1
  simp only [AVal.sat, D.rep] at hq1
  obtain ⟨b, cap, hv, c1, c2, c3⟩ := hq1
  refine ⟨.bool b.isNone, ?_, ?_⟩
  ·obtain ⟨e, he⟩ := X3g ht
   have e1 : eqGuard .eql xt x (.const (.slice none 0 0)) (.slice b xs.length cap) (.slice none 0 0) = pure () := eqGuard_at_slice _ _ _ _ _ _ _ _
   simp only [execOp, hv, show a.eval (.const (.slice none 0 0)) = .slice none 0 0 from rfl, e1, Sem.run_bind, Sem.run_pure, Result.andThen_ok, Lib.run_eql_slice_nil w xt e b xs.length cap 0 0 he]
  ·simp only [AVal.sat]
   refine ⟨b.isNone, rfl, fun h => ?_, fun _ => trivial⟩
   rcases c3 with h' | ⟨b', o, rfl, _⟩
   ·exact h'
   ·simp at h) hg ⟨⟨hx, trivial⟩, trivial, trivial, hd⟩ h
end
theorem XF {S : St} (t : Nat) {y : AVal} (h : (S.get t).le y) : S.le (S.set t (y)) := by
 rintro E a w ⟨g, hs⟩
 refine X1d hs hs.1 rfl fun k => ?_
 by_cases hk : k = t
 ·subst hk
  show AVal.sat _ (Xa .any ((k, _) :: S.τ) k) _
  rw [XT]; exact h g _ (hs.2.2.2 k)
 ·show AVal.sat _ (Xa .any ((t, _) :: S.τ) k) _
  rw [XK _ _ _ (Ne.symm hk)]; exact hs.2.2.2 k
theorem Xbe {g : Gh} {w : World} {h : Value} {sz : Nat} {xs : List (List D)} (hr : Yp g w h sz xs) {M' : Mem} (hM : XQ g.M M') (hc : ∀ b o, Ym h b → M' ⟨b, o, none⟩ = w.cell? ⟨b, o, none⟩) : (D.sl sz xs).rep M' h := by
 simp only [D.rep]
 rcases hr.2 with ⟨h1, rfl⟩ | ⟨b, cap, vs, e, fr, h1, h2, h3, h4, h5, h6, h7⟩
 ·exact ⟨none, 0, h1, by simp, by simp, by simp⟩
 ·refine ⟨_, cap, h1, h2, h3, .inr ⟨b, 0, rfl, X2t xs 0 hr.1 fun i d hd => ?_⟩⟩
  obtain ⟨hl, hrr⟩ := X1G h7
  obtain ⟨u, hu, hsu⟩ := hrr i d hd
  refine ⟨u, ?_, D.rep_mono hM _ _ hsu⟩
  rw [hc b _ ⟨_, _, _, h1, rfl⟩, cell_of_row w _ _ vs e fr h4, Nat.zero_add]
  rw [List.getElem?_take] at hu
  split at hu
  ·simpa using hu
  ·simp at hu
open Classical in
noncomputable def YU (g : Gh) (w : World) (x : AObj) (γ : Nat) : Mem := fun p => if p.spot = none ∧ Xr g x γ p.block then w.cell? p else g.M p
theorem Xcz {E : Env} {S : St} {g : Gh} {w : World} (hi : Inv E S.obj g w) {γ sz : Nat} {xs : List (List D)} (hrep : (D.sl sz xs).rep (YU g w (S.obj γ) γ) (g.hd γ)) :
  XQ g.M (YU g w (S.obj γ) γ) ∧ Inv E (Xa .dead ((γ, .froz sz xs) :: S.L)) { g with M := YU g w (S.obj γ) γ } w := by
 have hle : XQ g.M (YU g w (S.obj γ) γ) := by
  intro a v h
  unfold YU
  rw [if_neg (fun hc => hi.sep γ _ hc.2 a v h rfl)]; exact h
 refine ⟨hle, ?_⟩
 have hM' : ∀ a v, YU g w (S.obj γ) γ a = some v → g.M a = some v ∨ (w.cell? a = some v ∧ Xr g (S.obj γ) γ a.block) := by
  intro a v h
  unfold YU at h
  split at h
  ·rename_i hc; exact .inr ⟨h, hc.2⟩
  ·exact .inl h
 have hlook : ∀ k, Xa .dead ((γ, .froz sz xs) :: S.L) k = if k = γ then .froz sz xs else S.obj k := by
  intro k
  by_cases hk : k = γ
  ·subst hk; rw [XT, if_pos rfl]
  ·rw [XK _ _ _ (Ne.symm hk), if_neg hk]; rfl
 have hlv : ∀ k b, Xr { g with M := YU g w (S.obj γ) γ } (Xa .dead ((γ, .froz sz xs) :: S.L) k) k b → k ≠ γ ∧ Xr g (S.obj k) k b := by
  intro k b h
  rw [hlook] at h
  by_cases hk : k = γ
  ·rw [if_pos hk] at h; exact h.elim
  ·rw [if_neg hk] at h
   refine ⟨hk, ?_⟩
   rwa [X0K (g := g) (g' := { g with M := YU g w (S.obj γ) γ }) rfl rfl rfl] at h
 refine ⟨fun k => ?_, fun k k' b h h' => hi.inj k k' b (hlv _ _ h).2 (hlv _ _ h').2, fun a v h => ?_, fun k b h a v ha => ?_, fun k b h => hi.new k b (hlv _ _ h).2, hi.ext.trans hle, fun a v h => ?_, hi.frame, hi.size, hi.os, hi.out, fun k hk => (hi.kp k hk).trans' (Gh.keeps_of rfl rfl rfl)⟩
 ·rw [hlook]
  by_cases hk : k = γ
  ·subst hk; rw [if_pos rfl]; exact hrep
  ·rw [if_neg hk]; exact X5v (g := g) (g' := { g with M := YU g w (S.obj γ) γ }) hle rfl rfl rfl (fun _ _ => rfl) (hi.obj k)
 ·rcases hM' a v h with h1 | h1
  ·exact hi.mem a v h1
  ·exact h1.1
 ·obtain ⟨hk, hb⟩ := hlv k b h
  rcases hM' a v ha with h1 | h1
  ·exact hi.sep k b hb a v h1
  ·intro e
   rw [e] at h1
   exact hk (hi.inj _ _ _ hb h1.2)
 ·rcases hM' a v h with h1 | h1
  ·exact hi.lim a v h1
  ·exact .inr (hi.new γ _ h1.2)
section
variable {P : Program} {ops : Array Oper} {draw : Bool} {K : Xy → St → Prop} {rest : List Oper} {l : Xy} {S : St}
variable {d : Nat} {ty : TypeId} {pos : String} {aft : Array Edge} {gd : Option (Nat × Bool)}
end
section
variable {P : Program} {ops : Array Oper} {draw : Bool} {K : Xy → St → Prop} {rest : List Oper} {l : Xy} {S : St}
variable {d : Nat} {ty : TypeId} {pos : String} {aft : Array Edge} {gd : Option (Nat × Bool)}
theorem XdJ {P : Program} {E : Env} {L : Nat → AObj} {g : Gh} {w : World} (hi : Inv E L g w) {sz m : Nat} {ys : List (List D)} {x : Value} (h : (D.sl sz ys).rep g.M x) (hm : m ≤ ys.length) :
  ∃ news, (Builtin.firstCells sz m x).run P w = .ok news w ∧ news.size = m * sz ∧ Xk g ((ys.take m).flatten.map .d) news.toList ∧ (Builtin.lenOf x).run P w = .ok ys.length w ∧ ∀ y ∈ ys.take m, y.length = sz := by
 simp only [D.rep] at h
 obtain ⟨a, cap, rfl, h2, h3, h4⟩ := h
 rcases h4 with rfl | ⟨b, o, rfl, hr⟩
 ·have : m = 0 := by simpa using hm
  subst this
  refine ⟨#[], ?_, by simp, by simp [Xk], by simp [Builtin.lenOf], by simp⟩
  cases a with
  | none => simp [Builtin.firstCells]
  | some a => simp [Builtin.firstCells, loadCells, loadCellsFrom]
 ·have hr' := X7W hr m
  obtain ⟨vs, k1, k2, k3⟩ := X8G hi.mem _ b o hr'
  have hl : ∀ y ∈ ys.take m, y.length = sz := fun y hy => by
   obtain ⟨i, hi⟩ := List.getElem?_of_mem hy
   exact (X1f _ b o i y hr' hi).1
  have hlen : (ys.take m).length = m := by simp; omega
  rw [hlen] at k1
  refine ⟨vs.toArray, ?_, by simp [k1], ?_, by simp [Builtin.lenOf], hl⟩
  ·have := run_loadCells_list (P := P) w ⟨b, o, none⟩ vs (fun j v hv => by rw [YQ]; exact k2 j v hv)
   rw [k1] at this
   simp only [Builtin.firstCells]; exact this
  ·refine VZ (by rw [List.length_map, UN _ hl, hlen, ← k1]) fun i z u hz hu => ?_
   simp only [List.getElem?_map, Option.map_eq_some_iff] at hz
   obtain ⟨d, hd, rfl⟩ := hz
   simp only [AVal.sat]
   exact k3 i d u hd (by simpa using hu)
theorem X57 {sz : Nat} : ∀ (zs : List (List D)) (n : Nat), (∀ z ∈ zs, z.length = sz) → n ≤ zs.length → (zs.take n).flatten = zs.flatten.take (n * sz) ∧ (zs.drop n).flatten = zs.flatten.drop (n * sz)
 | [], n, _, hn => by simp at hn; subst hn; simp
 | z :: zs, 0, _, _ => by simp
 | z :: zs, n + 1, hz, hn => by
  have hzl := hz z (by simp)
  obtain ⟨i1, i2⟩ := X57 zs n (fun q hq => hz q (by simp [hq])) (by simpa using hn)
  have e : (n + 1) * sz = z.length + n * sz := by rw [hzl, Nat.add_mul]; omega
  constructor
  ·rw [List.take_succ_cons, List.flatten_cons, List.flatten_cons, i1, e, List.take_length_add_append]
  ·rw [List.drop_succ_cons, List.flatten_cons, i2, e, List.drop_length_add_append]
theorem X8B {α : Type} {A N : List α} {a m L : Nat} (hN : N.length = m) (h1 : a + m ≤ L) (h2 : L ≤ A.length) :
  (A.take a ++ N ++ A.drop (a + m)).take L = (A.take L).take a ++ N ++ (A.take L).drop (a + m) := by
 apply List.ext_getElem?
 intro j
 simp only [List.getElem?_take, List.getElem?_append, List.getElem?_drop, List.length_append, List.length_take, hN]
 have e1 : min a A.length = a := by omega
 have e2 : min a (min L A.length) = a := by omega
 rw [e1, e2]
 by_cases c0 : j < L
 ·by_cases c1 : j < a
  ·simp [c0, c1, show j < a + m by omega]
  ·by_cases c2 : j < a + m
   ·simp [c0, c1, c2]
   ·simp [c0, c2, show a + m + (j - (a + m)) < L by omega]
 ·simp [c0, show ¬ j < a + m by omega, show ¬ a + m + (j - (a + m)) < L by omega]
theorem Xba {P : Program} {g : Gh} {w : World} {h : Value} {sz m k : Nat} {xs ys : List (List D)} (hr : Yp g w h sz xs) (hm : k + m ≤ xs.length) (hyl : ∀ y ∈ ys, y.length = sz) (hym : ys.length = m) {news : Array Value} (hns : news.size = m * sz) (hsat : Xk g (ys.flatten.map .d) news.toList) :
  ∃ w', (match h with | .slice (some a) _ _ => (storeCells (a.add (k * sz)) news.toList).run P w | _ => .ok () w) = .ok () w' ∧ Yp g w' h sz (xs.take k ++ ys ++ xs.drop (k + m)) ∧
   (∀ b, ¬ Ym h b → w'.heap[b]? = w.heap[b]?) ∧ w'.heap.size = w.heap.size ∧ w'.os = w.os ∧ w'.output = w.output := by
 have hlen' : ∀ r ∈ xs.take k ++ ys ++ xs.drop (k + m), r.length = sz := by
  intro r hrr
  simp only [List.mem_append] at hrr
  rcases hrr with (h | h) | h
  ·exact hr.1 r (List.mem_of_mem_take h)
  ·exact hyl r h
  ·exact hr.1 r (List.mem_of_mem_drop h)
 have hll : (xs.take k ++ ys ++ xs.drop (k + m)).length = xs.length := by simp [hym]; omega
 rcases hr.2 with ⟨rfl, rfl⟩ | ⟨b, cap, vs, e, fr, rfl, h2, h3, h4, h5, h6, h7⟩
 ·have : m = 0 ∧ k = 0 := by simpa [Nat.add_comm] using hm
  obtain ⟨rfl, rfl⟩ := this
  have : ys = [] := List.eq_nil_of_length_eq_zero hym
  subst this
  exact ⟨w, rfl, ⟨by simp, .inl ⟨rfl, by simp⟩⟩, fun _ _ => rfl, rfl, rfl, rfl⟩
 ·have hfx := UN xs hr.1
  have hfy := UN ys hyl
  have hbnd : k * sz + m * sz ≤ vs.size := by
   rw [← Nat.add_mul]
   exact Nat.le_trans (Nat.mul_le_mul_right _ (Nat.le_trans hm h2)) h6
  obtain ⟨vs', k1, k2⟩ := X2n (P := P) b e fr vs.size h5 news.toList (k * sz) 0 vs w h4 rfl (by simp [hns]; omega) (fun u hu => by
   obtain ⟨j, hj, rfl⟩ := List.getElem_of_mem hu
   have hjl : j < ys.flatten.length := by rw [hfy, hym, ← hns]; simpa using hj
   obtain ⟨_, hrep⟩ := X1G hsat
   obtain ⟨u, hu1, hu2⟩ := hrep j _ (List.getElem?_eq_getElem hjl)
   rw [List.getElem?_eq_getElem hj] at hu1; cases hu1
   exact D.rep_one hu2)
  simp only [Nat.add_zero, Array.length_toList, hns] at k2
  have hvs' : vs'.size = vs.size := by
   have := congrArg List.length k2
   simp [hns] at this; omega
  refine ⟨w.setRow b vs', ?_, ⟨hlen', .inr ⟨b, cap, vs', e, fr, by rw [hll], by rw [hll]; exact h2, h3, setRow_heap w b vs _ e fr h4, by rw [hvs']; exact h5, by rw [hvs']; exact h6, ?_⟩⟩, fun c hc => setRow_other w b c vs' (fun e => hc (by rw [e]; exact ⟨_, _, _, rfl, rfl⟩)), by simp, rfl, rfl⟩
  ·simp only [YQ, Nat.zero_add]; exact k1
  ·rw [hll]
   have hxt : (vs.toList.take (xs.length * sz)).length = xs.length * sz := by have := Y6 h7; simp only [List.length_map, hfx] at this; exact this
   have hle : k * sz + m * sz ≤ xs.length * sz := by rw [← Nat.add_mul]; exact Nat.mul_le_mul_right _ hm
   have e1 : vs'.toList.take (xs.length * sz) = (vs.toList.take (xs.length * sz)).take (k * sz) ++ news.toList ++ (vs.toList.take (xs.length * sz)).drop (k * sz + m * sz) := by
    rw [k2]
    exact X8B (by simp [hns]) hle (by simp at hxt ⊢; omega)
   rw [e1]
   have e2 : (xs.take k ++ ys ++ xs.drop (k + m)).flatten = xs.flatten.take (k * sz) ++ ys.flatten ++ xs.flatten.drop (k * sz + m * sz) := by
    obtain ⟨t1, _⟩ := X57 xs k hr.1 (by omega)
    obtain ⟨_, t2⟩ := X57 xs (k + m) hr.1 hm
    rw [List.flatten_append, List.flatten_append, t1, t2, Nat.add_mul]
   rw [e2, List.map_append, List.map_append, List.map_take, List.map_drop]
   exact Vm (Vm (VO h7 _) hsat) (X09 h7 _)
theorem X6n {T T2 ty : TypeId} {sz m : Nat} {x y : Value} {news : Array Value} {w w' : World} {a : Option Addr} {n c ylen : Nat} (hT : Y8 P T sz = true) (hx : x = .slice a n c) (hl : (Builtin.lenOf y).run P w = .ok ylen w) (hm : m = min ylen n)
  (hf : (Builtin.firstCells sz m y).run P w = .ok news w) (hst : (match x with | .slice (some a) _ _ => (storeCells (a.add (0 * sz)) news.toList).run P w | _ => .ok () w) = .ok () w') :
  (Builtin.copy_ #[T, T2] ty #[x, y]).run P w = .ok (.int .i64 m) w' := by
 obtain ⟨e, h1, h2, _⟩ := VX hT
 subst hx hm
 have hmin : Nat.min ylen n = min ylen n := rfl
 cases a with
 | none =>
  simp only at hst
  cases hst
  simp [Builtin.copy_, run_underlying h1, hl, h2 w, hmin, hf, goInt]
 | some a =>
  simp only [Nat.zero_mul, Addr.add_zero'] at hst
  simp [Builtin.copy_, run_underlying h1, hl, h2 w, hmin, hf, hst, goInt]
theorem Xhx {x y : Operand} {tys : Array TypeId} {k : IntKind} {a b : Int} (hx : S.ev x = .d (.v (.int k a))) (hy : S.ev y = .d (.v (.int k b))) (hd : Nat.blt d S.n = true) (hg : Xj ops S gd)
  (h : Walk P ops draw K rest ((l.length, ⟨some d, .call ⟨.builtin .max, #[x, y], tys⟩, ty, pos, aft, gd⟩, ⟨Xg ops gd ++ [(x, .d (.v (.int k a))), (y, .d (.v (.int k b)))], some (d, .d (.v (.int k (max a b)))), [], [], []⟩) :: l) (S.set d (.d (.v (.int k (max a b)))))) :
  Walk P ops draw K (⟨some d, .call ⟨.builtin .max, #[x, y], tys⟩, ty, pos, aft, gd⟩ :: rest) l S :=
 XO ⟨[(x, .d (.v (.int k a))), (y, .d (.v (.int k b)))], some (d, .d (.v (.int k (max a b)))), [], [], []⟩ (Y2 rfl fun E S g act w hs hq hl => by
  refine ⟨_, ?_, Ui rfl⟩
  have e : (if b > a then b else a) = max a b := by
   by_cases h : b > a <;> simp [h] <;> omega
  simp [execOp, resolve, invoke, builtin, Builtin.max_, Builtin.max2, Yn hq.1, Yn hq.2.1]
  omega) hg ⟨⟨hx, hy, trivial⟩, trivial, trivial, hd⟩ h
end
end Go.Fw

/- Ninth part: the walk's rule for a call; weakening of states; more operations. -/
import Derived.Test.YtldiocpkgfpehaaFwH
import Derived.Laws.BytesString
namespace Go.Fw
open Go
set_option linter.unusedVariables false
set_option linter.unusedSimpArgs false

def evA (S : St) : List Operand → List AVal
  | [] => []
  | x :: r => S.ev x :: evA S r
def readsA : List Operand → List AVal → List (Operand × AVal)
  | x :: r, y :: s => (x, y) :: readsA r s
  | _, _ => []
theorem readsA_sat {g : Gh} {a : Act} : ∀ {xs : List Operand} {ys : List AVal}, ys.length = xs.length → satR g a (readsA xs ys) → satL g ys (xs.map a.eval)
  | [], [], _, _ => by simp only [List.map_nil, satL]
  | x :: xs, y :: ys, h, hs => by
    simp only [List.map_cons, satL]
    exact ⟨hs.1, readsA_sat (by simpa using h) hs.2⟩
  | [], _ :: _, h, _ => by simp at h
  | _ :: _, [], h, _ => by simp at h
theorem evA_ok (S : St) : ∀ (xs : List Operand), readsOk S (readsA xs (evA S xs))
  | [] => trivial
  | x :: r => ⟨rfl, evA_ok S r⟩

/-- What is known may be known less exactly. -/
def AVal.le (x y : AVal) : Prop := ∀ g u, x.sat g u → y.sat g u
theorem AVal.le_refl (x : AVal) : x.le x := fun _ _ h => h
theorem AVal.le_any (x : AVal) : x.le .any := fun _ _ _ => by simp only [AVal.sat]
theorem AVal.le_nil (sz : Nat) : AVal.le ani (.d (.sl sz [])) := fun g u h => by
  simp only [AVal.sat, D.rep] at h ⊢
  exact ⟨none, 0, h.1, by simp, by simp, by simp⟩
theorem AVal.le_of_eq {x y : AVal} (h : x = y) : x.le y := h ▸ AVal.le_refl x
def leL : List AVal → List AVal → Prop
  | [], [] => True
  | x :: r, y :: s => x.le y ∧ leL r s
  | _, _ => False
theorem leL_sat {g : Gh} : ∀ {xs ys : List AVal} {us : List Value}, leL xs ys → satL g xs us → satL g ys us
  | [], [], _, _, h => h
  | x :: xs, y :: ys, u :: us, hl, h => by
    simp only [satL] at h ⊢
    exact ⟨hl.1 g u h.1, leL_sat hl.2 h.2⟩
  | _ :: _, _ :: _, [], _, h => by simp only [satL] at h
  | [], _ :: _, _, hl, _ => hl.elim
  | _ :: _, [], _, hl, _ => hl.elim
theorem AVal.le_agg {xs ys : List AVal} (h : leL xs ys) : AVal.le (.agg xs) (.agg ys) := fun g u hs => by
  simp only [AVal.sat] at hs ⊢
  obtain ⟨vs, h1, h2⟩ := hs
  exact ⟨vs, h1, leL_sat h h2⟩

def callable (P : Program) (f : FuncId) : Bool := match P.funcs[f]? with | some fn => !(fn.name == "runtime.NumGoroutine") && fn.body.isSome | none => false
theorem run_callFunc {P : Program} {f : FuncId} (h : callable P f = true) (args : Array Value) (w : World) : (callFunc f args).run P w = .ok (.enter f args) w := by
  unfold callable at h
  cases hf : P.funcs[f]? with
  | none => simp [hf] at h
  | some fn =>
    rw [hf] at h
    simp only [Bool.and_eq_true, Bool.not_eq_true'] at h
    have hb : fn.body.isNone = false := by
      cases hb : fn.body with
      | none => have := h.2; simp [hb] at this
      | some c => rfl
    simp only [callFunc, Sem.run_bind, run_program, Result.andThen_ok, hf, h.1, hb, Bool.false_eq_true, if_false, Sem.run_pure]

section
variable {P : Program} {ops : Array Oper} {draw : Bool} {K : St → Prop} {rest : List Oper} {l : Line} {S : St}
variable {d : Nat} {ty : TypeId} {pos : String} {aft : Array Edge} {gd : Option (Nat × Bool)}

/-- A call, by its contract. 'ys': what the slots hold; 'zs': what the contract speaks of. -/
theorem w_call {f : FuncId} {args : Array Operand} {tys : Array TypeId} {xs : List Operand} {ys zs : List AVal} {Li Lo : List (Nat × AObj)} {res : AVal}
    (hxs : args.toList = xs) (hys : evA S xs = ys) (hle : leL ys zs) (hcon : Con P f Li zs Lo res) (hf : callable P f = true)
    (hLi : lrdOk S Li) (hin : keysIn Li Lo = true) (hbox : boxesIn Lo Lo = true) (hres : res.within Lo = true) (hnew : newOk S (newKeys Li Lo)) (hdead : lrdOk S (deadL (newKeys Li Lo)))
    (hd : Nat.blt d S.n = true) (hg : guardOk ops S gd)
    (h : Walk P ops draw K rest ((l.length, ⟨some d, .call ⟨.value (.func f), args, tys⟩, ty, pos, aft, gd⟩, ⟨guardReads ops gd ++ readsA xs ys, some (d, res), Li ++ deadL (newKeys Li Lo), Lo, newKeys Li Lo⟩) :: l)
      ((S.set d res).cat Lo)) :
    Walk P ops draw K (⟨some d, .call ⟨.value (.func f), args, tys⟩, ty, pos, aft, gd⟩ :: rest) l S := by
  have hap : ∀ (A B : List (Nat × AObj)) (T : St), lrdOk T (A ++ B) ↔ lrdOk T A ∧ lrdOk T B := by
    intro A B T
    simp only [lrdOk_iff, List.mem_append]
    exact ⟨fun h => ⟨fun p hp => h p (.inl hp), fun p hp => h p (.inr hp)⟩, fun h p hp => hp.elim (h.1 p) (h.2 p)⟩
  have hlen : ys.length = xs.length := by
    rw [← hys]; clear hys hxs h hle
    induction xs with
    | nil => rfl
    | cons x r ih => simp [evA, ih]
  refine walk_op ⟨readsA xs ys, some (d, res), Li ++ deadL (newKeys Li Lo), Lo, newKeys Li Lo⟩ ?_ hg ⟨by rw [← hys]; exact evA_ok S xs, (hap _ _ _).2 ⟨hLi, hdead⟩, hnew, hd⟩ h
  intro E S a w g hs hok Q K hK
  obtain ⟨ok1, ok2, ok3, ok4⟩ := hok
  rw [hap] at ok2
  have hsat := leL_sat hle (readsA_sat hlen (satR_of hs _ ok1))
  have hinv : Inv (envOf g w Li) (look .dead Li) g w := by
    have hsub := subL_of ok2.1
    have hl : ∀ γ b, lives g (look .dead Li γ) γ b → lives g (S.obj γ) γ b := by
      intro γ b hb
      rcases hsub γ with e | e
      · rw [← e]; exact hb
      · rw [e] at hb; exact hb.elim
    refine ⟨fun γ => ?_, fun γ γ' b k k' => hs.1.inj γ γ' b (hl _ _ k) (hl _ _ k'), hs.1.mem, fun γ b k => hs.1.sep γ b (hl _ _ k), fun γ b k => .inr ⟨γ, k⟩, MemLe.refl _, fun a v ha => .inl ⟨v, ha⟩, fun _ _ _ => rfl, Nat.le_refl _, rfl, rfl, fun γ _ => Gh.keeps_refl _ _⟩
    rcases hsub γ with e | e
    · rw [e]; exact hs.1.obj γ
    · rw [e]; trivial
  have hcall := hcon g w (xs.map a.eval) hinv hsat
  have hrun : (execOp a.eval ⟨some d, .call ⟨.value (.func f), args, tys⟩, ty, pos, aft, gd⟩).run P w = .ok (.enter f (xs.map a.eval).toArray) w := by
    have e1 : (#[] ++ args.map a.eval ++ #[] : Array Value) = (xs.map a.eval).toArray := by
      apply Array.ext'; simp [← hxs]
    simp only [execOp, resolve, Act.eval, Deferred.ofValue, Sem.run_bind, Sem.run_pure, Result.andThen_ok, invoke]
    rw [run_callFunc hf]
    congr 2
  unfold Oper.wp
  rw [hrun, Oper.upon_enter]
  refine hcall.mono ?_
  rintro e w' ⟨v, g', rfl, hv, hi', hk⟩
  obtain ⟨j1, j2, j3⟩ := inv_call hs.1 ok2.1 hin hbox ok3 ok2.2 hi' hk
  exact hK _ _ (holds_put j1 hs.2.1 hs.2.2.1 (fun t => j3 t _ (hs.2.2.2 t)) (j2 _ _ hres hv) ok4)
end

/-! Weakening. -/
def leT (S : St) : List (Nat × AVal) → Prop
  | [] => True
  | p :: r => (S.get p.1).le p.2 ∧ leT S r
theorem leT_spec {S : St} {t : Nat} : ∀ (l : List (Nat × AVal)), leT S l → (look .any l t = .any ∨ (S.get t).le (look .any l t))
  | [], _ => .inl rfl
  | (k, x) :: r, h => by
    by_cases hk : k = t
    · subst hk; rw [look_same]; exact .inr h.1
    · rw [look_ne _ _ _ hk]; exact leT_spec r h.2
theorem le_mk {S : St} {n : Nat} {τ : List (Nat × AVal)} {L : List (Nat × AObj)} (hn : S.n = n) (ht : leT S τ) (hL : lrdOk S L) : S.le ⟨n, τ, L⟩ := by
  rintro E a w ⟨g, h1, h2, h3, h4⟩
  refine ⟨g, h1.sub (subL_of hL), h2, h3.trans hn, fun t => ?_⟩
  show AVal.sat g (look .any τ t) _
  rcases leT_spec τ ht with e | e
  · rw [e]; simp only [AVal.sat]
  · exact e g _ (h4 t)

/-- What is data has a length that a slice can have. -/
theorem len_of_rep {M : Mem} {sz : Nat} {xs : List (List D)} {u : Value} (h : (D.sl sz xs).rep M u) : xs.length ≤ 9223372036854775807 := by
  simp only [D.rep] at h
  obtain ⟨a, cap, _, h2, h3, _⟩ := h
  unfold maxLen at h3; omega
theorem awp_bound {P : Program} {E : Env} {c : Code} {S : St} {Q : Exit → St → Prop} (t : Nat) {sz : Nat} {xs : List (List D)} (ht : S.get t = .d (.sl sz xs)) (h : xs.length ≤ 9223372036854775807 → AWP P E c S Q) : AWP P E c S Q := by
  refine ⟨fun a w hs => ?_⟩
  obtain ⟨g, hg⟩ := hs
  have := hg.2.2.2 t
  rw [ht] at this
  simp only [AVal.sat] at this
  exact (h (len_of_rep this)).run a w ⟨g, hg⟩
theorem awp_bound_box {P : Program} {E : Env} {c : Code} {S : St} {Q : Exit → St → Prop} (γ j : Nat) {sz : Nat} {cs : List AVal} {xs : List (List D)} (hL : S.obj γ = .box cs) (hj : cs[j]? = some (.d (.sl sz xs))) (h : xs.length ≤ 9223372036854775807 → AWP P E c S Q) : AWP P E c S Q := by
  refine ⟨fun a w hs => ?_⟩
  obtain ⟨g, hg⟩ := hs
  have ho := hg.1.obj γ
  rw [hL] at ho
  obtain ⟨vs, e, fr, _, _, h3, _⟩ := ho
  obtain ⟨u, _, hu⟩ := satL_get h3 j _ hj
  simp only [AVal.sat] at hu
  exact (h (len_of_rep hu)).run a w ⟨g, hg⟩
theorem awp_bound_agg {P : Program} {E : Env} {c : Code} {S : St} {Q : Exit → St → Prop} (t j : Nat) {sz : Nat} {cs : List AVal} {xs : List (List D)} (ht : S.get t = .agg cs) (hj : cs[j]? = some (.d (.sl sz xs))) (h : xs.length ≤ 9223372036854775807 → AWP P E c S Q) : AWP P E c S Q := by
  refine ⟨fun a w hs => ?_⟩
  obtain ⟨g, hg⟩ := hs
  have := hg.2.2.2 t
  rw [ht] at this
  simp only [AVal.sat] at this
  obtain ⟨vs, _, h3⟩ := this
  obtain ⟨u, _, hu⟩ := satL_get h3 j _ hj
  simp only [AVal.sat] at hu
  exact (h (len_of_rep hu)).run a w ⟨g, hg⟩

theorem holds_ghost {E : Env} {S T : St} {g g' : Gh} {a : Act} {w : World} (hs : holdsG E S g a w) (hi : Inv E T.obj g' w) (hn : T.n = S.n) (ht : ∀ t, (T.get t).sat g' (a.tmps.getD t undef)) : holds E T a w :=
  ⟨g', hi, hs.2.1, by rw [hs.2.2.1, hn], ht⟩

/-- A nil slice in a slot, taken as a row of one's own. -/
theorem le_adopt {S : St} (t γ sz : Nat) (ht : S.get t = ani) (hdead : S.obj γ = .dead) (hf : S.free γ = true) :
    S.le ((S.set t (.own γ 0)).own γ (.row sz [])) := by
  rintro E a w ⟨g, hs⟩
  have hi := inv_new hs.1 γ hf hdead (.row sz []) 0 (.slice none 0 0) (w' := w) (fun _ _ => rfl) (Nat.le_refl _) rfl rfl
    ⟨by simp, .inl ⟨by simp [Gh.put], rfl⟩⟩ (fun k hk => by obtain ⟨a, n, c, e, _⟩ := hk; simp [Gh.put] at e)
  refine holds_ghost hs hi rfl fun k => ?_
  by_cases hk : k = t
  · subst hk
    show AVal.sat _ (look .any ((k, _) :: S.τ) k) _
    rw [look_same]
    have := hs.2.2.2 k
    rw [ht] at this
    rw [sat_v this]
    simp only [AVal.sat]
    exact ⟨rfl, none, 0, 0, by simp [Gh.put], Nat.le_refl _, fun _ => rfl⟩
  · show AVal.sat _ (look .any ((t, _) :: S.τ) k) _
    rw [look_ne _ _ _ (Ne.symm hk)]
    exact tmps_put hf hs.2.2.2 k
/-- A nil slice in a cell of a box, taken as a row of one's own. -/
theorem le_adopt_box {S : St} (β j γ sz : Nat) {cs : List AVal} (hb : S.obj β = .box cs) (hj : cs[j]? = some ani) (hdead : S.obj γ = .dead) (hf : S.free γ = true) (hne : Nat.beq γ β = false) :
    S.le ((S.own γ (.row sz [])).own β (.box (cs.set j (.own γ 0)))) := by
  rintro E a w ⟨g, hs⟩
  have hi := inv_new hs.1 γ hf hdead (.row sz []) 0 (.slice none 0 0) (w' := w) (fun _ _ => rfl) (Nat.le_refl _) rfl rfl
    ⟨by simp, .inl ⟨by simp [Gh.put], rfl⟩⟩ (fun k hk => by obtain ⟨a, n, c, e, _⟩ := hk; simp [Gh.put] at e)
  have hne' : γ ≠ β := ne_of_beq hne
  have hob : look .dead ((γ, .row sz []) :: S.L) β = .box cs := by rw [look_ne _ _ _ hne']; exact hb
  have ho := hi.obj β
  rw [hob] at ho
  obtain ⟨vs, e, fr, h1, h2, h3, h4⟩ := ho
  have hi2 : Inv E (look .dead ((β, .box (cs.set j (.own γ 0))) :: (γ, .row sz []) :: S.L)) (g.put γ 0 (.slice none 0 0)) w := by
    refine Inv.upd hi β _ (look_same _ _ _ _) (fun k hk => look_ne _ _ _ (Ne.symm hk)) (fun _ _ _ => rfl) (Nat.le_refl _) rfl rfl rfl (fun _ _ => ⟨rfl, rfl, rfl⟩) (fun _ _ _ _ _ h => h) ?_ (fun b hb' => .inl (by rw [hob]; exact hb')) (fun _ => Gh.keeps_refl _ _)
    have hlen := satL_length h3
    refine ⟨vs, e, fr, h1, h2, satL_of (by simp [hlen]) fun i x u hx hu => ?_, fun c hc => ?_⟩
    · rw [List.getElem?_set] at hx
      split at hx
      · rename_i hij
        subst hij
        obtain ⟨u', k1, k2⟩ := satL_get h3 j ani hj
        rw [k1] at hu; cases hu
        split at hx
        · cases hx
          rw [sat_v k2]
          simp only [AVal.sat]
          exact ⟨rfl, none, 0, 0, by simp [Gh.put], Nat.le_refl _, fun _ => rfl⟩
        · simp at hx
      · obtain ⟨u', k1, k2⟩ := satL_get h3 i x hx
        rw [k1] at hu; cases hu; exact k2
    · rcases List.mem_or_eq_of_mem_set hc with h | h
      · exact h4 c h
      · rw [h]; rfl
  exact holds_ghost hs hi2 rfl (tmps_put hf hs.2.2.2)

/-- A row let go: from here on it is data. -/
theorem inv_froz {E : Env} {S : St} {g : Gh} {w : World} (hi : Inv E S.obj g w) {γ sz : Nat} {xs : List (List D)} (hL : S.obj γ = .row sz xs) :
    ∃ M', MemLe g.M M' ∧ Inv E (look .dead ((γ, .froz sz xs) :: S.L)) { g with M := M' } w := by
  have ho := hi.obj γ
  rw [hL] at ho
  obtain ⟨hlen, ho⟩ := ho
  have key : ∀ (M' : Mem), MemLe g.M M' → (D.sl sz xs).rep M' (g.hd γ) → (∀ a v, M' a = some v → g.M a = some v ∨ (w.cell? a = some v ∧ lives g (S.obj γ) γ a.block)) →
      Inv E (look .dead ((γ, .froz sz xs) :: S.L)) { g with M := M' } w := by
    intro M' hle hrep hM'
    have hlook : ∀ k, look .dead ((γ, .froz sz xs) :: S.L) k = if k = γ then .froz sz xs else S.obj k := by
      intro k
      by_cases hk : k = γ
      · subst hk; rw [look_same, if_pos rfl]
      · rw [look_ne _ _ _ (Ne.symm hk), if_neg hk]; rfl
    have hlv : ∀ k b, lives { g with M := M' } (look .dead ((γ, .froz sz xs) :: S.L) k) k b → k ≠ γ ∧ lives g (S.obj k) k b := by
      intro k b h
      rw [hlook] at h
      by_cases hk : k = γ
      · rw [if_pos hk] at h; exact h.elim
      · rw [if_neg hk] at h
        refine ⟨hk, ?_⟩
        rwa [lives_move (g := g) (g' := { g with M := M' }) rfl rfl rfl] at h
    refine ⟨fun k => ?_, fun k k' b h h' => hi.inj k k' b (hlv _ _ h).2 (hlv _ _ h').2, fun a v h => ?_, fun k b h a v ha => ?_, fun k b h => hi.new k b (hlv _ _ h).2, hi.ext.trans hle, fun a v h => ?_, hi.frame, hi.size, hi.os, hi.out, fun k hk => (hi.kp k hk).trans' (Gh.keeps_of rfl rfl rfl)⟩
    · rw [hlook]
      by_cases hk : k = γ
      · subst hk; rw [if_pos rfl]; exact hrep
      · rw [if_neg hk]; exact objSat_lay (g := g) (g' := { g with M := M' }) hle rfl rfl rfl (fun _ _ => rfl) (hi.obj k)
    · rcases hM' a v h with h1 | h1
      · exact hi.mem a v h1
      · exact h1.1
    · obtain ⟨hk, hb⟩ := hlv k b h
      rcases hM' a v ha with h1 | h1
      · exact hi.sep k b hb a v h1
      · intro e
        rw [e] at h1
        exact hk (hi.inj _ _ _ hb h1.2)
    · rcases hM' a v h with h1 | h1
      · exact hi.lim a v h1
      · exact .inr (hi.new γ _ h1.2)
  rcases ho with ⟨h1, rfl⟩ | ⟨b, cap, vs, e, fr, h1, h2, h3, h4, h5, h6, h7⟩
  · refine ⟨g.M, MemLe.refl _, key g.M (MemLe.refl _) ?_ (fun a v h => .inl h)⟩
    simp only [D.rep]
    exact ⟨none, 0, h1, by simp, by simp, by simp⟩
  · have hlv : lives g (S.obj γ) γ b := by rw [hL]; exact ⟨_, _, _, h1, rfl⟩
    have hle : MemLe g.M (fun p => if p.block = b ∧ p.spot = none then vs[p.off]? else g.M p) := by
      intro a v h
      have := hi.sep γ b hlv a v h
      show (if _ then _ else _) = _
      rw [if_neg (fun hc => this hc.1)]; exact h
    refine ⟨_, hle, key _ hle ?_ (fun a v h => ?_)⟩
    · simp only [D.rep]
      refine ⟨_, cap, h1, h2, h3, .inr ⟨b, 0, rfl, rows_of_flat xs 0 hlen fun i d hd => ?_⟩⟩
      obtain ⟨hl, hr⟩ := dmap_sat h7
      obtain ⟨u, hu, hsu⟩ := hr i d hd
      refine ⟨u, ?_, D.rep_mono hle _ _ hsu⟩
      show (if _ then _ else _) = _
      rw [if_pos ⟨rfl, rfl⟩, Nat.zero_add]
      rw [List.getElem?_take] at hu
      split at hu
      · simpa using hu
      · simp at hu
    · have h' : (if a.block = b ∧ a.spot = none then vs[a.off]? else g.M a) = some v := h
      split at h'
      · rename_i hc
        obtain ⟨b', o, s⟩ := a
        simp only at hc
        obtain ⟨rfl, rfl⟩ := hc
        right
        exact ⟨by rw [cell_of_row w _ _ vs e fr h4]; exact h', hlv⟩
      · exact .inl h'

theorem le_freeze {S : St} (γ : Nat) {sz : Nat} {xs : List (List D)} (hL : S.obj γ = .row sz xs) : S.le (S.own γ (.froz sz xs)) := by
  rintro E a w ⟨g, hs⟩
  obtain ⟨M', hle, hi⟩ := inv_froz hs.1 hL
  exact holds_ghost hs hi rfl fun t => sat_lay (g := g) (g' := { g with M := M' }) hle rfl rfl rfl (hs.2.2.2 t)
theorem own_froz {g : Gh} {w : World} {γ sz n : Nat} {xs : List (List D)} {u : Value} (ho : objSat g w γ (.froz sz xs)) (hn : n = xs.length) (h : (AVal.own γ n).sat g u) : (AVal.d (.sl sz xs)).sat g u := by
  simp only [AVal.sat] at h ⊢
  obtain ⟨_, a, m, c, h1, h2, h3⟩ := h
  have ho' := ho
  simp only [objSat, D.rep] at ho
  obtain ⟨a', cap, k1, _⟩ := ho
  rw [k1] at h1; cases h1
  rw [h3 hn, ← k1]; exact ho'
theorem le_data {S : St} (t γ : Nat) {n sz : Nat} {xs : List (List D)} (ht : S.get t = .own γ n) (hL : S.obj γ = .froz sz xs) (hn : n = xs.length) : S.le (S.set t (.d (.sl sz xs))) := by
  rintro E a w ⟨g, hs⟩
  refine holds_ghost hs hs.1 rfl fun k => ?_
  by_cases hk : k = t
  · subst hk
    show AVal.sat _ (look .any ((k, _) :: S.τ) k) _
    rw [look_same]
    have := hs.2.2.2 k
    rw [ht] at this
    have ho := hs.1.obj γ
    rw [hL] at ho
    exact own_froz ho hn this
  · show AVal.sat _ (look .any ((t, _) :: S.τ) k) _
    rw [look_ne _ _ _ (Ne.symm hk)]
    exact hs.2.2.2 k
theorem le_data_box {S : St} (β j γ : Nat) {cs : List AVal} {n sz : Nat} {xs : List (List D)} (hb : S.obj β = .box cs) (hj : cs[j]? = some (.own γ n)) (hL : S.obj γ = .froz sz xs) (hn : n = xs.length) :
    S.le (S.own β (.box (cs.set j (.d (.sl sz xs))))) := by
  rintro E a w ⟨g, hs⟩
  have ho := hs.1.obj β
  rw [hb] at ho
  obtain ⟨vs, e, fr, h1, h2, h3, h4⟩ := ho
  have hf := hs.1.obj γ
  rw [hL] at hf
  have hi2 : Inv E (look .dead ((β, .box (cs.set j (.d (.sl sz xs)))) :: S.L)) g w := by
    refine Inv.upd hs.1 β _ (look_same _ _ _ _) (fun k hk => look_ne _ _ _ (Ne.symm hk)) (fun _ _ _ => rfl) (Nat.le_refl _) rfl rfl rfl (fun _ _ => ⟨rfl, rfl, rfl⟩) (fun _ _ _ _ _ h => h) ?_ (fun b hb' => .inl (by rw [hb]; exact hb')) (fun _ => Gh.keeps_refl _ _)
    have hlen := satL_length h3
    refine ⟨vs, e, fr, h1, h2, satL_of (by simp [hlen]) fun i x u hx hu => ?_, fun c hc => ?_⟩
    · rw [List.getElem?_set] at hx
      split at hx
      · rename_i hij
        subst hij
        obtain ⟨u', k1, k2⟩ := satL_get h3 j _ hj
        rw [k1] at hu; cases hu
        split at hx
        · cases hx; exact own_froz hf hn k2
        · simp at hx
      · obtain ⟨u', k1, k2⟩ := satL_get h3 i x hx
        rw [k1] at hu; cases hu; exact k2
    · rcases List.mem_or_eq_of_mem_set hc with h | h
      · exact h4 c h
      · rw [h]; rfl
  exact holds_ghost hs hi2 rfl hs.2.2.2
end Go.Fw

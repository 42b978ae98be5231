/- Eighth part: contracts of functions, calls, weakening. -/
import Derived.Test.YtldiocpkgfpehaaFwG
namespace Go.Fw
open Go
set_option linter.unusedVariables false
set_option linter.unusedSimpArgs false

def envOf (g : Gh) (w : World) (Li : List (Nat × AObj)) : Env :=
  { W := w, M := g.M, A := fun b => ∃ γ, lives g (look .dead Li γ) γ b, g0 := g }

/-- Called with such arguments, owning 'Li', the function returns 'res' and leaves 'Lo'. -/
def Con (P : Program) (f : FuncId) (Li : List (Nat × AObj)) (args : List AVal) (Lo : List (Nat × AObj)) (res : AVal) : Prop :=
  ∀ (g : Gh) (w : World) (vs : List Value), Inv (envOf g w Li) (look .dead Li) g w → satL g args vs →
    Calls P f vs.toArray w fun e w' => ∃ v g', e = .returned v ∧ res.sat g' v ∧ Inv { envOf g w Li with g0 := g' } (look .dead Lo) g' w' ∧ ∀ γ, hasKey γ Li = true → g.keeps g' γ

theorem Inv.free {E : Env} {L : Nat → AObj} {g g0 : Gh} {w : World} (hi : Inv E L g w) (h : ∀ γ, γ < 100 → g0.keeps g γ) : Inv { E with g0 := g0 } L g w :=
  ⟨hi.obj, hi.inj, hi.mem, hi.sep, hi.new, hi.ext, hi.lim, hi.frame, hi.size, hi.os, hi.out, h⟩
theorem Inv.sub {E : Env} {L L' : Nat → AObj} {g : Gh} {w : World} (hi : Inv E L g w) (h : ∀ γ, L' γ = L γ ∨ L' γ = .dead) : Inv E L' g w := by
  have hl : ∀ γ b, lives g (L' γ) γ b → lives g (L γ) γ b := by
    intro γ b hb
    rcases h γ with e | e
    · rw [← e]; exact hb
    · rw [e] at hb; exact hb.elim
  refine ⟨fun γ => ?_, fun γ γ' b k k' => hi.inj γ γ' b (hl _ _ k) (hl _ _ k'), hi.mem, fun γ b k => hi.sep γ b (hl _ _ k), fun γ b k => hi.new γ b (hl _ _ k), hi.ext, hi.lim, hi.frame, hi.size, hi.os, hi.out, hi.kp⟩
  rcases h γ with e | e
  · rw [e]; exact hi.obj γ
  · rw [e]; trivial

/-! The body's start and end. -/
def startT : Nat → List AVal → List (Nat × AVal)
  | _, [] => []
  | i, x :: r => (i, x) :: startT (i + 1) r
theorem look_startT : ∀ (l : List AVal) (i t : Nat), look .any (startT i l) t = if i ≤ t then (l[t - i]?).getD .any else .any
  | [], i, t => by simp [startT, look]
  | x :: r, i, t => by
    simp only [startT, look]
    by_cases h : i = t
    · subst h; simp
    · have hb : Nat.beq i t = false := by
        cases hb : Nat.beq i t with
        | false => rfl
        | true => exact absurd (Nat.eq_of_beq_eq_true hb) h
      rw [hb, cond_false, look_startT r (i + 1) t]
      by_cases h1 : i ≤ t
      · rw [if_pos (by omega), if_pos h1, show t - i = (t - (i + 1)) + 1 by omega, List.getElem?_cons_succ]
      · rw [if_neg (by omega), if_neg h1]

def startSt (n : Nat) (args : List AVal) (Li : List (Nat × AObj)) : St := ⟨n, startT 0 args, Li⟩

/-- One result. -/
def resAt (P : Program) (S : St) (rv : ResultVar) (x : AVal) : Prop :=
  match rv with
  | .tmp t => S.get t = x
  | .cell t ty => ∃ γ o cs, S.get t = .ptr γ o ∧ S.obj γ = .box cs ∧
      ((tyIs P ty false 1 = true ∧ cs[o]? = some x) ∨ ∃ sz ys, tyIs P ty true sz = true ∧ (cs.drop o).take sz = ys ∧ Nat.beq ys.length sz = true ∧ x = .agg ys)
def resL (P : Program) (S : St) : List ResultVar → List AVal → Prop
  | [], [] => True
  | r :: rs, x :: xs => resAt P S r x ∧ resL P S rs xs
  | _, _ => False
def resOf : List AVal → AVal
  | [x] => x
  | xs => .tup xs

def readRes (tmps : Array Value) : ResultVar → Sem Value
  | .tmp t => pure (tmps.getD t undef)
  | .cell t ty => do loadVar ty (← asAddr (tmps.getD t undef))
theorem results_eq (fn : Func) (tmps : Array Value) : results fn tmps = (do
    let vs ← fn.results.mapM (readRes tmps)
    pure (if h : vs.size = 1 then vs[0] else .tuple vs)) := rfl

theorem resAt_run {P : Program} {E : Env} {S : St} {g : Gh} {a : Act} {w : World} (hs : holdsG E S g a w) {rv : ResultVar} {x : AVal} (h : resAt P S rv x) :
    ∃ v, (readRes a.tmps rv).run P w = .ok v w ∧ x.sat g v := by
  cases rv with
  | tmp t => exact ⟨_, rfl, by have := hs.2.2.2 t; rw [h] at this; exact this⟩
  | cell t ty =>
    obtain ⟨γ, o, cs, h1, h2, h3⟩ := h
    have hp := hs.2.2.2 t
    rw [h1] at hp
    simp only [AVal.sat] at hp
    have ho := hs.1.obj γ
    rw [h2] at ho
    obtain ⟨vs, e, fr, k1, k2, k3, k4⟩ := ho
    rcases h3 with ⟨ht, hy⟩ | ⟨sz, ys, ht, hy, hlen, rfl⟩
    · obtain ⟨u, hu, hsu⟩ := satL_get k3 o x hy
      have hc : w.cell? ⟨g.blk γ, o, none⟩ = some u := by rw [cell_of_row w _ o vs e fr k1]; simpa using hu
      exact ⟨u, by simp only [readRes, hp, asAddr, Sem.run_bind, Sem.run_pure, Result.andThen_ok, run_loadVar_one ht hc], hsu⟩
    · have hsub := satL_take (satL_drop k3 o) sz
      rw [hy] at hsub
      have hl1 := satL_length hsub
      have hl2 : ys.length = sz := Nat.eq_of_beq_eq_true hlen
      have := run_loadVar_agg (P := P) (p := ⟨g.blk γ, o, none⟩) (w := w) (vs := (vs.toList.drop o).take sz) (t := ty) (by rw [hl1, hl2]; exact ht) (fun j v hv => by
        rw [add_at, cell_of_row w _ _ vs e fr k1]
        rw [List.getElem?_take] at hv
        split at hv
        · rw [List.getElem?_drop] at hv; simpa using hv
        · simp at hv)
      exact ⟨.agg ((vs.toList.drop o).take sz).toArray, by simp only [readRes, hp, asAddr, Sem.run_bind, Sem.run_pure, Result.andThen_ok, this], by simp only [AVal.sat]; exact ⟨_, rfl, hsub⟩⟩

theorem resL_run {P : Program} {E : Env} {S : St} {g : Gh} {a : Act} {w : World} (hs : holdsG E S g a w) : ∀ (rs : List ResultVar) (xs : List AVal), resL P S rs xs →
    ∃ vs : List Value, (rs.mapM (readRes a.tmps) : Sem (List Value)).run P w = .ok vs w ∧ satL g xs vs
  | [], [], _ => ⟨[], by simp, by simp only [satL]⟩
  | [], _ :: _, h => h.elim
  | _ :: _, [], h => h.elim
  | r :: rs, x :: xs, h => by
    obtain ⟨v, k1, k2⟩ := resAt_run hs h.1
    obtain ⟨vs, k3, k4⟩ := resL_run hs rs xs h.2
    refine ⟨v :: vs, ?_, by simp only [satL]; exact ⟨k2, k4⟩⟩
    rw [List.mapM_cons]
    simp only [Sem.run_bind, k1, k3, Result.andThen_ok, Sem.run_pure]

theorem results_run {P : Program} {E : Env} {S : St} {g : Gh} {a : Act} {w : World} (hs : holdsG E S g a w) {fn : Func} {rs : List ResultVar} {xs : List AVal} (hr : fn.results.toList = rs) (h : resL P S rs xs) :
    ∃ v, (results fn a.tmps).run P w = .ok v w ∧ (resOf xs).sat g v := by
  obtain ⟨vs, k1, k2⟩ := resL_run hs rs xs h
  have e : (fn.results.mapM (readRes a.tmps) : Sem (Array Value)).run P w = .ok vs.toArray w := by
    rw [Array.mapM_eq_mapM_toList, hr, Sem.run_map, k1]; rfl
  have hl := satL_length k2
  rw [results_eq, Sem.run_bind, e]
  simp only [Result.andThen_ok, Sem.run_pure]
  refine ⟨_, rfl, ?_⟩
  cases vs with
  | nil =>
    cases xs with
    | nil => simp only [resOf]; rw [dif_neg (by simp)]; simp only [AVal.sat]; exact ⟨_, rfl, k2⟩
    | cons => simp at hl
  | cons v vs =>
    cases vs with
    | nil =>
      match xs, hl, k2 with
      | [x], _, k2 =>
        simp only [resOf]; rw [dif_pos (by simp)]
        simp only [satL] at k2; exact k2.1
    | cons v' vs =>
      match xs, hl, k2 with
      | x :: y :: xs, _, k2 =>
        simp only [resOf]; rw [dif_neg (by simp)]; simp only [AVal.sat]; exact ⟨_, rfl, k2⟩

def subL (Lo : List (Nat × AObj)) (T : St) : Prop := ∀ γ, look .dead Lo γ = T.obj γ ∨ look .dead Lo γ = .dead
theorem subL_nil (T : St) : subL [] T := fun γ => .inr rfl
theorem subL_of {Lo : List (Nat × AObj)} {T : St} (h : lrdOk T Lo) : subL Lo T := by
  intro γ
  rcases look_mem AObj.dead Lo γ with e | ⟨p, hp, e⟩
  · exact .inr e
  · by_cases hk : hasKey γ Lo = true
    · clear hp e p
      induction Lo with
      | nil => simp [hasKey] at hk
      | cons q r ih =>
        obtain ⟨k, x⟩ := q
        by_cases hkγ : k = γ
        · subst hkγ; rw [look_same]; exact .inl h.1.symm
        · rw [look_ne _ _ _ hkγ]
          simp only [hasKey, Bool.or_eq_true] at hk
          exact ih h.2 (hk.resolve_left fun e => hkγ (Nat.eq_of_beq_eq_true e))
    · right
      have : ∀ (l : List (Nat × AObj)), ¬ hasKey γ l = true → look .dead l γ = .dead := by
        intro l hl
        induction l with
        | nil => rfl
        | cons q r ih =>
          obtain ⟨k, x⟩ := q
          simp only [hasKey, Bool.or_eq_true, not_or] at hl
          rw [look_ne _ _ _ (fun e => hl.1 (by simp [e]))]
          exact ih hl.2
      exact this Lo hk

/-- What a function's end must show. -/
def Ends (P : Program) (rs : List ResultVar) (Lo : List (Nat × AObj)) (xs : List AVal) (T : St) : Prop :=
  ∃ U, T.le U ∧ resL P U rs xs ∧ subL Lo U

def keysLow : List (Nat × AObj) → Bool
  | [] => true
  | p :: r => Nat.blt p.1 100 && keysLow r
theorem keysLow_spec : ∀ (l : List (Nat × AObj)) (γ : Nat), keysLow l = true → hasKey γ l = true → γ < 100
  | [], _, _, h => by simp [hasKey] at h
  | p :: r, γ, h, hk => by
    simp only [keysLow, Bool.and_eq_true] at h
    simp only [hasKey, Bool.or_eq_true] at hk
    rcases hk with e | e
    · rw [← Nat.eq_of_beq_eq_true e]; simpa using h.1
    · exact keysLow_spec r γ h.2 e

theorem con_of {P : Program} {f : FuncId} {fn : Func} {c : Code} {n : Nat} {rs : List ResultVar} {Li Lo : List (Nat × AObj)} {args xs : List AVal} (hf : P.funcs[f]? = some fn) (hb : fn.body = some c) (hn : fn.ntmps = n) (hr : fn.results.toList = rs)
    (hle : Nat.ble args.length n = true) (hlow : keysLow Li = true)
    (h : ∀ E, AWP P E c (startSt n args Li) (retQ (Ends P rs Lo xs))) : Con P f Li args Lo (resOf xs) := by
  intro g w vs hi hs
  have hl := satL_length hs
  refine calls_of_wp hf hb ?_
  have hstart : holds (envOf g w Li) (startSt n args Li) { tmps := vs.toArray ++ Array.replicate (fn.ntmps - vs.toArray.size) undef, defers := [] } w := by
    refine ⟨g, hi, rfl, ?_, fun t => ?_⟩
    · have : args.length ≤ n := by simpa using hle
      simp [startSt, hn, hl]; omega
    · show AVal.sat g (look _ _ _) _
      simp only [startSt]
      rw [look_startT]
      simp only [Nat.zero_le, if_true, Nat.sub_zero]
      cases hx : args[t]? with
      | none => simp [AVal.sat]
      | some x =>
        obtain ⟨u, hu, hsu⟩ := satL_get hs t x hx
        have hlt : t < vs.length := (List.getElem?_eq_some_iff.1 hu).1
        have : (vs.toArray ++ Array.replicate (fn.ntmps - vs.toArray.size) undef).getD t undef = u := by
          rw [Array.getD_eq_getD_getElem?, Array.getElem?_append_left (by simpa using hlt)]
          simp [hu]
        rw [this]; exact hsu
  refine wp_mono ((h (envOf g w Li)).run _ w hstart) ?_
  rintro e a' w' ⟨T, hq, ht⟩
  have fin : Ends P rs Lo xs T → a'.defers = [] ∧ ∃ v, (results fn a'.tmps).run P w' = .ok v w' ∧ ∃ v' g', Ending.returned v = .returned v' ∧ (resOf xs).sat g' v' ∧ Inv { envOf g w Li with g0 := g' } (look .dead Lo) g' w' ∧ ∀ γ, hasKey γ Li = true → g.keeps g' γ := by
    rintro ⟨U, hU, hres, hsub⟩
    obtain ⟨g', hg'⟩ := hU _ _ _ ht
    obtain ⟨v, r1, r2⟩ := results_run hg' hr hres
    exact ⟨hg'.2.1, v, r1, v, g', rfl, r2, (hg'.1.sub hsub).free (fun γ _ => Gh.keeps_refl _ _), fun γ hγ => hg'.1.kp γ (keysLow_spec Li γ hlow hγ)⟩
  cases e with
  | normal => exact fin hq
  | ret => exact fin hq
  | _ => exact hq.elim

/-! Calls. -/
mutual
def AVal.within (Lo : List (Nat × AObj)) : AVal → Bool
  | .ptr k _ => hasKey k Lo
  | .own k _ => hasKey k Lo
  | .rptr k _ _ => hasKey k Lo
  | .inn k _ => hasKey k Lo
  | .bsl k _ => hasKey k Lo
  | .mptr k _ _ => hasKey k Lo
  | .agg cs => withinL Lo cs
  | .tup cs => withinL Lo cs
  | .fn _ cs => withinL Lo cs
  | .any => true
  | .d _ => true
  | .dptr _ => true
  | .bq _ _ => true
def withinL (Lo : List (Nat × AObj)) : List AVal → Bool
  | [] => true
  | x :: r => x.within Lo && withinL Lo r
end
mutual
theorem AVal.within_spec {Lo : List (Nat × AObj)} {γ : Nat} : ∀ (x : AVal), x.within Lo = true → x.ment γ = true → hasKey γ Lo = true
  | .ptr k o, h, hm => by simp only [AVal.ment] at hm; rw [← Nat.eq_of_beq_eq_true hm]; exact h
  | .own k o, h, hm => by simp only [AVal.ment] at hm; rw [← Nat.eq_of_beq_eq_true hm]; exact h
  | .rptr k _ o, h, hm => by simp only [AVal.ment] at hm; rw [← Nat.eq_of_beq_eq_true hm]; exact h
  | .bsl k _, h, hm => by simp only [AVal.ment] at hm; rw [← Nat.eq_of_beq_eq_true hm]; exact h
  | .inn k _, h, hm => by simp only [AVal.ment] at hm; rw [← Nat.eq_of_beq_eq_true hm]; exact h
  | .mptr k _ _, h, hm => by simp only [AVal.ment] at hm; rw [← Nat.eq_of_beq_eq_true hm]; exact h
  | .agg cs, h, hm => withinL_spec cs (by simpa only [AVal.within] using h) (by simpa only [AVal.ment] using hm)
  | .tup cs, h, hm => withinL_spec cs (by simpa only [AVal.within] using h) (by simpa only [AVal.ment] using hm)
  | .fn _ cs, h, hm => withinL_spec cs (by simpa only [AVal.within] using h) (by simpa only [AVal.ment] using hm)
  | .any, _, hm => by simp [AVal.ment] at hm
  | .d _, _, hm => by simp [AVal.ment] at hm
  | .dptr _, _, hm => by simp [AVal.ment] at hm
  | .bq _ _, _, hm => by simp [AVal.ment] at hm
theorem withinL_spec {Lo : List (Nat × AObj)} {γ : Nat} : ∀ (xs : List AVal), withinL Lo xs = true → mentL γ xs = true → hasKey γ Lo = true
  | [], _, hm => by simp [mentL] at hm
  | x :: r, h, hm => by
    simp only [withinL, Bool.and_eq_true] at h
    simp only [mentL, Bool.or_eq_true] at hm
    exact hm.elim (AVal.within_spec x h.1) (withinL_spec r h.2)
end
def boxesIn (Lo : List (Nat × AObj)) : List (Nat × AObj) → Bool
  | [] => true
  | (_, .box cs) :: r => withinL Lo cs && boxesIn Lo r
  | _ :: r => boxesIn Lo r
theorem boxesIn_spec {Lo : List (Nat × AObj)} : ∀ (l : List (Nat × AObj)), boxesIn Lo l = true → ∀ (k : Nat) (cs : List AVal), (k, AObj.box cs) ∈ l → withinL Lo cs = true
  | [], _, _, _, h => by simp at h
  | (j, x) :: r, h, k, cs, hm => by
    have hr : boxesIn Lo r = true := by cases x <;> simp only [boxesIn, Bool.and_eq_true] at h <;> first | exact h.2 | exact h
    rcases List.mem_cons.1 hm with e | hm
    · cases e; simp only [boxesIn, Bool.and_eq_true] at h; exact h.1
    · exact boxesIn_spec r hr k cs hm

def keysIn (Li Lo : List (Nat × AObj)) : Bool :=
  match Li with
  | [] => true
  | p :: r => hasKey p.1 Lo && keysIn r Lo
theorem keysIn_spec {Lo : List (Nat × AObj)} {γ : Nat} : ∀ (Li : List (Nat × AObj)), keysIn Li Lo = true → hasKey γ Li = true → hasKey γ Lo = true
  | [], _, h => by simp [hasKey] at h
  | p :: r, h, hk => by
    simp only [keysIn, Bool.and_eq_true] at h
    simp only [hasKey, Bool.or_eq_true] at hk
    rcases hk with e | e
    · rw [← Nat.eq_of_beq_eq_true e]; exact h.1
    · exact keysIn_spec r h.2 e
/-- The keys that the call adds. -/
def newKeys (Li : List (Nat × AObj)) : List (Nat × AObj) → List Nat
  | [] => []
  | p :: r => bif hasKey p.1 Li then newKeys Li r else p.1 :: newKeys Li r
theorem newKeys_spec {Li : List (Nat × AObj)} {γ : Nat} : ∀ (Lo : List (Nat × AObj)), hasKey γ Lo = true → hasKey γ Li = false → γ ∈ newKeys Li Lo
  | [], h, _ => by simp [hasKey] at h
  | p :: r, h, hk => by
    simp only [hasKey, Bool.or_eq_true] at h
    simp only [newKeys]
    rcases h with e | e
    · have := Nat.eq_of_beq_eq_true e
      subst this
      simp [hk]
    · cases hasKey p.1 Li with
      | true => exact newKeys_spec r e hk
      | false => exact List.mem_cons_of_mem _ (newKeys_spec r e hk)
def deadL : List Nat → List (Nat × AObj)
  | [] => []
  | k :: r => (k, .dead) :: deadL r
theorem deadL_mem {γ : Nat} : ∀ (l : List Nat), γ ∈ l → (γ, AObj.dead) ∈ deadL l
  | [], h => by simp at h
  | k :: r, h => by
    simp only [deadL, List.mem_cons] at h ⊢
    rcases h with rfl | h
    · exact .inl rfl
    · exact .inr (deadL_mem r h)

theorem look_of_not {α : Type} (z : α) (γ : Nat) : ∀ (l : List (Nat × α)), hasKey γ l = false → look z l γ = z
  | [], _ => rfl
  | (k, x) :: r, h => by
    simp only [hasKey, Bool.or_eq_false_iff] at h
    simp only [look, h.1, cond_false]
    exact look_of_not z γ r h.2
theorem look_mem' {α : Type} (z : α) (γ : Nat) : ∀ (l : List (Nat × α)), hasKey γ l = true → (γ, look z l γ) ∈ l
  | [], h => by simp [hasKey] at h
  | (k, x) :: r, h => by
    by_cases hk : k = γ
    · subst hk; rw [look_same]; simp
    · rw [look_ne z x r hk]
      simp only [hasKey, Bool.or_eq_true] at h
      exact List.mem_cons_of_mem _ (look_mem' z γ r (h.resolve_left fun e => hk (Nat.eq_of_beq_eq_true e)))

/-- The two ghosts joined behind a call. -/
def Gh.join (g g' : Gh) (Lo : List (Nat × AObj)) : Gh :=
  { blk := fun k => if hasKey k Lo then g'.blk k else g.blk k, hd := fun k => if hasKey k Lo then g'.hd k else g.hd k, ihd := fun k => if hasKey k Lo then g'.ihd k else g.ihd k, M := g'.M }

theorem inv_call {E : Env} {S : St} {g g' : Gh} {w w' : World} (hi : Inv E S.obj g w) {Li Lo : List (Nat × AObj)} (hLi : lrdOk S Li) (hin : keysIn Li Lo = true) (hbox : boxesIn Lo Lo = true)
    (hnew : newOk S (newKeys Li Lo)) (hdead : lrdOk S (deadL (newKeys Li Lo))) (hc : Inv { envOf g w Li with g0 := g' } (look .dead Lo) g' w') (hk : ∀ γ, hasKey γ Li = true → g.keeps g' γ) :
    Inv E (look .dead (Lo ++ S.L)) (g.join g' Lo) w' ∧ (∀ x u, x.within Lo = true → AVal.sat g' x u → AVal.sat (g.join g' Lo) x u) ∧ (∀ t u, AVal.sat g (S.get t) u → AVal.sat (g.join g' Lo) (S.get t) u) := by
  rw [newOk_iff] at hnew
  rw [lrdOk_iff] at hdead
  have hsubLi : subL Li S := subL_of hLi
  have hM : MemLe g.M g'.M := hc.ext
  have hA : ∀ b, (envOf g w Li).A b → ∃ γ, hasKey γ Li = true ∧ lives g (S.obj γ) γ b := by
    rintro b ⟨γ, hγ⟩
    cases hkey : hasKey γ Li with
    | false => rw [look_of_not _ _ _ hkey] at hγ; exact hγ.elim
    | true =>
      rcases hsubLi γ with e | e
      · rw [e] at hγ; exact ⟨γ, hkey, hγ⟩
      · rw [e] at hγ; exact hγ.elim
  have hlook : ∀ k, look .dead (Lo ++ S.L) k = if hasKey k Lo then look .dead Lo k else S.obj k := fun k => look_append _ _ _ _
  have hjk : ∀ k, hasKey k Lo = true → g'.keeps (g.join g' Lo) k := fun k h => Gh.keeps_of (by simp [Gh.join, h]) (by simp [Gh.join, h]) (by simp [Gh.join, h])
  have hgk : ∀ k, (hasKey k Lo = true → hasKey k Li = true) → g.keeps (g.join g' Lo) k := by
    intro k h
    cases hkl : hasKey k Lo with
    | true => exact (hk k (h hkl)).trans' (hjk k hkl)
    | false => exact Gh.keeps_of (by simp [Gh.join, hkl]) (by simp [Gh.join, hkl]) (by simp [Gh.join, hkl])
  have hsatR : ∀ x u, x.within Lo = true → AVal.sat g' x u → AVal.sat (g.join g' Lo) x u :=
    fun x u hx h => AVal.sat_mono (g := g') (g' := g.join g' Lo) (MemLe.refl _) x u (fun γ hm => hjk γ (AVal.within_spec x hx hm)) h
  have hment : ∀ k x, (∀ γ ∈ newKeys Li Lo, AVal.ment γ x = false) → AVal.ment k x = true → g.keeps (g.join g' Lo) k := by
    intro k x hx hm
    refine hgk k fun hkl => ?_
    cases hli : hasKey k Li with
    | true => rfl
    | false => rw [hx k (newKeys_spec Lo hkl hli)] at hm; simp at hm
  have hmentL : ∀ k xs, (∀ γ ∈ newKeys Li Lo, mentL γ xs = false) → mentL k xs = true → g.keeps (g.join g' Lo) k := by
    intro k x hx hm
    refine hgk k fun hkl => ?_
    cases hli : hasKey k Li with
    | true => rfl
    | false => rw [hx k (newKeys_spec Lo hkl hli)] at hm; simp at hm
  have hlv1 : ∀ k b, hasKey k Lo = true → (lives (g.join g' Lo) (look .dead (Lo ++ S.L) k) k b ↔ lives g' (look .dead Lo k) k b) := by
    intro k b h
    rw [hlook, if_pos h]
    exact lives_move (by simp [Gh.join, h]) (by simp [Gh.join, h]) (by simp [Gh.join, h]) _ _
  have hlv2 : ∀ k b, hasKey k Lo = false → (lives (g.join g' Lo) (look .dead (Lo ++ S.L) k) k b ↔ lives g (S.obj k) k b) := by
    intro k b h
    rw [hlook, if_neg (by simp [h])]
    exact lives_move (by simp [Gh.join, h]) (by simp [Gh.join, h]) (by simp [Gh.join, h]) _ _
  have hnotA : ∀ k b, hasKey k Lo = false → lives g (S.obj k) k b → ¬ (envOf g w Li).A b := by
    intro k b hkl hb hAb
    obtain ⟨γ, h1, h2⟩ := hA b hAb
    have := hi.inj _ _ _ hb h2
    subst this
    rw [keysIn_spec Li hin h1] at hkl; simp at hkl
  have hheap : ∀ k b, hasKey k Lo = false → lives g (S.obj k) k b → w'.heap[b]? = w.heap[b]? := fun k b hkl hb =>
    hc.frame b (live_lt hi hb) (hnotA k b hkl hb)
  refine ⟨⟨fun k => ?_, fun k k' b h h' => ?_, hc.mem, fun k b h a v ha => ?_, fun k b h => ?_, hi.ext.trans hM, fun a v ha => ?_, fun b hb hAb => ?_, Nat.le_trans hi.size hc.size, hc.os.trans hi.os, hc.out.trans hi.out, fun k hk100 => ?_⟩, hsatR, fun t u h => ?_⟩
  · cases hkl : hasKey k Lo with
    | true =>
      rw [hlook, if_pos hkl]
      have hmem := look_mem' AObj.dead k Lo hkl
      refine objSat_move (g := g') (g' := g.join g' Lo) (MemLe.refl _) (by simp [Gh.join, hkl]) (by simp [Gh.join, hkl]) (by simp [Gh.join, hkl]) (fun _ _ => rfl) (fun cs us e h => ?_) (hc.obj k)
      rw [e] at hmem
      exact satL_mono (g := g') (g' := g.join g' Lo) (MemLe.refl _) _ _ (fun γ hm => hjk γ (withinL_spec cs (boxesIn_spec Lo hbox k cs hmem) hm)) h
    | false =>
      rw [hlook, if_neg (by simp [hkl])]
      refine objSat_move (g := g) (g' := g.join g' Lo) hM (by simp [Gh.join, hkl]) (by simp [Gh.join, hkl]) (by simp [Gh.join, hkl]) (fun b hb => hheap k b hkl hb) (fun cs us e h => ?_) (hi.obj k)
      refine satL_mono (g := g) (g' := g.join g' Lo) hM _ _ (fun γ hm => hmentL γ cs (fun γ' hγ' => ?_) hm) h
      have := obj_free (hnew γ' hγ') k
      rw [e] at this; exact this
  · cases hkl : hasKey k Lo with
    | true =>
      rw [hlv1 k _ hkl] at h
      cases hkl' : hasKey k' Lo with
      | true => rw [hlv1 k' _ hkl'] at h'; exact hc.inj _ _ _ h h'
      | false =>
        rw [hlv2 k' _ hkl'] at h'
        exfalso
        rcases hc.new k b h with h1 | h1
        · have h1 : w.heap.size ≤ b := h1
          have := live_lt hi h'; omega
        · exact hnotA k' b hkl' h' h1
    | false =>
      rw [hlv2 k _ hkl] at h
      cases hkl' : hasKey k' Lo with
      | false => rw [hlv2 k' _ hkl'] at h'; exact hi.inj _ _ _ h h'
      | true =>
        rw [hlv1 k' _ hkl'] at h'
        exfalso
        rcases hc.new k' b h' with h1 | h1
        · have h1 : w.heap.size ≤ b := h1
          have := live_lt hi h; omega
        · exact hnotA k b hkl h h1
  · cases hkl : hasKey k Lo with
    | true => rw [hlv1 k _ hkl] at h; exact hc.sep k b h a v ha
    | false =>
      rw [hlv2 k _ hkl] at h
      intro e
      rcases hc.lim a v ha with ⟨v', h1⟩ | h1 | h1
      · exact hi.sep k b h a v' h1 e
      · have h1 : w.heap.size ≤ a.block := h1
        have := live_lt hi h; omega
      · rw [e] at h1; exact hnotA k b hkl h h1
  · cases hkl : hasKey k Lo with
    | true =>
      rw [hlv1 k _ hkl] at h
      rcases hc.new k b h with h1 | h1
      · have h1 : w.heap.size ≤ b := h1
        have := hi.size; exact .inl (by omega)
      · obtain ⟨γ, _, h2⟩ := hA b h1
        exact hi.new γ b h2
    | false => rw [hlv2 k _ hkl] at h; exact hi.new k b h
  · rcases hc.lim a v ha with ⟨v', h1⟩ | h1 | h1
    · exact hi.lim a v' h1
    · have h1 : w.heap.size ≤ a.block := h1
      have := hi.size; exact .inr (.inl (by omega))
    · obtain ⟨γ, _, h2⟩ := hA _ h1
      exact .inr (hi.new γ _ h2)
  · have hs := hi.size
    rw [hc.frame b (by show b < w.heap.size; omega) (fun hAb' => by
      obtain ⟨γ, _, h2⟩ := hA b hAb'
      exact (hi.new γ b h2).elim (fun h => by omega) hAb)]
    exact hi.frame b hb hAb
  · refine (hi.kp k hk100).trans' (hgk k fun hkl => ?_)
    cases hli : hasKey k Li with
    | true => rfl
    | false =>
      have := hnew k (newKeys_spec Lo hkl hli)
      simp only [St.free, Bool.and_eq_true, Nat.ble_eq] at this; omega
  · exact AVal.sat_mono (g := g) (g' := g.join g' Lo) hM _ _ (fun k hm => hment k _ (fun γ hγ => get_free (hnew γ hγ) t) hm) h
end Go.Fw

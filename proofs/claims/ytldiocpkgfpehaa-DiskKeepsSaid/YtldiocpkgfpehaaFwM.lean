/- Thirteenth part: contracts under other keys; calls of function values. -/
import Derived.Test.YtldiocpkgfpehaaFwL
namespace Go.Fw
open Go
set_option linter.unusedVariables false
set_option linter.unusedSimpArgs false

mutual
def AVal.ren (ρ : Nat → Nat) : AVal → AVal
  | .any => .any
  | .d x => .d x
  | .ptr γ o => .ptr (ρ γ) o
  | .own γ n => .own (ρ γ) n
  | .rptr γ n o => .rptr (ρ γ) n o
  | .inn γ i => .inn (ρ γ) i
  | .bsl γ n => .bsl (ρ γ) n
  | .mptr γ n i => .mptr (ρ γ) n i
  | .dptr row => .dptr row
  | .bq p q => .bq p q
  | .agg cs => .agg (renA ρ cs)
  | .tup cs => .tup (renA ρ cs)
  | .fn f cs => .fn f (renA ρ cs)
def renA (ρ : Nat → Nat) : List AVal → List AVal
  | [] => []
  | x :: r => x.ren ρ :: renA ρ r
end
def AObj.ren (ρ : Nat → Nat) : AObj → AObj
  | .dead => .dead
  | .box cs => .box (renA ρ cs)
  | .row sz xs => .row sz xs
  | .froz sz xs => .froz sz xs
  | .mat sz rows => .mat sz rows
def renL (ρ : Nat → Nat) : List (Nat × AObj) → List (Nat × AObj)
  | [] => []
  | (k, o) :: r => (ρ k, o.ren ρ) :: renL ρ r
def Gh.pull (g : Gh) (ρ : Nat → Nat) : Gh := { blk := fun k => g.blk (ρ k), hd := fun k => g.hd (ρ k), ihd := fun k => g.ihd (ρ k), M := g.M }

mutual
theorem ren_sat {g : Gh} {ρ : Nat → Nat} : ∀ (x : AVal) (u : Value), (x.ren ρ).sat g u ↔ x.sat (g.pull ρ) u
  | .any, _ => by simp only [AVal.ren, AVal.sat]
  | .d x, _ => by simp only [AVal.ren, AVal.sat, Gh.pull]
  | .ptr γ o, _ => by simp only [AVal.ren, AVal.sat, Gh.pull]
  | .own γ n, _ => by simp only [AVal.ren, AVal.sat, Gh.pull]
  | .rptr γ n o, _ => by simp only [AVal.ren, AVal.sat, Gh.pull]
  | .inn γ i, _ => by simp only [AVal.ren, AVal.sat, Gh.pull]
  | .bsl γ n, _ => by simp only [AVal.ren, AVal.sat, Gh.pull]
  | .mptr γ n i, _ => by simp only [AVal.ren, AVal.sat, Gh.pull]
  | .dptr row, _ => by simp only [AVal.ren, AVal.sat, Gh.pull]
  | .bq p q, _ => by simp only [AVal.ren, AVal.sat]
  | .agg cs, u => by simp only [AVal.ren, AVal.sat, renA_sat cs]
  | .tup cs, u => by simp only [AVal.ren, AVal.sat, renA_sat cs]
  | .fn f cs, u => by simp only [AVal.ren, AVal.sat, renA_sat cs]
theorem renA_sat {g : Gh} {ρ : Nat → Nat} : ∀ (xs : List AVal) (us : List Value), satL g (renA ρ xs) us ↔ satL (g.pull ρ) xs us
  | [], [] => by simp only [renA, satL]
  | [], _ :: _ => by simp only [renA, satL]
  | _ :: _, [] => by simp only [renA, satL]
  | x :: xs, u :: us => by simp only [renA, satL, ren_sat x u, renA_sat xs us]
end
theorem renA_cellish {ρ : Nat → Nat} : ∀ (cs : List AVal), (∀ c ∈ cs, c.cellish = true) ↔ ∀ c ∈ renA ρ cs, c.cellish = true
  | [] => by simp [renA]
  | c :: r => by
    simp only [renA, List.mem_cons, forall_eq_or_imp, ← renA_cellish r]
    refine and_congr_left fun _ => ?_
    cases c <;> simp [AVal.ren, AVal.cellish]
theorem dmap_pull {g : Gh} {ρ : Nat → Nat} {l : List D} {us : List Value} : satL (g.pull ρ) (l.map .d) us ↔ satL g (l.map .d) us := by
  have h : renA ρ (l.map .d) = l.map .d := by
    induction l with
    | nil => rfl
    | cons x r ih => simp [renA, AVal.ren, ih]
  rw [← renA_sat, h]
theorem rowSat_pull {g : Gh} {ρ : Nat → Nat} {w : World} {h : Value} {sz : Nat} {xs : List (List D)} : rowSat (g.pull ρ) w h sz xs ↔ rowSat g w h sz xs := by
  simp only [rowSat, dmap_pull]
theorem ren_objSat {g : Gh} {ρ : Nat → Nat} {w : World} {γ : Nat} (o : AObj) : objSat g w (ρ γ) (o.ren ρ) ↔ objSat (g.pull ρ) w γ o := by
  cases o with
  | dead => exact Iff.rfl
  | box cs => simp only [AObj.ren, objSat, renA_sat, ← renA_cellish cs]; rfl
  | row sz xs => simp only [AObj.ren, objSat]; exact rowSat_pull.symm
  | froz sz xs => exact Iff.rfl
  | mat sz rows => simp only [AObj.ren, objSat, matSat, rowSat_pull]; rfl
theorem ren_lives {g : Gh} {ρ : Nat → Nat} {γ b : Nat} (o : AObj) : lives g (o.ren ρ) (ρ γ) b ↔ lives (g.pull ρ) o γ b := by
  cases o <;> exact Iff.rfl
theorem look_ren {ρ σ : Nat → Nat} (h1 : ∀ k, σ (ρ k) = k) : ∀ (L : List (Nat × AObj)) (γ : Nat), look .dead (renL ρ L) (ρ γ) = (look .dead L γ).ren ρ
  | [], γ => rfl
  | (k, o) :: r, γ => by
    simp only [renL]
    by_cases h : k = γ
    · subst h; rw [look_same, look_same]
    · rw [look_ne _ _ _ h, look_ne _ _ _ (fun e => h (by rw [← h1 k, ← h1 γ, e])), look_ren h1 r γ]
theorem hasKey_ren {ρ σ : Nat → Nat} (h1 : ∀ k, σ (ρ k) = k) : ∀ (L : List (Nat × AObj)) (γ : Nat), hasKey (ρ γ) (renL ρ L) = hasKey γ L
  | [], γ => rfl
  | (k, o) :: r, γ => by
    simp only [renL, hasKey, hasKey_ren h1 r γ]
    congr 1
    rw [Bool.eq_iff_iff]
    simp only [Nat.beq_eq]
    exact ⟨fun e => by rw [← h1 k, ← h1 γ, e], fun e => by rw [e]⟩

theorem inv_ren {E : Env} {ρ σ : Nat → Nat} (h1 : ∀ k, σ (ρ k) = k) (h2 : ∀ k, ρ (σ k) = k) {L : List (Nat × AObj)} {g : Gh} {w : World} {g0 : Gh} :
    Inv { E with g0 := g } (look .dead (renL ρ L)) g w ↔ Inv { E with g0 := g.pull ρ } (look .dead L) (g.pull ρ) w := by
  have hlv : ∀ γ b, lives g (look .dead (renL ρ L) (ρ γ)) (ρ γ) b ↔ lives (g.pull ρ) (look .dead L γ) γ b := fun γ b => by rw [look_ren h1]; exact ren_lives _
  constructor
  · intro hi
    refine ⟨fun γ => ?_, fun γ γ' b h h' => ?_, hi.mem, fun γ b h => hi.sep (ρ γ) b ((hlv _ _).2 h), fun γ b h => hi.new (ρ γ) b ((hlv _ _).2 h), hi.ext, hi.lim, hi.frame, hi.size, hi.os, hi.out, fun _ _ => Gh.keeps_refl _ _⟩
    · have := hi.obj (ρ γ); rw [look_ren h1] at this; exact (ren_objSat _).1 this
    · have := hi.inj (ρ γ) (ρ γ') b ((hlv _ _).2 h) ((hlv _ _).2 h')
      rw [← h1 γ, ← h1 γ', this]
  · intro hi
    have hs : ∀ γ b, lives g (look .dead (renL ρ L) γ) γ b → lives (g.pull ρ) (look .dead L (σ γ)) (σ γ) b := fun γ b h => by
      have := (hlv (σ γ) b).1; rw [h2] at this; exact this h
    refine ⟨fun γ => ?_, fun γ γ' b h h' => ?_, hi.mem, fun γ b h => hi.sep (σ γ) b (hs _ _ h), fun γ b h => hi.new (σ γ) b (hs _ _ h), hi.ext, hi.lim, hi.frame, hi.size, hi.os, hi.out, fun _ _ => Gh.keeps_refl _ _⟩
    · have := hi.obj (σ γ)
      rw [← ren_objSat (ρ := ρ), ← look_ren h1, h2] at this
      exact this
    · have := hi.inj (σ γ) (σ γ') b (hs _ _ h) (hs _ _ h')
      rw [← h2 γ, ← h2 γ', this]

theorem keeps_pull {g g' : Gh} {ρ : Nat → Nat} {γ : Nat} : (g.pull ρ).keeps (g'.pull ρ) γ ↔ g.keeps g' (ρ γ) := Iff.rfl

theorem con_ren {P : Program} {f : FuncId} {Li Lo : List (Nat × AObj)} {args : List AVal} {res : AVal} (ρ σ : Nat → Nat) (h1 : ∀ k, σ (ρ k) = k) (h2 : ∀ k, ρ (σ k) = k) (h : Con P f Li args Lo res) :
    Con P f (renL ρ Li) (renA ρ args) (renL ρ Lo) (res.ren ρ) := by
  intro g w vs hi hs
  have hA : ∀ b, (∃ γ, lives g (look .dead (renL ρ Li) γ) γ b) ↔ ∃ γ, lives (g.pull ρ) (look .dead Li γ) γ b := by
    intro b
    constructor
    · rintro ⟨γ, hγ⟩
      refine ⟨σ γ, ?_⟩
      rw [← h2 γ, look_ren h1, ren_lives] at hγ
      exact hγ
    · rintro ⟨γ, hγ⟩
      refine ⟨ρ γ, ?_⟩
      rw [look_ren h1, ren_lives]; exact hγ
  have hE : envOf (g.pull ρ) w Li = { envOf g w (renL ρ Li) with g0 := g.pull ρ } := by
    simp only [envOf, Env.mk.injEq, true_and, and_true]
    exact ⟨rfl, funext fun b => propext (hA b).symm⟩
  have hi' : Inv (envOf (g.pull ρ) w Li) (look .dead Li) (g.pull ρ) w := by
    rw [hE]; exact (inv_ren (g0 := g) h1 h2).1 hi
  refine (h (g.pull ρ) w vs hi' ((renA_sat _ _).1 hs)).mono ?_
  rintro e w' ⟨v, g', rfl, hv, hi2, hk⟩
  have hgp : (g'.pull σ).pull ρ = g' := by simp only [Gh.pull, h1]
  refine ⟨v, g'.pull σ, rfl, (ren_sat _ _).2 (by rw [hgp]; exact hv), ?_, fun γ hγ => ?_⟩
  · refine (inv_ren (E := envOf g w (renL ρ Li)) (g0 := g) h1 h2).2 ?_
    rw [hgp]
    have : ({ envOf (g.pull ρ) w Li with g0 := g' } : Env) = { envOf g w (renL ρ Li) with g0 := g' } := by rw [hE]
    rw [← this]; exact hi2
  · have hγ' : hasKey (σ γ) Li = true := by rw [← hasKey_ren h1, h2]; exact hγ
    have := hk (σ γ) hγ'
    rw [← hgp, keeps_pull, h2] at this
    exact this

/-- Two keys exchanged. -/
def swp (a b k : Nat) : Nat := bif Nat.beq k a then b else bif Nat.beq k b then a else k
theorem swp_swp (a b k : Nat) : swp a b (swp a b k) = k := by
  simp only [swp]
  by_cases h1 : k = a
  · subst h1
    by_cases h2 : b = k
    · subst h2; simp
    · have : Nat.beq b k = false := by cases h : Nat.beq b k with | false => rfl | true => exact absurd (Nat.eq_of_beq_eq_true h) h2
      simp [this]
  · have e1 : Nat.beq k a = false := by cases h : Nat.beq k a with | false => rfl | true => exact absurd (Nat.eq_of_beq_eq_true h) h1
    by_cases h2 : k = b
    · subst h2; simp [e1]
    · have e2 : Nat.beq k b = false := by cases h : Nat.beq k b with | false => rfl | true => exact absurd (Nat.eq_of_beq_eq_true h) h2
      simp [e1, e2]
theorem con_swp {P : Program} {f : FuncId} {Li Lo : List (Nat × AObj)} {args : List AVal} {res : AVal} (a b : Nat) (h : Con P f Li args Lo res) :
    Con P f (renL (swp a b) Li) (renA (swp a b) args) (renL (swp a b) Lo) (res.ren (swp a b)) :=
  con_ren _ _ (swp_swp a b) (swp_swp a b) h

section
variable {P : Program} {ops : Array Oper} {draw : Bool} {K : St → Prop} {rest : List Oper} {l : Line} {S : St}
variable {d : Nat} {ty : TypeId} {pos : String} {aft : Array Edge} {gd : Option (Nat × Bool)}

/-- A call of a function value. -/
theorem w_callv {t : Tmp} {f : FuncId} {caps : List AVal} {args : Array Operand} {tys : Array TypeId} {xs : List Operand} {ys zs : List AVal} {Li Lo : List (Nat × AObj)} {res : AVal}
    (ht : S.ev (.tmp t) = .fn f caps) (hxs : args.toList = xs) (hys : evA S xs = ys) (hle : leL (ys ++ caps) zs) (hcon : Con P f Li zs Lo res) (hf : callable P f = true)
    (hLi : lrdOk S Li) (hin : keysIn Li Lo = true) (hbox : boxesIn Lo Lo = true) (hres : res.within Lo = true) (hnew : newOk S (newKeys Li Lo)) (hdead : lrdOk S (deadL (newKeys Li Lo)))
    (hd : Nat.blt d S.n = true) (hg : guardOk ops S gd)
    (h : Walk P ops draw K rest ((l.length, ⟨some d, .call ⟨.value (.tmp t), args, tys⟩, ty, pos, aft, gd⟩, ⟨guardReads ops gd ++ ((.tmp t, .fn f caps) :: readsA xs ys), some (d, res), Li ++ deadL (newKeys Li Lo), Lo, newKeys Li Lo⟩) :: l)
      ((S.set d res).cat Lo)) :
    Walk P ops draw K (⟨some d, .call ⟨.value (.tmp t), args, tys⟩, ty, pos, aft, gd⟩ :: rest) l S := by
  have hap : ∀ (A B : List (Nat × AObj)) (T : St), lrdOk T (A ++ B) ↔ lrdOk T A ∧ lrdOk T B := by
    intro A B T
    simp only [lrdOk_iff, List.mem_append]
    exact ⟨fun h => ⟨fun p hp => h p (.inl hp), fun p hp => h p (.inr hp)⟩, fun h p hp => hp.elim (h.1 p) (h.2 p)⟩
  have hlen : ys.length = xs.length := by
    rw [← hys]; clear hys hxs h hle
    induction xs with
    | nil => rfl
    | cons x r ih => simp [evA, ih]
  refine walk_op ⟨(.tmp t, .fn f caps) :: readsA xs ys, some (d, res), Li ++ deadL (newKeys Li Lo), Lo, newKeys Li Lo⟩ ?_ hg ⟨⟨ht, by rw [← hys]; exact evA_ok S xs⟩, (hap _ _ _).2 ⟨hLi, hdead⟩, hnew, hd⟩ h
  intro E S a w g hs hok Q K hK
  obtain ⟨ok1, ok2, ok3, ok4⟩ := hok
  rw [hap] at ok2
  obtain ⟨hq1, hq2⟩ := satR_of hs _ ok1
  simp only [AVal.sat] at hq1
  obtain ⟨cv, hcv, hcs⟩ := hq1
  have hsat := leL_sat hle (satL_append (readsA_sat hlen hq2) hcs)
  have hinv : Inv (envOf g w Li) (look .dead Li) g w := by
    have hsub := subL_of ok2.1
    have hl : ∀ γ b, lives g (look .dead Li γ) γ b → lives g (S.obj γ) γ b := by
      intro γ b hb
      rcases hsub γ with e | e
      · rw [← e]; exact hb
      · rw [e] at hb; exact hb.elim
    refine ⟨fun γ => ?_, fun γ γ' b k k' => hs.1.inj γ γ' b (hl _ _ k) (hl _ _ k'), hs.1.mem, fun γ b k => hs.1.sep γ b (hl _ _ k), fun γ b k => .inr ⟨γ, k⟩, MemLe.refl _, fun a v ha => .inl ⟨v, ha⟩, fun _ _ _ => rfl, Nat.le_refl _, rfl, rfl, fun γ _ => Gh.keeps_refl _ _⟩
    rcases hsub γ with e | e
    · rw [e]; exact hs.1.obj γ
    · rw [e]; trivial
  have hcall := hcon g w (xs.map a.eval ++ cv.toList) hinv hsat
  have hrun : (execOp a.eval ⟨some d, .call ⟨.value (.tmp t), args, tys⟩, ty, pos, aft, gd⟩).run P w = .ok (.enter f (xs.map a.eval ++ cv.toList).toArray) w := by
    have e1 : (#[] ++ args.map a.eval ++ cv : Array Value) = (xs.map a.eval ++ cv.toList).toArray := by
      apply Array.ext'; simp [← hxs]
    simp only [execOp, resolve, hcv, Deferred.ofValue, Sem.run_bind, Sem.run_pure, Result.andThen_ok, invoke]
    rw [run_callFunc hf]
    congr 2
  unfold Oper.wp
  rw [hrun, Oper.upon_enter]
  refine hcall.mono ?_
  rintro e w' ⟨v, g', rfl, hv, hi', hk⟩
  obtain ⟨j1, j2, j3⟩ := inv_call hs.1 ok2.1 hin hbox ok3 ok2.2 hi' hk
  exact hK _ _ (holds_put j1 hs.2.1 hs.2.2.1 (fun t => j3 t _ (hs.2.2.2 t)) (j2 _ _ hres hv) ok4)
/-- A function value is made. -/
theorem w_makeFunc {f : FuncId} {caps : Array Operand} {xs : List Operand} {ys : List AVal} (hxs : caps.toList = xs) (hys : evA S xs = ys) (hd : Nat.blt d S.n = true) (hg : guardOk ops S gd)
    (h : Walk P ops draw K rest ((l.length, ⟨some d, .makeFunc (.func f) #[] caps, ty, pos, aft, gd⟩, ⟨guardReads ops gd ++ readsA xs ys, some (d, .fn f ys), [], [], []⟩) :: l) (S.set d (.fn f ys))) :
    Walk P ops draw K (⟨some d, .makeFunc (.func f) #[] caps, ty, pos, aft, gd⟩ :: rest) l S := by
  have hlen : ys.length = xs.length := by
    rw [← hys]; clear hys hxs h
    induction xs with
    | nil => rfl
    | cons x r ih => simp [evA, ih]
  refine walk_op ⟨readsA xs ys, some (d, .fn f ys), [], [], []⟩ (valid_val rfl fun E S g a w hs hq hl => ?_) hg ⟨by rw [← hys]; exact evA_ok S xs, trivial, trivial, hd⟩ h
  refine ⟨.func (.func f) #[] (caps.map a.eval), by simp [execOp, Instr.makeFunc], ?_⟩
  simp only [AVal.sat]
  refine ⟨_, rfl, ?_⟩
  have := readsA_sat hlen hq
  rw [show (caps.map a.eval).toList = xs.map a.eval by simp [← hxs]]
  exact this
end
end Go.Fw

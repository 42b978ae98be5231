/- Eleventh part: rows of rows that are one's own. -/
import Derived.Test.YtldiocpkgfpehaaFwJ
namespace Go.Fw
open Go
set_option linter.unusedVariables false
set_option linter.unusedSimpArgs false

theorem le_mat {S : St} (γ isz : Nat) (hL : S.obj γ = .row 1 []) : S.le (S.own γ (.mat isz [])) := by
  rintro E a w ⟨g, hs⟩
  have ho := hs.1.obj γ
  rw [hL] at ho
  have hi : Inv E (look .dead ((γ, .mat isz []) :: S.L)) g w := by
    refine Inv.upd hs.1 γ _ (look_same _ _ _ _) (fun k hk => look_ne _ _ _ (Ne.symm hk)) (fun _ _ _ => rfl) (Nat.le_refl _) rfl rfl rfl (fun _ _ => ⟨rfl, rfl, rfl⟩) (fun _ _ _ _ _ h => h) ?_ (fun b hb => .inl ?_) (fun _ => Gh.keeps_refl _ _)
    · refine ⟨?_, by simp, by simp⟩
      rcases ho.2 with ⟨h1, _⟩ | ⟨b, cap, vs, e, fr, h1, h2, h3, h4, h5, h6, h7⟩
      · exact .inl ⟨h1, rfl⟩
      · exact .inr ⟨b, cap, vs, e, fr, h1, h2, h3, h4, h5, by simpa using h6, by simp, by simp⟩
    · rw [hL]
      rcases hb with h | ⟨i, hi, _⟩
      · exact h
      · simp at hi
  exact holds_ghost hs hi rfl hs.2.2.2

theorem rowSat_rep {g : Gh} {w : World} {h : Value} {sz : Nat} {xs : List (List D)} (hr : rowSat g w h sz xs) {M' : Mem} (hM : MemLe g.M M') (hc : ∀ b o, hdBlk h b → M' ⟨b, o, none⟩ = w.cell? ⟨b, o, none⟩) : (D.sl sz xs).rep M' h := by
  simp only [D.rep]
  rcases hr.2 with ⟨h1, rfl⟩ | ⟨b, cap, vs, e, fr, h1, h2, h3, h4, h5, h6, h7⟩
  · exact ⟨none, 0, h1, by simp, by simp, by simp⟩
  · refine ⟨_, cap, h1, h2, h3, .inr ⟨b, 0, rfl, rows_of_flat xs 0 hr.1 fun i d hd => ?_⟩⟩
    obtain ⟨hl, hrr⟩ := dmap_sat h7
    obtain ⟨u, hu, hsu⟩ := hrr i d hd
    refine ⟨u, ?_, D.rep_mono hM _ _ hsu⟩
    rw [hc b _ ⟨_, _, _, h1, rfl⟩, cell_of_row w _ _ vs e fr h4, Nat.zero_add]
    rw [List.getElem?_take] at hu
    split at hu
    · simpa using hu
    · simp at hu

open Classical in
/-- The memory that an object's blocks make, once it is let go. -/
noncomputable def letGo (g : Gh) (w : World) (x : AObj) (γ : Nat) : Mem := fun p => if p.spot = none ∧ lives g x γ p.block then w.cell? p else g.M p

/-- Any object whose header reads as data may be let go. -/
theorem inv_letgo {E : Env} {S : St} {g : Gh} {w : World} (hi : Inv E S.obj g w) {γ sz : Nat} {xs : List (List D)} (hrep : (D.sl sz xs).rep (letGo g w (S.obj γ) γ) (g.hd γ)) :
    MemLe g.M (letGo g w (S.obj γ) γ) ∧ Inv E (look .dead ((γ, .froz sz xs) :: S.L)) { g with M := letGo g w (S.obj γ) γ } w := by
  have hle : MemLe g.M (letGo g w (S.obj γ) γ) := by
    intro a v h
    unfold letGo
    rw [if_neg (fun hc => hi.sep γ _ hc.2 a v h rfl)]; exact h
  refine ⟨hle, ?_⟩
  have hM' : ∀ a v, letGo g w (S.obj γ) γ a = some v → g.M a = some v ∨ (w.cell? a = some v ∧ lives g (S.obj γ) γ a.block) := by
    intro a v h
    unfold letGo at h
    split at h
    · rename_i hc; exact .inr ⟨h, hc.2⟩
    · exact .inl h
  have hlook : ∀ k, look .dead ((γ, .froz sz xs) :: S.L) k = if k = γ then .froz sz xs else S.obj k := by
    intro k
    by_cases hk : k = γ
    · subst hk; rw [look_same, if_pos rfl]
    · rw [look_ne _ _ _ (Ne.symm hk), if_neg hk]; rfl
  have hlv : ∀ k b, lives { g with M := letGo g w (S.obj γ) γ } (look .dead ((γ, .froz sz xs) :: S.L) k) k b → k ≠ γ ∧ lives g (S.obj k) k b := by
    intro k b h
    rw [hlook] at h
    by_cases hk : k = γ
    · rw [if_pos hk] at h; exact h.elim
    · rw [if_neg hk] at h
      refine ⟨hk, ?_⟩
      rwa [lives_move (g := g) (g' := { g with M := letGo g w (S.obj γ) γ }) rfl rfl rfl] at h
  refine ⟨fun k => ?_, fun k k' b h h' => hi.inj k k' b (hlv _ _ h).2 (hlv _ _ h').2, fun a v h => ?_, fun k b h a v ha => ?_, fun k b h => hi.new k b (hlv _ _ h).2, hi.ext.trans hle, fun a v h => ?_, hi.frame, hi.size, hi.os, hi.out, fun k hk => (hi.kp k hk).trans' (Gh.keeps_of rfl rfl rfl)⟩
  · rw [hlook]
    by_cases hk : k = γ
    · subst hk; rw [if_pos rfl]; exact hrep
    · rw [if_neg hk]; exact objSat_lay (g := g) (g' := { g with M := letGo g w (S.obj γ) γ }) hle rfl rfl rfl (fun _ _ => rfl) (hi.obj k)
  · rcases hM' a v h with h1 | h1
    · exact hi.mem a v h1
    · exact h1.1
  · obtain ⟨hk, hb⟩ := hlv k b h
    rcases hM' a v ha with h1 | h1
    · exact hi.sep k b hb a v h1
    · intro e
      rw [e] at h1
      exact hk (hi.inj _ _ _ hb h1.2)
  · rcases hM' a v h with h1 | h1
    · exact hi.lim a v h1
    · exact .inr (hi.new γ _ h1.2)

theorem le_freeze_mat {S : St} (γ : Nat) {isz : Nat} {rows : List (List (List D))} (hL : S.obj γ = .mat isz rows) : S.le (S.own γ (.froz 1 (rows.map fun r => [.sl isz r]))) := by
  rintro E a w ⟨g, hs⟩
  have ho := hs.1.obj γ
  rw [hL] at ho
  have hle : MemLe g.M (letGo g w (S.obj γ) γ) := by
    intro a v h
    unfold letGo
    rw [if_neg (fun hc => hs.1.sep γ _ hc.2 a v h rfl)]; exact h
  have hcell : ∀ b o, lives g (S.obj γ) γ b → letGo g w (S.obj γ) γ ⟨b, o, none⟩ = w.cell? ⟨b, o, none⟩ := by
    intro b o hb
    unfold letGo
    rw [if_pos ⟨rfl, hb⟩]
  have hrep : (D.sl 1 (rows.map fun r => [D.sl isz r])).rep (letGo g w (S.obj γ) γ) (g.hd γ) := by
    obtain ⟨h1, h2, h3⟩ := ho
    simp only [D.rep, List.length_map]
    rcases h1 with ⟨e, rfl⟩ | ⟨b, cap, vs, e, fr, k1, k2, k3, k4, k5, k6, k7, k8⟩
    · exact ⟨none, 0, e, by simp, by simp, by simp⟩
    · refine ⟨_, cap, k1, k2, k3, .inr ⟨b, 0, rfl, rows_of_flat _ 0 (by simp) fun i d hd => ?_⟩⟩
      have hfl : (rows.map fun r => [D.sl isz r]).flatten = rows.map fun r => D.sl isz r := by
        clear hd h2 h3 k1 k2 k7 k8 hL; induction rows with
        | nil => rfl
        | cons r rs ih => simp [ih]
      rw [hfl, List.getElem?_map, Option.map_eq_some_iff] at hd
      obtain ⟨r, hr, rfl⟩ := hd
      have hi : i < rows.length := (List.getElem?_eq_some_iff.1 hr).1
      refine ⟨g.ihd γ i, ?_, rowSat_rep (h2 i r hr) hle (fun b' o hb' => hcell b' o (by rw [hL]; exact .inr ⟨i, hi, hb'⟩))⟩
      rw [hcell b _ (by rw [hL]; exact .inl ⟨_, _, _, k1, rfl⟩), cell_of_row w _ _ vs e fr k4, Nat.zero_add]
      exact k7 i hi
  obtain ⟨_, hi⟩ := inv_letgo hs.1 hrep
  exact holds_ghost hs hi rfl fun t => sat_lay (g := g) (g' := { g with M := letGo g w (S.obj γ) γ }) hle rfl rfl rfl (hs.2.2.2 t)

section
variable {P : Program} {ops : Array Oper} {draw : Bool} {K : St → Prop} {rest : List Oper} {l : Line} {S : St}
variable {d : Nat} {ty : TypeId} {pos : String} {aft : Array Edge} {gd : Option (Nat × Bool)}

/-- A slice literal whose cells are not all data: a box, and its header. -/
theorem w_lit_box {T : TypeId} {len sz γ : Nat} {parts : Array (Nat × Operand)} {pl : List (Nat × Operand)} {zs : List Value} {ps : List (Nat × AVal)} {out : List AVal} (hpl : parts.toList = pl)
    (hps : evL S pl = ps) (hz : elZero P T = some zs) (hS : zs.length = sz) (hT : slIs P T sz = true) (hz1 : onesL (zrow zs len) = true) (hsmall : Nat.ble (len * sz) 16777216 = true)
    (hout : fillA (fun i => some (i * sz, sz)) (dvL (zrow zs len)) ps = some out) (hc : cellishL out = true) (hm : mentL γ out = false) (hdead : S.obj γ = .dead) (hf : S.free γ = true) (hd : Nat.blt d S.n = true) (hg : guardOk ops S gd)
    (h : Walk P ops draw K rest ((l.length, ⟨some d, .buildSlice T len parts, ty, pos, aft, gd⟩, ⟨guardReads ops gd ++ readsL pl ps, some (d, .bsl γ len), [(γ, .dead)], [(γ, .box out)], [γ]⟩) :: l) ((S.set d (.bsl γ len)).own γ (.box out))) :
    Walk P ops draw K (⟨some d, .buildSlice T len parts, ty, pos, aft, gd⟩ :: rest) l S := by
  have hkeys : ps.map (·.1) = pl.map (·.1) := by rw [← hps]; exact evL_keys S pl
  have hrd : readsOk S (readsL pl ps) := by rw [← hps]; exact evL_ok S pl
  refine walk_op ⟨readsL pl ps, some (d, .bsl γ len), [(γ, .dead)], [(γ, .box out)], [γ]⟩ (valid_new rfl fun E S g a w hs hq hl hn => ?_) hg ⟨hrd, ⟨hdead, trivial⟩, ⟨hf, trivial⟩, hd⟩ h
  obtain ⟨us, k1, k2⟩ := fill_sat (vs := (zrow zs len).toArray) hkeys hq (by simpa using dvL_sat hz1) hout
  have hsm : len * sz ≤ 16777216 := by simpa using hsmall
  obtain ⟨e, he⟩ := run_buildSlice (P := P) (T := T) (len := len) (parts := parts.map fun p => (p.1, a.eval p.2)) hT hz hS hsm (by
    have : (parts.map fun p => (p.1, a.eval p.2)).toList = pl.map fun p => (p.1, a.eval p.2) := by simp [hpl]
    rw [this]; exact k1) w
  refine ⟨.slice (some ⟨w.heap.size, 0, none⟩) len len, newGh g w γ, w.alloc (.cells us e), by simp only [execOp, Sem.run_bind, he]; rfl, by simp [AVal.sat, newGh, Gh.put], inv_box hs.1 γ hn.1 hl.1 e k2 hm ((cellishL_iff _).1 hc), tmps_put hn.1 hs.2.2.2⟩

end

/-- The header of an inner row. -/
def Gh.reinn (g : Gh) (γ i : Nat) (h v : Value) : Gh := { blk := g.blk, hd := fun k => if k = γ then h else g.hd k, ihd := fun k j => if k = γ ∧ j = i then v else g.ihd k j, M := g.M }

theorem append_mat {P : Program} {E : Env} {S : St} {g : Gh} {a : Act} {w : World} (hs : holdsG E S g a w) {γ β γ2 isz bytes n : Nat} {rows : List (List (List D))} {r : List (List D)} (hL : S.obj γ = .mat isz rows) (hβ : S.obj β = .box [.own γ2 n])
    (h2 : S.obj γ2 = .row isz r) (hn : n = r.length) {T T2 ty : TypeId} (hT : elIs P T 1 bytes = true) (hT2 : srcTy P T2 = true) (hb0 : bytes ≠ 0) (hroom : (rows.length + 1) * bytes ≤ 2 ^ 47) :
    ∃ v g' w', (Builtin.append_ #[T, T2] ty #[g.hd γ, .slice (some ⟨g.blk β, 0, none⟩) 1 1]).run P w = .ok v w' ∧ (AVal.own γ (rows.length + 1)).sat g' v ∧
      Inv E (look .dead ((γ, .mat isz (rows ++ [r])) :: (γ2, .dead) :: S.L)) g' w' ∧ ∀ t, (S.get t).sat g' (a.tmps.getD t undef) := by
  obtain ⟨e, i, z, hu, hi, hsz, hbt, hz, hzs, hz1⟩ := elIs_spec hT
  have hsrcT := srcTy_spec hT2
  have hne : γ2 ≠ γ := by intro e; rw [e, hL] at h2; cases h2
  -- the source
  have hob := hs.1.obj β
  rw [hβ] at hob
  obtain ⟨bv, be, bfr, hb1, hb2, hb3, hb4⟩ := hob
  obtain ⟨v0, hv0, hsv0⟩ := satL_get hb3 0 _ rfl
  have hbl := satL_length hb3
  have hro := hs.1.obj γ2
  rw [h2] at hro
  have hv0e : v0 = g.hd γ2 := own_sat hsv0 hro hn
  subst hv0e
  have hbv : bv = #[g.hd γ2] := by
    apply Array.ext'
    cases hbt' : bv.toList with
    | nil => rw [hbt'] at hbl; simp at hbl
    | cons x xs =>
      rw [hbt'] at hbl hv0
      simp at hbl hv0
      subst hbl; rw [hv0]
  have hv1 : (g.hd γ2).oneCell' = true := AVal.sat_one rfl hsv0
  have hsrc : Src P w 1 (.slice (some ⟨g.blk β, 0, none⟩) 1 1) 1 #[g.hd γ2] := by
    refine ⟨fun w' hw' => ⟨by simp [Builtin.lenOf], ?_⟩, by simp⟩
    have := run_loadCells_list (P := P) w' ⟨g.blk β, 0, none⟩ [g.hd γ2] (fun j v hv => by
      rw [add_at, cell_of_row w' _ _ bv be bfr (by rw [hw']; exact hb1), hbv]
      simpa using hv)
    simpa [Builtin.firstCells] using this
  -- without γ2
  have hi1 : Inv E (look .dead ((γ2, .dead) :: S.L)) g w := hs.1.sub fun k => by
    by_cases hk : k = γ2
    · subst hk; rw [look_same]; exact .inr rfl
    · rw [look_ne _ _ _ (Ne.symm hk)]; exact .inl rfl
  have hL1 : look .dead ((γ2, .dead) :: S.L) γ = .mat isz rows := by rw [look_ne _ _ _ hne]; exact hL
  have ho := hs.1.obj γ
  rw [hL] at ho
  obtain ⟨ho, hin, hdist⟩ := ho
  have hfree : ∀ c, hdBlk (g.hd γ2) c → (∀ k, ¬ lives g (look .dead ((γ2, .dead) :: S.L) k) k c) ∧ (∀ a v, g.M a = some v → a.block ≠ c) ∧ (E.W.heap.size ≤ c ∨ E.A c) := by
    intro c hc
    have hl2 : lives g (S.obj γ2) γ2 c := by rw [h2]; exact hc
    refine ⟨fun k hk => ?_, fun a v ha => hs.1.sep γ2 c hl2 a v ha, hs.1.new γ2 c hl2⟩
    by_cases hkγ : k = γ2
    · subst hkγ; rw [look_same] at hk; exact hk
    · rw [look_ne _ _ _ (Ne.symm hkγ)] at hk
      exact hkγ (hs.1.inj _ _ _ hk hl2)
  -- the two ways' common end
  have fin : ∀ (a0 : Option Addr) (c0 b cap' : Nat) (vs' : Array Value) (e' : TypeId) (fr : Nat × Nat) (w' : World),
      g.hd γ = .slice a0 rows.length c0 →
      (∀ k, k < w.heap.size → ¬ hdBlk (g.hd γ) k → w'.heap[k]? = w.heap[k]?) → w.heap.size ≤ w'.heap.size → w'.os = w.os → w'.output = w.output →
      w'.heap[b]? = some (.cells vs' e' fr) → thaw fr vs'.size → rows.length + 1 ≤ cap' → cap' ≤ maxLen → cap' ≤ vs'.size →
      (∀ j, j < rows.length → vs'[j]? = some (g.ihd γ j)) → vs'[rows.length]? = some (g.hd γ2) → (hdBlk (g.hd γ) b ∨ w.heap.size ≤ b) →
      let g' := g.reinn γ rows.length (.slice (some ⟨b, 0, none⟩) (rows.length + 1) cap') (g.hd γ2)
      (AVal.own γ (rows.length + 1)).sat g' (.slice (some ⟨b, 0, none⟩) (rows.length + 1) cap') ∧
      Inv E (look .dead ((γ, .mat isz (rows ++ [r])) :: (γ2, .dead) :: S.L)) g' w' ∧ ∀ t, (S.get t).sat g' (a.tmps.getD t undef) := by
    intro a0 c0 b cap' vs' e' fr w' hhd hheap hsize hos hout hb hth hcap hmax hcs hcells hlast hlv g'
    have hk : ∀ k, g.keeps g' k := by
      intro k
      by_cases hkγ : k = γ
      · subst hkγ
        refine ⟨rfl, .inr ⟨a0, _, c0, some ⟨b, 0, none⟩, rows.length + 1, cap', hhd, by simp [g', Gh.reinn], by omega⟩, fun j a m c he hj => ?_⟩
        rw [hhd] at he; cases he
        simp [g', Gh.reinn, show j ≠ rows.length by omega]
      · exact Gh.keeps_of rfl (by simp [g', Gh.reinn, hkγ]) (by funext j; simp [g', Gh.reinn, hkγ])
    have hM : MemLe g.M g'.M := MemLe.refl _
    have hih : ∀ j, j < rows.length → g'.ihd γ j = g.ihd γ j := fun j hj => by simp [g', Gh.reinn, show j ≠ rows.length by omega]
    have hihl : g'.ihd γ rows.length = g.hd γ2 := by simp [g', Gh.reinn]
    have hold : ∀ c, (∃ j, j < rows.length ∧ hdBlk (g.ihd γ j) c) → w'.heap[c]? = w.heap[c]? ∧ ¬ hdBlk (g.hd γ) c := by
      rintro c ⟨j, hj, hc⟩
      have hnb : ¬ hdBlk (g.hd γ) c := by
        rcases ho with ⟨_, he⟩ | ⟨b', cap, vs, e'', fr', q1, _, _, _, _, _, _, q8⟩
        · rw [he] at hj; simp at hj
        · rintro ⟨a1, n1, c1, e1, rfl⟩
          rw [q1] at e1; cases e1
          exact q8 j hj hc
      exact ⟨hheap c (rowSat_lt (hin j _ (List.getElem?_eq_getElem hj)) hc) hnb, hnb⟩
    have hnew2 : ∀ c, hdBlk (g.hd γ2) c → w'.heap[c]? = w.heap[c]? ∧ ¬ hdBlk (g.hd γ) c := by
      intro c hc
      have hnb : ¬ hdBlk (g.hd γ) c := fun h => (hfree c hc).1 γ (by rw [hL1]; exact .inl h)
      exact ⟨hheap c (rowSat_lt hro hc) hnb, hnb⟩
    refine ⟨?_, ?_, fun t => AVal.sat_mono hM _ _ (fun k _ => hk k) (hs.2.2.2 t)⟩
    · simp only [AVal.sat]
      exact ⟨rfl, some ⟨b, 0, none⟩, rows.length + 1, cap', by simp [g', Gh.reinn], Nat.le_refl _, fun _ => rfl⟩
    · refine Inv.updX hi1 γ _ (look_same _ _ _ _) (fun k hkγ => look_ne _ _ _ (Ne.symm hkγ)) (fun k hkl hnl => hheap k hkl (fun h => hnl (by rw [hL1]; exact .inl h))) hsize hos hout rfl
        (fun k hkγ => ⟨rfl, by simp [g', Gh.reinn, hkγ], by funext j; simp [g', Gh.reinn, hkγ]⟩)
        (fun k cs us _ _ h => satL_mono hM _ _ (fun k _ => hk k) h) ?_ (fun c hc => ?_) (fun _ => hk γ)
      · refine ⟨.inr ⟨b, cap', vs', e', fr, by simp [g', Gh.reinn], by simpa using hcap, hmax, hb, hth, hcs, fun j hj => ?_, fun j hj hjb => ?_⟩, fun j q hq => ?_, fun j k c hj hk' hjc hkc => ?_⟩
        · simp at hj
          by_cases hjl : j < rows.length
          · rw [hih j hjl]; exact hcells j hjl
          · have : j = rows.length := by omega
            subst this; rw [hihl]; exact hlast
        · simp at hj
          by_cases hjl : j < rows.length
          · rw [hih j hjl] at hjb
            obtain ⟨_, q2⟩ := hold b ⟨j, hjl, hjb⟩
            rcases hlv with h | h
            · exact q2 h
            · have := rowSat_lt (hin j _ (List.getElem?_eq_getElem hjl)) hjb; omega
          · have : j = rows.length := by omega
            subst this; rw [hihl] at hjb
            obtain ⟨_, q2⟩ := hnew2 b hjb
            rcases hlv with h | h
            · exact q2 h
            · have := rowSat_lt hro hjb; omega
        · by_cases hjl : j < rows.length
          · rw [List.getElem?_append_left hjl] at hq
            rw [hih j hjl]
            exact rowSat_move hM (fun c hc => (hold c ⟨j, hjl, hc⟩).1) (hin j q hq)
          · have hjr : j = rows.length := by
              have := (List.getElem?_eq_some_iff.1 hq).1; simp at this; omega
            subst hjr
            simp at hq; subst hq
            rw [hihl]
            exact rowSat_move hM (fun c hc => (hnew2 c hc).1) hro
        · simp at hj hk'
          by_cases hjl : j < rows.length <;> by_cases hkl : k < rows.length
          · rw [hih j hjl] at hjc; rw [hih k hkl] at hkc
            exact hdist j k c hjl hkl hjc hkc
          · have : k = rows.length := by omega
            subst this
            rw [hih j hjl] at hjc; rw [hihl] at hkc
            exact ((hfree c hkc).1 γ (by rw [hL1]; exact .inr ⟨j, hjl, hjc⟩)).elim
          · have : j = rows.length := by omega
            subst this
            rw [hih k hkl] at hkc; rw [hihl] at hjc
            exact ((hfree c hjc).1 γ (by rw [hL1]; exact .inr ⟨k, hkl, hkc⟩)).elim
          · omega
      · rw [hL1]
        rcases hc with hc | ⟨j, hj, hc⟩
        · simp only [g', Gh.reinn, if_true] at hc
          obtain ⟨a1, n1, c1, e1, rfl⟩ := hc
          cases e1
          rcases hlv with h | h
          · exact .inl (.inl h)
          · exact .inr (.inl h)
        · simp at hj
          by_cases hjl : j < rows.length
          · rw [hih j hjl] at hc
            exact .inl (.inr ⟨j, hjl, hc⟩)
          · have : j = rows.length := by omega
            subst this; rw [hihl] at hc
            obtain ⟨q1, q2, q3⟩ := hfree c hc
            exact .inr (.inr ⟨fun k _ => q1 k, q2, q3⟩)
  have hneed : rows.length + 1 < 2 ^ 63 := by
    have : rows.length + 1 ≤ (rows.length + 1) * bytes := Nat.le_mul_of_pos_right _ (by omega)
    omega
  have hgrowcap : ∀ cap, rows.length + 1 > cap → Builtin.nextslicecap (rows.length + 1) cap * i.bytes ≤ 2 ^ 48 := by
    intro cap hc
    have h1 := nextslicecap_le (need := rows.length + 1) (old := cap) hc
    have h2 : Builtin.nextslicecap (rows.length + 1) cap * i.bytes ≤ 2 * (rows.length + 1) * i.bytes := Nat.mul_le_mul_right _ h1
    rw [hbt] at h2 ⊢
    have h3 : 2 * (rows.length + 1) * bytes = 2 * ((rows.length + 1) * bytes) := Nat.mul_assoc _ _ _
    omega
  have grow : ∀ (base : Option Addr) (c0 : Nat) (olds : Array Value), g.hd γ = .slice base rows.length c0 → ¬ rows.length + 1 ≤ c0 → (∀ w' : World, w'.heap = w.heap → (Builtin.firstCells i.size rows.length (.slice base rows.length c0)).run P w' = .ok olds w') →
      olds.size = rows.length → (∀ j, j < rows.length → olds[j]? = some (g.ihd γ j)) →
      ∃ v g' w', (Builtin.append_ #[T, T2] ty #[g.hd γ, .slice (some ⟨g.blk β, 0, none⟩) 1 1]).run P w = .ok v w' ∧ (AVal.own γ (rows.length + 1)).sat g' v ∧
        Inv E (look .dead ((γ, .mat isz (rows ++ [r])) :: (γ2, .dead) :: S.L)) g' w' ∧ ∀ t, (S.get t).sat g' (a.tmps.getD t undef) := by
    intro base c0 olds hhd hc hfc hosz hol
    have hr := run_append_grow (P := P) (w := w) (T := T) (T2 := T2) (ty := ty) (base := base) (n := rows.length) (cap := c0) (m := 1) (olds := olds) (news := #[g.hd γ2]) hu hi hz hsrcT (by rw [hbt]; exact hb0)
      (by rw [hsz]; exact hsrc) hfc hc (hgrowcap c0 (by omega))
    obtain ⟨c1, c2⟩ := cut_append (rows.length + 1) c0 e (w.tape w.drawn (.appendCap (rows.length + 1) c0 e)) hneed
    revert hr c1 c2
    generalize (Question.appendCap (rows.length + 1) c0 e).cut (w.tape w.drawn (.appendCap (rows.length + 1) c0 e)) = nc
    intro hr c1 c2
    have := fin base c0 w.heap.size nc (olds ++ #[g.hd γ2] ++ Builtin.zeroCells z.cells (nc - (rows.length + 1))) e (0, 0) _ hhd
      (fun k hk _ => world_push w.drew _ k hk) (world_push_size w.drew _) rfl rfl (heap_alloc_new w.drew _) (thaw00 _) c1 c2
      (by rw [Array.size_append, Array.size_append, zeroCells_size, hosz, hzs]; simp; omega)
      (fun j hj => by rw [Array.append_assoc, Array.getElem?_append_left (by omega)]; exact hol j hj)
      (by rw [Array.append_assoc, Array.getElem?_append_right (by omega), hosz, Nat.sub_self]; rw [Array.getElem?_append_left (by simp)]; rfl) (.inr (Nat.le_refl _))
    exact ⟨_, _, _, by rw [hhd]; exact hr, this⟩
  rcases ho with ⟨hnil, rfl⟩ | ⟨b, cap, vs, e', fr, h1, h2', h3, h4, h5, h6, h7, h8⟩
  · exact grow none 0 #[] hnil (by simp) (fun w' _ => by simp [Builtin.firstCells]) rfl (by simp)
  · by_cases hc : rows.length + 1 ≤ cap
    · have hr := run_append_room (P := P) (w := w) (T := T) (T2 := T2) (ty := ty) (base := some ⟨b, 0, none⟩) (n := rows.length) (cap := cap) (m := 1) (news := #[g.hd γ2]) hu hi hsrcT (by rw [hsz]; exact hsrc) hc
      obtain ⟨vs', k1, k2⟩ := run_storeCells_row (P := P) b e' fr vs.size h5 [g.hd γ2] rows.length 0 vs w h4 rfl (by simp; omega) (by simpa using hv1)
      simp only [Nat.add_zero, List.length_singleton] at k2
      simp only at hr
      rw [show (⟨b, 0, none⟩ : Addr).add (rows.length * i.size) = ⟨b, rows.length, none⟩ by rw [add_at, hsz]; simp] at hr
      simp only [k1, Result.andThen_ok] at hr
      have hvs' : vs'.size = vs.size := by
        have := congrArg List.length k2
        simp at this; omega
      have hat : ∀ j, vs'[j]? = (vs.toList.take rows.length ++ [g.hd γ2] ++ vs.toList.drop (rows.length + 1))[j]? := fun j => by rw [← k2]; exact Array.getElem?_toList.symm
      have := fin (some ⟨b, 0, none⟩) cap b cap vs' e' fr (w.setRow b vs') h1
        (fun k hk hne => setRow_other w b k vs' (fun e => hne (by rw [e]; exact ⟨_, _, _, h1, rfl⟩))) (by simp) rfl rfl (setRow_heap w b vs _ e' fr h4) (by rw [hvs']; exact h5) hc h3 (by rw [hvs']; exact h6)
        (fun j hj => by
          rw [hat, List.append_assoc, List.getElem?_append_left (by simp; omega), List.getElem?_take, if_pos hj]
          have := h7 j hj
          simpa using this)
        (by
          have hl : (vs.toList.take rows.length).length = rows.length := by simp; omega
          rw [hat, List.append_assoc, List.getElem?_append_right (by omega), hl]; simp) (.inl ⟨_, _, _, h1, rfl⟩)
      exact ⟨_, _, _, by rw [h1]; exact hr, this⟩
    · refine grow (some ⟨b, 0, none⟩) cap (vs.toList.take rows.length).toArray h1 hc (fun w' hw' => ?_) (by simp; omega) (fun j hj => ?_)
      · have hl : (vs.toList.take rows.length).length = rows.length := by simp; omega
        have := run_loadCells_list (P := P) w' ⟨b, 0, none⟩ (vs.toList.take rows.length) (fun j v hv => by
          rw [add_at, cell_of_row w' _ _ vs e' fr (by rw [hw']; exact h4)]
          rw [List.getElem?_take] at hv
          split at hv
          · simpa using hv
          · simp at hv)
        rw [hl] at this
        simp only [Builtin.firstCells, hsz, Nat.mul_one]
        exact this
      · have := h7 j hj
        simp [hj] 
        simpa using this
end Go.Fw

/- Eleventh part: rows of rows that are one's own. -/
import Derived.Test.YtpfldfkhgplcgaaGreatDoorM05
namespace Go.Fw
open Go
set_option linter.unusedVariables false
set_option linter.unusedSimpArgs false
theorem Xeo {S : St} (γ isz : Nat) (hL : S.obj γ = .row 1 []) : S.le (S.own γ (.mat isz [])) := by
 rintro E a w ⟨g, hs⟩
 have ho := hs.1.obj γ
 rw [hL] at ho
 have hi : Inv E (Xl .dead ((γ, .mat isz []) :: S.L)) g w := by
  refine Inv.upd hs.1 γ _ (Ys _ _ _ _) (fun k hk => Yq _ _ _ (Ne.symm hk)) (fun _ _ _ => rfl) (Nat.le_refl _) rfl rfl rfl (fun _ _ => ⟨rfl, rfl, rfl⟩) (fun _ _ _ _ _ h => h) ?_ (fun b hb => .inl ?_) (fun _ => Gh.keeps_refl _ _)
  ·refine ⟨?_, by simp, by simp⟩
   rcases ho.2 with ⟨h1, _⟩ | ⟨b, cap, vs, e, fr, h1, h2, h3, h4, h5, h6, h7⟩
   ·exact .inl ⟨h1, rfl⟩
   ·exact .inr ⟨b, cap, vs, e, fr, h1, h2, h3, h4, h5, by simpa using h6, by simp, by simp⟩
  ·rw [hL]
   rcases hb with h | ⟨i, hi, _⟩
   ·exact h
   ·simp at hi
 exact X17 hs hi rfl hs.2.2.2
theorem XbU {g : Gh} {w : World} {h : Value} {sz : Nat} {xs : List (List D)} (hr : UQ g w h sz xs) {M' : Mem} (hM : Yk g.M M') (hc : ∀ b o, UK h b → M' ⟨b, o, none⟩ = w.cell? ⟨b, o, none⟩) : (D.sl sz xs).rep M' h := by
 simp only [D.rep]
 rcases hr.2 with ⟨h1, rfl⟩ | ⟨b, cap, vs, e, fr, h1, h2, h3, h4, h5, h6, h7⟩
 ·exact ⟨none, 0, h1, by simp, by simp, by simp⟩
 ·refine ⟨_, cap, h1, h2, h3, .inr ⟨b, 0, rfl, X3t xs 0 hr.1 fun i d hd => ?_⟩⟩
  obtain ⟨hl, hrr⟩ := X2D h7
  obtain ⟨u, hu, hsu⟩ := hrr i d hd
  refine ⟨u, ?_, D.rep_mono hM _ _ hsu⟩
  rw [hc b _ ⟨_, _, _, h1, rfl⟩, cell_of_row w _ _ vs e fr h4, Nat.zero_add]
  rw [List.getElem?_take] at hu
  split at hu
  ·simpa using hu
  ·simp at hu
open Classical in
noncomputable def Vj (g : Gh) (w : World) (x : AObj) (γ : Nat) : Mem := fun p => if p.spot = none ∧ XN g x γ p.block then w.cell? p else g.M p
theorem XbQ {E : Env} {S : St} {g : Gh} {w : World} (hi : Inv E S.obj g w) {γ sz : Nat} {xs : List (List D)} (hrep : (D.sl sz xs).rep (Vj g w (S.obj γ) γ) (g.hd γ)) :
  Yk g.M (Vj g w (S.obj γ) γ) ∧ Inv E (Xl .dead ((γ, .froz sz xs) :: S.L)) { g with M := Vj g w (S.obj γ) γ } w := by
 have hle : Yk g.M (Vj g w (S.obj γ) γ) := by
  intro a v h
  unfold Vj
  rw [if_neg (fun hc => hi.sep γ _ hc.2 a v h rfl)]; exact h
 refine ⟨hle, ?_⟩
 have hM' : ∀ a v, Vj g w (S.obj γ) γ a = some v → g.M a = some v ∨ (w.cell? a = some v ∧ XN g (S.obj γ) γ a.block) := by
  intro a v h
  unfold Vj at h
  split at h
  ·rename_i hc; exact .inr ⟨h, hc.2⟩
  ·exact .inl h
 have hlook : ∀ k, Xl .dead ((γ, .froz sz xs) :: S.L) k = if k = γ then .froz sz xs else S.obj k := by
  intro k
  by_cases hk : k = γ
  ·subst hk; rw [Ys, if_pos rfl]
  ·rw [Yq _ _ _ (Ne.symm hk), if_neg hk]; rfl
 have hlv : ∀ k b, XN { g with M := Vj g w (S.obj γ) γ } (Xl .dead ((γ, .froz sz xs) :: S.L) k) k b → k ≠ γ ∧ XN g (S.obj k) k b := by
  intro k b h
  rw [hlook] at h
  by_cases hk : k = γ
  ·rw [if_pos hk] at h; exact h.elim
  ·rw [if_neg hk] at h
   refine ⟨hk, ?_⟩
   rwa [X1f (g := g) (g' := { g with M := Vj g w (S.obj γ) γ }) rfl rfl rfl] at h
 refine ⟨fun k => ?_, fun k k' b h h' => hi.inj k k' b (hlv _ _ h).2 (hlv _ _ h').2, fun a v h => ?_, fun k b h a v ha => ?_, fun k b h => hi.new k b (hlv _ _ h).2, hi.ext.trans hle, fun a v h => ?_, hi.frame, hi.size, hi.os, hi.out, fun k hk => (hi.kp k hk).trans' (Gh.keeps_of rfl rfl rfl)⟩
 ·rw [hlook]
  by_cases hk : k = γ
  ·subst hk; rw [if_pos rfl]; exact hrep
  ·rw [if_neg hk]; exact X6S (g := g) (g' := { g with M := Vj g w (S.obj γ) γ }) hle rfl rfl rfl (fun _ _ => rfl) (hi.obj k)
 ·rcases hM' a v h with h1 | h1
  ·exact hi.mem a v h1
  ·exact h1.1
 ·obtain ⟨hk, hb⟩ := hlv k b h
  rcases hM' a v ha with h1 | h1
  ·exact hi.sep k b hb a v h1
  ·intro e
   rw [e] at h1
   exact hk (hi.inj _ _ _ hb h1.2)
 ·rcases hM' a v h with h1 | h1
  ·exact hi.lim a v h1
  ·exact .inr (hi.new γ _ h1.2)
theorem Xdy {S : St} (γ : Nat) {isz : Nat} {rows : List (List (List D))} (hL : S.obj γ = .mat isz rows) : S.le (S.own γ (.froz 1 (rows.map fun r => [.sl isz r]))) := by
 rintro E a w ⟨g, hs⟩
 have ho := hs.1.obj γ
 rw [hL] at ho
 have hle : Yk g.M (Vj g w (S.obj γ) γ) := by
  intro a v h
  unfold Vj
  rw [if_neg (fun hc => hs.1.sep γ _ hc.2 a v h rfl)]; exact h
 have hcell : ∀ b o, XN g (S.obj γ) γ b → Vj g w (S.obj γ) γ ⟨b, o, none⟩ = w.cell? ⟨b, o, none⟩ := by
  intro b o hb
  unfold Vj
  rw [if_pos ⟨rfl, hb⟩]
 have hrep : (D.sl 1 (rows.map fun r => [D.sl isz r])).rep (Vj g w (S.obj γ) γ) (g.hd γ) := by
  obtain ⟨h1, h2, h3⟩ := ho
  simp only [D.rep, List.length_map]
  rcases h1 with ⟨e, rfl⟩ | ⟨b, cap, vs, e, fr, k1, k2, k3, k4, k5, k6, k7, k8⟩
  ·exact ⟨none, 0, e, by simp, by simp, by simp⟩
  ·refine ⟨_, cap, k1, k2, k3, .inr ⟨b, 0, rfl, X3t _ 0 (by simp) fun i d hd => ?_⟩⟩
   have hfl : (rows.map fun r => [D.sl isz r]).flatten = rows.map fun r => D.sl isz r := by
    clear hd h2 h3 k1 k2 k7 k8 hL; induction rows with
    | nil => rfl
    | cons r rs ih => simp [ih]
   rw [hfl, List.getElem?_map, Option.map_eq_some_iff] at hd
   obtain ⟨r, hr, rfl⟩ := hd
   have hi : i < rows.length := (List.getElem?_eq_some_iff.1 hr).1
   refine ⟨g.ihd γ i, ?_, XbU (h2 i r hr) hle (fun b' o hb' => hcell b' o (by rw [hL]; exact .inr ⟨i, hi, hb'⟩))⟩
   rw [hcell b _ (by rw [hL]; exact .inl ⟨_, _, _, k1, rfl⟩), cell_of_row w _ _ vs e fr k4, Nat.zero_add]
   exact k7 i hi
 obtain ⟨_, hi⟩ := XbQ hs.1 hrep
 exact X17 hs hi rfl fun t => X1k (g := g) (g' := { g with M := Vj g w (S.obj γ) γ }) hle rfl rfl rfl (hs.2.2.2 t)
section
variable {P : Program} {ops : Array Oper} {draw : Bool} {K : St → Prop} {rest : List Oper} {l : Yb} {S : St}
variable {d : Nat} {ty : TypeId} {pos : String} {aft : Array Edge} {gd : Option (Nat × Bool)}
theorem XhG {T : TypeId} {len sz γ : Nat} {parts : Array (Nat × Operand)} {pl : List (Nat × Operand)} {zs : List Value} {ps : List (Nat × AVal)} {out : List AVal} (hpl : parts.toList = pl)
  (hps : evL S pl = ps) (hz : V0 P T = some zs) (hS : zs.length = sz) (hT : Yh P T sz = true) (hz1 : Um (Yw zs len) = true) (hsmall : Nat.ble (len * sz) 16777216 = true)
  (hout : VX (fun i => some (i * sz, sz)) (dvL (Yw zs len)) ps = some out) (hc : Vz out = true) (hm : U3 γ out = false) (hdead : S.obj γ = .dead) (hf : S.free γ = true) (hd : Nat.blt d S.n = true) (hg : Xe ops S gd)
  (h : Walk P ops draw K rest ((l.length, ⟨some d, .buildSlice T len parts, ty, pos, aft, gd⟩, ⟨Xd ops gd ++ Uz pl ps, some (d, .bsl γ len), [(γ, .dead)], [(γ, .box out)], [γ]⟩) :: l) ((S.set d (.bsl γ len)).own γ (.box out))) :
  Walk P ops draw K (⟨some d, .buildSlice T len parts, ty, pos, aft, gd⟩ :: rest) l S := by
 have hkeys : ps.map (·.1) = pl.map (·.1) := by rw [← hps]; exact X4t S pl
 have hrd : VA S (Uz pl ps) := by rw [← hps]; exact X3Y S pl
 refine XG ⟨Uz pl ps, some (d, .bsl γ len), [(γ, .dead)], [(γ, .box out)], [γ]⟩ (X0z rfl fun E S g a w hs hq hl hn => ?_) hg ⟨hrd, ⟨hdead, trivial⟩, ⟨hf, trivial⟩, hd⟩ h
 obtain ⟨us, k1, k2⟩ := X3M (vs := (Yw zs len).toArray) hkeys hq (by simpa using X2T hz1) hout
 have hsm : len * sz ≤ 16777216 := by simpa using hsmall
 obtain ⟨e, he⟩ := X9B (P := P) (T := T) (len := len) (parts := parts.map fun p => (p.1, a.eval p.2)) hT hz hS hsm (by
  have : (parts.map fun p => (p.1, a.eval p.2)).toList = pl.map fun p => (p.1, a.eval p.2) := by simp [hpl]
  rw [this]; exact k1) w
 refine ⟨.slice (some ⟨w.heap.size, 0, none⟩) len len, X09 g w γ, w.alloc (.cells us e), by simp only [execOp, Sem.run_bind, he]; rfl, by simp [AVal.sat, X09, Gh.put], X6a hs.1 γ hn.1 hl.1 e k2 hm ((X1P _).1 hc), X0u hn.1 hs.2.2.2⟩
end
def Gh.reinn (g : Gh) (γ i : Nat) (h v : Value) : Gh := { blk := g.blk, hd := fun k => if k = γ then h else g.hd k, ihd := fun k j => if k = γ ∧ j = i then v else g.ihd k j, M := g.M }
theorem Xhr {P : Program} {E : Env} {S : St} {g : Gh} {a : Act} {w : World} (hs : Vt E S g a w) {γ β γ2 isz bytes n : Nat} {rows : List (List (List D))} {r : List (List D)} (hL : S.obj γ = .mat isz rows) (hβ : S.obj β = .box [.own γ2 n])
  (h2 : S.obj γ2 = .row isz r) (hn : n = r.length) {T T2 ty : TypeId} (hT : Us P T 1 bytes = true) (hT2 : X0K P T2 = true) (hb0 : bytes ≠ 0) (hroom : (rows.length + 1) * bytes ≤ 2 ^ 47) :
  ∃ v g' w', (Builtin.append_ #[T, T2] ty #[g.hd γ, .slice (some ⟨g.blk β, 0, none⟩) 1 1]).run P w = .ok v w' ∧ (AVal.own γ (rows.length + 1)).sat g' v ∧
   Inv E (Xl .dead ((γ, .mat isz (rows ++ [r])) :: (γ2, .dead) :: S.L)) g' w' ∧ ∀ t, (S.get t).sat g' (a.tmps.getD t undef) := by
 obtain ⟨e, i, z, hu, hi, hsz, hbt, hz, hzs, hz1⟩ := X2S hT
 have hsrcT := X8H hT2
 have hne : γ2 ≠ γ := by intro e; rw [e, hL] at h2; cases h2
 have hob := hs.1.obj β
 rw [hβ] at hob
 obtain ⟨bv, be, bfr, hb1, hb2, hb3, hb4⟩ := hob
 obtain ⟨v0, hv0, hsv0⟩ := UP hb3 0 _ rfl
 have hbl := YX hb3
 have hro := hs.1.obj γ2
 rw [h2] at hro
 have hv0e : v0 = g.hd γ2 := X15 hsv0 hro hn
 subst hv0e
 have hbv : bv = #[g.hd γ2] := by
  apply Array.ext'
  cases hbt' : bv.toList with
  | nil => rw [hbt'] at hbl; simp at hbl
  | cons x xs =>
   rw [hbt'] at hbl hv0
   simp at hbl hv0
   subst hbl; rw [hv0]
 have hv1 : (g.hd γ2).oneCell' = true := AVal.sat_one rfl hsv0
 have hsrc : Src P w 1 (.slice (some ⟨g.blk β, 0, none⟩) 1 1) 1 #[g.hd γ2] := by
  refine ⟨fun w' hw' => ⟨by simp [Builtin.lenOf], ?_⟩, by simp⟩
  have := run_loadCells_list (P := P) w' ⟨g.blk β, 0, none⟩ [g.hd γ2] (fun j v hv => by
   rw [YH, cell_of_row w' _ _ bv be bfr (by rw [hw']; exact hb1), hbv]
   simpa using hv)
  simpa [Builtin.firstCells] using this
 have hi1 : Inv E (Xl .dead ((γ2, .dead) :: S.L)) g w := hs.1.sub fun k => by
  by_cases hk : k = γ2
  ·subst hk; rw [Ys]; exact .inr rfl
  ·rw [Yq _ _ _ (Ne.symm hk)]; exact .inl rfl
 have hL1 : Xl .dead ((γ2, .dead) :: S.L) γ = .mat isz rows := by rw [Yq _ _ _ hne]; exact hL
 have ho := hs.1.obj γ
 rw [hL] at ho
 obtain ⟨ho, hin, hdist⟩ := ho
 have hfree : ∀ c, UK (g.hd γ2) c → (∀ k, ¬ XN g (Xl .dead ((γ2, .dead) :: S.L) k) k c) ∧ (∀ a v, g.M a = some v → a.block ≠ c) ∧ (E.W.heap.size ≤ c ∨ E.A c) := by
  intro c hc
  have hl2 : XN g (S.obj γ2) γ2 c := by rw [h2]; exact hc
  refine ⟨fun k hk => ?_, fun a v ha => hs.1.sep γ2 c hl2 a v ha, hs.1.new γ2 c hl2⟩
  by_cases hkγ : k = γ2
  ·subst hkγ; rw [Ys] at hk; exact hk
  ·rw [Yq _ _ _ (Ne.symm hkγ)] at hk
   exact hkγ (hs.1.inj _ _ _ hk hl2)
 have fin : ∀ (a0 : Option Addr) (c0 b cap' : Nat) (vs' : Array Value) (e' : TypeId) (fr : Nat × Nat) (w' : World),
   g.hd γ = .slice a0 rows.length c0 →
   (∀ k, k < w.heap.size → ¬ UK (g.hd γ) k → w'.heap[k]? = w.heap[k]?) → w.heap.size ≤ w'.heap.size → w'.os = w.os → w'.output = w.output →
   w'.heap[b]? = some (.cells vs' e' fr) → X1q fr vs'.size → rows.length + 1 ≤ cap' → cap' ≤ maxLen → cap' ≤ vs'.size →
   (∀ j, j < rows.length → vs'[j]? = some (g.ihd γ j)) → vs'[rows.length]? = some (g.hd γ2) → (UK (g.hd γ) b ∨ w.heap.size ≤ b) →
   let g' := g.reinn γ rows.length (.slice (some ⟨b, 0, none⟩) (rows.length + 1) cap') (g.hd γ2)
   (AVal.own γ (rows.length + 1)).sat g' (.slice (some ⟨b, 0, none⟩) (rows.length + 1) cap') ∧
   Inv E (Xl .dead ((γ, .mat isz (rows ++ [r])) :: (γ2, .dead) :: S.L)) g' w' ∧ ∀ t, (S.get t).sat g' (a.tmps.getD t undef) := by
  intro a0 c0 b cap' vs' e' fr w' hhd hheap hsize hos hout hb hth hcap hmax hcs hcells hlast hlv g'
  have hk : ∀ k, g.keeps g' k := by
   intro k
   by_cases hkγ : k = γ
   ·subst hkγ
    refine ⟨rfl, .inr ⟨a0, _, c0, some ⟨b, 0, none⟩, rows.length + 1, cap', hhd, by simp [g', Gh.reinn], by omega⟩, fun j a m c he hj => ?_⟩
    rw [hhd] at he; cases he
    simp [g', Gh.reinn, show j ≠ rows.length by omega]
   ·exact Gh.keeps_of rfl (by simp [g', Gh.reinn, hkγ]) (by funext j; simp [g', Gh.reinn, hkγ])
  have hM : Yk g.M g'.M := Yk.refl _
  have hih : ∀ j, j < rows.length → g'.ihd γ j = g.ihd γ j := fun j hj => by simp [g', Gh.reinn, show j ≠ rows.length by omega]
  have hihl : g'.ihd γ rows.length = g.hd γ2 := by simp [g', Gh.reinn]
  have hold : ∀ c, (∃ j, j < rows.length ∧ UK (g.ihd γ j) c) → w'.heap[c]? = w.heap[c]? ∧ ¬ UK (g.hd γ) c := by
   rintro c ⟨j, hj, hc⟩
   have hnb : ¬ UK (g.hd γ) c := by
    rcases ho with ⟨_, he⟩ | ⟨b', cap, vs, e'', fr', q1, _, _, _, _, _, _, q8⟩
    ·rw [he] at hj; simp at hj
    ·rintro ⟨a1, n1, c1, e1, rfl⟩
     rw [q1] at e1; cases e1
     exact q8 j hj hc
   exact ⟨hheap c (X2e (hin j _ (List.getElem?_eq_getElem hj)) hc) hnb, hnb⟩
  have hnew2 : ∀ c, UK (g.hd γ2) c → w'.heap[c]? = w.heap[c]? ∧ ¬ UK (g.hd γ) c := by
   intro c hc
   have hnb : ¬ UK (g.hd γ) c := fun h => (hfree c hc).1 γ (by rw [hL1]; exact .inl h)
   exact ⟨hheap c (X2e hro hc) hnb, hnb⟩
  refine ⟨?_, ?_, fun t => AVal.sat_mono hM _ _ (fun k _ => hk k) (hs.2.2.2 t)⟩
  ·simp only [AVal.sat]
   exact ⟨rfl, some ⟨b, 0, none⟩, rows.length + 1, cap', by simp [g', Gh.reinn], Nat.le_refl _, fun _ => rfl⟩
  ·refine Inv.updX hi1 γ _ (Ys _ _ _ _) (fun k hkγ => Yq _ _ _ (Ne.symm hkγ)) (fun k hkl hnl => hheap k hkl (fun h => hnl (by rw [hL1]; exact .inl h))) hsize hos hout rfl
    (fun k hkγ => ⟨rfl, by simp [g', Gh.reinn, hkγ], by funext j; simp [g', Gh.reinn, hkγ]⟩)
    (fun k cs us _ _ h => VQ hM _ _ (fun k _ => hk k) h) ?_ (fun c hc => ?_) (fun _ => hk γ)
   ·refine ⟨.inr ⟨b, cap', vs', e', fr, by simp [g', Gh.reinn], by simpa using hcap, hmax, hb, hth, hcs, fun j hj => ?_, fun j hj hjb => ?_⟩, fun j q hq => ?_, fun j k c hj hk' hjc hkc => ?_⟩
    ·simp at hj
     by_cases hjl : j < rows.length
     ·rw [hih j hjl]; exact hcells j hjl
     ·have : j = rows.length := by omega
      subst this; rw [hihl]; exact hlast
    ·simp at hj
     by_cases hjl : j < rows.length
     ·rw [hih j hjl] at hjb
      obtain ⟨_, q2⟩ := hold b ⟨j, hjl, hjb⟩
      rcases hlv with h | h
      ·exact q2 h
      ·have := X2e (hin j _ (List.getElem?_eq_getElem hjl)) hjb; omega
     ·have : j = rows.length := by omega
      subst this; rw [hihl] at hjb
      obtain ⟨_, q2⟩ := hnew2 b hjb
      rcases hlv with h | h
      ·exact q2 h
      ·have := X2e hro hjb; omega
    ·by_cases hjl : j < rows.length
     ·rw [List.getElem?_append_left hjl] at hq
      rw [hih j hjl]
      exact X3K hM (fun c hc => (hold c ⟨j, hjl, hc⟩).1) (hin j q hq)
     ·have hjr : j = rows.length := by
       have := (List.getElem?_eq_some_iff.1 hq).1; simp at this; omega
      subst hjr
      simp at hq; subst hq
      rw [hihl]
      exact X3K hM (fun c hc => (hnew2 c hc).1) hro
    ·simp at hj hk'
     by_cases hjl : j < rows.length <;> by_cases hkl : k < rows.length
     ·rw [hih j hjl] at hjc; rw [hih k hkl] at hkc
      exact hdist j k c hjl hkl hjc hkc
     ·have : k = rows.length := by omega
      subst this
      rw [hih j hjl] at hjc; rw [hihl] at hkc
      exact ((hfree c hkc).1 γ (by rw [hL1]; exact .inr ⟨j, hjl, hjc⟩)).elim
     ·have : j = rows.length := by omega
      subst this
      rw [hih k hkl] at hkc; rw [hihl] at hjc
      exact ((hfree c hjc).1 γ (by rw [hL1]; exact .inr ⟨k, hkl, hkc⟩)).elim
     ·omega
   ·rw [hL1]
    rcases hc with hc | ⟨j, hj, hc⟩
    ·simp only [g', Gh.reinn, if_true] at hc
     obtain ⟨a1, n1, c1, e1, rfl⟩ := hc
     cases e1
     rcases hlv with h | h
     ·exact .inl (.inl h)
     ·exact .inr (.inl h)
    ·simp at hj
     by_cases hjl : j < rows.length
     ·rw [hih j hjl] at hc
      exact .inl (.inr ⟨j, hjl, hc⟩)
     ·have : j = rows.length := by omega
      subst this; rw [hihl] at hc
      obtain ⟨q1, q2, q3⟩ := hfree c hc
      exact .inr (.inr ⟨fun k _ => q1 k, q2, q3⟩)
 have hneed : rows.length + 1 < 2 ^ 63 := by
  have : rows.length + 1 ≤ (rows.length + 1) * bytes := Nat.le_mul_of_pos_right _ (by omega)
  omega
 have hgrowcap : ∀ cap, rows.length + 1 > cap → Builtin.nextslicecap (rows.length + 1) cap * i.bytes ≤ 2 ^ 48 := by
  intro cap hc
  have h1 := nextslicecap_le (need := rows.length + 1) (old := cap) hc
  have h2 : Builtin.nextslicecap (rows.length + 1) cap * i.bytes ≤ 2 * (rows.length + 1) * i.bytes := Nat.mul_le_mul_right _ h1
  rw [hbt] at h2 ⊢
  have h3 : 2 * (rows.length + 1) * bytes = 2 * ((rows.length + 1) * bytes) := Nat.mul_assoc _ _ _
  omega
 have grow : ∀ (base : Option Addr) (c0 : Nat) (olds : Array Value), g.hd γ = .slice base rows.length c0 → ¬ rows.length + 1 ≤ c0 → (∀ w' : World, w'.heap = w.heap → (Builtin.firstCells i.size rows.length (.slice base rows.length c0)).run P w' = .ok olds w') →
   olds.size = rows.length → (∀ j, j < rows.length → olds[j]? = some (g.ihd γ j)) →
   ∃ v g' w', (Builtin.append_ #[T, T2] ty #[g.hd γ, .slice (some ⟨g.blk β, 0, none⟩) 1 1]).run P w = .ok v w' ∧ (AVal.own γ (rows.length + 1)).sat g' v ∧
    Inv E (Xl .dead ((γ, .mat isz (rows ++ [r])) :: (γ2, .dead) :: S.L)) g' w' ∧ ∀ t, (S.get t).sat g' (a.tmps.getD t undef) := by
  intro base c0 olds hhd hc hfc hosz hol
  have hr := X3W (P := P) (w := w) (T := T) (T2 := T2) (ty := ty) (base := base) (n := rows.length) (cap := c0) (m := 1) (olds := olds) (news := #[g.hd γ2]) hu hi hz hsrcT (by rw [hbt]; exact hb0)
   (by rw [hsz]; exact hsrc) hfc hc (hgrowcap c0 (by omega))
  obtain ⟨c1, c2⟩ := X4q (rows.length + 1) c0 e (w.tape w.drawn (.appendCap (rows.length + 1) c0 e)) hneed
  revert hr c1 c2
  generalize (Question.appendCap (rows.length + 1) c0 e).cut (w.tape w.drawn (.appendCap (rows.length + 1) c0 e)) = nc
  intro hr c1 c2
  have := fin base c0 w.heap.size nc (olds ++ #[g.hd γ2] ++ Builtin.zeroCells z.cells (nc - (rows.length + 1))) e (0, 0) _ hhd
   (fun k hk _ => X16 w.drew _ k hk) (X2x w.drew _) rfl rfl (heap_alloc_new w.drew _) (X1w _) c1 c2
   (by rw [Array.size_append, Array.size_append, X4B, hosz, hzs]; simp; omega)
   (fun j hj => by rw [Array.append_assoc, Array.getElem?_append_left (by omega)]; exact hol j hj)
   (by rw [Array.append_assoc, Array.getElem?_append_right (by omega), hosz, Nat.sub_self]; rw [Array.getElem?_append_left (by simp)]; rfl) (.inr (Nat.le_refl _))
  exact ⟨_, _, _, by rw [hhd]; exact hr, this⟩
 rcases ho with ⟨hnil, rfl⟩ | ⟨b, cap, vs, e', fr, h1, h2', h3, h4, h5, h6, h7, h8⟩
 ·exact grow none 0 #[] hnil (by simp) (fun w' _ => by simp [Builtin.firstCells]) rfl (by simp)
 ·by_cases hc : rows.length + 1 ≤ cap
  ·have hr := X4x (P := P) (w := w) (T := T) (T2 := T2) (ty := ty) (base := some ⟨b, 0, none⟩) (n := rows.length) (cap := cap) (m := 1) (news := #[g.hd γ2]) hu hi hsrcT (by rw [hsz]; exact hsrc) hc
   obtain ⟨vs', k1, k2⟩ := X2A (P := P) b e' fr vs.size h5 [g.hd γ2] rows.length 0 vs w h4 rfl (by simp; omega) (by simpa using hv1)
   simp only [Nat.add_zero, List.length_singleton] at k2
   simp only at hr
   rw [show (⟨b, 0, none⟩ : Addr).add (rows.length * i.size) = ⟨b, rows.length, none⟩ by rw [YH, hsz]; simp] at hr
   simp only [k1, Result.andThen_ok] at hr
   have hvs' : vs'.size = vs.size := by
    have := congrArg List.length k2
    simp at this; omega
   have hat : ∀ j, vs'[j]? = (vs.toList.take rows.length ++ [g.hd γ2] ++ vs.toList.drop (rows.length + 1))[j]? := fun j => by rw [← k2]; exact Array.getElem?_toList.symm
   have := fin (some ⟨b, 0, none⟩) cap b cap vs' e' fr (w.setRow b vs') h1
    (fun k hk hne => setRow_other w b k vs' (fun e => hne (by rw [e]; exact ⟨_, _, _, h1, rfl⟩))) (by simp) rfl rfl (setRow_heap w b vs _ e' fr h4) (by rw [hvs']; exact h5) hc h3 (by rw [hvs']; exact h6)
    (fun j hj => by
     rw [hat, List.append_assoc, List.getElem?_append_left (by simp; omega), List.getElem?_take, if_pos hj]
     have := h7 j hj
     simpa using this)
    (by
     have hl : (vs.toList.take rows.length).length = rows.length := by simp; omega
     rw [hat, List.append_assoc, List.getElem?_append_right (by omega), hl]; simp) (.inl ⟨_, _, _, h1, rfl⟩)
   exact ⟨_, _, _, by rw [h1]; exact hr, this⟩
  ·refine grow (some ⟨b, 0, none⟩) cap (vs.toList.take rows.length).toArray h1 hc (fun w' hw' => ?_) (by simp; omega) (fun j hj => ?_)
   ·have hl : (vs.toList.take rows.length).length = rows.length := by simp; omega
    have := run_loadCells_list (P := P) w' ⟨b, 0, none⟩ (vs.toList.take rows.length) (fun j v hv => by
     rw [YH, cell_of_row w' _ _ vs e' fr (by rw [hw']; exact h4)]
     rw [List.getElem?_take] at hv
     split at hv
     ·simpa using hv
     ·simp at hv)
    rw [hl] at this
    simp only [Builtin.firstCells, hsz, Nat.mul_one]
    exact this
   ·have := h7 j hj
    simp [hj]
    simpa using this
theorem XdV {g : Gh} {w : World} {γ isz : Nat} {rows : List (List (List D))} (h : Uf g w γ (.mat isz rows)) : ∃ b c, g.hd γ = .slice b rows.length c := by
 rcases h.1 with ⟨e, rfl⟩ | ⟨b, cap, vs, e', fr, e, _⟩
 ·exact ⟨_, _, e⟩
 ·exact ⟨_, _, e⟩
theorem Xbx {g : Gh} {γ n isz : Nat} {rows : List (List (List D))} {v : Value} {w : World} (h : (AVal.own γ n).sat g v) (ho : Uf g w γ (.mat isz rows)) (hn : n = rows.length) : v = g.hd γ := by
 simp only [AVal.sat] at h
 obtain ⟨_, a, m, c, h1, h2, h3⟩ := h
 obtain ⟨b, c', e⟩ := XdV ho
 rw [e] at h1; cases h1
 rw [h3 hn, e]
section
variable {P : Program} {ops : Array Oper} {draw : Bool} {K : St → Prop} {rest : List Oper} {l : Yb} {S : St}
variable {d : Nat} {ty : TypeId} {pos : String} {aft : Array Edge} {gd : Option (Nat × Bool)}
theorem Xf9 {x y : Operand} {T T2 : TypeId} {γ β γ2 n n2 isz bytes : Nat} {rows : List (List (List D))} {r : List (List D)} (hx : S.ev x = .own γ n) (hL : S.obj γ = .mat isz rows) (hy : S.ev y = .bsl β 1) (hβ : S.obj β = .box [.own γ2 n2]) (h2 : S.obj γ2 = .row isz r)
  (hn : n = rows.length) (hn2 : n2 = r.length) (hB : elB P T = bytes) (hT : Us P T 1 bytes = true) (hT2 : X0K P T2 = true) (hb0 : Nat.beq bytes 0 = false) (hroom : (rows.length + 1) * bytes ≤ 140737488355328)
  (hd : Nat.blt d S.n = true) (hg : Xe ops S gd)
  (h : Walk P ops draw K rest ((l.length, ⟨some d, .call ⟨.builtin .append, #[x, y], #[T, T2]⟩, ty, pos, aft, gd⟩, ⟨Xd ops gd ++ [(x, .own γ n), (y, .bsl β 1)], some (d, .own γ (rows.length + 1)), [(γ, .mat isz rows), (β, .box [.own γ2 n2]), (γ2, .row isz r)], [(γ, .mat isz (rows ++ [r])), (γ2, .dead)], []⟩) :: l)
   (((S.set d (.own γ (rows.length + 1))).own γ2 .dead).own γ (.mat isz (rows ++ [r])))) :
  Walk P ops draw K (⟨some d, .call ⟨.builtin .append, #[x, y], #[T, T2]⟩, ty, pos, aft, gd⟩ :: rest) l S := by
 refine XG ⟨[(x, .own γ n), (y, .bsl β 1)], some (d, .own γ (rows.length + 1)), [(γ, .mat isz rows), (β, .box [.own γ2 n2]), (γ2, .row isz r)], [(γ, .mat isz (rows ++ [r])), (γ2, .dead)], []⟩ ?_ hg ⟨⟨hx, hy, trivial⟩, ⟨hL, hβ, h2, trivial⟩, trivial, hd⟩ h
 intro E S a w g hs hok Q K hK
 obtain ⟨ok1, ⟨l1, l2, l3, _⟩, _, ok4⟩ := hok
 have hq := VO hs _ ok1
 have ho := hs.1.obj γ
 rw [l1] at ho
 have hv := Xbx hq.1 ho hn
 have hy' : a.eval y = .slice (some ⟨g.blk β, 0, none⟩) 1 1 := by have := hq.2.1; simpa only [AVal.sat] using this
 obtain ⟨v, g', w', r1, r2, r3, r4⟩ := Xhr hs l1 l2 l3 hn2 (ty := ty) hT hT2 (X1M hb0) (by simpa using hroom)
 have hrun := X3B (P := P) (ρ := a.eval) (o := ⟨some d, .call ⟨.builtin .append, #[x, y], #[T, T2]⟩, ty, pos, aft, gd⟩) rfl (by rw [hv, hy']; exact r1)
 unfold Oper.wp
 rw [hrun, Oper.upon_value]
 exact hK _ _ (VL r3 hs.2.1 hs.2.2.1 r4 r2 ok4)
theorem Xcy {x i : Operand} {T : TypeId} {isz γ n k : Nat} {kd : IntKind} {m : Int} {rows : List (List (List D))} (hx : S.ev x = .own γ n) (hL : S.obj γ = .mat isz rows) (hi : S.ev i = .d (.v (.int kd m))) (hn : n = rows.length) (hk : m = (k : Nat)) (hlt : k < rows.length)
  (hT : Yh P T 1 = true) (hd : Nat.blt d S.n = true) (hg : Xe ops S gd)
  (h : Walk P ops draw K rest ((l.length, ⟨some d, .indexAddr T x i, ty, pos, aft, gd⟩, ⟨Xd ops gd ++ [(x, .own γ n), (i, .d (.v (.int kd m)))], some (d, .mptr γ n k), [(γ, .mat isz rows)], [], []⟩) :: l) (S.set d (.mptr γ n k))) :
  Walk P ops draw K (⟨some d, .indexAddr T x i, ty, pos, aft, gd⟩ :: rest) l S :=
 XG ⟨[(x, .own γ n), (i, .d (.v (.int kd m)))], some (d, .mptr γ n k), [(γ, .mat isz rows)], [], []⟩ (Yo rfl fun E S g a w hs hq hl => by
  obtain ⟨e, h1, h2, h3⟩ := VY hT
  have ho := hs.1.obj γ
  rw [hl.1] at ho
  have hv := Xbx hq.1 ho hn
  rcases ho.1 with ⟨e, rfl⟩ | ⟨b, cap, vs, e', fr, hh, _⟩
  ·simp at hlt
  ·rw [hh] at hv
   refine ⟨.pointer (some ⟨b, k, none⟩), ?_, ?_⟩
   ·have hb : (0 : Int) ≤ m ∧ m < (rows.length : Int) := by omega
    have hm : m.toNat = k := by omega
    have := run_indexAt_slice (P := P) w T ⟨b, 0, none⟩ rows.length cap kd m (by rw [h3]; exact h1)
    rw [if_pos hb, h3, h2 w, Result.andThen_ok, YH, hm, Nat.mul_one, Nat.zero_add] at this
    simp only [execOp, hv, Yt hq.2.1, Sem.run_bind, this]; rfl
   ·simp only [AVal.sat]
    exact ⟨rfl, _, _, _, hh, by omega, fun _ => ⟨_, rfl, rfl⟩⟩) hg ⟨⟨hx, hi, trivial⟩, ⟨hL, trivial⟩, trivial, hd⟩ h
theorem XhJ {t : TypeId} {x : Operand} {isz γ n k : Nat} {rows : List (List (List D))} (hx : S.ev x = .mptr γ n k) (hL : S.obj γ = .mat isz rows) (hn : n = rows.length) (hlt : k < rows.length)
  (ht : Up P t false 1 = true) (hd : Nat.blt d S.n = true) (hg : Xe ops S gd)
  (h : Walk P ops draw K rest ((l.length, ⟨some d, .load t x, ty, pos, aft, gd⟩, ⟨Xd ops gd ++ [(x, .mptr γ n k)], some (d, .inn γ k), [(γ, .mat isz rows)], [], []⟩) :: l) (S.set d (.inn γ k))) :
  Walk P ops draw K (⟨some d, .load t x, ty, pos, aft, gd⟩ :: rest) l S :=
 XG ⟨[(x, .mptr γ n k)], some (d, .inn γ k), [(γ, .mat isz rows)], [], []⟩ (Yo rfl fun E S g a w hs hq hl => by
  have ho := hs.1.obj γ
  rw [hl.1] at ho
  have hq1 := hq.1
  simp only [AVal.sat] at hq1
  obtain ⟨_, a', m, c, q1, q2, q3⟩ := hq1
  rcases ho.1 with ⟨e, rfl⟩ | ⟨b, cap, vs, e', fr, hh, k2, k3, k4, k5, k6, k7, k8⟩
  ·simp at hlt
  ·rw [hh] at q1; cases q1
   obtain ⟨b', e1, e2⟩ := q3 hn
   cases e1
   have hc : w.cell? ⟨b, k, none⟩ = some (g.ihd γ k) := by rw [cell_of_row w _ _ vs e' fr k4]; exact k7 k hlt
   have hone : (g.ihd γ k).oneCell' = true := by
    have := (ho.2.1 k _ (List.getElem?_eq_getElem hlt)).2
    rcases this with ⟨e, _⟩ | ⟨_, _, _, _, _, e, _⟩ <;> rw [e] <;> rfl
   refine ⟨g.ihd γ k, ?_, by simp only [AVal.sat, true_and]; exact ⟨hone, _, _, _, hh, hlt⟩⟩
   simp [execOp, e2, Instr.loadAt, Instr.sureAddr, X3x ht hc]) hg ⟨⟨hx, trivial⟩, ⟨hL, trivial⟩, trivial, hd⟩ h
theorem X6H {P : Program} {E : Env} {L : Nat → AObj} {g : Gh} {w : World} (hi : Inv E L g w) {sz m : Nat} {ys : List (List D)} {x : Value} (h : (D.sl sz ys).rep g.M x) (hm : m ≤ ys.length) :
  ∃ news, (Builtin.firstCells sz m x).run P w = .ok news w ∧ news.size = m * sz ∧ Xm g ((ys.take m).flatten.map .d) news.toList ∧ (Builtin.lenOf x).run P w = .ok ys.length w ∧ ∀ y ∈ ys.take m, y.length = sz := by
 simp only [D.rep] at h
 obtain ⟨a, cap, rfl, h2, h3, h4⟩ := h
 rcases h4 with rfl | ⟨b, o, rfl, hr⟩
 ·have : m = 0 := by simpa using hm
  subst this
  refine ⟨#[], ?_, by simp, by simp [Xm], by simp [Builtin.lenOf], by simp⟩
  cases a with
  | none => simp [Builtin.firstCells]
  | some a => simp [Builtin.firstCells, loadCells, loadCellsFrom]
 ·have hr' := X34 hr m
  obtain ⟨vs, k1, k2, k3⟩ := X4U hi.mem _ b o hr'
  have hl : ∀ y ∈ ys.take m, y.length = sz := fun y hy => by
   obtain ⟨i, hi⟩ := List.getElem?_of_mem hy
   exact (X1G _ b o i y hr' hi).1
  have hlen : (ys.take m).length = m := by simp; omega
  rw [hlen] at k1
  refine ⟨vs.toArray, ?_, by simp [k1], ?_, by simp [Builtin.lenOf], hl⟩
  ·have := run_loadCells_list (P := P) w ⟨b, o, none⟩ vs (fun j v hv => by rw [YH]; exact k2 j v hv)
   rw [k1] at this
   simp only [Builtin.firstCells]; exact this
  ·refine X14 (by rw [List.length_map, VD _ hl, hlen, ← k1]) fun i z u hz hu => ?_
   simp only [List.getElem?_map, Option.map_eq_some_iff] at hz
   obtain ⟨d, hd, rfl⟩ := hz
   simp only [AVal.sat]
   exact k3 i d u hd (by simpa using hu)
theorem X5H {sz : Nat} : ∀ (zs : List (List D)) (n : Nat), (∀ z ∈ zs, z.length = sz) → n ≤ zs.length → (zs.take n).flatten = zs.flatten.take (n * sz) ∧ (zs.drop n).flatten = zs.flatten.drop (n * sz)
 | [], n, _, hn => by simp at hn; subst hn; simp
 | z :: zs, 0, _, _ => by simp
 | z :: zs, n + 1, hz, hn => by
  have hzl := hz z (by simp)
  obtain ⟨i1, i2⟩ := X5H zs n (fun q hq => hz q (by simp [hq])) (by simpa using hn)
  have e : (n + 1) * sz = z.length + n * sz := by rw [hzl, Nat.add_mul]; omega
  constructor
  ·rw [List.take_succ_cons, List.flatten_cons, List.flatten_cons, i1, e, List.take_length_add_append]
  ·rw [List.drop_succ_cons, List.flatten_cons, i2, e, List.drop_length_add_append]
theorem X7K {α : Type} {A N : List α} {a m L : Nat} (hN : N.length = m) (h1 : a + m ≤ L) (h2 : L ≤ A.length) :
  (A.take a ++ N ++ A.drop (a + m)).take L = (A.take L).take a ++ N ++ (A.take L).drop (a + m) := by
 apply List.ext_getElem?
 intro j
 simp only [List.getElem?_take, List.getElem?_append, List.getElem?_drop, List.length_append, List.length_take, hN]
 have e1 : min a A.length = a := by omega
 have e2 : min a (min L A.length) = a := by omega
 rw [e1, e2]
 by_cases c0 : j < L
 ·by_cases c1 : j < a
  ·simp [c0, c1, show j < a + m by omega]
  ·by_cases c2 : j < a + m
   ·simp [c0, c1, c2]
   ·simp [c0, c2, show a + m + (j - (a + m)) < L by omega]
 ·simp [c0, show ¬ j < a + m by omega, show ¬ a + m + (j - (a + m)) < L by omega]
theorem X3O {P : Program} {g : Gh} {w : World} {h : Value} {sz m k : Nat} {xs ys : List (List D)} (hr : UQ g w h sz xs) (hm : k + m ≤ xs.length) (hyl : ∀ y ∈ ys, y.length = sz) (hym : ys.length = m) {news : Array Value} (hns : news.size = m * sz) (hsat : Xm g (ys.flatten.map .d) news.toList) :
  ∃ w', (match h with | .slice (some a) _ _ => (storeCells (a.add (k * sz)) news.toList).run P w | _ => .ok () w) = .ok () w' ∧ UQ g w' h sz (xs.take k ++ ys ++ xs.drop (k + m)) ∧
   (∀ b, ¬ UK h b → w'.heap[b]? = w.heap[b]?) ∧ w'.heap.size = w.heap.size ∧ w'.os = w.os ∧ w'.output = w.output := by
 have hlen' : ∀ r ∈ xs.take k ++ ys ++ xs.drop (k + m), r.length = sz := by
  intro r hrr
  simp only [List.mem_append] at hrr
  rcases hrr with (h | h) | h
  ·exact hr.1 r (List.mem_of_mem_take h)
  ·exact hyl r h
  ·exact hr.1 r (List.mem_of_mem_drop h)
 have hll : (xs.take k ++ ys ++ xs.drop (k + m)).length = xs.length := by simp [hym]; omega
 rcases hr.2 with ⟨rfl, rfl⟩ | ⟨b, cap, vs, e, fr, rfl, h2, h3, h4, h5, h6, h7⟩
 ·have : m = 0 ∧ k = 0 := by simpa [Nat.add_comm] using hm
  obtain ⟨rfl, rfl⟩ := this
  have : ys = [] := List.eq_nil_of_length_eq_zero hym
  subst this
  exact ⟨w, rfl, ⟨by simp, .inl ⟨rfl, by simp⟩⟩, fun _ _ => rfl, rfl, rfl, rfl⟩
 ·have hfx := VD xs hr.1
  have hfy := VD ys hyl
  have hbnd : k * sz + m * sz ≤ vs.size := by
   rw [← Nat.add_mul]
   exact Nat.le_trans (Nat.mul_le_mul_right _ (Nat.le_trans hm h2)) h6
  obtain ⟨vs', k1, k2⟩ := X2A (P := P) b e fr vs.size h5 news.toList (k * sz) 0 vs w h4 rfl (by simp [hns]; omega) (fun u hu => by
   obtain ⟨j, hj, rfl⟩ := List.getElem_of_mem hu
   have hjl : j < ys.flatten.length := by rw [hfy, hym, ← hns]; simpa using hj
   obtain ⟨_, hrep⟩ := X2D hsat
   obtain ⟨u, hu1, hu2⟩ := hrep j _ (List.getElem?_eq_getElem hjl)
   rw [List.getElem?_eq_getElem hj] at hu1; cases hu1
   exact D.rep_one hu2)
  simp only [Nat.add_zero, Array.length_toList, hns] at k2
  have hvs' : vs'.size = vs.size := by
   have := congrArg List.length k2
   simp [hns] at this; omega
  refine ⟨w.setRow b vs', ?_, ⟨hlen', .inr ⟨b, cap, vs', e, fr, by rw [hll], by rw [hll]; exact h2, h3, setRow_heap w b vs _ e fr h4, by rw [hvs']; exact h5, by rw [hvs']; exact h6, ?_⟩⟩, fun c hc => setRow_other w b c vs' (fun e => hc (by rw [e]; exact ⟨_, _, _, rfl, rfl⟩)), by simp, rfl, rfl⟩
  ·simp only [YH, Nat.zero_add]; exact k1
  ·rw [hll]
   have hxt : (vs.toList.take (xs.length * sz)).length = xs.length * sz := by have := YX h7; simp only [List.length_map, hfx] at this; exact this
   have hle : k * sz + m * sz ≤ xs.length * sz := by rw [← Nat.add_mul]; exact Nat.mul_le_mul_right _ hm
   have e1 : vs'.toList.take (xs.length * sz) = (vs.toList.take (xs.length * sz)).take (k * sz) ++ news.toList ++ (vs.toList.take (xs.length * sz)).drop (k * sz + m * sz) := by
    rw [k2]
    exact X7K (by simp [hns]) hle (by simp at hxt ⊢; omega)
   rw [e1]
   have e2 : (xs.take k ++ ys ++ xs.drop (k + m)).flatten = xs.flatten.take (k * sz) ++ ys.flatten ++ xs.flatten.drop (k * sz + m * sz) := by
    obtain ⟨t1, _⟩ := X5H xs k hr.1 (by omega)
    obtain ⟨_, t2⟩ := X5H xs (k + m) hr.1 hm
    rw [List.flatten_append, List.flatten_append, t1, t2, Nat.add_mul]
   rw [e2, List.map_append, List.map_append, List.map_take, List.map_drop]
   exact X0p (X0p (X1c h7 _) hsat) (X2b h7 _)
theorem X5x {T T2 ty : TypeId} {sz m : Nat} {x y : Value} {news : Array Value} {w w' : World} {a : Option Addr} {n c ylen : Nat} (hT : Yh P T sz = true) (hx : x = .slice a n c) (hl : (Builtin.lenOf y).run P w = .ok ylen w) (hm : m = min ylen n)
  (hf : (Builtin.firstCells sz m y).run P w = .ok news w) (hst : (match x with | .slice (some a) _ _ => (storeCells (a.add (0 * sz)) news.toList).run P w | _ => .ok () w) = .ok () w') :
  (Builtin.copy_ #[T, T2] ty #[x, y]).run P w = .ok (.int .i64 m) w' := by
 obtain ⟨e, h1, h2, _⟩ := VY hT
 subst hx hm
 have hmin : Nat.min ylen n = min ylen n := rfl
 cases a with
 | none =>
  simp only at hst
  cases hst
  simp [Builtin.copy_, run_underlying h1, hl, h2 w, hmin, hf, goInt]
 | some a =>
  simp only [Nat.zero_mul, Addr.add_zero'] at hst
  simp [Builtin.copy_, run_underlying h1, hl, h2 w, hmin, hf, hst, goInt]
theorem Xeu {x y : Operand} {T T2 : TypeId} {γ k isz m : Nat} {rows : List (List (List D))} {r ys : List (List D)} (hx : S.ev x = .inn γ k) (hL : S.obj γ = .mat isz rows) (hr : rows[k]? = some r) (hy : S.ev y = .d (.sl isz ys)) (hm : m = min ys.length r.length)
  (hT : Yh P T isz = true) {d' : Option (Nat × AVal)} (hd : X0R S d') (hd' : d' = none ∨ ∃ t, d' = some (t, ai m)) (hg : Xe ops S gd)
  (h : Walk P ops draw K rest ((l.length, ⟨d'.map (·.1), .call ⟨.builtin .copy, #[x, y], #[T, T2]⟩, ty, pos, aft, gd⟩, ⟨Xd ops gd ++ [(x, .inn γ k), (y, .d (.sl isz ys))], d', [(γ, .mat isz rows)], [(γ, .mat isz (rows.set k (ys.take m ++ r.drop m)))], []⟩) :: l)
   ⟨S.n, d'.toList ++ S.τ, (γ, .mat isz (rows.set k (ys.take m ++ r.drop m))) :: S.L⟩) :
  Walk P ops draw K (⟨d'.map (·.1), .call ⟨.builtin .copy, #[x, y], #[T, T2]⟩, ty, pos, aft, gd⟩ :: rest) l S := by
 refine XG ⟨[(x, .inn γ k), (y, .d (.sl isz ys))], d', [(γ, .mat isz rows)], [(γ, .mat isz (rows.set k (ys.take m ++ r.drop m)))], []⟩ ?_ hg ⟨⟨hx, hy, trivial⟩, ⟨hL, trivial⟩, trivial, hd⟩ h
 intro E S a w g hs hok Q K hK
 obtain ⟨ok1, ⟨l1, _⟩, _, ok4⟩ := hok
 have hq := VO hs _ ok1
 have ho := hs.1.obj γ
 rw [l1] at ho
 have hx' : a.eval x = g.ihd γ k := by have := hq.1; simp only [AVal.sat] at this; exact this.2.1
 have hsy : (D.sl isz ys).rep g.M (a.eval y) := by have := hq.2.1; simpa only [AVal.sat] using this
 have hlt : k < rows.length := (List.getElem?_eq_some_iff.1 hr).1
 have hrow := ho.2.1 k r hr
 obtain ⟨news, n1, n2, n3, n4, n5⟩ := X6H (P := P) hs.1 hsy (m := m) (by omega)
 obtain ⟨w', s1, s2, s3, s4, s5, s6⟩ := X3O (P := P) (k := 0) (m := m) hrow (by omega) n5 (by simp; omega) n2 n3
 simp only [List.take_zero, List.nil_append, Nat.zero_add] at s2
 have hhd : ∃ b c, g.ihd γ k = .slice b r.length c := by
  rcases hrow.2 with ⟨e, rfl⟩ | ⟨b, cap, vs, e', fr, e, _⟩
  ·exact ⟨_, _, e⟩
  ·exact ⟨_, _, e⟩
 obtain ⟨b0, c0, hhd⟩ := hhd
 have hrun := X5x (P := P) (T2 := T2) (ty := ty) hT hhd n4 hm n1 s1
 have hi : Inv E (Xl .dead ((γ, .mat isz (rows.set k (ys.take m ++ r.drop m))) :: S.L)) g w' := by
  refine Inv.upd hs.1 γ _ (Ys _ _ _ _) (fun j hj => Yq _ _ _ (Ne.symm hj)) (fun b hb hnl => s3 b fun hc => hnl (by rw [l1]; exact .inr ⟨k, hlt, hc⟩)) (by omega) s5 s6 rfl (fun _ _ => ⟨rfl, rfl, rfl⟩) (fun _ _ _ _ _ h => h) ?_ (fun b hb => .inl ?_) (fun _ => Gh.keeps_refl _ _)
  ·obtain ⟨h1, h2, h3⟩ := ho
   refine ⟨?_, fun i q hq => ?_, fun i j b hi hj => h3 i j b (by simpa using hi) (by simpa using hj)⟩
   ·rcases h1 with ⟨e, rfl⟩ | ⟨b, cap, vs, e', fr, k1, k2, k3, k4, k5, k6, k7, k8⟩
    ·simp at hlt
    ·refine .inr ⟨b, cap, vs, e', fr, by simpa using k1, by simpa using k2, k3, ?_, k5, k6, fun i hi => k7 i (by simpa using hi), fun i hi => k8 i (by simpa using hi)⟩
     rw [s3 b (k8 k hlt)]; exact k4
   ·rw [List.getElem?_set] at hq
    split at hq
    ·rename_i hik
     subst hik
     first | (rw [if_pos hlt] at hq; cases hq; exact s2) | (cases hq; exact s2)
    ·rename_i hik
     have hil : i < rows.length := (List.getElem?_eq_some_iff.1 hq).1
     exact X3K (Yk.refl _) (fun b hb => s3 b fun hc => hik (h3 i k b hil hlt hb hc).symm) (h2 i q hq)
  ·rw [l1]
   rcases hb with hb | ⟨i, hi, hb⟩
   ·exact .inl hb
   ·exact .inr ⟨i, by simpa using hi, hb⟩
 have hrun' : (execOp a.eval ⟨d'.map (·.1), .call ⟨.builtin .copy, #[x, y], #[T, T2]⟩, ty, pos, aft, gd⟩).run P w = .ok (.value (.int .i64 m)) w' := by
  simp [execOp, resolve, invoke, builtin, hx', hrun]
 unfold Oper.wp
 rw [hrun', Oper.upon_value]
 rcases hd' with rfl | ⟨t, rfl⟩
 ·exact hK _ _ ⟨g, hi, hs.2.1, hs.2.2.1, hs.2.2.2⟩
 ·exact hK _ _ (VL hi hs.2.1 hs.2.2.1 hs.2.2.2 (UU rfl) ok4)
theorem Xfu {x y : Operand} {T T2 : TypeId} {γ k isz m : Nat} {rows : List (List (List D))} {r ys : List (List D)} (hx : S.ev x = .inn γ k) (hL : S.obj γ = .mat isz rows) (hr : rows[k]? = some r) (hy : S.ev y = .d (.sl isz ys)) (hm : m = min ys.length r.length)
  (hT : Yh P T isz = true) (hd : Nat.blt d S.n = true) (hg : Xe ops S gd)
  (h : Walk P ops draw K rest ((l.length, ⟨some d, .call ⟨.builtin .copy, #[x, y], #[T, T2]⟩, ty, pos, aft, gd⟩, ⟨Xd ops gd ++ [(x, .inn γ k), (y, .d (.sl isz ys))], some (d, ai m), [(γ, .mat isz rows)], [(γ, .mat isz (rows.set k (ys.take m ++ r.drop m)))], []⟩) :: l)
   ((S.set d (ai m)).own γ (.mat isz (rows.set k (ys.take m ++ r.drop m))))) :
  Walk P ops draw K (⟨some d, .call ⟨.builtin .copy, #[x, y], #[T, T2]⟩, ty, pos, aft, gd⟩ :: rest) l S :=
 Xeu (d' := some (d, ai m)) hx hL hr hy hm hT hd (.inr ⟨d, rfl⟩) hg h
theorem XhE {x y : Operand} {tys : Array TypeId} {k : IntKind} {a b : Int} (hx : S.ev x = .d (.v (.int k a))) (hy : S.ev y = .d (.v (.int k b))) (hd : Nat.blt d S.n = true) (hg : Xe ops S gd)
  (h : Walk P ops draw K rest ((l.length, ⟨some d, .call ⟨.builtin .max, #[x, y], tys⟩, ty, pos, aft, gd⟩, ⟨Xd ops gd ++ [(x, .d (.v (.int k a))), (y, .d (.v (.int k b)))], some (d, .d (.v (.int k (max a b)))), [], [], []⟩) :: l) (S.set d (.d (.v (.int k (max a b)))))) :
  Walk P ops draw K (⟨some d, .call ⟨.builtin .max, #[x, y], tys⟩, ty, pos, aft, gd⟩ :: rest) l S :=
 XG ⟨[(x, .d (.v (.int k a))), (y, .d (.v (.int k b)))], some (d, .d (.v (.int k (max a b)))), [], [], []⟩ (Yo rfl fun E S g act w hs hq hl => by
  refine ⟨_, ?_, UU rfl⟩
  have e : (if b > a then b else a) = max a b := by
   by_cases h : b > a <;> simp [h] <;> omega
  simp [execOp, resolve, invoke, builtin, Builtin.max_, Builtin.max2, Yt hq.1, Yt hq.2.1]
  omega) hg ⟨⟨hx, hy, trivial⟩, trivial, trivial, hd⟩ h
theorem Xcm {x y : Operand} {tys : Array TypeId} {k : IntKind} {a b : Int} (hx : S.ev x = .d (.v (.int k a))) (hy : S.ev y = .d (.v (.int k b))) (hd : Nat.blt d S.n = true) (hg : Xe ops S gd)
  (h : Walk P ops draw K rest ((l.length, ⟨some d, .call ⟨.builtin .min, #[x, y], tys⟩, ty, pos, aft, gd⟩, ⟨Xd ops gd ++ [(x, .d (.v (.int k a))), (y, .d (.v (.int k b)))], some (d, .d (.v (.int k (min a b)))), [], [], []⟩) :: l) (S.set d (.d (.v (.int k (min a b)))))) :
  Walk P ops draw K (⟨some d, .call ⟨.builtin .min, #[x, y], tys⟩, ty, pos, aft, gd⟩ :: rest) l S :=
 XG ⟨[(x, .d (.v (.int k a))), (y, .d (.v (.int k b)))], some (d, .d (.v (.int k (min a b)))), [], [], []⟩ (Yo rfl fun E S g act w hs hq hl => by
  refine ⟨_, ?_, UU rfl⟩
  simp [execOp, resolve, invoke, builtin, Builtin.min_, Builtin.min2, Yt hq.1, Yt hq.2.1]
  omega) hg ⟨⟨hx, hy, trivial⟩, trivial, trivial, hd⟩ h
end
mutual
def AVal.ren (ρ : Nat → Nat) : AVal → AVal
 | .any => .any
 | .d x => .d x
 | .ptr γ o => .ptr (ρ γ) o
 | .own γ n => .own (ρ γ) n
 | .rptr γ n o => .rptr (ρ γ) n o
 | .inn γ i => .inn (ρ γ) i
 | .bsl γ n => .bsl (ρ γ) n
 | .mptr γ n i => .mptr (ρ γ) n i
 | .cut γ n k sz => .cut (ρ γ) n k sz
 | .dptr row => .dptr row
 | .dx sz xs => .dx sz xs
 | .bq p q => .bq p q
 | .agg cs => .agg (Vf ρ cs)
 | .tup cs => .tup (Vf ρ cs)
 | .fn f cs => .fn f (Vf ρ cs)
def Vf (ρ : Nat → Nat) : List AVal → List AVal
 | [] => []
 | x :: r => x.ren ρ :: Vf ρ r
end
def AObj.ren (ρ : Nat → Nat) : AObj → AObj
 | .dead => .dead
 | .box cs => .box (Vf ρ cs)
 | .row sz xs => .row sz xs
 | .froz sz xs => .froz sz xs
 | .mat sz rows => .mat sz rows
 | .iter s p => .iter s p
 | .imap es => .imap es
def Vq (ρ : Nat → Nat) : List (Nat × AObj) → List (Nat × AObj)
 | [] => []
 | (k, o) :: r => (ρ k, o.ren ρ) :: Vq ρ r
def Gh.pull (g : Gh) (ρ : Nat → Nat) : Gh := { blk := fun k => g.blk (ρ k), hd := fun k => g.hd (ρ k), ihd := fun k => g.ihd (ρ k), M := g.M }
mutual
theorem Xbu {g : Gh} {ρ : Nat → Nat} : ∀ (x : AVal) (u : Value), (x.ren ρ).sat g u ↔ x.sat (g.pull ρ) u
 | .any, _ => by simp only [AVal.ren, AVal.sat]
 | .d x, _ => by simp only [AVal.ren, AVal.sat, Gh.pull]
 | .ptr γ o, _ => by simp only [AVal.ren, AVal.sat, Gh.pull]
 | .own γ n, _ => by simp only [AVal.ren, AVal.sat, Gh.pull]
 | .rptr γ n o, _ => by simp only [AVal.ren, AVal.sat, Gh.pull]
 | .inn γ i, _ => by simp only [AVal.ren, AVal.sat, Gh.pull]
 | .bsl γ n, _ => by simp only [AVal.ren, AVal.sat, Gh.pull]
 | .mptr γ n i, _ => by simp only [AVal.ren, AVal.sat, Gh.pull]
 | .cut γ n k sz, _ => by simp only [AVal.ren, AVal.sat, Gh.pull]
 | .dptr row, _ => by simp only [AVal.ren, AVal.sat, Gh.pull]
 | .dx sz xs, _ => by simp only [AVal.ren, AVal.sat, Gh.pull]
 | .bq p q, _ => by simp only [AVal.ren, AVal.sat]
 | .agg cs, u => by simp only [AVal.ren, AVal.sat, X21 cs]
 | .tup cs, u => by simp only [AVal.ren, AVal.sat, X21 cs]
 | .fn f cs, u => by simp only [AVal.ren, AVal.sat, X21 cs]
theorem X21 {g : Gh} {ρ : Nat → Nat} : ∀ (xs : List AVal) (us : List Value), Xm g (Vf ρ xs) us ↔ Xm (g.pull ρ) xs us
 | [], [] => by simp only [Vf, Xm]
 | [], _ :: _ => by simp only [Vf, Xm]
 | _ :: _, [] => by simp only [Vf, Xm]
 | x :: xs, u :: us => by simp only [Vf, Xm, Xbu x u, X21 xs us]
end
theorem Xbt {ρ : Nat → Nat} : ∀ (cs : List AVal), (∀ c ∈ cs, c.cellish = true) ↔ ∀ c ∈ Vf ρ cs, c.cellish = true
 | [] => by simp [Vf]
 | c :: r => by
  simp only [Vf, List.mem_cons, forall_eq_or_imp, ← Xbt r]
  refine and_congr_left fun _ => ?_
  cases c <;> simp [AVal.ren, AVal.cellish]
theorem Xe9 {g : Gh} {ρ : Nat → Nat} {l : List D} {us : List Value} : Xm (g.pull ρ) (l.map .d) us ↔ Xm g (l.map .d) us := by
 have h : Vf ρ (l.map .d) = l.map .d := by
  induction l with
  | nil => rfl
  | cons x r ih => simp [Vf, AVal.ren, ih]
 rw [← X21, h]
theorem X8t {g : Gh} {ρ : Nat → Nat} {w : World} {h : Value} {sz : Nat} {xs : List (List D)} : UQ (g.pull ρ) w h sz xs ↔ UQ g w h sz xs := by
 simp only [UQ, Xe9]
theorem X9K {g : Gh} {ρ : Nat → Nat} {w : World} {γ : Nat} (o : AObj) : Uf g w (ρ γ) (o.ren ρ) ↔ Uf (g.pull ρ) w γ o := by
 cases o with
 | dead => exact Iff.rfl
 | box cs => simp only [AObj.ren, Uf, X21, ← Xbt cs]; rfl
 | row sz xs => simp only [AObj.ren, Uf]; exact X8t.symm
 | froz sz xs => exact Iff.rfl
 | iter s p => exact Iff.rfl
 | imap es => exact Iff.rfl
 | mat sz rows => simp only [AObj.ren, Uf, X69, X8t]; rfl
theorem X7e {g : Gh} {ρ : Nat → Nat} {γ b : Nat} (o : AObj) : XN g (o.ren ρ) (ρ γ) b ↔ XN (g.pull ρ) o γ b := by
 cases o <;> exact Iff.rfl
theorem X2K {ρ σ : Nat → Nat} (h1 : ∀ k, σ (ρ k) = k) : ∀ (L : List (Nat × AObj)) (γ : Nat), Xl .dead (Vq ρ L) (ρ γ) = (Xl .dead L γ).ren ρ
 | [], γ => rfl
 | (k, o) :: r, γ => by
  simp only [Vq]
  by_cases h : k = γ
  ·subst h; rw [Ys, Ys]
  ·rw [Yq _ _ _ h, Yq _ _ _ (fun e => h (by rw [← h1 k, ← h1 γ, e])), X2K h1 r γ]
theorem X8s {ρ σ : Nat → Nat} (h1 : ∀ k, σ (ρ k) = k) : ∀ (L : List (Nat × AObj)) (γ : Nat), Xv (ρ γ) (Vq ρ L) = Xv γ L
 | [], γ => rfl
 | (k, o) :: r, γ => by
  simp only [Vq, Xv, X8s h1 r γ]
  congr 1
  rw [Bool.eq_iff_iff]
  simp only [Nat.beq_eq]
  exact ⟨fun e => by rw [← h1 k, ← h1 γ, e], fun e => by rw [e]⟩
theorem X82 {E : Env} {ρ σ : Nat → Nat} (h1 : ∀ k, σ (ρ k) = k) (h2 : ∀ k, ρ (σ k) = k) {L : List (Nat × AObj)} {g : Gh} {w : World} {g0 : Gh} :
  Inv { E with g0 := g } (Xl .dead (Vq ρ L)) g w ↔ Inv { E with g0 := g.pull ρ } (Xl .dead L) (g.pull ρ) w := by
 have hlv : ∀ γ b, XN g (Xl .dead (Vq ρ L) (ρ γ)) (ρ γ) b ↔ XN (g.pull ρ) (Xl .dead L γ) γ b := fun γ b => by rw [X2K h1]; exact X7e _
 constructor
 ·intro hi
  refine ⟨fun γ => ?_, fun γ γ' b h h' => ?_, hi.mem, fun γ b h => hi.sep (ρ γ) b ((hlv _ _).2 h), fun γ b h => hi.new (ρ γ) b ((hlv _ _).2 h), hi.ext, hi.lim, hi.frame, hi.size, hi.os, hi.out, fun _ _ => Gh.keeps_refl _ _⟩
  ·have := hi.obj (ρ γ); rw [X2K h1] at this; exact (X9K _).1 this
  ·have := hi.inj (ρ γ) (ρ γ') b ((hlv _ _).2 h) ((hlv _ _).2 h')
   rw [← h1 γ, ← h1 γ', this]
 ·intro hi
  have hs : ∀ γ b, XN g (Xl .dead (Vq ρ L) γ) γ b → XN (g.pull ρ) (Xl .dead L (σ γ)) (σ γ) b := fun γ b h => by
   have := (hlv (σ γ) b).1; rw [h2] at this; exact this h
  refine ⟨fun γ => ?_, fun γ γ' b h h' => ?_, hi.mem, fun γ b h => hi.sep (σ γ) b (hs _ _ h), fun γ b h => hi.new (σ γ) b (hs _ _ h), hi.ext, hi.lim, hi.frame, hi.size, hi.os, hi.out, fun _ _ => Gh.keeps_refl _ _⟩
  ·have := hi.obj (σ γ)
   rw [← X9K (ρ := ρ), ← X2K h1, h2] at this
   exact this
  ·have := hi.inj (σ γ) (σ γ') b (hs _ _ h) (hs _ _ h')
   rw [← h2 γ, ← h2 γ', this]
theorem Xgd {g g' : Gh} {ρ : Nat → Nat} {γ : Nat} : (g.pull ρ).keeps (g'.pull ρ) γ ↔ g.keeps g' (ρ γ) := Iff.rfl
theorem Xhk {P : Program} {f : FuncId} {Li Lo : List (Nat × AObj)} {args : List AVal} {res : AVal} (ρ σ : Nat → Nat) (h1 : ∀ k, σ (ρ k) = k) (h2 : ∀ k, ρ (σ k) = k) (h : Con P f Li args Lo res) :
  Con P f (Vq ρ Li) (Vf ρ args) (Vq ρ Lo) (res.ren ρ) := by
 intro g w vs hi hs
 have hA : ∀ b, (∃ γ, XN g (Xl .dead (Vq ρ Li) γ) γ b) ↔ ∃ γ, XN (g.pull ρ) (Xl .dead Li γ) γ b := by
  intro b
  constructor
  ·rintro ⟨γ, hγ⟩
   refine ⟨σ γ, ?_⟩
   rw [← h2 γ, X2K h1, X7e] at hγ
   exact hγ
  ·rintro ⟨γ, hγ⟩
   refine ⟨ρ γ, ?_⟩
   rw [X2K h1, X7e]; exact hγ
 have hE : UO (g.pull ρ) w Li = { UO g w (Vq ρ Li) with g0 := g.pull ρ } := by
  simp only [UO, Env.mk.injEq, true_and, and_true]
  exact ⟨rfl, funext fun b => propext (hA b).symm⟩
 have hi' : Inv (UO (g.pull ρ) w Li) (Xl .dead Li) (g.pull ρ) w := by
  rw [hE]; exact (X82 (g0 := g) h1 h2).1 hi
 refine (h (g.pull ρ) w vs hi' ((X21 _ _).1 hs)).mono ?_
 rintro e w' ⟨v, g', rfl, hv, hi2, hk⟩
 have hgp : (g'.pull σ).pull ρ = g' := by simp only [Gh.pull, h1]
 refine ⟨v, g'.pull σ, rfl, (Xbu _ _).2 (by rw [hgp]; exact hv), ?_, fun γ hγ => ?_⟩
 ·refine (X82 (E := UO g w (Vq ρ Li)) (g0 := g) h1 h2).2 ?_
  rw [hgp]
  have : ({ UO (g.pull ρ) w Li with g0 := g' } : Env) = { UO g w (Vq ρ Li) with g0 := g' } := by rw [hE]
  rw [← this]; exact hi2
 ·have hγ' : Xv (σ γ) Li = true := by rw [← X8s h1, h2]; exact hγ
  have := hk (σ γ) hγ'
  rw [← hgp, Xgd, h2] at this
  exact this
def swp (a b k : Nat) : Nat := bif Nat.beq k a then b else bif Nat.beq k b then a else k
theorem X7T (a b k : Nat) : swp a b (swp a b k) = k := by
 simp only [swp]
 by_cases h1 : k = a
 ·subst h1
  by_cases h2 : b = k
  ·subst h2; simp
  ·have : Nat.beq b k = false := by cases h : Nat.beq b k with | false => rfl | true => exact absurd (Nat.eq_of_beq_eq_true h) h2
   simp [this]
 ·have e1 : Nat.beq k a = false := by cases h : Nat.beq k a with | false => rfl | true => exact absurd (Nat.eq_of_beq_eq_true h) h1
  by_cases h2 : k = b
  ·subst h2; simp [e1]
  ·have e2 : Nat.beq k b = false := by cases h : Nat.beq k b with | false => rfl | true => exact absurd (Nat.eq_of_beq_eq_true h) h2
   simp [e1, e2]
theorem UX {P : Program} {f : FuncId} {Li Lo : List (Nat × AObj)} {args : List AVal} {res : AVal} (a b : Nat) (h : Con P f Li args Lo res) :
  Con P f (Vq (swp a b) Li) (Vf (swp a b) args) (Vq (swp a b) Lo) (res.ren (swp a b)) :=
 Xhk _ _ (X7T a b) (X7T a b) h
section
variable {P : Program} {ops : Array Oper} {draw : Bool} {K : St → Prop} {rest : List Oper} {l : Yb} {S : St}
variable {d : Nat} {ty : TypeId} {pos : String} {aft : Array Edge} {gd : Option (Nat × Bool)}
theorem XcF {t : Tmp} {f : FuncId} {caps : List AVal} {args : Array Operand} {tys : Array TypeId} {xs : List Operand} {ys zs : List AVal} {Li Lo : List (Nat × AObj)} {res : AVal}
  (ht : S.ev (.tmp t) = .fn f caps) (hxs : args.toList = xs) (hys : evA S xs = ys) (hle : leL (ys ++ caps) zs) (hcon : Con P f Li zs Lo res) (hf : X2B P f = true)
  (hLi : U4 S Li) (hin : X1z Li Lo = true) (hbox : X0r Lo Lo = true) (hres : res.within Lo = true) (hnew : X0d S (YY Li Lo)) (hdead : U4 S (X04 (YY Li Lo)))
  (hd : Nat.blt d S.n = true) (hg : Xe ops S gd)
  (h : Walk P ops draw K rest ((l.length, ⟨some d, .call ⟨.value (.tmp t), args, tys⟩, ty, pos, aft, gd⟩, ⟨Xd ops gd ++ ((.tmp t, .fn f caps) :: X08 xs ys), some (d, res), Li ++ X04 (YY Li Lo), Lo, YY Li Lo⟩) :: l)
   ((S.set d res).cat Lo)) :
  Walk P ops draw K (⟨some d, .call ⟨.value (.tmp t), args, tys⟩, ty, pos, aft, gd⟩ :: rest) l S := by
 have hap : ∀ (A B : List (Nat × AObj)) (T : St), U4 T (A ++ B) ↔ U4 T A ∧ U4 T B := by
  intro A B T
  simp only [X0Q, List.mem_append]
  exact ⟨fun h => ⟨fun p hp => h p (.inl hp), fun p hp => h p (.inr hp)⟩, fun h p hp => hp.elim (h.1 p) (h.2 p)⟩
 have hlen : ys.length = xs.length := by
  rw [← hys]; clear hys hxs h hle
  induction xs with
  | nil => rfl
  | cons x r ih => simp [evA, ih]
 refine XG ⟨(.tmp t, .fn f caps) :: X08 xs ys, some (d, res), Li ++ X04 (YY Li Lo), Lo, YY Li Lo⟩ ?_ hg ⟨⟨ht, by rw [← hys]; exact X46 S xs⟩, (hap _ _ _).2 ⟨hLi, hdead⟩, hnew, hd⟩ h
 intro E S a w g hs hok Q K hK
 obtain ⟨ok1, ok2, ok3, ok4⟩ := hok
 rw [hap] at ok2
 obtain ⟨hq1, hq2⟩ := VO hs _ ok1
 simp only [AVal.sat] at hq1
 obtain ⟨cv, hcv, hcs⟩ := hq1
 have hsat := X33 hle (X0p (X4p hlen hq2) hcs)
 have hinv : Inv (UO g w Li) (Xl .dead Li) g w := by
  have hsub := Xj ok2.1
  have hl : ∀ γ b, XN g (Xl .dead Li γ) γ b → XN g (S.obj γ) γ b := by
   intro γ b hb
   rcases hsub γ with e | e
   ·rw [← e]; exact hb
   ·rw [e] at hb; exact hb.elim
  refine ⟨fun γ => ?_, fun γ γ' b k k' => hs.1.inj γ γ' b (hl _ _ k) (hl _ _ k'), hs.1.mem, fun γ b k => hs.1.sep γ b (hl _ _ k), fun γ b k => .inr ⟨γ, k⟩, Yk.refl _, fun a v ha => .inl ⟨v, ha⟩, fun _ _ _ => rfl, Nat.le_refl _, rfl, rfl, fun γ _ => Gh.keeps_refl _ _⟩
  rcases hsub γ with e | e
  ·rw [e]; exact hs.1.obj γ
  ·rw [e]; trivial
 have hcall := hcon g w (xs.map a.eval ++ cv.toList) hinv hsat
 have hrun : (execOp a.eval ⟨some d, .call ⟨.value (.tmp t), args, tys⟩, ty, pos, aft, gd⟩).run P w = .ok (.enter f (xs.map a.eval ++ cv.toList).toArray) w := by
  have e1 : (#[] ++ args.map a.eval ++ cv : Array Value) = (xs.map a.eval ++ cv.toList).toArray := by
   apply Array.ext'; simp [← hxs]
  simp only [execOp, resolve, hcv, Deferred.ofValue, Sem.run_bind, Sem.run_pure, Result.andThen_ok, invoke]
  rw [X9H hf]
  congr 2
 unfold Oper.wp
 rw [hrun, Oper.upon_enter]
 refine hcall.mono ?_
 rintro e w' ⟨v, g', rfl, hv, hi', hk⟩
 obtain ⟨j1, j2, j3⟩ := XbE hs.1 ok2.1 hin hbox ok3 ok2.2 hi' hk
 exact hK _ _ (VL j1 hs.2.1 hs.2.2.1 (fun t => j3 t _ (hs.2.2.2 t)) (j2 _ _ hres hv) ok4)
end
end Go.Fw

/- Seventeenth part: one's own row of one-cell elements, by index. -/
import Derived.Test.YtldiocpkgfpehaaFwP
namespace Go.Fw
open Go
set_option linter.unusedVariables false
set_option linter.unusedSimpArgs false
section
variable {P : Program} {ops : Array Oper} {draw : Bool} {K : St → Prop} {rest : List Oper} {l : Line} {S : St}
variable {d : Nat} {ty : TypeId} {pos : String} {aft : Array Edge} {gd : Option (Nat × Bool)}
theorem w_index_own {x i : Operand} {T : TypeId} {γ n k : Nat} {kd : IntKind} {m : Int} {xs : List (List D)} (hx : S.ev x = .own γ n) (hL : S.obj γ = .row 1 xs) (hi : S.ev i = .d (.v (.int kd m))) (hn : n = xs.length) (hk : m = (k : Nat)) (hlt : k < xs.length)
    (hT : slIs P T 1 = true) (hd : Nat.blt d S.n = true) (hg : guardOk ops S gd)
    (h : Walk P ops draw K rest ((l.length, ⟨some d, .indexAddr T x i, ty, pos, aft, gd⟩, ⟨guardReads ops gd ++ [(x, .own γ n), (i, .d (.v (.int kd m)))], some (d, .rptr γ n k), [(γ, .row 1 xs)], [], []⟩) :: l) (S.set d (.rptr γ n k))) :
    Walk P ops draw K (⟨some d, .indexAddr T x i, ty, pos, aft, gd⟩ :: rest) l S :=
  walk_op ⟨[(x, .own γ n), (i, .d (.v (.int kd m)))], some (d, .rptr γ n k), [(γ, .row 1 xs)], [], []⟩ (valid_val rfl fun E S g a w hs hq hl => by
    obtain ⟨e, h1, h2, h3⟩ := slIs_spec hT
    have ho := hs.1.obj γ
    rw [hl.1] at ho
    have hv := own_sat hq.1 ho hn
    rcases ho.2 with ⟨e, rfl⟩ | ⟨b, cap, vs, e', fr, hh, _⟩
    · simp at hlt
    · rw [hh] at hv
      refine ⟨.pointer (some ⟨b, k, none⟩), ?_, ?_⟩
      · have hb : (0 : Int) ≤ m ∧ m < (xs.length : Int) := by omega
        have hm : m.toNat = k := by omega
        have := run_indexAt_slice (P := P) w T ⟨b, 0, none⟩ xs.length cap kd m (by rw [h3]; exact h1)
        rw [if_pos hb, h3, h2 w, Result.andThen_ok, add_at, hm, Nat.mul_one, Nat.zero_add] at this
        simp only [execOp, hv, sat_v hq.2.1, Sem.run_bind, this]; rfl
      · simp only [AVal.sat]
        exact ⟨rfl, _, _, _, hh, by omega, fun _ => ⟨_, rfl, rfl⟩⟩) hg ⟨⟨hx, hi, trivial⟩, ⟨hL, trivial⟩, trivial, hd⟩ h
theorem flat_get {xs : List (List D)} (h : ∀ x ∈ xs, x.length = 1) {k : Nat} {y : D} (hk : xs[k]? = some [y]) : xs.flatten[k]? = some y := by
  induction xs generalizing k with
  | nil => simp at hk
  | cons x xs ih =>
    obtain ⟨z, rfl⟩ : ∃ z, x = [z] := by
      have := h x (List.mem_cons_self ..)
      match x, this with
      | [z], _ => exact ⟨z, rfl⟩
    cases k with
    | zero => simp at hk; simp [hk]
    | succ k => simp at hk; simp [ih (fun x hx => h x (List.mem_cons_of_mem _ hx)) hk]
theorem w_load_own {t : TypeId} {x : Operand} {γ n k : Nat} {xs : List (List D)} {y : D} (hx : S.ev x = .rptr γ n k) (hL : S.obj γ = .row 1 xs) (hn : n = xs.length) (hy : xs[k]? = some [y])
    (ht : tyIs P t false 1 = true) (hd : Nat.blt d S.n = true) (hg : guardOk ops S gd)
    (h : Walk P ops draw K rest ((l.length, ⟨some d, .load t x, ty, pos, aft, gd⟩, ⟨guardReads ops gd ++ [(x, .rptr γ n k)], some (d, .d y), [(γ, .row 1 xs)], [], []⟩) :: l) (S.set d (.d y))) :
    Walk P ops draw K (⟨some d, .load t x, ty, pos, aft, gd⟩ :: rest) l S :=
  walk_op ⟨[(x, .rptr γ n k)], some (d, .d y), [(γ, .row 1 xs)], [], []⟩ (valid_val rfl fun E S g a w hs hq hl => by
    have ho := hs.1.obj γ
    rw [hl.1] at ho
    have hq1 := hq.1
    simp only [AVal.sat] at hq1
    obtain ⟨_, a', m, c, q1, q2, q3⟩ := hq1
    have hlt : k < xs.length := (List.getElem?_eq_some_iff.1 hy).1
    rcases ho.2 with ⟨e, rfl⟩ | ⟨b, cap, vs, e', fr, hh, k2, k3, k4, k5, k6, k7⟩
    · simp at hlt
    · rw [hh] at q1; cases q1
      obtain ⟨b', e1, e2⟩ := q3 hn
      cases e1
      obtain ⟨u, hu, hsu⟩ := satL_get k7 k (.d y) (by rw [List.getElem?_map, flat_get ho.1 hy]; rfl)
      have hc : w.cell? ⟨b, k, none⟩ = some u := by
        rw [cell_of_row w _ _ vs e' fr k4]
        rw [List.getElem?_take] at hu
        split at hu
        · simpa using hu
        · simp at hu
      refine ⟨u, ?_, hsu⟩
      simp [execOp, e2, Instr.loadAt, Instr.sureAddr, run_loadVar_one ht hc]) hg ⟨⟨hx, trivial⟩, ⟨hL, trivial⟩, trivial, hd⟩ h
theorem w_store_own {t : TypeId} {x v : Operand} {γ n k : Nat} {xs : List (List D)} {y : D} (hx : S.ev x = .rptr γ n k) (hL : S.obj γ = .row 1 xs) (hv : S.ev v = .d y) (hn : n = xs.length) (hlt : k < xs.length)
    (ht : tySize P t 1 = true) (hg : guardOk ops S gd)
    (h : Walk P ops draw K rest ((l.length, ⟨none, .store t x v, ty, pos, aft, gd⟩, ⟨guardReads ops gd ++ [(x, .rptr γ n k), (v, .d y)], none, [(γ, .row 1 xs)], [(γ, .row 1 (xs.take k ++ [[y]] ++ xs.drop (k + 1)))], []⟩) :: l)
      (S.own γ (.row 1 (xs.take k ++ [[y]] ++ xs.drop (k + 1))))) :
    Walk P ops draw K (⟨none, .store t x v, ty, pos, aft, gd⟩ :: rest) l S :=
  walk_op ⟨[(x, .rptr γ n k), (v, .d y)], none, [(γ, .row 1 xs)], [(γ, .row 1 (xs.take k ++ [[y]] ++ xs.drop (k + 1)))], []⟩ (valid_unit rfl fun E S g a w hs hq hl hnn => by
    have ho := hs.1.obj γ
    rw [hl.1] at ho
    have hq1 := hq.1
    simp only [AVal.sat] at hq1
    obtain ⟨_, a', m, c, q1, q2, q3⟩ := hq1
    have hrow : rowSat g w (g.hd γ) 1 xs := ho
    have hone : (a.eval v).cells = #[a.eval v] := by
      have := AVal.sat_one (x := .d y) rfl hq.2.1
      cases hvv : a.eval v <;> rw [hvv] at this <;> first | rfl | simp [Value.oneCell'] at this
    obtain ⟨w', s1, s2, s3, s4, s5, s6⟩ := rowSat_store (P := P) (k := k) (m := 1) (ys := [[y]]) hrow (by omega) (by simp) rfl (news := #[a.eval v]) (by simp) (by
      simp only [List.flatten_cons, List.flatten_nil, List.append_nil, List.map_cons, List.map_nil, satL]
      exact ⟨hq.2.1, trivial⟩)
    rcases hrow.2 with ⟨e, rfl⟩ | ⟨b, cap, vs, e', fr, hh, _⟩
    · simp at hlt
    rw [hh] at q1 s1; cases q1
    obtain ⟨b', e1, e2⟩ := q3 hn
    cases e1
    simp only [Nat.mul_one, add_at, Nat.zero_add] at s1
    refine ⟨g, w', ?_, ?_, hs.2.2.2⟩
    · have hsz := tySize_spec ht w
      have s1' : (storeCells ⟨b, k, none⟩ [a.eval v]).run P w = .ok () w' := by simpa using s1
      simp [execOp, e2, Instr.storeAt, Instr.sureAddr, storeVar, hsz, hone, s1']
    · refine Inv.upd hs.1 γ _ (look_same _ _ _ _) (fun j hj => look_ne _ _ _ (Ne.symm hj)) (fun b hb hnl => s3 b fun hc => hnl (by rw [hl.1]; exact hc)) (by omega) s5 s6 rfl (fun _ _ => ⟨rfl, rfl, rfl⟩) (fun _ _ _ _ _ h => h) s2 (fun b hb => .inl (by rw [hl.1]; exact hb)) (fun _ => Gh.keeps_refl _ _)) hg ⟨⟨hx, hv, trivial⟩, ⟨hL, trivial⟩, trivial, trivial⟩ h
end
end Go.Fw

import Derived.Test.YtldiocpkgfpehaaW40e
namespace Go.Fw
open Go Go.Proofs
set_option linter.unusedVariables false
set_option linter.unusedSimpArgs false
def clampS (x : Int) : Nat := (min (max x 0) 64).toNat
def putS (rows : List (List UInt8)) (w : Wr) (n : Nat) : List (List UInt8) := rows.set w.at_.toNat (w.b.take n ++ ((rows[w.at_.toNat]?).getD []).drop n)
def performK (rows : List (List UInt8)) (pend : List Wr) (kv : Nat → Int) : Nat → List (List UInt8)
  | 0 => rows
  | k + 1 => match pend[k]? with
    | some w => putS (performK rows pend kv k) w (clampS (kv k))
    | none => performK rows pend kv k
def okW (rows : List (List UInt8)) (pend : List Wr) : Prop := (∀ s ∈ rows, s.length = 64) ∧ ∀ w ∈ pend, 0 ≤ w.at_ ∧ w.at_ < rows.length ∧ w.b.length = 64
theorem clampS_le (x : Int) : clampS x ≤ 64 := by unfold clampS; omega
theorem putS_ok {rows : List (List UInt8)} {w : Wr} {n : Nat} (hn : n ≤ 64) (h : ∀ s ∈ rows, s.length = 64) (hw : 0 ≤ w.at_ ∧ w.at_ < rows.length ∧ w.b.length = 64) : ∀ s ∈ putS rows w n, s.length = 64 := by
  intro s hs
  rcases List.mem_or_eq_of_mem_set hs with h1 | h1
  · exact h s h1
  · obtain ⟨r, hr⟩ := get_of_lt (l := rows) (k := w.at_.toNat) (by omega)
    have hl := h r (List.mem_of_getElem? hr)
    rw [h1, hr]; simp [hl, hw.2.2]; omega
theorem putS_length (rows : List (List UInt8)) (w : Wr) (n : Nat) : (putS rows w n).length = rows.length := by simp [putS]
theorem performK_length (rows : List (List UInt8)) (pend : List Wr) (kv : Nat → Int) : ∀ k, (performK rows pend kv k).length = rows.length
  | 0 => rfl
  | k + 1 => by
    simp only [performK]
    split
    · rw [putS_length, performK_length rows pend kv k]
    · exact performK_length rows pend kv k
theorem performK_ok {rows : List (List UInt8)} {pend : List Wr} (kv : Nat → Int) (h : okW rows pend) : ∀ k, ∀ s ∈ performK rows pend kv k, s.length = 64
  | 0 => h.1
  | k + 1 => by
    simp only [performK]
    split
    · rename_i w hw
      exact putS_ok (clampS_le _) (performK_ok kv h k) (by rw [performK_length]; exact h.2 w (List.mem_of_getElem? hw))
    · exact performK_ok kv h k
theorem perform_step {rows : List (List UInt8)} {pend : List Wr} {kv : Nat → Int} {k a : Nat} {b r : List UInt8} (hw : pend[k]? = some ⟨a, b⟩) (hr : (performK rows pend kv k)[a]? = some r) :
    performK rows pend kv (k + 1) = (performK rows pend kv k).set a (b.take (clampS (kv k)) ++ r.drop (clampS (kv k))) := by
  simp only [performK, hw, putS, Int.toNat_natCast, hr, Option.getD_some]
theorem cut_eq {b r : List UInt8} {n : Nat} (hn : n ≤ 64) (hb : b.length = 64) (hr : r.length = 64) :
    List.take (min (List.drop 0 (List.take n (List.map cByte b))).length (List.map cByte r).length) (List.drop 0 (List.take n (List.map cByte b))) ++ List.drop (min (List.drop 0 (List.take n (List.map cByte b))).length (List.map cByte r).length) (List.map cByte r) =
      (b.take n ++ r.drop n).map cByte := by
  have e : min (List.drop 0 (List.take n (List.map cByte b))).length (List.map cByte r).length = n := by simp; omega
  rw [e]; simp [List.take_take]
theorem whole_con (i : Int) : Con Try.prog 36 [] [ai i] [] (ai 64) := by
  refine con_of (xs := [ai 64]) Try.func36 rfl Try.ntmps36 rfl rfl rfl (fun E => ?_)
  refine awp_seq ?_
  refine awp_region (by kernel_rfl) ?_
  apply w_assign
  case hg => exact (by exact True.intro)
  case hx => conv => lhs; whnf
  case hd => exact rfl
  refine .done (by exact fun h => Bool.noConfusion h) ?_
  refine awp_seq ?_
  refine awp_region (by kernel_rfl) ?_
  apply w_assign
  case hg => exact (by exact True.intro)
  case hx => conv => lhs; whnf
  case hd => exact rfl
  refine .done (by exact fun h => Bool.noConfusion h) ?_
  exact awp_ret ⟨_, St.le_refl _, ⟨rfl, trivial⟩, subL_nil _⟩
section
variable {P : Program} {ops : Array Oper} {draw : Bool} {K : St → Prop} {rest : List Oper} {l : Line} {S : St}
variable {d : Nat} {ty : TypeId} {pos : String} {aft : Array Edge} {gd : Option (Nat × Bool)}
theorem w_min_to {x y : Operand} {tys : Array TypeId} {k : IntKind} {a b : Int} (c : Nat) (hc : min a b = (c : Nat)) (hx : S.ev x = .d (.v (.int k a))) (hy : S.ev y = .d (.v (.int k b))) (hd : Nat.blt d S.n = true) (hg : guardOk ops S gd)
    (h : Walk P ops draw K rest ((l.length, ⟨some d, .call ⟨.builtin .min, #[x, y], tys⟩, ty, pos, aft, gd⟩, ⟨guardReads ops gd ++ [(x, .d (.v (.int k a))), (y, .d (.v (.int k b)))], some (d, .d (.v (.int k c))), [], [], []⟩) :: l) (S.set d (.d (.v (.int k c))))) :
    Walk P ops draw K (⟨some d, .call ⟨.builtin .min, #[x, y], tys⟩, ty, pos, aft, gd⟩ :: rest) l S := by
  rw [← hc] at h
  exact w_min hx hy hd hg h
end
theorem clamp_eq (x : Int) : min (max x 0) 64 = (clampS x : Int) := by unfold clampS; omega
set_option maxHeartbeats 8000000 in
theorem perform_whole0 (rows : List (List UInt8)) (pend : List Wr) (hok : okW rows pend) (hl : rows.length ≤ 4096) (hp : pend.length ≤ 4096) : Con Try.prog 38 [(0, .mat 1 (rows.map fun s => s.map cByte))] [.agg [.d (dPend pend)], .own 0 rows.length, .fn 36 []]
    [(0, .mat 1 ((performK rows pend (fun _ => 64) pend.length).map fun s => s.map cByte))] (.own 0 rows.length) := by
  refine con_of (xs := [.own 0 rows.length]) Try.func38 rfl Try.ntmps38 rfl rfl rfl (fun E => ?_)
  refine awp_seq ?_
  refine awp_region (by kernel_rfl) ?_
  apply w_box (γ := 100)
  case hg => exact (by exact True.intro)
  case hx => conv => lhs; whnf
  case hc => exact rfl
  case hdead => exact rfl
  case hf => exact rfl
  case hm => exact rfl
  case hd => exact rfl
  apply w_assign
  case hg => exact (by exact True.intro)
  case hx => conv => lhs; whnf
  case hd => exact rfl
  refine .done (by exact fun h => Bool.noConfusion h) ?_
  refine awp_seq ?_
  refine awp_seq ?_
  refine awp_region (by kernel_rfl) ?_
  apply w_field_box
  case hg => exact (by exact True.intro)
  case hx => exact rfl
  case hoff => conv => lhs; whnf
  case hf => exact rfl
  case hd => exact rfl
  apply w_load_box
  case hg => exact (by exact True.intro)
  case hx => exact rfl
  case hL => exact rfl
  case hy => conv => lhs; whnf
  case ht => exact rfl
  case hd => exact rfl
  apply w_len_data
  case hg => exact (by exact True.intro)
  case hx => exact rfl
  case hT => exact rfl
  case hd => exact rfl
  apply w_move
  case hg => exact (by exact True.intro)
  case hx => conv => lhs; whnf
  case hd => exact rfl
  refine .done (by exact fun h => Bool.noConfusion h) ?_
  refine awp_block ?_
  refine awp_loopI (fun k : Nat => k ≤ pend.length) (fun k => ⟨35, [(1, .own 0 rows.length), (2, .fn 36 []), (11, .d (dPend pend)), (12, ai (pend.map cWr).length), (13, ai k)], [(100, .box [.d (dPend pend)]), (0, .mat 1 ((performK rows pend (fun _ => 64) k).map fun s => s.map cByte))]⟩) (fun k => pend.length - k) 0 (by omega)
    (le_mk rfl ⟨(by (first | ((exact AVal.le_refl _)) | ((exact AVal.le_nil _)) | ((refine AVal.le_agg ?_; ((repeat (first | exact trivial | refine ⟨(by (first | ((exact AVal.le_refl _)) | ((exact AVal.le_nil _)) | ((refine AVal.le_of_eq ?_; (conv => lhs; whnf); (first | ((rfl)) | ((simp <;> fail)) | fail))) | fail)), ?_⟩ | fail)) <;> fail))) | ((refine AVal.le_of_eq ?_; (conv => lhs; whnf); (first | ((rfl)) | ((simp <;> fail)) | fail))) | fail)), (by (first | ((exact AVal.le_refl _)) | ((exact AVal.le_nil _)) | ((refine AVal.le_agg ?_; ((repeat (first | exact trivial | refine ⟨(by (first | ((exact AVal.le_refl _)) | ((exact AVal.le_nil _)) | ((refine AVal.le_of_eq ?_; (conv => lhs; whnf); (first | ((rfl)) | ((simp <;> fail)) | fail))) | fail)), ?_⟩ | fail)) <;> fail))) | ((refine AVal.le_of_eq ?_; (conv => lhs; whnf); (first | ((rfl)) | ((simp <;> fail)) | fail))) | fail)), (by (first | ((exact AVal.le_refl _)) | ((exact AVal.le_nil _)) | ((refine AVal.le_agg ?_; ((repeat (first | exact trivial | refine ⟨(by (first | ((exact AVal.le_refl _)) | ((exact AVal.le_nil _)) | ((refine AVal.le_of_eq ?_; (conv => lhs; whnf); (first | ((rfl)) | ((simp <;> fail)) | fail))) | fail)), ?_⟩ | fail)) <;> fail))) | ((refine AVal.le_of_eq ?_; (conv => lhs; whnf); (first | ((rfl)) | ((simp <;> fail)) | fail))) | fail)), (by (first | ((exact AVal.le_refl _)) | ((exact AVal.le_nil _)) | ((refine AVal.le_agg ?_; ((repeat (first | exact trivial | refine ⟨(by (first | ((exact AVal.le_refl _)) | ((exact AVal.le_nil _)) | ((refine AVal.le_of_eq ?_; (conv => lhs; whnf); (first | ((rfl)) | ((simp <;> fail)) | fail))) | fail)), ?_⟩ | fail)) <;> fail))) | ((refine AVal.le_of_eq ?_; (conv => lhs; whnf); (first | ((rfl)) | ((simp <;> fail)) | fail))) | fail)), (by (first | ((exact AVal.le_refl _)) | ((exact AVal.le_nil _)) | ((refine AVal.le_agg ?_; ((repeat (first | exact trivial | refine ⟨(by (first | ((exact AVal.le_refl _)) | ((exact AVal.le_nil _)) | ((refine AVal.le_of_eq ?_; (conv => lhs; whnf); (first | ((rfl)) | ((simp <;> fail)) | fail))) | fail)), ?_⟩ | fail)) <;> fail))) | ((refine AVal.le_of_eq ?_; (conv => lhs; whnf); (first | ((rfl)) | ((simp <;> fail)) | fail))) | fail)), trivial⟩ ⟨rfl, rfl, trivial⟩) ?_
  intro k hk
  refine awp_seq ?_
  refine awp_region (by kernel_rfl) ?_
  apply w_bin
  case hg => exact (by exact True.intro)
  case hx => exact rfl
  case hy => exact rfl
  case hr => exact rb_lss
  case h1 => exact rfl
  case hd => exact rfl
  refine .done (by exact fun h => Bool.noConfusion h) ?_
  refine awp_seq ?_
  refine awp_cond rfl (fun h => ?_) (fun h => ?_)
  · have h := of_decide_eq_true h
    simp only [List.length_map] at h
    obtain ⟨⟨at_, b⟩, hw⟩ := get_of_lt (l := pend) (k := k) (by omega)
    obtain ⟨b1, b2, b3⟩ := hok.2 _ (List.mem_of_getElem? hw)
    simp only at b1 b2 b3
    obtain ⟨a, rfl⟩ : ∃ a : Nat, at_ = a := ⟨at_.toNat, by omega⟩
    have hpl := performK_length rows pend (fun _ => 64) k
    obtain ⟨r, hr⟩ := get_of_lt (l := performK rows pend (fun _ => 64) k) (k := a) (by omega)
    have hrl := performK_ok (fun _ => 64) hok k r (List.mem_of_getElem? hr)
    have hc := clampS_le 64
    refine awp_skip ?_
    refine awp_seq ?_
    refine awp_block ?_
    refine awp_seq ?_
    refine awp_region (by kernel_rfl) ?_
    apply w_move
    case hg => exact (by exact True.intro)
    case hx => conv => lhs; whnf
    case hd => exact rfl
    apply w_index_data
    case hg => exact (by exact True.intro)
    case hx => exact rfl
    case hi => exact rfl
    case hk => exact rfl
    case hr => exact map_get (by assumption)
    case hT => exact rfl
    case hd => exact rfl
    apply w_load_dagg
    case hg => exact (by exact True.intro)
    case hx => exact rfl
    case hsz => conv => lhs; whnf
    case ht => exact rfl
    case hy => conv => lhs; whnf
    case hlen => exact rfl
    case hd => exact rfl
    apply w_alloc (γ := 101)
    case hg => exact (by exact True.intro)
    case hz => exact rfl
    case h1 => exact rfl
    case hdead => exact rfl
    case hf => exact rfl
    case hd => exact rfl
    apply w_assign
    case hg => exact (by exact True.intro)
    case hx => conv => lhs; whnf
    case hd => exact rfl
    apply w_store
    case hg => exact (by exact True.intro)
    case hx => exact rfl
    case hL => exact rfl
    case hv => conv => lhs; whnf
    case hc => exact rfl
    case ht => exact rfl
    case hb => exact rfl
    refine .done (by exact fun h => Bool.noConfusion h) ?_
    refine awp_seq ?_
    refine awp_region (by kernel_rfl) ?_
    apply w_move
    case hg => exact (by exact True.intro)
    case hx => conv => lhs; whnf
    case hd => exact rfl
    apply w_move
    case hg => exact (by exact True.intro)
    case hx => conv => lhs; whnf
    case hd => exact rfl
    apply w_callv (hcon := whole_con k)
    case ht => exact rfl
    case hxs => exact rfl
    case hys => conv => lhs; whnf
    case hle => (refine ⟨(by exact AVal.le_refl _), ?_⟩; exact trivial)
    case hf => exact rfl
    case hLi => (repeat (first | exact trivial | refine ⟨rfl, ?_⟩ | fail)) <;> fail
    case hin => exact rfl
    case hbox => exact rfl
    case hres => exact rfl
    case hnew => (repeat (first | exact trivial | refine ⟨rfl, ?_⟩ | fail)) <;> fail
    case hdead => (repeat (first | exact trivial | refine ⟨rfl, ?_⟩ | fail)) <;> fail
    case hd => exact rfl
    case hg => exact (by exact True.intro)
    apply w_max
    case hg => exact (by exact True.intro)
    case hx => exact rfl
    case hy => exact rfl
    case hd => exact rfl
    refine w_min_to (clampS 64) (clamp_eq 64) rfl rfl rfl (by exact True.intro) ?_
    apply w_assign
    case hg => exact (by exact True.intro)
    case hx => conv => lhs; whnf
    case hd => exact rfl
    refine .done (by exact fun h => Bool.noConfusion h) ?_
    refine awp_region (by kernel_rfl) ?_
    apply w_move
    case hg => exact (by exact True.intro)
    case hx => conv => lhs; whnf
    case hd => exact rfl
    apply w_field_box
    case hg => exact (by exact True.intro)
    case hx => exact rfl
    case hoff => conv => lhs; whnf
    case hf => exact rfl
    case hd => exact rfl
    apply w_load_box
    case hg => exact (by exact True.intro)
    case hx => exact rfl
    case hL => exact rfl
    case hy => conv => lhs; whnf
    case ht => exact rfl
    case hd => exact rfl
    apply w_index_mat
    case hg => exact (by exact True.intro)
    case hx => exact rfl
    case hL => exact rfl
    case hi => exact rfl
    case hn => (simp only [List.length_map, List.length_take, List.length_append, List.length_cons, List.length_nil, List.length_replicate, List.length_set]; omega)
    case hk => exact rfl
    case hlt => (simp; omega)
    case hT => exact rfl
    case hd => exact rfl
    apply w_load_mat
    case hg => exact (by exact True.intro)
    case hx => exact rfl
    case hL => exact rfl
    case hn => (simp only [List.length_map, List.length_take, List.length_append, List.length_cons, List.length_nil, List.length_replicate, List.length_set]; omega)
    case hlt => (simp; omega)
    case ht => exact rfl
    case hd => exact rfl
    apply w_field_box
    case hg => exact (by exact True.intro)
    case hx => exact rfl
    case hoff => conv => lhs; whnf
    case hf => exact rfl
    case hd => exact rfl
    apply w_load_box
    case hg => exact (by exact True.intro)
    case hx => exact rfl
    case hL => exact rfl
    case hy => conv => lhs; whnf
    case ht => exact rfl
    case hd => exact rfl
    apply w_move
    case hg => exact (by exact True.intro)
    case hx => conv => lhs; whnf
    case hd => exact rfl
    apply w_slice
    case hg => exact (by exact True.intro)
    case hx => exact rfl
    case hlo => trivial
    case hhi => trivial
    case hlh => omega
    case hh => (simp; omega)
    case hT => exact rfl
    case hd => exact rfl
    apply w_copy_in
    case hg => exact (by exact True.intro)
    case hx => exact rfl
    case hL => exact rfl
    case hr => exact map_get (by assumption)
    case hy => exact rfl
    case hm => exact rfl
    case hT => exact rfl
    case hd => exact rfl
    refine .done (by exact fun _ => rfl) ?_
    refine awp_region (by kernel_rfl) ?_
    apply w_bin
    case hg => exact (by exact True.intro)
    case hx => exact rfl
    case hy => exact rfl
    case hr => (exact rb_add64 (by unfold in64; omega))
    case h1 => exact rfl
    case hd => exact rfl
    apply w_move
    case hg => exact (by exact True.intro)
    case hx => conv => lhs; whnf
    case hd => exact rfl
    refine .done (by exact fun h => Bool.noConfusion h) ?_
    refine ⟨k + 1, by omega, by omega, le_mk rfl ⟨(by (first | ((exact AVal.le_refl _)) | ((exact AVal.le_nil _)) | ((refine AVal.le_agg ?_; ((repeat (first | exact trivial | refine ⟨(by (first | ((exact AVal.le_refl _)) | ((exact AVal.le_nil _)) | ((refine AVal.le_of_eq ?_; (conv => lhs; whnf); (first | ((rfl)) | ((simp <;> fail)) | fail))) | fail)), ?_⟩ | fail)) <;> fail))) | ((refine AVal.le_of_eq ?_; (conv => lhs; whnf); (first | ((rfl)) | ((simp <;> fail)) | fail))) | fail)), (by (first | ((exact AVal.le_refl _)) | ((exact AVal.le_nil _)) | ((refine AVal.le_agg ?_; ((repeat (first | exact trivial | refine ⟨(by (first | ((exact AVal.le_refl _)) | ((exact AVal.le_nil _)) | ((refine AVal.le_of_eq ?_; (conv => lhs; whnf); (first | ((rfl)) | ((simp <;> fail)) | fail))) | fail)), ?_⟩ | fail)) <;> fail))) | ((refine AVal.le_of_eq ?_; (conv => lhs; whnf); (first | ((rfl)) | ((simp <;> fail)) | fail))) | fail)), (by (first | ((exact AVal.le_refl _)) | ((exact AVal.le_nil _)) | ((refine AVal.le_agg ?_; ((repeat (first | exact trivial | refine ⟨(by (first | ((exact AVal.le_refl _)) | ((exact AVal.le_nil _)) | ((refine AVal.le_of_eq ?_; (conv => lhs; whnf); (first | ((rfl)) | ((simp <;> fail)) | fail))) | fail)), ?_⟩ | fail)) <;> fail))) | ((refine AVal.le_of_eq ?_; (conv => lhs; whnf); (first | ((rfl)) | ((simp <;> fail)) | fail))) | fail)), (by (first | ((exact AVal.le_refl _)) | ((exact AVal.le_nil _)) | ((refine AVal.le_agg ?_; ((repeat (first | exact trivial | refine ⟨(by (first | ((exact AVal.le_refl _)) | ((exact AVal.le_nil _)) | ((refine AVal.le_of_eq ?_; (conv => lhs; whnf); (first | ((rfl)) | ((simp <;> fail)) | fail))) | fail)), ?_⟩ | fail)) <;> fail))) | ((refine AVal.le_of_eq ?_; (conv => lhs; whnf); (first | ((rfl)) | ((simp <;> fail)) | fail))) | fail)), (by (first | ((exact AVal.le_refl _)) | ((exact AVal.le_nil _)) | ((refine AVal.le_agg ?_; ((repeat (first | exact trivial | refine ⟨(by (first | ((exact AVal.le_refl _)) | ((exact AVal.le_nil _)) | ((refine AVal.le_of_eq ?_; (conv => lhs; whnf); (first | ((rfl)) | ((simp <;> fail)) | fail))) | fail)), ?_⟩ | fail)) <;> fail))) | ((refine AVal.le_of_eq ?_; (conv => lhs; whnf); (first | ((rfl)) | ((simp <;> fail)) | fail))) | fail)), trivial⟩ ⟨rfl, ?_, trivial⟩⟩
    refine Eq.trans (b := AObj.mat 1 (List.set _ _ _)) rfl ?_
    rw [perform_step hw hr, List.map_set]
    congr 2
    exact cut_eq (clampS_le 64) b3 hrl
  have h := of_decide_eq_false h
  simp only [List.length_map] at h
  obtain rfl : k = pend.length := by omega
  refine awp_exit ?_
  refine awp_seq ?_
  refine awp_region (by kernel_rfl) ?_
  apply w_move
  case hg => exact (by exact True.intro)
  case hx => conv => lhs; whnf
  case hd => exact rfl
  apply w_assign
  case hg => exact (by exact True.intro)
  case hx => conv => lhs; whnf
  case hd => exact rfl
  refine .done (by exact fun h => Bool.noConfusion h) ?_
  exact awp_ret ⟨_, St.le_refl _, ⟨rfl, trivial⟩, subL_of ⟨rfl, trivial⟩⟩
end Go.Fw

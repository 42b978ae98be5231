/- PutValue, the program's and the reference's. -/
import Derived.Test.YtfejbhbfmhkndaaG3
import Derived.Test.YtfejbhbfmhkndaaK05s
import Derived.Test.YtfejbhbfmhkndaaK05r
namespace Go.Fw
open Go Go.Proofs
set_option linter.unusedVariables false
set_option linter.unusedSimpArgs false
theorem listV_mem {m : Nat} : ∀ {l : List Val} {x : Val}, listV m l = true → x ∈ l → validV m x = true
  | [], x, _, h => by simp at h
  | v :: r, x, h, hx => by
    rw [listV, Bool.and_eq_true] at h
    rcases List.mem_cons.1 hx with rfl | hx
    · exact h.1
    · exact listV_mem h.2 hx
theorem pathV_mem : ∀ {l : List Val} {i : Nat} {x : Val}, pathV i l = true → x ∈ l → validV 0 x = true
  | [], _, x, _, h => by simp at h
  | v :: r, i, x, h, hx => by
    rw [pathV, Bool.and_eq_true, Bool.and_eq_true] at h
    rcases List.mem_cons.1 hx with rfl | hx
    · exact h.1.2
    · exact pathV_mem h.2 hx
theorem valid_elems {m : Nat} {k n d : Int} {s : List UInt8} {l : List Val} (h : validV m (.mk k n d s l) = true) : ∀ x ∈ l, validV m x = true := by
  intro x hx
  rw [validV] at h
  by_cases h7 : k = 7
  · subst h7
    simp at h
    exact validV_mono x 0 m (by omega) (pathV_mem h.2.2 hx)
  · by_cases h8 : k = 8
    · subst h8
      simp at h
      exact validV_mono x (m - 1) m (by omega) (listV_mem h.2.2 hx)
    · have : l = [] := by
        simp [h7, h8] at h
        exact h.1.2
      subst this; simp at hx
theorem put_con : ∀ v : Val, validV 8 v = true → PutC v
  | .mk k n d s l => fun hv => put_of (.mk k n d s l) hv fun x hx => put_con x (valid_elems hv x hx)
termination_by v => SizeOf.sizeOf v
decreasing_by
  have h1 := List.sizeOf_lt_of_mem (show x ∈ l from hx)
  simp only [Val.mk.sizeOf_spec]
  omega
theorem put_nil (v : Val) (hv : validV 8 v = true) (hb : (putV v).length ≤ 140737488355328) : Con Try.prog 52 [] [ani, aVal v] [] (.d (dBytes (putV v))) := by
  have h := put_con v hv [] (by simpa using hb)
  have h2 := Con.adopt (sz := 1) (args := [aVal v]) h (by obtain ⟨k, n, d, s, l⟩ := v; rfl)
  exact h2.data (by simp)
set_option maxHeartbeats 8000000 in
theorem putValue_con (v : Val) (hb : (putV v).length ≤ 140737488355328) : Con Try.prog 33 [] [aVal v] [] (.d (dBytes (putValueS v))) := by
  refine con_of (xs := [.d (dBytes (putValueS v))]) Try.func33 rfl Try.ntmps33 rfl rfl rfl (fun E => ?_)
  have hval := validTop_con v
  cases hv : validV 8 v with
  | false =>
    rw [hv] at hval
    rw [show putValueS v = [] by unfold putValueS; rw [hv]; rfl]
    obtain ⟨k, n, d, s, l⟩ := v
    simp only [aVal] at hval
    refine k_s ?_; refine k_45 (γ := 100) ?_; refine k_4 ?_; refine k_d ?_; refine awp_seq ?_; refine k_s ?_; refine k_57 ?_; refine k_56 (hcon := hval) ?_ (hle := by refine ⟨(by exact AVal.le_refl _), ?_⟩; exact trivial) (hLi := by (repeat (first | exact trivial | refine ⟨rfl, ?_⟩ | fail)) <;> fail) (hnew := by (repeat (first | exact trivial | refine ⟨rfl, ?_⟩ | fail)) <;> fail) (hdead := by (repeat (first | exact trivial | refine ⟨rfl, ?_⟩ | fail)) <;> fail); refine k_67 ?_; refine k_d ?_; refine k_rt ?_; refine k_s ?_; refine k_4 ?_; refine k_d ?_
    exact awp_ret ⟨_, le_slot 2 (y := .d (dBytes [])) (AVal.le_nil 1), ⟨rfl, trivial⟩, subL_nil _⟩
  | true =>
    rw [hv] at hval
    rw [show putValueS v = putV v by unfold putValueS; rw [hv]; rfl]
    have hp := put_nil v hv hb
    obtain ⟨k, n, d, s, l⟩ := v
    simp only [aVal] at hval hp
    generalize putV (.mk k n d s l) = q at *
    refine k_s ?_; refine k_45 (γ := 100) ?_; refine k_4 ?_; refine k_d ?_; refine awp_seq ?_; refine k_s ?_; refine k_57 ?_; refine k_56 (hcon := hval) ?_ (hle := by refine ⟨(by exact AVal.le_refl _), ?_⟩; exact trivial) (hLi := by (repeat (first | exact trivial | refine ⟨rfl, ?_⟩ | fail)) <;> fail) (hnew := by (repeat (first | exact trivial | refine ⟨rfl, ?_⟩ | fail)) <;> fail) (hdead := by (repeat (first | exact trivial | refine ⟨rfl, ?_⟩ | fail)) <;> fail); refine k_67 ?_; refine k_d ?_; refine k_rf ?_; refine awp_skip ?_; refine k_s ?_; refine k_57 ?_; refine k_56 (hcon := hp) ?_ (hle := by refine ⟨(by exact AVal.le_refl _), ?_⟩; refine ⟨(by exact AVal.le_refl _), ?_⟩; exact trivial) (hLi := by (repeat (first | exact trivial | refine ⟨rfl, ?_⟩ | fail)) <;> fail) (hnew := by (repeat (first | exact trivial | refine ⟨rfl, ?_⟩ | fail)) <;> fail) (hdead := by (repeat (first | exact trivial | refine ⟨rfl, ?_⟩ | fail)) <;> fail)
    refine k_4 ?_; refine k_d ?_
    exact awp_ret ⟨_, St.le_refl _, ⟨rfl, trivial⟩, subL_nil _⟩
theorem putL_mem : ∀ {l : List Val} {x : Val}, x ∈ l → (putV x).length ≤ (putL l).length
  | [], x, h => by simp at h
  | v :: r, x, h => by
    simp only [putL, List.length_append]
    rcases List.mem_cons.1 h with rfl | h
    · omega
    · have := putL_mem h; omega
def RPutC (v : Val) : Prop := Con Try.prog 34 [] [aVal v] [] (.d (dBytes (putValueS v)))
set_option maxHeartbeats 8000000 in
theorem rput_of (v : Val) (hok : strOk v) (hb : (putV v).length ≤ 140737488355328) (ih : validV 8 v = true → ∀ x ∈ v.l, RPutC x) : RPutC v := by
  have hval := rvalidTop_con v hok
  refine con_of (xs := [.d (dBytes (putValueS v))]) Try.func34 rfl Try.ntmps34 rfl rfl rfl (fun E => ?_)
  obtain ⟨k, n, d, s, l⟩ := v
  simp only [aVal] at hval
  have hlen := cVals_len l
  simp only [Val.l] at ih
  cases hv : validV 8 (.mk k n d s l) with
  | false =>
    rw [hv] at hval
    rw [show putValueS (.mk k n d s l) = [] by unfold putValueS; rw [hv]; rfl]
    refine k_s ?_; refine k_45 (γ := 100) ?_; refine k_4 ?_; refine k_d ?_; refine awp_seq ?_; refine k_s ?_; refine k_57 ?_; refine k_56 (hcon := hval) ?_ (hle := by refine ⟨(by exact AVal.le_refl _), ?_⟩; exact trivial) (hLi := by (repeat (first | exact trivial | refine ⟨rfl, ?_⟩ | fail)) <;> fail) (hnew := by (repeat (first | exact trivial | refine ⟨rfl, ?_⟩ | fail)) <;> fail) (hdead := by (repeat (first | exact trivial | refine ⟨rfl, ?_⟩ | fail)) <;> fail); refine k_67 ?_; refine k_d ?_; refine k_rt ?_; refine k_s ?_; refine k_4 ?_; refine k_d ?_
    exact awp_ret ⟨_, le_slot 2 (y := .d (dBytes [])) (AVal.le_nil 1), ⟨rfl, trivial⟩, subL_nil _⟩
  | true =>
    have hel := valid_elems hv
    have ihv := ih hv
    rw [hv] at hval
    rw [show putValueS (.mk k n d s l) = putV (.mk k n d s l) by unfold putValueS; rw [hv]; rfl]
    rw [validV] at hv
    by_cases hk0 : k = 0
    · subst hk0
      have hput : putV (.mk 0 n d s l) = [UInt8.ofNat 0] := by rw [putV]; simp
      rw [hput] at hb ⊢
      refine k_s ?_; refine k_45 (γ := 100) ?_; refine k_4 ?_; refine k_d ?_; refine awp_seq ?_; refine k_s ?_; refine k_57 ?_; refine k_56 (hcon := hval) ?_ (hle := by refine ⟨(by exact AVal.le_refl _), ?_⟩; exact trivial) (hLi := by (repeat (first | exact trivial | refine ⟨rfl, ?_⟩ | fail)) <;> fail) (hnew := by (repeat (first | exact trivial | refine ⟨rfl, ?_⟩ | fail)) <;> fail) (hdead := by (repeat (first | exact trivial | refine ⟨rfl, ?_⟩ | fail)) <;> fail); refine k_67 ?_; refine k_d ?_; refine k_rf ?_; refine awp_skip ?_; refine k_s ?_; refine k_31 ?_; refine k_34 ?_; refine k_83 (u := nj 0) (r := n8 0) ?_ (hr := by exact rc_to8 rfl rfl); refine k_90 (γ := 130) ?_; refine k_4 ?_; refine k_d ?_; refine awp_seq ?_; refine k_s ?_; refine k_31 ?_; refine k_34 ?_; refine k_d ?_; refine awp_block ?_; refine awp_seq ?_; refine k_s ?_; refine k_7 ?_; refine k_4 ?_; refine k_d ?_; refine k_rf ?_
      refine k_s ?_; refine k_7 ?_; refine k_4 ?_; refine k_d ?_; refine k_rf ?_; refine k_s ?_; refine k_7 ?_; refine k_4 ?_; refine k_d ?_; refine k_rf ?_; refine k_r ?_; refine k_7 ?_; refine k_4 ?_; refine k_d ?_; refine k_rf ?_; refine k_s ?_; refine k_7 ?_; refine k_4 ?_; refine k_d ?_; refine k_rf ?_; refine k_s ?_; refine k_7 ?_; refine k_4 ?_; refine k_d ?_; refine k_rf ?_; refine awp_seq ?_; refine k_s ?_; refine k_7 ?_; refine k_4 ?_; refine k_d ?_; refine k_rf ?_; refine k_r ?_; refine k_7 ?_; refine k_4 ?_; refine k_d ?_; refine k_rf ?_; refine awp_skip ?_; refine k_s ?_; refine k_0 ?_; refine k_4 ?_; refine k_d ?_
      refine awp_le (le_freeze 130 rfl) ?_
      refine awp_le (le_data 2 130 rfl rfl (by first | rfl | (simp only [List.length_append, List.length_map, List.length_cons, List.length_nil] <;> omega))) ?_
      exact awp_ret ⟨_, le_slot 2 (y := .d (dBytes (UInt8.ofNat 0 :: []))) (AVal.le_of_eq (by refine Eq.trans (b := AVal.d (.sl 1 (_))) rfl ?_; show _ = AVal.d (.sl 1 ((UInt8.ofNat 0 :: []).map cByte)); simp only [List.map_append, List.map_cons, List.map_nil, List.append_assoc, List.cons_append, List.nil_append]; rfl)), ⟨rfl, trivial⟩, subL_nil _⟩
    by_cases hk1 : k = 1
    · subst hk1
      have hput : putV (.mk 1 n d s l) = UInt8.ofNat 1 :: putIntS n := by rw [putV]; simp
      have hn : -9223372036854775808 ≤ n ∧ n ≤ 9223372036854775807 := by simp at hv; omega
      have hpi := rputInt_con n hn
      rw [hput] at hb ⊢
      generalize putIntS n = q at *
      simp only [List.length_cons] at hb
      refine k_s ?_; refine k_45 (γ := 100) ?_; refine k_4 ?_; refine k_d ?_; refine awp_seq ?_; refine k_s ?_; refine k_57 ?_; refine k_56 (hcon := hval) ?_ (hle := by refine ⟨(by exact AVal.le_refl _), ?_⟩; exact trivial) (hLi := by (repeat (first | exact trivial | refine ⟨rfl, ?_⟩ | fail)) <;> fail) (hnew := by (repeat (first | exact trivial | refine ⟨rfl, ?_⟩ | fail)) <;> fail) (hdead := by (repeat (first | exact trivial | refine ⟨rfl, ?_⟩ | fail)) <;> fail); refine k_67 ?_; refine k_d ?_; refine k_rf ?_; refine awp_skip ?_; refine k_s ?_; refine k_31 ?_; refine k_34 ?_; refine k_83 (u := nj 1) (r := n8 1) ?_ (hr := by exact rc_to8 rfl rfl); refine k_90 (γ := 130) ?_; refine k_4 ?_; refine k_d ?_; refine awp_seq ?_; refine k_s ?_; refine k_31 ?_; refine k_34 ?_; refine k_d ?_; refine awp_block ?_; refine awp_seq ?_; refine k_s ?_; refine k_7 ?_; refine k_4 ?_; refine k_d ?_; refine k_rt ?_
      refine awp_skip ?_; refine k_rt ?_; refine k_s ?_; refine k_0 ?_; refine k_31 ?_; refine k_34 ?_; refine k_56 (hcon := hpi) ?_ (hle := by refine ⟨(by exact AVal.le_refl _), ?_⟩; exact trivial) (hLi := by (repeat (first | exact trivial | refine ⟨rfl, ?_⟩ | fail)) <;> fail) (hnew := by (repeat (first | exact trivial | refine ⟨rfl, ?_⟩ | fail)) <;> fail) (hdead := by (repeat (first | exact trivial | refine ⟨rfl, ?_⟩ | fail)) <;> fail); refine k_81 ?_; refine k_4 ?_; refine k_d ?_
      refine awp_le (le_freeze 130 rfl) ?_
      refine awp_le (le_data 2 130 rfl rfl (by first | rfl | (simp only [List.length_append, List.length_map, List.length_cons, List.length_nil] <;> omega))) ?_
      exact awp_ret ⟨_, le_slot 2 (y := .d (dBytes (UInt8.ofNat 1 :: q))) (AVal.le_of_eq (by refine Eq.trans (b := AVal.d (.sl 1 (_ ++ _))) rfl ?_; show _ = AVal.d (.sl 1 ((UInt8.ofNat 1 :: q).map cByte)); simp only [List.map_append, List.map_cons, List.map_nil, List.append_assoc, List.cons_append, List.nil_append]; rfl)), ⟨rfl, trivial⟩, subL_nil _⟩
    by_cases hk2 : k = 2
    · subst hk2
      have hput : putV (.mk 2 n d s l) = UInt8.ofNat 2 :: putIntS n := by rw [putV]; simp
      have hn : -9223372036854775808 ≤ n ∧ n ≤ 9223372036854775807 := by simp at hv; omega
      have hpi := rputInt_con n hn
      rw [hput] at hb ⊢
      generalize putIntS n = q at *
      simp only [List.length_cons] at hb
      refine k_s ?_; refine k_45 (γ := 100) ?_; refine k_4 ?_; refine k_d ?_; refine awp_seq ?_; refine k_s ?_; refine k_57 ?_; refine k_56 (hcon := hval) ?_ (hle := by refine ⟨(by exact AVal.le_refl _), ?_⟩; exact trivial) (hLi := by (repeat (first | exact trivial | refine ⟨rfl, ?_⟩ | fail)) <;> fail) (hnew := by (repeat (first | exact trivial | refine ⟨rfl, ?_⟩ | fail)) <;> fail) (hdead := by (repeat (first | exact trivial | refine ⟨rfl, ?_⟩ | fail)) <;> fail); refine k_67 ?_; refine k_d ?_; refine k_rf ?_; refine awp_skip ?_; refine k_s ?_; refine k_31 ?_; refine k_34 ?_; refine k_83 (u := nj 2) (r := n8 2) ?_ (hr := by exact rc_to8 rfl rfl); refine k_90 (γ := 130) ?_; refine k_4 ?_; refine k_d ?_; refine awp_seq ?_; refine k_s ?_; refine k_31 ?_; refine k_34 ?_; refine k_d ?_; refine awp_block ?_; refine awp_seq ?_; refine k_s ?_; refine k_7 ?_; refine k_4 ?_; refine k_d ?_; refine k_rf ?_
      refine k_s ?_; refine k_7 ?_; refine k_4 ?_; refine k_d ?_; refine k_rt ?_; refine awp_skip ?_; refine k_rt ?_; refine k_s ?_; refine k_0 ?_; refine k_31 ?_; refine k_34 ?_; refine k_56 (hcon := hpi) ?_ (hle := by refine ⟨(by exact AVal.le_refl _), ?_⟩; exact trivial) (hLi := by (repeat (first | exact trivial | refine ⟨rfl, ?_⟩ | fail)) <;> fail) (hnew := by (repeat (first | exact trivial | refine ⟨rfl, ?_⟩ | fail)) <;> fail) (hdead := by (repeat (first | exact trivial | refine ⟨rfl, ?_⟩ | fail)) <;> fail); refine k_81 ?_; refine k_4 ?_; refine k_d ?_
      refine awp_le (le_freeze 130 rfl) ?_
      refine awp_le (le_data 2 130 rfl rfl (by first | rfl | (simp only [List.length_append, List.length_map, List.length_cons, List.length_nil] <;> omega))) ?_
      exact awp_ret ⟨_, le_slot 2 (y := .d (dBytes (UInt8.ofNat 2 :: q))) (AVal.le_of_eq (by refine Eq.trans (b := AVal.d (.sl 1 (_ ++ _))) rfl ?_; show _ = AVal.d (.sl 1 ((UInt8.ofNat 2 :: q).map cByte)); simp only [List.map_append, List.map_cons, List.map_nil, List.append_assoc, List.cons_append, List.nil_append]; rfl)), ⟨rfl, trivial⟩, subL_nil _⟩
    by_cases hk3 : k = 3
    · subst hk3
      have hput : putV (.mk 3 n d s l) = UInt8.ofNat 3 :: (putIntS n ++ putIntS d) := by rw [putV]; simp
      have hnd : (-9223372036854775808 ≤ n ∧ n ≤ 9223372036854775807) ∧ -9223372036854775808 ≤ d ∧ d ≤ 9223372036854775807 := by simp [fracV] at hv; omega
      have hpi := rputInt_con n hnd.1
      have hpd := rputInt_con d hnd.2
      rw [hput] at hb ⊢
      generalize putIntS n = q at *
      generalize putIntS d = q2 at *
      simp only [List.length_append, List.length_cons] at hb
      refine k_s ?_; refine k_45 (γ := 100) ?_; refine k_4 ?_; refine k_d ?_; refine awp_seq ?_; refine k_s ?_; refine k_57 ?_; refine k_56 (hcon := hval) ?_ (hle := by refine ⟨(by exact AVal.le_refl _), ?_⟩; exact trivial) (hLi := by (repeat (first | exact trivial | refine ⟨rfl, ?_⟩ | fail)) <;> fail) (hnew := by (repeat (first | exact trivial | refine ⟨rfl, ?_⟩ | fail)) <;> fail) (hdead := by (repeat (first | exact trivial | refine ⟨rfl, ?_⟩ | fail)) <;> fail); refine k_67 ?_; refine k_d ?_; refine k_rf ?_; refine awp_skip ?_; refine k_s ?_; refine k_31 ?_; refine k_34 ?_; refine k_83 (u := nj 3) (r := n8 3) ?_ (hr := by exact rc_to8 rfl rfl); refine k_90 (γ := 130) ?_; refine k_4 ?_; refine k_d ?_; refine awp_seq ?_; refine k_s ?_; refine k_31 ?_; refine k_34 ?_; refine k_d ?_; refine awp_block ?_; refine awp_seq ?_; refine k_s ?_; refine k_7 ?_; refine k_4 ?_; refine k_d ?_; refine k_rf ?_
      refine k_s ?_; refine k_7 ?_; refine k_4 ?_; refine k_d ?_; refine k_rf ?_; refine k_s ?_; refine k_7 ?_; refine k_4 ?_; refine k_d ?_; refine k_rf ?_; refine k_r ?_; refine k_7 ?_; refine k_4 ?_; refine k_d ?_; refine k_rf ?_; refine k_s ?_; refine k_7 ?_; refine k_4 ?_; refine k_d ?_; refine k_rt ?_; refine k_s ?_; refine k_0 ?_; refine k_31 ?_; refine k_34 ?_; refine k_56 (hcon := hpi) ?_ (hle := by refine ⟨(by exact AVal.le_refl _), ?_⟩; exact trivial) (hLi := by (repeat (first | exact trivial | refine ⟨rfl, ?_⟩ | fail)) <;> fail) (hnew := by (repeat (first | exact trivial | refine ⟨rfl, ?_⟩ | fail)) <;> fail) (hdead := by (repeat (first | exact trivial | refine ⟨rfl, ?_⟩ | fail)) <;> fail); refine k_81 ?_; refine k_4 ?_; refine k_d ?_; refine k_s ?_; refine k_0 ?_; refine k_31 ?_; refine k_34 ?_; refine k_56 (hcon := hpd) ?_ (hle := by refine ⟨(by exact AVal.le_refl _), ?_⟩; exact trivial) (hLi := by (repeat (first | exact trivial | refine ⟨rfl, ?_⟩ | fail)) <;> fail) (hnew := by (repeat (first | exact trivial | refine ⟨rfl, ?_⟩ | fail)) <;> fail) (hdead := by (repeat (first | exact trivial | refine ⟨rfl, ?_⟩ | fail)) <;> fail)
      refine k_80 ?_ (hn := by simp only [List.length_map, List.length_take, List.length_drop, List.length_append, List.length_cons, List.length_nil, List.length_replicate, List.length_set] <;> omega); refine k_4 ?_; refine k_d ?_
      refine awp_le (le_freeze 130 rfl) ?_
      refine awp_le (le_data 2 130 rfl rfl (by first | rfl | (simp only [List.length_append, List.length_map, List.length_cons, List.length_nil] <;> omega))) ?_
      exact awp_ret ⟨_, le_slot 2 (y := .d (dBytes (UInt8.ofNat 3 :: (q ++ q2)))) (AVal.le_of_eq (by refine Eq.trans (b := AVal.d (.sl 1 (_ ++ _ ++ _))) rfl ?_; show _ = AVal.d (.sl 1 ((UInt8.ofNat 3 :: (q ++ q2)).map cByte)); simp only [List.map_append, List.map_cons, List.map_nil, List.append_assoc, List.cons_append, List.nil_append]; rfl)), ⟨rfl, trivial⟩, subL_nil _⟩
    by_cases hk4 : k = 4
    · subst hk4
      have hput : putV (.mk 4 n d s l) = UInt8.ofNat 4 :: putStrS s := by rw [putV]; simp
      have hs : s.length ≤ 65536 := by simp at hv; omega
      have hpi := rputStr_con s hs
      rw [hput] at hb ⊢
      generalize putStrS s = q at *
      simp only [List.length_cons] at hb
      refine k_s ?_; refine k_45 (γ := 100) ?_; refine k_4 ?_; refine k_d ?_; refine awp_seq ?_; refine k_s ?_; refine k_57 ?_; refine k_56 (hcon := hval) ?_ (hle := by refine ⟨(by exact AVal.le_refl _), ?_⟩; exact trivial) (hLi := by (repeat (first | exact trivial | refine ⟨rfl, ?_⟩ | fail)) <;> fail) (hnew := by (repeat (first | exact trivial | refine ⟨rfl, ?_⟩ | fail)) <;> fail) (hdead := by (repeat (first | exact trivial | refine ⟨rfl, ?_⟩ | fail)) <;> fail); refine k_67 ?_; refine k_d ?_; refine k_rf ?_; refine awp_skip ?_; refine k_s ?_; refine k_31 ?_; refine k_34 ?_; refine k_83 (u := nj 4) (r := n8 4) ?_ (hr := by exact rc_to8 rfl rfl); refine k_90 (γ := 130) ?_; refine k_4 ?_; refine k_d ?_; refine awp_seq ?_; refine k_s ?_; refine k_31 ?_; refine k_34 ?_; refine k_d ?_; refine awp_block ?_; refine awp_seq ?_; refine k_s ?_; refine k_7 ?_; refine k_4 ?_; refine k_d ?_; refine k_rf ?_
      refine k_s ?_; refine k_7 ?_; refine k_4 ?_; refine k_d ?_; refine k_rf ?_; refine k_s ?_; refine k_7 ?_; refine k_4 ?_; refine k_d ?_; refine k_rf ?_; refine k_r ?_; refine k_7 ?_; refine k_4 ?_; refine k_d ?_; refine k_rf ?_; refine k_s ?_; refine k_7 ?_; refine k_4 ?_; refine k_d ?_; refine k_rf ?_; refine k_s ?_; refine k_7 ?_; refine k_4 ?_; refine k_d ?_; refine k_rt ?_; refine k_s ?_; refine k_0 ?_; refine k_31 ?_; refine k_34 ?_; refine k_56 (hcon := hpi) ?_ (hle := by refine ⟨(by exact AVal.le_refl _), ?_⟩; exact trivial) (hLi := by (repeat (first | exact trivial | refine ⟨rfl, ?_⟩ | fail)) <;> fail) (hnew := by (repeat (first | exact trivial | refine ⟨rfl, ?_⟩ | fail)) <;> fail) (hdead := by (repeat (first | exact trivial | refine ⟨rfl, ?_⟩ | fail)) <;> fail); refine k_81 ?_; refine k_4 ?_; refine k_d ?_
      refine awp_le (le_freeze 130 rfl) ?_
      refine awp_le (le_data 2 130 rfl rfl (by first | rfl | (simp only [List.length_append, List.length_map, List.length_cons, List.length_nil] <;> omega))) ?_
      exact awp_ret ⟨_, le_slot 2 (y := .d (dBytes (UInt8.ofNat 4 :: q))) (AVal.le_of_eq (by refine Eq.trans (b := AVal.d (.sl 1 (_ ++ _))) rfl ?_; show _ = AVal.d (.sl 1 ((UInt8.ofNat 4 :: q).map cByte)); simp only [List.map_append, List.map_cons, List.map_nil, List.append_assoc, List.cons_append, List.nil_append]; rfl)), ⟨rfl, trivial⟩, subL_nil _⟩
    by_cases hk5 : k = 5
    · subst hk5
      have hput : putV (.mk 5 n d s l) = UInt8.ofNat 5 :: putIntS n := by rw [putV]; simp
      have hn : -9223372036854775808 ≤ n ∧ n ≤ 9223372036854775807 := by simp at hv; omega
      have hpi := rputInt_con n hn
      rw [hput] at hb ⊢
      generalize putIntS n = q at *
      simp only [List.length_cons] at hb
      refine k_s ?_; refine k_45 (γ := 100) ?_; refine k_4 ?_; refine k_d ?_; refine awp_seq ?_; refine k_s ?_; refine k_57 ?_; refine k_56 (hcon := hval) ?_ (hle := by refine ⟨(by exact AVal.le_refl _), ?_⟩; exact trivial) (hLi := by (repeat (first | exact trivial | refine ⟨rfl, ?_⟩ | fail)) <;> fail) (hnew := by (repeat (first | exact trivial | refine ⟨rfl, ?_⟩ | fail)) <;> fail) (hdead := by (repeat (first | exact trivial | refine ⟨rfl, ?_⟩ | fail)) <;> fail); refine k_67 ?_; refine k_d ?_; refine k_rf ?_; refine awp_skip ?_; refine k_s ?_; refine k_31 ?_; refine k_34 ?_; refine k_83 (u := nj 5) (r := n8 5) ?_ (hr := by exact rc_to8 rfl rfl); refine k_90 (γ := 130) ?_; refine k_4 ?_; refine k_d ?_; refine awp_seq ?_; refine k_s ?_; refine k_31 ?_; refine k_34 ?_; refine k_d ?_; refine awp_block ?_; refine awp_seq ?_; refine k_s ?_; refine k_7 ?_; refine k_4 ?_; refine k_d ?_; refine k_rf ?_
      refine k_s ?_; refine k_7 ?_; refine k_4 ?_; refine k_d ?_; refine k_rf ?_; refine k_s ?_; refine k_7 ?_; refine k_4 ?_; refine k_d ?_; refine k_rt ?_; refine awp_skip ?_; refine k_rt ?_; refine k_s ?_; refine k_0 ?_; refine k_31 ?_; refine k_34 ?_; refine k_56 (hcon := hpi) ?_ (hle := by refine ⟨(by exact AVal.le_refl _), ?_⟩; exact trivial) (hLi := by (repeat (first | exact trivial | refine ⟨rfl, ?_⟩ | fail)) <;> fail) (hnew := by (repeat (first | exact trivial | refine ⟨rfl, ?_⟩ | fail)) <;> fail) (hdead := by (repeat (first | exact trivial | refine ⟨rfl, ?_⟩ | fail)) <;> fail); refine k_81 ?_; refine k_4 ?_; refine k_d ?_
      refine awp_le (le_freeze 130 rfl) ?_
      refine awp_le (le_data 2 130 rfl rfl (by first | rfl | (simp only [List.length_append, List.length_map, List.length_cons, List.length_nil] <;> omega))) ?_
      exact awp_ret ⟨_, le_slot 2 (y := .d (dBytes (UInt8.ofNat 5 :: q))) (AVal.le_of_eq (by refine Eq.trans (b := AVal.d (.sl 1 (_ ++ _))) rfl ?_; show _ = AVal.d (.sl 1 ((UInt8.ofNat 5 :: q).map cByte)); simp only [List.map_append, List.map_cons, List.map_nil, List.append_assoc, List.cons_append, List.nil_append]; rfl)), ⟨rfl, trivial⟩, subL_nil _⟩
    by_cases hk6 : k = 6
    · subst hk6
      have hput : putV (.mk 6 n d s l) = UInt8.ofNat 6 :: putIntS n := by rw [putV]; simp
      have hn : -9223372036854775808 ≤ n ∧ n ≤ 9223372036854775807 := by simp at hv; omega
      have hpi := rputInt_con n hn
      rw [hput] at hb ⊢
      generalize putIntS n = q at *
      simp only [List.length_cons] at hb
      refine k_s ?_; refine k_45 (γ := 100) ?_; refine k_4 ?_; refine k_d ?_; refine awp_seq ?_; refine k_s ?_; refine k_57 ?_; refine k_56 (hcon := hval) ?_ (hle := by refine ⟨(by exact AVal.le_refl _), ?_⟩; exact trivial) (hLi := by (repeat (first | exact trivial | refine ⟨rfl, ?_⟩ | fail)) <;> fail) (hnew := by (repeat (first | exact trivial | refine ⟨rfl, ?_⟩ | fail)) <;> fail) (hdead := by (repeat (first | exact trivial | refine ⟨rfl, ?_⟩ | fail)) <;> fail); refine k_67 ?_; refine k_d ?_; refine k_rf ?_; refine awp_skip ?_; refine k_s ?_; refine k_31 ?_; refine k_34 ?_; refine k_83 (u := nj 6) (r := n8 6) ?_ (hr := by exact rc_to8 rfl rfl); refine k_90 (γ := 130) ?_; refine k_4 ?_; refine k_d ?_; refine awp_seq ?_; refine k_s ?_; refine k_31 ?_; refine k_34 ?_; refine k_d ?_; refine awp_block ?_; refine awp_seq ?_; refine k_s ?_; refine k_7 ?_; refine k_4 ?_; refine k_d ?_; refine k_rf ?_
      refine k_s ?_; refine k_7 ?_; refine k_4 ?_; refine k_d ?_; refine k_rf ?_; refine k_s ?_; refine k_7 ?_; refine k_4 ?_; refine k_d ?_; refine k_rf ?_; refine k_r ?_; refine k_7 ?_; refine k_4 ?_; refine k_d ?_; refine k_rt ?_; refine k_s ?_; refine k_0 ?_; refine k_31 ?_; refine k_34 ?_; refine k_56 (hcon := hpi) ?_ (hle := by refine ⟨(by exact AVal.le_refl _), ?_⟩; exact trivial) (hLi := by (repeat (first | exact trivial | refine ⟨rfl, ?_⟩ | fail)) <;> fail) (hnew := by (repeat (first | exact trivial | refine ⟨rfl, ?_⟩ | fail)) <;> fail) (hdead := by (repeat (first | exact trivial | refine ⟨rfl, ?_⟩ | fail)) <;> fail); refine k_81 ?_; refine k_4 ?_; refine k_d ?_
      refine awp_le (le_freeze 130 rfl) ?_
      refine awp_le (le_data 2 130 rfl rfl (by first | rfl | (simp only [List.length_append, List.length_map, List.length_cons, List.length_nil] <;> omega))) ?_
      exact awp_ret ⟨_, le_slot 2 (y := .d (dBytes (UInt8.ofNat 6 :: q))) (AVal.le_of_eq (by refine Eq.trans (b := AVal.d (.sl 1 (_ ++ _))) rfl ?_; show _ = AVal.d (.sl 1 ((UInt8.ofNat 6 :: q).map cByte)); simp only [List.map_append, List.map_cons, List.map_nil, List.append_assoc, List.cons_append, List.nil_append]; rfl)), ⟨rfl, trivial⟩, subL_nil _⟩
    by_cases hk7 : k = 7
    · subst hk7
      have hput : putV (.mk 7 n d s l) = UInt8.ofNat 7 :: (putUintS l.length ++ putL l) := by rw [putV]; simp
      have hll : l.length ≤ 64 := by simp at hv; omega
      have hpu := rputUint_con (cVals l).length (by omega)
      rw [← hlen] at hput
      rw [hput] at hb ⊢
      generalize putUintS ((cVals l).length : Int) = q at *
      simp only [List.length_append, List.length_cons] at hb
      refine k_s ?_; refine k_45 (γ := 100) ?_; refine k_4 ?_; refine k_d ?_; refine awp_seq ?_; refine k_s ?_; refine k_57 ?_; refine k_56 (hcon := hval) ?_ (hle := by refine ⟨(by exact AVal.le_refl _), ?_⟩; exact trivial) (hLi := by (repeat (first | exact trivial | refine ⟨rfl, ?_⟩ | fail)) <;> fail) (hnew := by (repeat (first | exact trivial | refine ⟨rfl, ?_⟩ | fail)) <;> fail) (hdead := by (repeat (first | exact trivial | refine ⟨rfl, ?_⟩ | fail)) <;> fail); refine k_67 ?_; refine k_d ?_; refine k_rf ?_; refine awp_skip ?_; refine k_s ?_; refine k_31 ?_; refine k_34 ?_; refine k_83 (u := nj 7) (r := n8 7) ?_ (hr := by exact rc_to8 rfl rfl); refine k_90 (γ := 130) ?_; refine k_4 ?_; refine k_d ?_; refine awp_seq ?_; refine k_s ?_; refine k_31 ?_; refine k_34 ?_; refine k_d ?_; refine awp_block ?_; refine awp_seq ?_; refine k_s ?_; refine k_7 ?_; refine k_4 ?_; refine k_d ?_; refine k_rf ?_
      refine k_s ?_; refine k_7 ?_; refine k_4 ?_; refine k_d ?_; refine k_rf ?_; refine k_s ?_; refine k_7 ?_; refine k_4 ?_; refine k_d ?_; refine k_rf ?_; refine k_r ?_; refine k_7 ?_; refine k_4 ?_; refine k_d ?_; refine k_rf ?_; refine k_s ?_; refine k_7 ?_; refine k_4 ?_; refine k_d ?_; refine k_rf ?_; refine k_s ?_; refine k_7 ?_; refine k_4 ?_; refine k_d ?_; refine k_rf ?_; refine awp_seq ?_; refine k_s ?_; refine k_7 ?_; refine k_4 ?_; refine k_d ?_; refine k_rf ?_; refine k_r ?_; refine k_7 ?_; refine k_4 ?_; refine k_d ?_; refine k_rt ?_; refine k_s ?_; refine k_0 ?_; refine k_31 ?_; refine k_34 ?_; refine k_60 ?_; refine k_56 (hcon := hpu) ?_ (hle := by refine ⟨(by exact AVal.le_refl _), ?_⟩; exact trivial) (hLi := by (repeat (first | exact trivial | refine ⟨rfl, ?_⟩ | fail)) <;> fail) (hnew := by (repeat (first | exact trivial | refine ⟨rfl, ?_⟩ | fail)) <;> fail) (hdead := by (repeat (first | exact trivial | refine ⟨rfl, ?_⟩ | fail)) <;> fail)
      refine k_81 ?_; refine k_4 ?_; refine k_d ?_; refine k_s ?_; refine k_4 ?_; refine k_d ?_; refine awp_block ?_
      refine awp_loopI (fun i : Nat => i ≤ l.length) (fun i => ⟨68, [(1, .ptr 100 0), (3, .own 130 (UInt8.ofNat 7 :: (q ++ putL (l.take i))).length), (4, ai i)], [(100, .box [ai 7, ai n, ai d, aStr' s, .d (.sl 5 (cVals l))]), (130, .row 1 ((UInt8.ofNat 7 :: (q ++ putL (l.take i))).map cByte))]⟩) (fun i => l.length - i) 0 (by omega)
        (le_mk rfl ⟨(by (first | ((exact AVal.le_refl _)) | ((exact AVal.le_nil _)) | ((refine AVal.le_agg ?_; ((repeat (first | exact trivial | refine ⟨(by (first | ((exact AVal.le_refl _)) | ((exact AVal.le_nil _)) | ((refine AVal.le_of_eq ?_; (conv => lhs; whnf); (first | ((rfl)) | ((simp <;> fail)) | fail))) | fail)), ?_⟩ | fail)) <;> fail))) | ((refine AVal.le_of_eq ?_; (conv => lhs; whnf); (first | ((rfl)) | ((simp <;> fail)) | fail))) | fail)), (by refine AVal.le_of_eq ?_; refine Eq.trans (b := AVal.own 130 (_ + _)) rfl ?_; congr 1; simp only [List.take_zero, putL, List.append_nil, List.length_map, List.length_cons, List.length_nil] <;> omega), (by (first | ((exact AVal.le_refl _)) | ((exact AVal.le_nil _)) | ((refine AVal.le_agg ?_; ((repeat (first | exact trivial | refine ⟨(by (first | ((exact AVal.le_refl _)) | ((exact AVal.le_nil _)) | ((refine AVal.le_of_eq ?_; (conv => lhs; whnf); (first | ((rfl)) | ((simp <;> fail)) | fail))) | fail)), ?_⟩ | fail)) <;> fail))) | ((refine AVal.le_of_eq ?_; (conv => lhs; whnf); (first | ((rfl)) | ((simp <;> fail)) | fail))) | fail)), trivial⟩ ⟨rfl, ?_, trivial⟩) ?_
      · refine Eq.trans (b := AObj.row 1 (_ ++ _)) rfl ?_
        simp only [List.take_zero, putL, List.append_nil, List.map_cons, List.cons_append, List.nil_append]; rfl
      intro i hi
      by_cases hlt : i < l.length
      · obtain ⟨x, hx⟩ := get_of_lt (l := l) hlt
        have hgx := cVals_get hx
        have htk := putL_take hx
        have hle := putL_take_le l (i + 1)
        have hpx := ihv x (List.mem_of_getElem? hx)
        unfold RPutC at hpx
        rw [show putValueS x = putV x by unfold putValueS; rw [hel x (List.mem_of_getElem? hx)]; rfl] at hpx
        rw [htk] at hle
        simp only [List.length_append] at hle
        generalize putL (l.take i) = pre at *
        generalize putV x = px at *
        obtain ⟨k', n', d', s', q'⟩ := x
        simp only [aVal] at hpx
        rw [cVal] at hgx
        refine awp_seq ?_; refine k_s ?_; refine k_0 ?_; refine k_31 ?_; refine k_34 ?_; refine k_60 ?_; refine k_9 ?_; refine k_d ?_; refine k_ct ?_; refine awp_skip ?_; refine awp_seq ?_; refine awp_block ?_; refine k_r ?_; refine k_0 ?_; refine k_31 ?_; refine k_34 ?_; refine k_0 ?_; refine k_71 ?_; refine k_88 ?_; refine k_56 (hcon := hpx) ?_ (hle := by refine ⟨(by exact AVal.le_refl _), ?_⟩; exact trivial) (hLi := by (repeat (first | exact trivial | refine ⟨rfl, ?_⟩ | fail)) <;> fail) (hnew := by (repeat (first | exact trivial | refine ⟨rfl, ?_⟩ | fail)) <;> fail) (hdead := by (repeat (first | exact trivial | refine ⟨rfl, ?_⟩ | fail)) <;> fail); refine k_80 ?_; refine k_4 ?_; refine k_d ?_; refine k_r ?_; refine k_0 ?_; refine k_14 ?_; refine k_4 ?_; refine k_d ?_
        refine ⟨i + 1, by omega, by omega, le_mk rfl ⟨(by (first | ((exact AVal.le_refl _)) | ((exact AVal.le_nil _)) | ((refine AVal.le_agg ?_; ((repeat (first | exact trivial | refine ⟨(by (first | ((exact AVal.le_refl _)) | ((exact AVal.le_nil _)) | ((refine AVal.le_of_eq ?_; (conv => lhs; whnf); (first | ((rfl)) | ((simp <;> fail)) | fail))) | fail)), ?_⟩ | fail)) <;> fail))) | ((refine AVal.le_of_eq ?_; (conv => lhs; whnf); (first | ((rfl)) | ((simp <;> fail)) | fail))) | fail)), (by refine AVal.le_of_eq ?_; refine Eq.trans (b := AVal.own 130 (_ + _)) rfl ?_; congr 1; rw [htk]; simp only [List.length_append, List.length_map, List.length_cons] <;> omega), (by (first | ((exact AVal.le_refl _)) | ((exact AVal.le_nil _)) | ((refine AVal.le_agg ?_; ((repeat (first | exact trivial | refine ⟨(by (first | ((exact AVal.le_refl _)) | ((exact AVal.le_nil _)) | ((refine AVal.le_of_eq ?_; (conv => lhs; whnf); (first | ((rfl)) | ((simp <;> fail)) | fail))) | fail)), ?_⟩ | fail)) <;> fail))) | ((refine AVal.le_of_eq ?_; (conv => lhs; whnf); (first | ((rfl)) | ((simp <;> fail)) | fail))) | fail)), trivial⟩ ⟨rfl, ?_, trivial⟩⟩
        refine Eq.trans (b := AObj.row 1 (_ ++ _)) rfl ?_
        rw [htk]
        simp only [List.map_append, List.map_cons, List.cons_append, List.append_assoc]
      obtain rfl : i = l.length := by omega
      rw [List.take_length]
      refine awp_le (le_freeze 130 rfl) ?_
      refine awp_le (le_data 3 130 rfl rfl (by simp)) ?_
      refine awp_seq ?_; refine k_s ?_; refine k_0 ?_; refine k_31 ?_; refine k_34 ?_; refine k_60 ?_; refine k_9 ?_; refine k_d ?_; refine k_cf ?_; refine awp_exit ?_; refine k_s ?_; refine k_0 ?_; refine k_4 ?_; refine k_d ?_
      exact awp_ret ⟨_, St.le_refl _, ⟨rfl, trivial⟩, subL_nil _⟩
    by_cases hk8 : k = 8
    · subst hk8
      have hput : putV (.mk 8 n d s l) = UInt8.ofNat 8 :: (putUintS l.length ++ putL l) := by rw [putV]; simp
      have hll : l.length ≤ 64 := by simp at hv; omega
      have hpu := rputUint_con (cVals l).length (by omega)
      rw [← hlen] at hput
      rw [hput] at hb ⊢
      generalize putUintS ((cVals l).length : Int) = q at *
      simp only [List.length_append, List.length_cons] at hb
      refine k_s ?_; refine k_45 (γ := 100) ?_; refine k_4 ?_; refine k_d ?_; refine awp_seq ?_; refine k_s ?_; refine k_57 ?_; refine k_56 (hcon := hval) ?_ (hle := by refine ⟨(by exact AVal.le_refl _), ?_⟩; exact trivial) (hLi := by (repeat (first | exact trivial | refine ⟨rfl, ?_⟩ | fail)) <;> fail) (hnew := by (repeat (first | exact trivial | refine ⟨rfl, ?_⟩ | fail)) <;> fail) (hdead := by (repeat (first | exact trivial | refine ⟨rfl, ?_⟩ | fail)) <;> fail); refine k_67 ?_; refine k_d ?_; refine k_rf ?_; refine awp_skip ?_; refine k_s ?_; refine k_31 ?_; refine k_34 ?_; refine k_83 (u := nj 8) (r := n8 8) ?_ (hr := by exact rc_to8 rfl rfl); refine k_90 (γ := 130) ?_; refine k_4 ?_; refine k_d ?_; refine awp_seq ?_; refine k_s ?_; refine k_31 ?_; refine k_34 ?_; refine k_d ?_; refine awp_block ?_; refine awp_seq ?_; refine k_s ?_; refine k_7 ?_; refine k_4 ?_; refine k_d ?_; refine k_rf ?_
      refine k_s ?_; refine k_7 ?_; refine k_4 ?_; refine k_d ?_; refine k_rf ?_; refine k_s ?_; refine k_7 ?_; refine k_4 ?_; refine k_d ?_; refine k_rf ?_; refine k_r ?_; refine k_7 ?_; refine k_4 ?_; refine k_d ?_; refine k_rf ?_; refine k_s ?_; refine k_7 ?_; refine k_4 ?_; refine k_d ?_; refine k_rf ?_; refine k_s ?_; refine k_7 ?_; refine k_4 ?_; refine k_d ?_; refine k_rf ?_; refine awp_seq ?_; refine k_s ?_; refine k_7 ?_; refine k_4 ?_; refine k_d ?_; refine k_rt ?_; refine awp_skip ?_; refine k_rt ?_; refine k_s ?_; refine k_0 ?_; refine k_31 ?_; refine k_34 ?_; refine k_60 ?_; refine k_56 (hcon := hpu) ?_ (hle := by refine ⟨(by exact AVal.le_refl _), ?_⟩; exact trivial) (hLi := by (repeat (first | exact trivial | refine ⟨rfl, ?_⟩ | fail)) <;> fail) (hnew := by (repeat (first | exact trivial | refine ⟨rfl, ?_⟩ | fail)) <;> fail) (hdead := by (repeat (first | exact trivial | refine ⟨rfl, ?_⟩ | fail)) <;> fail)
      refine k_81 ?_; refine k_4 ?_; refine k_d ?_; refine k_s ?_; refine k_4 ?_; refine k_d ?_; refine awp_block ?_
      refine awp_loopI (fun i : Nat => i ≤ l.length) (fun i => ⟨68, [(1, .ptr 100 0), (3, .own 130 (UInt8.ofNat 8 :: (q ++ putL (l.take i))).length), (4, ai i)], [(100, .box [ai 8, ai n, ai d, aStr' s, .d (.sl 5 (cVals l))]), (130, .row 1 ((UInt8.ofNat 8 :: (q ++ putL (l.take i))).map cByte))]⟩) (fun i => l.length - i) 0 (by omega)
        (le_mk rfl ⟨(by (first | ((exact AVal.le_refl _)) | ((exact AVal.le_nil _)) | ((refine AVal.le_agg ?_; ((repeat (first | exact trivial | refine ⟨(by (first | ((exact AVal.le_refl _)) | ((exact AVal.le_nil _)) | ((refine AVal.le_of_eq ?_; (conv => lhs; whnf); (first | ((rfl)) | ((simp <;> fail)) | fail))) | fail)), ?_⟩ | fail)) <;> fail))) | ((refine AVal.le_of_eq ?_; (conv => lhs; whnf); (first | ((rfl)) | ((simp <;> fail)) | fail))) | fail)), (by refine AVal.le_of_eq ?_; refine Eq.trans (b := AVal.own 130 (_ + _)) rfl ?_; congr 1; simp only [List.take_zero, putL, List.append_nil, List.length_map, List.length_cons, List.length_nil] <;> omega), (by (first | ((exact AVal.le_refl _)) | ((exact AVal.le_nil _)) | ((refine AVal.le_agg ?_; ((repeat (first | exact trivial | refine ⟨(by (first | ((exact AVal.le_refl _)) | ((exact AVal.le_nil _)) | ((refine AVal.le_of_eq ?_; (conv => lhs; whnf); (first | ((rfl)) | ((simp <;> fail)) | fail))) | fail)), ?_⟩ | fail)) <;> fail))) | ((refine AVal.le_of_eq ?_; (conv => lhs; whnf); (first | ((rfl)) | ((simp <;> fail)) | fail))) | fail)), trivial⟩ ⟨rfl, ?_, trivial⟩) ?_
      · refine Eq.trans (b := AObj.row 1 (_ ++ _)) rfl ?_
        simp only [List.take_zero, putL, List.append_nil, List.map_cons, List.cons_append, List.nil_append]; rfl
      intro i hi
      by_cases hlt : i < l.length
      · obtain ⟨x, hx⟩ := get_of_lt (l := l) hlt
        have hgx := cVals_get hx
        have htk := putL_take hx
        have hle := putL_take_le l (i + 1)
        have hpx := ihv x (List.mem_of_getElem? hx)
        unfold RPutC at hpx
        rw [show putValueS x = putV x by unfold putValueS; rw [hel x (List.mem_of_getElem? hx)]; rfl] at hpx
        rw [htk] at hle
        simp only [List.length_append] at hle
        generalize putL (l.take i) = pre at *
        generalize putV x = px at *
        obtain ⟨k', n', d', s', q'⟩ := x
        simp only [aVal] at hpx
        rw [cVal] at hgx
        refine awp_seq ?_; refine k_s ?_; refine k_0 ?_; refine k_31 ?_; refine k_34 ?_; refine k_60 ?_; refine k_9 ?_; refine k_d ?_; refine k_ct ?_; refine awp_skip ?_; refine awp_seq ?_; refine awp_block ?_; refine k_r ?_; refine k_0 ?_; refine k_31 ?_; refine k_34 ?_; refine k_0 ?_; refine k_71 ?_; refine k_88 ?_; refine k_56 (hcon := hpx) ?_ (hle := by refine ⟨(by exact AVal.le_refl _), ?_⟩; exact trivial) (hLi := by (repeat (first | exact trivial | refine ⟨rfl, ?_⟩ | fail)) <;> fail) (hnew := by (repeat (first | exact trivial | refine ⟨rfl, ?_⟩ | fail)) <;> fail) (hdead := by (repeat (first | exact trivial | refine ⟨rfl, ?_⟩ | fail)) <;> fail); refine k_80 ?_; refine k_4 ?_; refine k_d ?_; refine k_r ?_; refine k_0 ?_; refine k_14 ?_; refine k_4 ?_; refine k_d ?_
        refine ⟨i + 1, by omega, by omega, le_mk rfl ⟨(by (first | ((exact AVal.le_refl _)) | ((exact AVal.le_nil _)) | ((refine AVal.le_agg ?_; ((repeat (first | exact trivial | refine ⟨(by (first | ((exact AVal.le_refl _)) | ((exact AVal.le_nil _)) | ((refine AVal.le_of_eq ?_; (conv => lhs; whnf); (first | ((rfl)) | ((simp <;> fail)) | fail))) | fail)), ?_⟩ | fail)) <;> fail))) | ((refine AVal.le_of_eq ?_; (conv => lhs; whnf); (first | ((rfl)) | ((simp <;> fail)) | fail))) | fail)), (by refine AVal.le_of_eq ?_; refine Eq.trans (b := AVal.own 130 (_ + _)) rfl ?_; congr 1; rw [htk]; simp only [List.length_append, List.length_map, List.length_cons] <;> omega), (by (first | ((exact AVal.le_refl _)) | ((exact AVal.le_nil _)) | ((refine AVal.le_agg ?_; ((repeat (first | exact trivial | refine ⟨(by (first | ((exact AVal.le_refl _)) | ((exact AVal.le_nil _)) | ((refine AVal.le_of_eq ?_; (conv => lhs; whnf); (first | ((rfl)) | ((simp <;> fail)) | fail))) | fail)), ?_⟩ | fail)) <;> fail))) | ((refine AVal.le_of_eq ?_; (conv => lhs; whnf); (first | ((rfl)) | ((simp <;> fail)) | fail))) | fail)), trivial⟩ ⟨rfl, ?_, trivial⟩⟩
        refine Eq.trans (b := AObj.row 1 (_ ++ _)) rfl ?_
        rw [htk]
        simp only [List.map_append, List.map_cons, List.cons_append, List.append_assoc]
      obtain rfl : i = l.length := by omega
      rw [List.take_length]
      refine awp_le (le_freeze 130 rfl) ?_
      refine awp_le (le_data 3 130 rfl rfl (by simp)) ?_
      refine awp_seq ?_; refine k_s ?_; refine k_0 ?_; refine k_31 ?_; refine k_34 ?_; refine k_60 ?_; refine k_9 ?_; refine k_d ?_; refine k_cf ?_; refine awp_exit ?_; refine k_s ?_; refine k_0 ?_; refine k_4 ?_; refine k_d ?_
      exact awp_ret ⟨_, St.le_refl _, ⟨rfl, trivial⟩, subL_nil _⟩
    simp [*] at hv
theorem elem_len {k n d : Int} {s : List UInt8} {l : List Val} (hv : validV 8 (.mk k n d s l) = true) : ∀ x ∈ l, (putV x).length ≤ (putV (.mk k n d s l)).length := by
  intro x hx
  have hm := putL_mem hx
  by_cases h7 : k = 7
  · subst h7
    rw [show putV (.mk 7 n d s l) = UInt8.ofNat 7 :: (putUintS l.length ++ putL l) by rw [putV]; simp]
    simp only [List.length_cons, List.length_append]; omega
  · by_cases h8 : k = 8
    · subst h8
      rw [show putV (.mk 8 n d s l) = UInt8.ofNat 8 :: (putUintS l.length ++ putL l) by rw [putV]; simp]
      simp only [List.length_cons, List.length_append]; omega
    · have : l = [] := by
        rw [validV] at hv
        simp [h7, h8] at hv
        exact hv.1.2
      subst this; simp at hx
theorem rputValue_con : ∀ v : Val, strOk v → (putV v).length ≤ 140737488355328 → RPutC v
  | .mk k n d s l => fun hok hb => rput_of (.mk k n d s l) hok hb fun hv x hx => rputValue_con x (strOkL_mem (by rw [strOk] at hok; exact hok.2.2) hx) (Nat.le_trans (elem_len hv x hx) hb)
termination_by v => SizeOf.sizeOf v
decreasing_by
  have h1 := List.sizeOf_lt_of_mem (show x ∈ l from hx)
  simp only [Val.mk.sizeOf_spec]
  omega
end Go.Fw

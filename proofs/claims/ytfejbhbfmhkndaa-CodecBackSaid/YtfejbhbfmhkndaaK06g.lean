/- Order of the reference, for equal arguments: fractions, numbers, strings. -/
import Derived.Test.YtfejbhbfmhkndaaG3
import Derived.Test.YtfejbhbfmhkndaaK06f
import Derived.Test.YtfejbhbfmhkndaaK05t
namespace Go.Fw
open Go Go.Proofs
set_option linter.unusedVariables false
set_option linter.unusedSimpArgs false
theorem sgnI_range (n : Int) : sgnI n = 0 ∨ sgnI n = 1 ∨ sgnI n = -1 := by
  unfold sgnI
  split
  · exact .inr (.inr rfl)
  · split
    · exact .inr (.inl rfl)
    · exact .inl rfl
set_option maxHeartbeats 8000000 in
theorem cmp_same (n d : Int) : Con Try.prog 48 [] [aFrac n d, aFrac n d] [] (ai 0) := by
  refine con_of (xs := [ai 0]) Try.func48 rfl Try.ntmps48 rfl rfl rfl (fun E => ?_)
  have hv := rfracValid_con n d
  cases hb : fracV n d with
  | true =>
    rw [hb] at hv
    simp [fracV] at hb
    obtain ⟨D, rfl⟩ : ∃ D : Nat, d = D := ⟨d.toNat, by omega⟩
    have hsz := size_con n (by omega)
    have hsg := sign_con n
    have hr := sgnI_range n
    have ht := times_con n.natAbs D (by omega) (by omega)
    have hsum := sum_same (sgnI n) hr (digs 14 (n.natAbs * D)) (digs_low _ _) (digs_len _ _)
    generalize sgnI n = s at *
    generalize digs 14 (n.natAbs * D) = x at *
    generalize sumM s x = y at *
    generalize n.natAbs = N at *
    have hr1 : -1 ≤ s ∧ s ≤ 1 := by omega
    clear hr hb
    refine k_s ?_; refine k_45 (γ := 100) ?_; refine k_45 (γ := 101) ?_; refine k_4 ?_; refine k_d ?_; refine awp_seq ?_; refine k_s ?_; refine k_57 ?_; refine k_56 (hcon := hv) ?_ (hle := by refine ⟨(by exact AVal.le_refl _), ?_⟩; exact trivial) (hLi := by (repeat (first | exact trivial | refine ⟨rfl, ?_⟩ | fail)) <;> fail) (hnew := by (repeat (first | exact trivial | refine ⟨rfl, ?_⟩ | fail)) <;> fail) (hdead := by (repeat (first | exact trivial | refine ⟨rfl, ?_⟩ | fail)) <;> fail); refine k_67 ?_; refine k_d ?_; refine k_rf ?_; refine awp_skip ?_; refine awp_seq ?_; refine k_s ?_; refine k_57 ?_; refine k_56 (hcon := hv) ?_ (hle := by refine ⟨(by exact AVal.le_refl _), ?_⟩; exact trivial) (hLi := by (repeat (first | exact trivial | refine ⟨rfl, ?_⟩ | fail)) <;> fail) (hnew := by (repeat (first | exact trivial | refine ⟨rfl, ?_⟩ | fail)) <;> fail) (hdead := by (repeat (first | exact trivial | refine ⟨rfl, ?_⟩ | fail)) <;> fail)
    refine k_67 ?_; refine k_d ?_; refine k_rf ?_; refine awp_skip ?_; refine k_s ?_; refine k_31 ?_; refine k_34 ?_; refine k_56 (hcon := hsg) ?_ (hle := by refine ⟨(by exact AVal.le_refl _), ?_⟩; exact trivial) (hLi := by (repeat (first | exact trivial | refine ⟨rfl, ?_⟩ | fail)) <;> fail) (hnew := by (repeat (first | exact trivial | refine ⟨rfl, ?_⟩ | fail)) <;> fail) (hdead := by (repeat (first | exact trivial | refine ⟨rfl, ?_⟩ | fail)) <;> fail); refine k_31 ?_; refine k_34 ?_; refine k_56 (hcon := hsz) ?_ (hle := by refine ⟨(by exact AVal.le_refl _), ?_⟩; exact trivial) (hLi := by (repeat (first | exact trivial | refine ⟨rfl, ?_⟩ | fail)) <;> fail) (hnew := by (repeat (first | exact trivial | refine ⟨rfl, ?_⟩ | fail)) <;> fail) (hdead := by (repeat (first | exact trivial | refine ⟨rfl, ?_⟩ | fail)) <;> fail); refine k_31 ?_; refine k_34 ?_; refine k_56 (hcon := ht) ?_ (hle := by refine ⟨(by exact AVal.le_refl _), ?_⟩; refine ⟨(by exact AVal.le_refl _), ?_⟩; exact trivial) (hLi := by (repeat (first | exact trivial | refine ⟨rfl, ?_⟩ | fail)) <;> fail) (hnew := by (repeat (first | exact trivial | refine ⟨rfl, ?_⟩ | fail)) <;> fail) (hdead := by (repeat (first | exact trivial | refine ⟨rfl, ?_⟩ | fail)) <;> fail)
    refine k_31 ?_; refine k_34 ?_; refine k_56 (hcon := hsg) ?_ (hle := by refine ⟨(by exact AVal.le_refl _), ?_⟩; exact trivial) (hLi := by (repeat (first | exact trivial | refine ⟨rfl, ?_⟩ | fail)) <;> fail) (hnew := by (repeat (first | exact trivial | refine ⟨rfl, ?_⟩ | fail)) <;> fail) (hdead := by (repeat (first | exact trivial | refine ⟨rfl, ?_⟩ | fail)) <;> fail); refine k_67 ?_ (hr := by exact ru_neg (by omega)); refine k_31 ?_; refine k_34 ?_; refine k_56 (hcon := hsz) ?_ (hle := by refine ⟨(by exact AVal.le_refl _), ?_⟩; exact trivial) (hLi := by (repeat (first | exact trivial | refine ⟨rfl, ?_⟩ | fail)) <;> fail) (hnew := by (repeat (first | exact trivial | refine ⟨rfl, ?_⟩ | fail)) <;> fail) (hdead := by (repeat (first | exact trivial | refine ⟨rfl, ?_⟩ | fail)) <;> fail); refine k_31 ?_; refine k_34 ?_; refine k_56 (hcon := ht) ?_ (hle := by refine ⟨(by exact AVal.le_refl _), ?_⟩; refine ⟨(by exact AVal.le_refl _), ?_⟩; exact trivial) (hLi := by (repeat (first | exact trivial | refine ⟨rfl, ?_⟩ | fail)) <;> fail) (hnew := by (repeat (first | exact trivial | refine ⟨rfl, ?_⟩ | fail)) <;> fail) (hdead := by (repeat (first | exact trivial | refine ⟨rfl, ?_⟩ | fail)) <;> fail)
    refine k_56 (hcon := hsum) ?_ (hle := by refine ⟨(by exact AVal.le_refl _), ?_⟩; refine ⟨(by exact AVal.le_refl _), ?_⟩; refine ⟨(by exact AVal.le_refl _), ?_⟩; refine ⟨(by exact AVal.le_refl _), ?_⟩; exact trivial) (hLi := by (repeat (first | exact trivial | refine ⟨rfl, ?_⟩ | fail)) <;> fail) (hnew := by (repeat (first | exact trivial | refine ⟨rfl, ?_⟩ | fail)) <;> fail) (hdead := by (repeat (first | exact trivial | refine ⟨rfl, ?_⟩ | fail)) <;> fail); refine k_0 ?_; refine k_37 ?_; refine k_37 ?_; refine k_4 ?_; refine k_4 ?_; refine k_e ?_; refine k_s ?_; refine k_0 ?_; refine k_4 ?_; refine k_d ?_
    exact awp_ret ⟨_, St.le_refl _, ⟨rfl, trivial⟩, subL_nil _⟩
  | false =>
    rw [hb] at hv
    clear hb
    have hsz : Con Try.prog 64 [] [ai 0] [] (ai 0) := size_con 0 (by omega)
    have hsg : Con Try.prog 62 [] [ai 0] [] (ai 0) := sign_con 0
    have ht : Con Try.prog 63 [] [ai 0, ai 1] [] (.d (dWide (digs 14 (0 * 1)))) := times_con 0 1 (by omega) (by omega)
    have hsum : Con Try.prog 61 [] [ai 0, .d (dWide (digs 14 (0 * 1))), ai 0, .d (dWide (digs 14 (0 * 1)))] [] (.tup [ai 0, .d (dWide (sumM 0 (digs 14 (0 * 1))))]) := sum_same 0 (.inl rfl) (digs 14 (0 * 1)) (digs_low _ _) (digs_len _ _)
    generalize digs 14 (0 * 1) = x at *
    generalize sumM 0 x = y at *
    refine k_s ?_; refine k_45 (γ := 100) ?_; refine k_45 (γ := 101) ?_; refine k_4 ?_; refine k_d ?_; refine awp_seq ?_; refine k_s ?_; refine k_57 ?_; refine k_56 (hcon := hv) ?_ (hle := by refine ⟨(by exact AVal.le_refl _), ?_⟩; exact trivial) (hLi := by (repeat (first | exact trivial | refine ⟨rfl, ?_⟩ | fail)) <;> fail) (hnew := by (repeat (first | exact trivial | refine ⟨rfl, ?_⟩ | fail)) <;> fail) (hdead := by (repeat (first | exact trivial | refine ⟨rfl, ?_⟩ | fail)) <;> fail); refine k_67 ?_; refine k_d ?_; refine k_rt ?_; refine k_r ?_; refine k_79 ?_; refine k_48 ?_; refine k_d ?_; refine awp_seq ?_; refine k_s ?_; refine k_57 ?_; refine k_56 (hcon := hv) ?_ (hle := by refine ⟨(by exact AVal.le_refl _), ?_⟩; exact trivial) (hLi := by (repeat (first | exact trivial | refine ⟨rfl, ?_⟩ | fail)) <;> fail) (hnew := by (repeat (first | exact trivial | refine ⟨rfl, ?_⟩ | fail)) <;> fail) (hdead := by (repeat (first | exact trivial | refine ⟨rfl, ?_⟩ | fail)) <;> fail)
    refine k_67 ?_; refine k_d ?_; refine k_rt ?_; refine k_r ?_; refine k_79 ?_; refine k_48 ?_; refine k_d ?_; refine k_s ?_; refine k_31 ?_; refine k_34 ?_; refine k_56 (hcon := hsg) ?_ (hle := by refine ⟨(by exact AVal.le_refl _), ?_⟩; exact trivial) (hLi := by (repeat (first | exact trivial | refine ⟨rfl, ?_⟩ | fail)) <;> fail) (hnew := by (repeat (first | exact trivial | refine ⟨rfl, ?_⟩ | fail)) <;> fail) (hdead := by (repeat (first | exact trivial | refine ⟨rfl, ?_⟩ | fail)) <;> fail); refine k_31 ?_; refine k_34 ?_; refine k_56 (hcon := hsz) ?_ (hle := by refine ⟨(by exact AVal.le_refl _), ?_⟩; exact trivial) (hLi := by (repeat (first | exact trivial | refine ⟨rfl, ?_⟩ | fail)) <;> fail) (hnew := by (repeat (first | exact trivial | refine ⟨rfl, ?_⟩ | fail)) <;> fail) (hdead := by (repeat (first | exact trivial | refine ⟨rfl, ?_⟩ | fail)) <;> fail); refine k_31 ?_; refine k_34 ?_
    refine k_56 (hcon := ht) ?_ (hle := by refine ⟨(by exact AVal.le_refl _), ?_⟩; refine ⟨(by exact AVal.le_refl _), ?_⟩; exact trivial) (hLi := by (repeat (first | exact trivial | refine ⟨rfl, ?_⟩ | fail)) <;> fail) (hnew := by (repeat (first | exact trivial | refine ⟨rfl, ?_⟩ | fail)) <;> fail) (hdead := by (repeat (first | exact trivial | refine ⟨rfl, ?_⟩ | fail)) <;> fail); refine k_31 ?_; refine k_34 ?_; refine k_56 (hcon := hsg) ?_ (hle := by refine ⟨(by exact AVal.le_refl _), ?_⟩; exact trivial) (hLi := by (repeat (first | exact trivial | refine ⟨rfl, ?_⟩ | fail)) <;> fail) (hnew := by (repeat (first | exact trivial | refine ⟨rfl, ?_⟩ | fail)) <;> fail) (hdead := by (repeat (first | exact trivial | refine ⟨rfl, ?_⟩ | fail)) <;> fail); refine k_67 ?_ (hr := by exact ru_neg (by omega)); refine k_31 ?_; refine k_34 ?_; refine k_56 (hcon := hsz) ?_ (hle := by refine ⟨(by exact AVal.le_refl _), ?_⟩; exact trivial) (hLi := by (repeat (first | exact trivial | refine ⟨rfl, ?_⟩ | fail)) <;> fail) (hnew := by (repeat (first | exact trivial | refine ⟨rfl, ?_⟩ | fail)) <;> fail) (hdead := by (repeat (first | exact trivial | refine ⟨rfl, ?_⟩ | fail)) <;> fail)
    refine k_31 ?_; refine k_34 ?_; refine k_56 (hcon := ht) ?_ (hle := by refine ⟨(by exact AVal.le_refl _), ?_⟩; refine ⟨(by exact AVal.le_refl _), ?_⟩; exact trivial) (hLi := by (repeat (first | exact trivial | refine ⟨rfl, ?_⟩ | fail)) <;> fail) (hnew := by (repeat (first | exact trivial | refine ⟨rfl, ?_⟩ | fail)) <;> fail) (hdead := by (repeat (first | exact trivial | refine ⟨rfl, ?_⟩ | fail)) <;> fail); refine k_56 (hcon := hsum) ?_ (hle := by refine ⟨(by exact AVal.le_refl _), ?_⟩; refine ⟨(by exact AVal.le_refl _), ?_⟩; refine ⟨(by exact AVal.le_refl _), ?_⟩; refine ⟨(by exact AVal.le_refl _), ?_⟩; exact trivial) (hLi := by (repeat (first | exact trivial | refine ⟨rfl, ?_⟩ | fail)) <;> fail) (hnew := by (repeat (first | exact trivial | refine ⟨rfl, ?_⟩ | fail)) <;> fail) (hdead := by (repeat (first | exact trivial | refine ⟨rfl, ?_⟩ | fail)) <;> fail); refine k_0 ?_; refine k_37 ?_
    refine k_37 ?_; refine k_4 ?_; refine k_4 ?_; refine k_e ?_; refine k_s ?_; refine k_0 ?_; refine k_4 ?_; refine k_d ?_
    exact awp_ret ⟨_, St.le_refl _, ⟨rfl, trivial⟩, subL_nil _⟩
set_option maxHeartbeats 8000000 in
theorem ints_same (n : Int) : Con Try.prog 45 [] [ai n, ai n] [] (ai 0) := by
  refine con_of (xs := [ai 0]) Try.func45 rfl Try.ntmps45 rfl rfl rfl (fun E => ?_)
  have h : ¬ n < n := by omega
  refine k_s ?_; refine k_4 ?_; refine k_d ?_; refine awp_seq ?_; refine k_s ?_; refine k_0 ?_; refine k_0 ?_; refine k_9 ?_; refine k_d ?_; refine k_cf ?_; refine awp_skip ?_; refine awp_seq ?_; refine k_s ?_; refine k_0 ?_; refine k_0 ?_; refine k_11 ?_; refine k_d ?_; refine k_cf ?_; refine awp_skip ?_; refine k_s ?_; refine k_4 ?_; refine k_d ?_
  exact awp_ret ⟨_, St.le_refl _, ⟨rfl, trivial⟩, subL_nil _⟩
theorem less_same : ∀ s : List UInt8, Op.bytesLess s s = false
  | [] => rfl
  | b :: s => by simp [Op.bytesLess, less_same s]
theorem rs_lss {t : TypeId} {x y : Operand} {s : List UInt8} (w : World) : (do eqGuard .lss t x y (.string (baOf s)) (.string (baOf s)); binOp .lss t (.string (baOf s)) (.string (baOf s)) : Sem Value).run Try.prog w = .ok (.bool false) w := by
  simp [go_sem, baOf_toList, less_same]
theorem rs_gtr {t : TypeId} {x y : Operand} {s : List UInt8} (w : World) : (do eqGuard .gtr t x y (.string (baOf s)) (.string (baOf s)); binOp .gtr t (.string (baOf s)) (.string (baOf s)) : Sem Value).run Try.prog w = .ok (.bool false) w := by
  simp [go_sem, binOp, Op.stringOp, baOf_toList, less_same]
set_option maxHeartbeats 8000000 in
theorem strs_same (s : List UInt8) : Con Try.prog 58 [] [aStr s, aStr s] [] (ai 0) := by
  refine con_of (xs := [ai 0]) Try.func58 rfl Try.ntmps58 rfl rfl rfl (fun E => ?_)
  refine k_s ?_; refine k_4 ?_; refine k_d ?_; refine awp_seq ?_; refine k_s ?_; refine k_0 ?_; refine k_0 ?_; refine k_74 (op := .lss) (r' := .bool false) (u := .string (baOf s)) (v := .string (baOf s)) ?_ (hr := by exact rs_lss); refine k_d ?_; refine k_rf ?_; refine awp_skip ?_; refine awp_seq ?_; refine k_s ?_; refine k_0 ?_; refine k_0 ?_; refine k_74 (op := .gtr) (r' := .bool false) (u := .string (baOf s)) (v := .string (baOf s)) ?_ (hr := by exact rs_gtr); refine k_d ?_; refine k_rf ?_; refine awp_skip ?_; refine k_s ?_; refine k_4 ?_; refine k_d ?_
  exact awp_ret ⟨_, St.le_refl _, ⟨rfl, trivial⟩, subL_nil _⟩
def classV (k : Int) : Int := if k = 0 then 0 else if k = 1 then 1 else if k = 2 ∨ k = 3 then 2 else if k = 4 then 3 else if k = 5 then 4 else if k = 6 then 5 else if k = 8 then 6 else 7
set_option maxHeartbeats 8000000 in
theorem class_con (k : Int) : Con Try.prog 46 [] [ai k] [] (ai (classV k)) := by
  refine con_of (xs := [ai (classV k)]) Try.func46 rfl Try.ntmps46 rfl rfl rfl (fun E => ?_)
  by_cases h0 : k = 0
  · subst h0
    refine k_s ?_; refine k_4 ?_; refine k_d ?_; refine awp_seq ?_; refine k_s ?_; refine k_0 ?_; refine k_d ?_; refine awp_block ?_; refine k_s ?_; refine k_7 ?_; refine k_4 ?_; refine k_d ?_; refine k_rt ?_; refine k_s ?_; refine k_4 ?_; refine k_d ?_
    exact awp_ret ⟨_, St.le_refl _, ⟨rfl, trivial⟩, subL_nil _⟩
  by_cases h1 : k = 1
  · subst h1
    refine k_s ?_; refine k_4 ?_; refine k_d ?_; refine awp_seq ?_; refine k_s ?_; refine k_0 ?_; refine k_d ?_; refine awp_block ?_; refine k_s ?_; refine k_7 ?_; refine k_4 ?_; refine k_d ?_; refine k_rf ?_; refine k_s ?_; refine k_7 ?_; refine k_4 ?_; refine k_d ?_; refine k_rt ?_; refine k_s ?_; refine k_4 ?_; refine k_d ?_
    exact awp_ret ⟨_, St.le_refl _, ⟨rfl, trivial⟩, subL_nil _⟩
  by_cases h2 : k = 2
  · subst h2
    refine k_s ?_; refine k_4 ?_; refine k_d ?_; refine awp_seq ?_; refine k_s ?_; refine k_0 ?_; refine k_d ?_; refine awp_block ?_; refine k_s ?_; refine k_7 ?_; refine k_4 ?_; refine k_d ?_; refine k_rf ?_; refine k_s ?_; refine k_7 ?_; refine k_4 ?_; refine k_d ?_; refine k_rf ?_; refine awp_seq ?_; refine k_s ?_; refine k_7 ?_; refine k_4 ?_; refine k_d ?_; refine k_rt ?_; refine awp_skip ?_; refine k_rt ?_; refine k_s ?_; refine k_4 ?_; refine k_d ?_
    exact awp_ret ⟨_, St.le_refl _, ⟨rfl, trivial⟩, subL_nil _⟩
  by_cases h3 : k = 3
  · subst h3
    refine k_s ?_; refine k_4 ?_; refine k_d ?_; refine awp_seq ?_; refine k_s ?_; refine k_0 ?_; refine k_d ?_; refine awp_block ?_; refine k_s ?_; refine k_7 ?_; refine k_4 ?_; refine k_d ?_; refine k_rf ?_; refine k_s ?_; refine k_7 ?_; refine k_4 ?_; refine k_d ?_; refine k_rf ?_; refine awp_seq ?_; refine k_s ?_; refine k_7 ?_; refine k_4 ?_; refine k_d ?_; refine k_rf ?_; refine k_r ?_; refine k_7 ?_; refine k_4 ?_; refine k_d ?_; refine k_rt ?_; refine k_s ?_; refine k_4 ?_; refine k_d ?_
    exact awp_ret ⟨_, St.le_refl _, ⟨rfl, trivial⟩, subL_nil _⟩
  by_cases h4 : k = 4
  · subst h4
    refine k_s ?_; refine k_4 ?_; refine k_d ?_; refine awp_seq ?_; refine k_s ?_; refine k_0 ?_; refine k_d ?_; refine awp_block ?_; refine k_s ?_; refine k_7 ?_; refine k_4 ?_; refine k_d ?_; refine k_rf ?_; refine k_s ?_; refine k_7 ?_; refine k_4 ?_; refine k_d ?_; refine k_rf ?_; refine awp_seq ?_; refine k_s ?_; refine k_7 ?_; refine k_4 ?_; refine k_d ?_; refine k_rf ?_; refine k_r ?_; refine k_7 ?_; refine k_4 ?_; refine k_d ?_; refine k_rf ?_; refine k_s ?_; refine k_7 ?_; refine k_4 ?_; refine k_d ?_; refine k_rt ?_; refine k_s ?_; refine k_4 ?_; refine k_d ?_
    exact awp_ret ⟨_, St.le_refl _, ⟨rfl, trivial⟩, subL_nil _⟩
  by_cases h5 : k = 5
  · subst h5
    refine k_s ?_; refine k_4 ?_; refine k_d ?_; refine awp_seq ?_; refine k_s ?_; refine k_0 ?_; refine k_d ?_; refine awp_block ?_; refine k_s ?_; refine k_7 ?_; refine k_4 ?_; refine k_d ?_; refine k_rf ?_; refine k_s ?_; refine k_7 ?_; refine k_4 ?_; refine k_d ?_; refine k_rf ?_; refine awp_seq ?_; refine k_s ?_; refine k_7 ?_; refine k_4 ?_; refine k_d ?_; refine k_rf ?_; refine k_r ?_; refine k_7 ?_; refine k_4 ?_; refine k_d ?_; refine k_rf ?_; refine k_s ?_; refine k_7 ?_; refine k_4 ?_; refine k_d ?_; refine k_rf ?_; refine k_s ?_; refine k_7 ?_; refine k_4 ?_; refine k_d ?_; refine k_rt ?_; refine k_s ?_; refine k_4 ?_; refine k_d ?_
    exact awp_ret ⟨_, St.le_refl _, ⟨rfl, trivial⟩, subL_nil _⟩
  by_cases h6 : k = 6
  · subst h6
    refine k_s ?_; refine k_4 ?_; refine k_d ?_; refine awp_seq ?_; refine k_s ?_; refine k_0 ?_; refine k_d ?_; refine awp_block ?_; refine k_s ?_; refine k_7 ?_; refine k_4 ?_; refine k_d ?_; refine k_rf ?_; refine k_s ?_; refine k_7 ?_; refine k_4 ?_; refine k_d ?_; refine k_rf ?_; refine awp_seq ?_; refine k_s ?_; refine k_7 ?_; refine k_4 ?_; refine k_d ?_; refine k_rf ?_; refine k_r ?_; refine k_7 ?_; refine k_4 ?_; refine k_d ?_; refine k_rf ?_; refine k_s ?_; refine k_7 ?_; refine k_4 ?_; refine k_d ?_; refine k_rf ?_; refine k_s ?_; refine k_7 ?_; refine k_4 ?_; refine k_d ?_; refine k_rf ?_; refine k_s ?_; refine k_7 ?_; refine k_4 ?_; refine k_d ?_; refine k_rt ?_; refine k_s ?_; refine k_4 ?_; refine k_d ?_
    exact awp_ret ⟨_, St.le_refl _, ⟨rfl, trivial⟩, subL_nil _⟩
  by_cases h8 : k = 8
  · subst h8
    refine k_s ?_; refine k_4 ?_; refine k_d ?_; refine awp_seq ?_; refine k_s ?_; refine k_0 ?_; refine k_d ?_; refine awp_block ?_; refine k_s ?_; refine k_7 ?_; refine k_4 ?_; refine k_d ?_; refine k_rf ?_; refine k_s ?_; refine k_7 ?_; refine k_4 ?_; refine k_d ?_; refine k_rf ?_; refine awp_seq ?_; refine k_s ?_; refine k_7 ?_; refine k_4 ?_; refine k_d ?_; refine k_rf ?_; refine k_r ?_; refine k_7 ?_; refine k_4 ?_; refine k_d ?_; refine k_rf ?_; refine k_s ?_; refine k_7 ?_; refine k_4 ?_; refine k_d ?_; refine k_rf ?_; refine k_s ?_; refine k_7 ?_; refine k_4 ?_; refine k_d ?_; refine k_rf ?_; refine k_s ?_; refine k_7 ?_; refine k_4 ?_; refine k_d ?_; refine k_rf ?_; refine k_s ?_; refine k_7 ?_; refine k_4 ?_; refine k_d ?_; refine k_rt ?_; refine k_s ?_; refine k_4 ?_; refine k_d ?_
    exact awp_ret ⟨_, St.le_refl _, ⟨rfl, trivial⟩, subL_nil _⟩
  rw [show classV k = 7 by simp [classV, *]]
  refine k_s ?_; refine k_4 ?_; refine k_d ?_; refine awp_seq ?_; refine k_s ?_; refine k_0 ?_; refine k_d ?_; refine awp_block ?_; refine k_s ?_; refine k_7 ?_; refine k_4 ?_; refine k_d ?_; refine k_cf ?_; refine k_s ?_; refine k_7 ?_; refine k_4 ?_; refine k_d ?_; refine k_cf ?_; refine awp_seq ?_; refine k_s ?_; refine k_7 ?_; refine k_4 ?_; refine k_d ?_; refine k_cf ?_; refine k_r ?_; refine k_7 ?_; refine k_4 ?_; refine k_d ?_; refine k_cf ?_; refine k_s ?_; refine k_7 ?_; refine k_4 ?_; refine k_d ?_; refine k_cf ?_; refine k_s ?_; refine k_7 ?_; refine k_4 ?_; refine k_d ?_; refine k_cf ?_; refine k_s ?_; refine k_7 ?_; refine k_4 ?_; refine k_d ?_; refine k_cf ?_; refine k_s ?_; refine k_7 ?_; refine k_4 ?_; refine k_d ?_; refine k_cf ?_; refine awp_skip ?_; refine k_s ?_; refine k_4 ?_; refine k_d ?_
  exact awp_ret ⟨_, St.le_refl _, ⟨rfl, trivial⟩, subL_nil _⟩
end Go.Fw

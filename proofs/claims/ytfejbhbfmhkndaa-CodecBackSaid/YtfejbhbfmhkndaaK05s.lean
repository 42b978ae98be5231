/- Values put. -/
import Derived.Test.YtfejbhbfmhkndaaG3
import Derived.Test.YtfejbhbfmhkndaaK05n
import Derived.Test.YtfejbhbfmhkndaaK05q
import Derived.Test.YtfejbhbfmhkndaaK05i
import Derived.Test.YtfejbhbfmhkndaaG2
namespace Go.Fw
open Go Go.Proofs
set_option linter.unusedVariables false
set_option linter.unusedSimpArgs false
theorem putL_take {l : List Val} {i : Nat} {x : Val} (h : l[i]? = some x) : putL (l.take (i + 1)) = putL (l.take i) ++ putV x := by
  induction l generalizing i with
  | nil => simp at h
  | cons y l ih =>
    cases i with
    | zero => simp at h; subst h; simp [putL]
    | succ i => simp only [List.take_succ_cons, putL]; rw [ih (by simpa using h), List.append_assoc]
theorem putL_take_le (l : List Val) (i : Nat) : (putL (l.take i)).length ≤ (putL l).length := by
  induction l generalizing i with
  | nil => simp
  | cons y l ih =>
    cases i with
    | zero => simp [putL]
    | succ i => simp only [List.take_succ_cons, putL, List.length_append]; have := ih i; omega
def PutC (v : Val) : Prop := ∀ r : List UInt8, r.length + (putV v).length ≤ 140737488355328 →
  Con Try.prog 52 [(0, .row 1 (r.map cByte))] [.own 0 r.length, aVal v] [(0, .row 1 ((r ++ putV v).map cByte))] (.own 0 (r ++ putV v).length)
set_option maxHeartbeats 8000000 in
theorem put_of (v : Val) (hv : validV 8 v = true) (ih : ∀ x ∈ v.l, PutC x) : PutC v := by
  obtain ⟨k, n, d, s, l⟩ := v
  intro r hr
  have hlen := cVals_len l
  simp only [Val.l] at ih
  refine con_of (xs := [.own 0 (r ++ putV (.mk k n d s l)).length]) Try.func52 rfl Try.ntmps52 rfl rfl rfl (fun E => ?_)
  rw [validV] at hv
  have hbig : ∀ (x : Int), -1000000000000000 ≤ x ∧ x ≤ 1000000000000000 → -9223372036854775808 ≤ x ∧ x ≤ 9223372036854775807 := fun x h => by omega
  by_cases hk0 : k = 0
  · subst hk0
    have hput : putV (.mk 0 n d s l) = [UInt8.ofNat 0] := by rw [putV]; simp
    rw [hput] at hr ⊢
    simp only [List.length_append, List.length_cons, List.length_nil] at hr
    refine k_s ?_; refine k_45 (γ := 100) ?_; refine k_4 ?_; refine k_d ?_; refine k_s ?_; refine k_0 ?_; refine k_31 ?_; refine k_34 ?_; refine k_83 (u := nj 0) (r := n8 0) ?_ (hr := by exact rc_to8 rfl rfl); refine k_82 ?_; refine k_80 ?_; refine k_4 ?_; refine k_d ?_; refine awp_seq ?_; refine k_s ?_; refine k_31 ?_; refine k_34 ?_; refine k_d ?_; refine awp_block ?_; refine awp_seq ?_; refine k_s ?_; refine k_7 ?_; refine k_4 ?_; refine k_d ?_; refine k_rf ?_; refine k_s ?_; refine k_7 ?_; refine k_4 ?_; refine k_d ?_; refine k_rf ?_; refine k_s ?_; refine k_7 ?_; refine k_4 ?_; refine k_d ?_; refine k_rf ?_; refine k_r ?_; refine k_7 ?_; refine k_4 ?_; refine k_d ?_; refine k_rf ?_; refine k_s ?_; refine k_7 ?_; refine k_4 ?_; refine k_d ?_; refine k_rf ?_; refine k_s ?_; refine k_7 ?_; refine k_4 ?_; refine k_d ?_; refine k_rf ?_; refine awp_seq ?_; refine k_s ?_; refine k_7 ?_; refine k_4 ?_
    refine k_d ?_; refine k_rf ?_; refine k_r ?_; refine k_7 ?_; refine k_4 ?_; refine k_d ?_; refine k_rf ?_; refine awp_skip ?_; refine k_s ?_; refine k_0 ?_; refine k_4 ?_; refine k_d ?_
    refine awp_ret ⟨_, le_slot 4 (y := .own 0 (r ++ UInt8.ofNat 0 :: []).length) (AVal.le_of_eq ?_), ⟨rfl, trivial⟩, subL_of ⟨?_, trivial⟩⟩
    · refine Eq.trans (b := AVal.own 0 (_ + _)) rfl ?_
      congr 1
      simp only [List.length_append, List.length_map, List.length_cons, List.length_nil] <;> omega
    · refine Eq.trans (b := AObj.row 1 (_ ++ _)) rfl ?_
      simp only [List.map_append, List.map_cons, List.map_nil, List.append_assoc, List.cons_append, List.nil_append]; rfl
  by_cases hk1 : k = 1
  · subst hk1
    have hput : putV (.mk 1 n d s l) = UInt8.ofNat 1 :: putIntS n := by rw [putV]; simp
    have hn : -9223372036854775808 ≤ n ∧ n ≤ 9223372036854775807 := by simp at hv; omega
    have hpi := putInt_con n hn
    rw [hput] at hr ⊢
    generalize putIntS n = q at *
    simp only [List.length_append, List.length_cons, List.length_nil] at hr
    refine k_s ?_; refine k_45 (γ := 100) ?_; refine k_4 ?_; refine k_d ?_; refine k_s ?_; refine k_0 ?_; refine k_31 ?_; refine k_34 ?_; refine k_83 (u := nj 1) (r := n8 1) ?_ (hr := by exact rc_to8 rfl rfl); refine k_82 ?_; refine k_80 ?_; refine k_4 ?_; refine k_d ?_; refine awp_seq ?_; refine k_s ?_; refine k_31 ?_; refine k_34 ?_; refine k_d ?_; refine awp_block ?_; refine awp_seq ?_; refine k_s ?_; refine k_7 ?_; refine k_4 ?_; refine k_d ?_; refine k_rt ?_; refine awp_skip ?_; refine k_rt ?_; refine k_s ?_; refine k_0 ?_; refine k_31 ?_; refine k_34 ?_; refine k_56 (hcon := hpi) ?_ (hle := by refine ⟨(by exact AVal.le_refl _), ?_⟩; exact trivial) (hLi := by (repeat (first | exact trivial | refine ⟨rfl, ?_⟩ | fail)) <;> fail) (hnew := by (repeat (first | exact trivial | refine ⟨rfl, ?_⟩ | fail)) <;> fail) (hdead := by (repeat (first | exact trivial | refine ⟨rfl, ?_⟩ | fail)) <;> fail)
    refine k_80 ?_; refine k_4 ?_; refine k_d ?_
    refine awp_ret ⟨_, le_slot 4 (y := .own 0 (r ++ UInt8.ofNat 1 :: q).length) (AVal.le_of_eq ?_), ⟨rfl, trivial⟩, subL_of ⟨?_, trivial⟩⟩
    · refine Eq.trans (b := AVal.own 0 (_ + _)) rfl ?_
      congr 1
      simp only [List.length_append, List.length_map, List.length_cons, List.length_nil] <;> omega
    · refine Eq.trans (b := AObj.row 1 (_ ++ _ ++ _)) rfl ?_
      simp only [List.map_append, List.map_cons, List.map_nil, List.append_assoc, List.cons_append, List.nil_append]; rfl
  by_cases hk2 : k = 2
  · subst hk2
    have hput : putV (.mk 2 n d s l) = UInt8.ofNat 2 :: putIntS n := by rw [putV]; simp
    have hn : -9223372036854775808 ≤ n ∧ n ≤ 9223372036854775807 := by simp at hv; omega
    have hpi := putInt_con n hn
    rw [hput] at hr ⊢
    generalize putIntS n = q at *
    simp only [List.length_append, List.length_cons, List.length_nil] at hr
    refine k_s ?_; refine k_45 (γ := 100) ?_; refine k_4 ?_; refine k_d ?_; refine k_s ?_; refine k_0 ?_; refine k_31 ?_; refine k_34 ?_; refine k_83 (u := nj 2) (r := n8 2) ?_ (hr := by exact rc_to8 rfl rfl); refine k_82 ?_; refine k_80 ?_; refine k_4 ?_; refine k_d ?_; refine awp_seq ?_; refine k_s ?_; refine k_31 ?_; refine k_34 ?_; refine k_d ?_; refine awp_block ?_; refine awp_seq ?_; refine k_s ?_; refine k_7 ?_; refine k_4 ?_; refine k_d ?_; refine k_rf ?_; refine k_s ?_; refine k_7 ?_; refine k_4 ?_; refine k_d ?_; refine k_rt ?_; refine awp_skip ?_; refine k_rt ?_; refine k_s ?_; refine k_0 ?_; refine k_31 ?_; refine k_34 ?_; refine k_56 (hcon := hpi) ?_ (hle := by refine ⟨(by exact AVal.le_refl _), ?_⟩; exact trivial) (hLi := by (repeat (first | exact trivial | refine ⟨rfl, ?_⟩ | fail)) <;> fail) (hnew := by (repeat (first | exact trivial | refine ⟨rfl, ?_⟩ | fail)) <;> fail) (hdead := by (repeat (first | exact trivial | refine ⟨rfl, ?_⟩ | fail)) <;> fail)
    refine k_80 ?_; refine k_4 ?_; refine k_d ?_
    refine awp_ret ⟨_, le_slot 4 (y := .own 0 (r ++ UInt8.ofNat 2 :: q).length) (AVal.le_of_eq ?_), ⟨rfl, trivial⟩, subL_of ⟨?_, trivial⟩⟩
    · refine Eq.trans (b := AVal.own 0 (_ + _)) rfl ?_
      congr 1
      simp only [List.length_append, List.length_map, List.length_cons, List.length_nil] <;> omega
    · refine Eq.trans (b := AObj.row 1 (_ ++ _ ++ _)) rfl ?_
      simp only [List.map_append, List.map_cons, List.map_nil, List.append_assoc, List.cons_append, List.nil_append]; rfl
  by_cases hk3 : k = 3
  · subst hk3
    have hput : putV (.mk 3 n d s l) = UInt8.ofNat 3 :: (putIntS n ++ putIntS d) := by rw [putV]; simp
    have hnd : (-9223372036854775808 ≤ n ∧ n ≤ 9223372036854775807) ∧ -9223372036854775808 ≤ d ∧ d ≤ 9223372036854775807 := by simp [fracV] at hv; omega
    have hpi := putInt_con n hnd.1
    have hpd := putInt_con d hnd.2
    rw [hput] at hr ⊢
    generalize putIntS n = q at *
    generalize putIntS d = q2 at *
    simp only [List.length_append, List.length_cons, List.length_nil] at hr
    refine k_s ?_; refine k_45 (γ := 100) ?_; refine k_4 ?_; refine k_d ?_; refine k_s ?_; refine k_0 ?_; refine k_31 ?_; refine k_34 ?_; refine k_83 (u := nj 3) (r := n8 3) ?_ (hr := by exact rc_to8 rfl rfl); refine k_82 ?_; refine k_80 ?_; refine k_4 ?_; refine k_d ?_; refine awp_seq ?_; refine k_s ?_; refine k_31 ?_; refine k_34 ?_; refine k_d ?_; refine awp_block ?_; refine awp_seq ?_; refine k_s ?_; refine k_7 ?_; refine k_4 ?_; refine k_d ?_; refine k_rf ?_; refine k_s ?_; refine k_7 ?_; refine k_4 ?_; refine k_d ?_; refine k_rf ?_; refine k_s ?_; refine k_7 ?_; refine k_4 ?_; refine k_d ?_; refine k_rf ?_; refine k_r ?_; refine k_7 ?_; refine k_4 ?_; refine k_d ?_; refine k_rf ?_; refine k_s ?_; refine k_7 ?_; refine k_4 ?_; refine k_d ?_; refine k_rt ?_; refine k_s ?_; refine k_0 ?_; refine k_31 ?_; refine k_34 ?_; refine k_56 (hcon := hpi) ?_ (hle := by refine ⟨(by exact AVal.le_refl _), ?_⟩; exact trivial) (hLi := by (repeat (first | exact trivial | refine ⟨rfl, ?_⟩ | fail)) <;> fail) (hnew := by (repeat (first | exact trivial | refine ⟨rfl, ?_⟩ | fail)) <;> fail) (hdead := by (repeat (first | exact trivial | refine ⟨rfl, ?_⟩ | fail)) <;> fail)
    refine k_80 ?_; refine k_31 ?_; refine k_34 ?_; refine k_56 (hcon := hpd) ?_ (hle := by refine ⟨(by exact AVal.le_refl _), ?_⟩; exact trivial) (hLi := by (repeat (first | exact trivial | refine ⟨rfl, ?_⟩ | fail)) <;> fail) (hnew := by (repeat (first | exact trivial | refine ⟨rfl, ?_⟩ | fail)) <;> fail) (hdead := by (repeat (first | exact trivial | refine ⟨rfl, ?_⟩ | fail)) <;> fail); refine k_80 ?_ (hn := by simp only [List.length_map, List.length_take, List.length_drop, List.length_append, List.length_cons, List.length_nil, List.length_replicate, List.length_set] <;> omega); refine k_4 ?_; refine k_e ?_
    refine awp_ret ⟨_, le_slot 4 (y := .own 0 (r ++ UInt8.ofNat 3 :: (q ++ q2)).length) (AVal.le_of_eq ?_), ⟨rfl, trivial⟩, subL_of ⟨?_, trivial⟩⟩
    · refine Eq.trans (b := AVal.own 0 (_ + _)) rfl ?_
      congr 1
      simp only [List.length_append, List.length_map, List.length_cons, List.length_nil] <;> omega
    · refine Eq.trans (b := AObj.row 1 (_ ++ _ ++ _ ++ _)) rfl ?_
      simp only [List.map_append, List.map_cons, List.map_nil, List.append_assoc, List.cons_append, List.nil_append]; rfl
  by_cases hk4 : k = 4
  · subst hk4
    have hput : putV (.mk 4 n d s l) = UInt8.ofNat 4 :: putStrS s := by rw [putV]; simp
    have hs : s.length ≤ 65536 := by simp at hv; omega
    have hpi := putStr_con s hs
    rw [hput] at hr ⊢
    generalize putStrS s = q at *
    simp only [List.length_append, List.length_cons, List.length_nil] at hr
    refine k_s ?_; refine k_45 (γ := 100) ?_; refine k_4 ?_; refine k_d ?_; refine k_s ?_; refine k_0 ?_; refine k_31 ?_; refine k_34 ?_; refine k_83 (u := nj 4) (r := n8 4) ?_ (hr := by exact rc_to8 rfl rfl); refine k_82 ?_; refine k_80 ?_; refine k_4 ?_; refine k_d ?_; refine awp_seq ?_; refine k_s ?_; refine k_31 ?_; refine k_34 ?_; refine k_d ?_; refine awp_block ?_; refine awp_seq ?_; refine k_s ?_; refine k_7 ?_; refine k_4 ?_; refine k_d ?_; refine k_rf ?_; refine k_s ?_; refine k_7 ?_; refine k_4 ?_; refine k_d ?_; refine k_rf ?_; refine k_s ?_; refine k_7 ?_; refine k_4 ?_; refine k_d ?_; refine k_rf ?_; refine k_r ?_; refine k_7 ?_; refine k_4 ?_; refine k_d ?_; refine k_rf ?_; refine k_s ?_; refine k_7 ?_; refine k_4 ?_; refine k_d ?_; refine k_rf ?_; refine k_s ?_; refine k_7 ?_; refine k_4 ?_; refine k_d ?_; refine k_rt ?_; refine k_s ?_; refine k_0 ?_; refine k_31 ?_; refine k_34 ?_
    refine k_56 (hcon := hpi) ?_ (hle := by refine ⟨(by exact AVal.le_refl _), ?_⟩; exact trivial) (hLi := by (repeat (first | exact trivial | refine ⟨rfl, ?_⟩ | fail)) <;> fail) (hnew := by (repeat (first | exact trivial | refine ⟨rfl, ?_⟩ | fail)) <;> fail) (hdead := by (repeat (first | exact trivial | refine ⟨rfl, ?_⟩ | fail)) <;> fail); refine k_80 ?_; refine k_4 ?_; refine k_d ?_
    refine awp_ret ⟨_, le_slot 4 (y := .own 0 (r ++ UInt8.ofNat 4 :: q).length) (AVal.le_of_eq ?_), ⟨rfl, trivial⟩, subL_of ⟨?_, trivial⟩⟩
    · refine Eq.trans (b := AVal.own 0 (_ + _)) rfl ?_
      congr 1
      simp only [List.length_append, List.length_map, List.length_cons, List.length_nil] <;> omega
    · refine Eq.trans (b := AObj.row 1 (_ ++ _ ++ _)) rfl ?_
      simp only [List.map_append, List.map_cons, List.map_nil, List.append_assoc, List.cons_append, List.nil_append]; rfl
  by_cases hk5 : k = 5
  · subst hk5
    have hput : putV (.mk 5 n d s l) = UInt8.ofNat 5 :: putIntS n := by rw [putV]; simp
    have hn : -9223372036854775808 ≤ n ∧ n ≤ 9223372036854775807 := by simp at hv; omega
    have hpi := putInt_con n hn
    rw [hput] at hr ⊢
    generalize putIntS n = q at *
    simp only [List.length_append, List.length_cons, List.length_nil] at hr
    refine k_s ?_; refine k_45 (γ := 100) ?_; refine k_4 ?_; refine k_d ?_; refine k_s ?_; refine k_0 ?_; refine k_31 ?_; refine k_34 ?_; refine k_83 (u := nj 5) (r := n8 5) ?_ (hr := by exact rc_to8 rfl rfl); refine k_82 ?_; refine k_80 ?_; refine k_4 ?_; refine k_d ?_; refine awp_seq ?_; refine k_s ?_; refine k_31 ?_; refine k_34 ?_; refine k_d ?_; refine awp_block ?_; refine awp_seq ?_; refine k_s ?_; refine k_7 ?_; refine k_4 ?_; refine k_d ?_; refine k_rf ?_; refine k_s ?_; refine k_7 ?_; refine k_4 ?_; refine k_d ?_; refine k_rf ?_; refine k_s ?_; refine k_7 ?_; refine k_4 ?_; refine k_d ?_; refine k_rt ?_; refine awp_skip ?_; refine k_rt ?_; refine k_s ?_; refine k_0 ?_; refine k_31 ?_; refine k_34 ?_; refine k_56 (hcon := hpi) ?_ (hle := by refine ⟨(by exact AVal.le_refl _), ?_⟩; exact trivial) (hLi := by (repeat (first | exact trivial | refine ⟨rfl, ?_⟩ | fail)) <;> fail) (hnew := by (repeat (first | exact trivial | refine ⟨rfl, ?_⟩ | fail)) <;> fail) (hdead := by (repeat (first | exact trivial | refine ⟨rfl, ?_⟩ | fail)) <;> fail)
    refine k_80 ?_; refine k_4 ?_; refine k_d ?_
    refine awp_ret ⟨_, le_slot 4 (y := .own 0 (r ++ UInt8.ofNat 5 :: q).length) (AVal.le_of_eq ?_), ⟨rfl, trivial⟩, subL_of ⟨?_, trivial⟩⟩
    · refine Eq.trans (b := AVal.own 0 (_ + _)) rfl ?_
      congr 1
      simp only [List.length_append, List.length_map, List.length_cons, List.length_nil] <;> omega
    · refine Eq.trans (b := AObj.row 1 (_ ++ _ ++ _)) rfl ?_
      simp only [List.map_append, List.map_cons, List.map_nil, List.append_assoc, List.cons_append, List.nil_append]; rfl
  by_cases hk6 : k = 6
  · subst hk6
    have hput : putV (.mk 6 n d s l) = UInt8.ofNat 6 :: putIntS n := by rw [putV]; simp
    have hn : -9223372036854775808 ≤ n ∧ n ≤ 9223372036854775807 := by simp at hv; omega
    have hpi := putInt_con n hn
    rw [hput] at hr ⊢
    generalize putIntS n = q at *
    simp only [List.length_append, List.length_cons, List.length_nil] at hr
    refine k_s ?_; refine k_45 (γ := 100) ?_; refine k_4 ?_; refine k_d ?_; refine k_s ?_; refine k_0 ?_; refine k_31 ?_; refine k_34 ?_; refine k_83 (u := nj 6) (r := n8 6) ?_ (hr := by exact rc_to8 rfl rfl); refine k_82 ?_; refine k_80 ?_; refine k_4 ?_; refine k_d ?_; refine awp_seq ?_; refine k_s ?_; refine k_31 ?_; refine k_34 ?_; refine k_d ?_; refine awp_block ?_; refine awp_seq ?_; refine k_s ?_; refine k_7 ?_; refine k_4 ?_; refine k_d ?_; refine k_rf ?_; refine k_s ?_; refine k_7 ?_; refine k_4 ?_; refine k_d ?_; refine k_rf ?_; refine k_s ?_; refine k_7 ?_; refine k_4 ?_; refine k_d ?_; refine k_rf ?_; refine k_r ?_; refine k_7 ?_; refine k_4 ?_; refine k_d ?_; refine k_rt ?_; refine k_s ?_; refine k_0 ?_; refine k_31 ?_; refine k_34 ?_; refine k_56 (hcon := hpi) ?_ (hle := by refine ⟨(by exact AVal.le_refl _), ?_⟩; exact trivial) (hLi := by (repeat (first | exact trivial | refine ⟨rfl, ?_⟩ | fail)) <;> fail) (hnew := by (repeat (first | exact trivial | refine ⟨rfl, ?_⟩ | fail)) <;> fail) (hdead := by (repeat (first | exact trivial | refine ⟨rfl, ?_⟩ | fail)) <;> fail)
    refine k_80 ?_; refine k_4 ?_; refine k_d ?_
    refine awp_ret ⟨_, le_slot 4 (y := .own 0 (r ++ UInt8.ofNat 6 :: q).length) (AVal.le_of_eq ?_), ⟨rfl, trivial⟩, subL_of ⟨?_, trivial⟩⟩
    · refine Eq.trans (b := AVal.own 0 (_ + _)) rfl ?_
      congr 1
      simp only [List.length_append, List.length_map, List.length_cons, List.length_nil] <;> omega
    · refine Eq.trans (b := AObj.row 1 (_ ++ _ ++ _)) rfl ?_
      simp only [List.map_append, List.map_cons, List.map_nil, List.append_assoc, List.cons_append, List.nil_append]; rfl
  by_cases hk7 : k = 7
  · subst hk7
    have hput : putV (.mk 7 n d s l) = UInt8.ofNat 7 :: (putUintS l.length ++ putL l) := by rw [putV]; simp
    have hll : l.length ≤ 64 := by simp at hv; omega
    have hpu := putUint_con (cVals l).length (by omega)
    rw [← hlen] at hput
    rw [hput] at hr ⊢
    generalize putUintS ((cVals l).length : Int) = q at *
    simp only [List.length_append, List.length_cons, List.length_nil] at hr
    refine k_s ?_; refine k_45 (γ := 100) ?_; refine k_4 ?_; refine k_d ?_; refine k_s ?_; refine k_0 ?_; refine k_31 ?_; refine k_34 ?_; refine k_83 (u := nj 7) (r := n8 7) ?_ (hr := by exact rc_to8 rfl rfl); refine k_82 ?_; refine k_80 ?_; refine k_4 ?_; refine k_d ?_; refine awp_seq ?_; refine k_s ?_; refine k_31 ?_; refine k_34 ?_; refine k_d ?_; refine awp_block ?_; refine awp_seq ?_; refine k_s ?_; refine k_7 ?_; refine k_4 ?_; refine k_d ?_; refine k_rf ?_; refine k_s ?_; refine k_7 ?_; refine k_4 ?_; refine k_d ?_; refine k_rf ?_; refine k_s ?_; refine k_7 ?_; refine k_4 ?_; refine k_d ?_; refine k_rf ?_; refine k_r ?_; refine k_7 ?_; refine k_4 ?_; refine k_d ?_; refine k_rf ?_; refine k_s ?_; refine k_7 ?_; refine k_4 ?_; refine k_d ?_; refine k_rf ?_; refine k_s ?_; refine k_7 ?_; refine k_4 ?_; refine k_d ?_; refine k_rf ?_; refine awp_seq ?_; refine k_s ?_; refine k_7 ?_; refine k_4 ?_
    refine k_d ?_; refine k_rf ?_; refine k_r ?_; refine k_7 ?_; refine k_4 ?_; refine k_d ?_; refine k_rt ?_; refine k_s ?_; refine k_0 ?_; refine k_31 ?_; refine k_34 ?_; refine k_60 ?_; refine k_56 (hcon := hpu) ?_ (hle := by refine ⟨(by exact AVal.le_refl _), ?_⟩; exact trivial) (hLi := by (repeat (first | exact trivial | refine ⟨rfl, ?_⟩ | fail)) <;> fail) (hnew := by (repeat (first | exact trivial | refine ⟨rfl, ?_⟩ | fail)) <;> fail) (hdead := by (repeat (first | exact trivial | refine ⟨rfl, ?_⟩ | fail)) <;> fail); refine k_80 ?_; refine k_4 ?_; refine k_d ?_; refine k_s ?_; refine k_31 ?_; refine k_34 ?_; refine k_60 ?_; refine k_0 ?_; refine k_d ?_; refine awp_block ?_
    generalize hbase : r ++ UInt8.ofNat 7 :: q = base at *
    have hbl : base.length = r.length + q.length + 1 := by rw [← hbase]; simp; omega
    have hgoal : r ++ UInt8.ofNat 7 :: (q ++ putL l) = base ++ putL l := by rw [← hbase]; simp
    rw [hgoal]
    refine awp_loopI (fun i : Nat => i ≤ l.length) (fun i => ⟨64, [(0, .own 0 (base ++ putL (l.take i)).length), (53, .d (.sl 5 (cVals l))), (54, ai l.length), (55, ai i)], [(0, .row 1 ((base ++ putL (l.take i)).map cByte))]⟩) (fun i => l.length - i) 0 (by omega)
      (le_mk rfl ⟨(by refine AVal.le_of_eq ?_; refine Eq.trans (b := AVal.own 0 (_ + _)) rfl ?_; congr 1; simp only [List.take_zero, putL, List.append_nil, hbl, List.length_append, List.length_map, List.length_cons, List.length_nil] <;> omega), (by (first | ((exact AVal.le_refl _)) | ((exact AVal.le_nil _)) | ((refine AVal.le_agg ?_; ((repeat (first | exact trivial | refine ⟨(by (first | ((exact AVal.le_refl _)) | ((exact AVal.le_nil _)) | ((refine AVal.le_of_eq ?_; (conv => lhs; whnf); (first | ((rfl)) | ((simp <;> fail)) | fail))) | fail)), ?_⟩ | fail)) <;> fail))) | ((refine AVal.le_of_eq ?_; (conv => lhs; whnf); (first | ((rfl)) | ((simp <;> fail)) | fail))) | fail)), (by refine AVal.le_of_eq ?_; refine Eq.trans (b := ai ((cVals l).length : Nat)) rfl ?_; rw [hlen]), (by (first | ((exact AVal.le_refl _)) | ((exact AVal.le_nil _)) | ((refine AVal.le_agg ?_; ((repeat (first | exact trivial | refine ⟨(by (first | ((exact AVal.le_refl _)) | ((exact AVal.le_nil _)) | ((refine AVal.le_of_eq ?_; (conv => lhs; whnf); (first | ((rfl)) | ((simp <;> fail)) | fail))) | fail)), ?_⟩ | fail)) <;> fail))) | ((refine AVal.le_of_eq ?_; (conv => lhs; whnf); (first | ((rfl)) | ((simp <;> fail)) | fail))) | fail)), trivial⟩ ⟨?_, trivial⟩) ?_
    · refine Eq.trans (b := AObj.row 1 (_ ++ _ ++ _)) rfl ?_
      simp only [List.take_zero, putL, List.append_nil, ← hbase, List.map_append, List.map_cons, List.append_assoc, List.cons_append, List.nil_append]; rfl
    intro i hi
    by_cases hlt : i < l.length
    · obtain ⟨x, hx⟩ := get_of_lt (l := l) hlt
      have hgx := cVals_get hx
      have htk := putL_take hx
      have hle := putL_take_le l (i + 1)
      have hpx := ih x (List.mem_of_getElem? hx) (base ++ putL (l.take i)) (by rw [htk] at hle; simp only [List.length_append] at hle ⊢; omega)
      rw [List.append_assoc, ← htk] at hpx
      obtain ⟨k', n', d', s', q'⟩ := x
      simp only [aVal] at hpx
      rw [cVal] at hgx
      refine k_s ?_; refine k_9 ?_; refine k_d ?_; refine awp_seq ?_; refine k_ct ?_; refine awp_skip ?_; refine awp_seq ?_; refine awp_block ?_; refine k_s ?_; refine k_71 ?_; refine k_88 ?_; refine k_64 (γ := 100) ?_; refine k_48 ?_; refine k_d ?_; refine k_r ?_; refine k_0 ?_; refine k_57 ?_; refine k_56 (hcon := hpx) ?_ (hle := by refine ⟨(by exact AVal.le_refl _), ?_⟩; refine ⟨(by exact AVal.le_refl _), ?_⟩; exact trivial) (hLi := by (repeat (first | exact trivial | refine ⟨rfl, ?_⟩ | fail)) <;> fail) (hnew := by (repeat (first | exact trivial | refine ⟨rfl, ?_⟩ | fail)) <;> fail) (hdead := by (repeat (first | exact trivial | refine ⟨rfl, ?_⟩ | fail)) <;> fail); refine k_4 ?_; refine k_d ?_; refine k_r ?_; refine k_14 ?_; refine k_0 ?_; refine k_d ?_
      exact ⟨i + 1, by omega, by omega, le_mk rfl ⟨(by (first | ((exact AVal.le_refl _)) | ((exact AVal.le_nil _)) | ((refine AVal.le_agg ?_; ((repeat (first | exact trivial | refine ⟨(by (first | ((exact AVal.le_refl _)) | ((exact AVal.le_nil _)) | ((refine AVal.le_of_eq ?_; (conv => lhs; whnf); (first | ((rfl)) | ((simp <;> fail)) | fail))) | fail)), ?_⟩ | fail)) <;> fail))) | ((refine AVal.le_of_eq ?_; (conv => lhs; whnf); (first | ((rfl)) | ((simp <;> fail)) | fail))) | fail)), (by (first | ((exact AVal.le_refl _)) | ((exact AVal.le_nil _)) | ((refine AVal.le_agg ?_; ((repeat (first | exact trivial | refine ⟨(by (first | ((exact AVal.le_refl _)) | ((exact AVal.le_nil _)) | ((refine AVal.le_of_eq ?_; (conv => lhs; whnf); (first | ((rfl)) | ((simp <;> fail)) | fail))) | fail)), ?_⟩ | fail)) <;> fail))) | ((refine AVal.le_of_eq ?_; (conv => lhs; whnf); (first | ((rfl)) | ((simp <;> fail)) | fail))) | fail)), (by (first | ((exact AVal.le_refl _)) | ((exact AVal.le_nil _)) | ((refine AVal.le_agg ?_; ((repeat (first | exact trivial | refine ⟨(by (first | ((exact AVal.le_refl _)) | ((exact AVal.le_nil _)) | ((refine AVal.le_of_eq ?_; (conv => lhs; whnf); (first | ((rfl)) | ((simp <;> fail)) | fail))) | fail)), ?_⟩ | fail)) <;> fail))) | ((refine AVal.le_of_eq ?_; (conv => lhs; whnf); (first | ((rfl)) | ((simp <;> fail)) | fail))) | fail)), (by (first | ((exact AVal.le_refl _)) | ((exact AVal.le_nil _)) | ((refine AVal.le_agg ?_; ((repeat (first | exact trivial | refine ⟨(by (first | ((exact AVal.le_refl _)) | ((exact AVal.le_nil _)) | ((refine AVal.le_of_eq ?_; (conv => lhs; whnf); (first | ((rfl)) | ((simp <;> fail)) | fail))) | fail)), ?_⟩ | fail)) <;> fail))) | ((refine AVal.le_of_eq ?_; (conv => lhs; whnf); (first | ((rfl)) | ((simp <;> fail)) | fail))) | fail)), trivial⟩ ⟨rfl, trivial⟩⟩
    obtain rfl : i = l.length := by omega
    rw [List.take_length]
    refine k_s ?_; refine k_9 ?_; refine k_d ?_; refine awp_seq ?_; refine k_cf ?_; refine awp_exit ?_; refine k_s ?_; refine k_0 ?_; refine k_4 ?_; refine k_d ?_
    exact awp_ret ⟨_, St.le_refl _, ⟨rfl, trivial⟩, subL_of ⟨rfl, trivial⟩⟩
  by_cases hk8 : k = 8
  · subst hk8
    have hput : putV (.mk 8 n d s l) = UInt8.ofNat 8 :: (putUintS l.length ++ putL l) := by rw [putV]; simp
    have hll : l.length ≤ 64 := by simp at hv; omega
    have hpu := putUint_con (cVals l).length (by omega)
    rw [← hlen] at hput
    rw [hput] at hr ⊢
    generalize putUintS ((cVals l).length : Int) = q at *
    simp only [List.length_append, List.length_cons, List.length_nil] at hr
    refine k_s ?_; refine k_45 (γ := 100) ?_; refine k_4 ?_; refine k_d ?_; refine k_s ?_; refine k_0 ?_; refine k_31 ?_; refine k_34 ?_; refine k_83 (u := nj 8) (r := n8 8) ?_ (hr := by exact rc_to8 rfl rfl); refine k_82 ?_; refine k_80 ?_; refine k_4 ?_; refine k_d ?_; refine awp_seq ?_; refine k_s ?_; refine k_31 ?_; refine k_34 ?_; refine k_d ?_; refine awp_block ?_; refine awp_seq ?_; refine k_s ?_; refine k_7 ?_; refine k_4 ?_; refine k_d ?_; refine k_rf ?_; refine k_s ?_; refine k_7 ?_; refine k_4 ?_; refine k_d ?_; refine k_rf ?_; refine k_s ?_; refine k_7 ?_; refine k_4 ?_; refine k_d ?_; refine k_rf ?_; refine k_r ?_; refine k_7 ?_; refine k_4 ?_; refine k_d ?_; refine k_rf ?_; refine k_s ?_; refine k_7 ?_; refine k_4 ?_; refine k_d ?_; refine k_rf ?_; refine k_s ?_; refine k_7 ?_; refine k_4 ?_; refine k_d ?_; refine k_rf ?_; refine awp_seq ?_; refine k_s ?_; refine k_7 ?_; refine k_4 ?_
    refine k_d ?_; refine k_rt ?_; refine awp_skip ?_; refine k_rt ?_; refine k_s ?_; refine k_0 ?_; refine k_31 ?_; refine k_34 ?_; refine k_60 ?_; refine k_56 (hcon := hpu) ?_ (hle := by refine ⟨(by exact AVal.le_refl _), ?_⟩; exact trivial) (hLi := by (repeat (first | exact trivial | refine ⟨rfl, ?_⟩ | fail)) <;> fail) (hnew := by (repeat (first | exact trivial | refine ⟨rfl, ?_⟩ | fail)) <;> fail) (hdead := by (repeat (first | exact trivial | refine ⟨rfl, ?_⟩ | fail)) <;> fail); refine k_80 ?_; refine k_4 ?_; refine k_d ?_; refine k_s ?_; refine k_31 ?_; refine k_34 ?_; refine k_60 ?_; refine k_0 ?_; refine k_d ?_; refine awp_block ?_
    generalize hbase : r ++ UInt8.ofNat 8 :: q = base at *
    have hbl : base.length = r.length + q.length + 1 := by rw [← hbase]; simp; omega
    have hgoal : r ++ UInt8.ofNat 8 :: (q ++ putL l) = base ++ putL l := by rw [← hbase]; simp
    rw [hgoal]
    refine awp_loopI (fun i : Nat => i ≤ l.length) (fun i => ⟨64, [(0, .own 0 (base ++ putL (l.take i)).length), (53, .d (.sl 5 (cVals l))), (54, ai l.length), (55, ai i)], [(0, .row 1 ((base ++ putL (l.take i)).map cByte))]⟩) (fun i => l.length - i) 0 (by omega)
      (le_mk rfl ⟨(by refine AVal.le_of_eq ?_; refine Eq.trans (b := AVal.own 0 (_ + _)) rfl ?_; congr 1; simp only [List.take_zero, putL, List.append_nil, hbl, List.length_append, List.length_map, List.length_cons, List.length_nil] <;> omega), (by (first | ((exact AVal.le_refl _)) | ((exact AVal.le_nil _)) | ((refine AVal.le_agg ?_; ((repeat (first | exact trivial | refine ⟨(by (first | ((exact AVal.le_refl _)) | ((exact AVal.le_nil _)) | ((refine AVal.le_of_eq ?_; (conv => lhs; whnf); (first | ((rfl)) | ((simp <;> fail)) | fail))) | fail)), ?_⟩ | fail)) <;> fail))) | ((refine AVal.le_of_eq ?_; (conv => lhs; whnf); (first | ((rfl)) | ((simp <;> fail)) | fail))) | fail)), (by refine AVal.le_of_eq ?_; refine Eq.trans (b := ai ((cVals l).length : Nat)) rfl ?_; rw [hlen]), (by (first | ((exact AVal.le_refl _)) | ((exact AVal.le_nil _)) | ((refine AVal.le_agg ?_; ((repeat (first | exact trivial | refine ⟨(by (first | ((exact AVal.le_refl _)) | ((exact AVal.le_nil _)) | ((refine AVal.le_of_eq ?_; (conv => lhs; whnf); (first | ((rfl)) | ((simp <;> fail)) | fail))) | fail)), ?_⟩ | fail)) <;> fail))) | ((refine AVal.le_of_eq ?_; (conv => lhs; whnf); (first | ((rfl)) | ((simp <;> fail)) | fail))) | fail)), trivial⟩ ⟨?_, trivial⟩) ?_
    · refine Eq.trans (b := AObj.row 1 (_ ++ _ ++ _)) rfl ?_
      simp only [List.take_zero, putL, List.append_nil, ← hbase, List.map_append, List.map_cons, List.append_assoc, List.cons_append, List.nil_append]; rfl
    intro i hi
    by_cases hlt : i < l.length
    · obtain ⟨x, hx⟩ := get_of_lt (l := l) hlt
      have hgx := cVals_get hx
      have htk := putL_take hx
      have hle := putL_take_le l (i + 1)
      have hpx := ih x (List.mem_of_getElem? hx) (base ++ putL (l.take i)) (by rw [htk] at hle; simp only [List.length_append] at hle ⊢; omega)
      rw [List.append_assoc, ← htk] at hpx
      obtain ⟨k', n', d', s', q'⟩ := x
      simp only [aVal] at hpx
      rw [cVal] at hgx
      refine k_s ?_; refine k_9 ?_; refine k_d ?_; refine awp_seq ?_; refine k_ct ?_; refine awp_skip ?_; refine awp_seq ?_; refine awp_block ?_; refine k_s ?_; refine k_71 ?_; refine k_88 ?_; refine k_64 (γ := 100) ?_; refine k_48 ?_; refine k_d ?_; refine k_r ?_; refine k_0 ?_; refine k_57 ?_; refine k_56 (hcon := hpx) ?_ (hle := by refine ⟨(by exact AVal.le_refl _), ?_⟩; refine ⟨(by exact AVal.le_refl _), ?_⟩; exact trivial) (hLi := by (repeat (first | exact trivial | refine ⟨rfl, ?_⟩ | fail)) <;> fail) (hnew := by (repeat (first | exact trivial | refine ⟨rfl, ?_⟩ | fail)) <;> fail) (hdead := by (repeat (first | exact trivial | refine ⟨rfl, ?_⟩ | fail)) <;> fail); refine k_4 ?_; refine k_d ?_; refine k_r ?_; refine k_14 ?_; refine k_0 ?_; refine k_d ?_
      exact ⟨i + 1, by omega, by omega, le_mk rfl ⟨(by (first | ((exact AVal.le_refl _)) | ((exact AVal.le_nil _)) | ((refine AVal.le_agg ?_; ((repeat (first | exact trivial | refine ⟨(by (first | ((exact AVal.le_refl _)) | ((exact AVal.le_nil _)) | ((refine AVal.le_of_eq ?_; (conv => lhs; whnf); (first | ((rfl)) | ((simp <;> fail)) | fail))) | fail)), ?_⟩ | fail)) <;> fail))) | ((refine AVal.le_of_eq ?_; (conv => lhs; whnf); (first | ((rfl)) | ((simp <;> fail)) | fail))) | fail)), (by (first | ((exact AVal.le_refl _)) | ((exact AVal.le_nil _)) | ((refine AVal.le_agg ?_; ((repeat (first | exact trivial | refine ⟨(by (first | ((exact AVal.le_refl _)) | ((exact AVal.le_nil _)) | ((refine AVal.le_of_eq ?_; (conv => lhs; whnf); (first | ((rfl)) | ((simp <;> fail)) | fail))) | fail)), ?_⟩ | fail)) <;> fail))) | ((refine AVal.le_of_eq ?_; (conv => lhs; whnf); (first | ((rfl)) | ((simp <;> fail)) | fail))) | fail)), (by (first | ((exact AVal.le_refl _)) | ((exact AVal.le_nil _)) | ((refine AVal.le_agg ?_; ((repeat (first | exact trivial | refine ⟨(by (first | ((exact AVal.le_refl _)) | ((exact AVal.le_nil _)) | ((refine AVal.le_of_eq ?_; (conv => lhs; whnf); (first | ((rfl)) | ((simp <;> fail)) | fail))) | fail)), ?_⟩ | fail)) <;> fail))) | ((refine AVal.le_of_eq ?_; (conv => lhs; whnf); (first | ((rfl)) | ((simp <;> fail)) | fail))) | fail)), (by (first | ((exact AVal.le_refl _)) | ((exact AVal.le_nil _)) | ((refine AVal.le_agg ?_; ((repeat (first | exact trivial | refine ⟨(by (first | ((exact AVal.le_refl _)) | ((exact AVal.le_nil _)) | ((refine AVal.le_of_eq ?_; (conv => lhs; whnf); (first | ((rfl)) | ((simp <;> fail)) | fail))) | fail)), ?_⟩ | fail)) <;> fail))) | ((refine AVal.le_of_eq ?_; (conv => lhs; whnf); (first | ((rfl)) | ((simp <;> fail)) | fail))) | fail)), trivial⟩ ⟨rfl, trivial⟩⟩
    obtain rfl : i = l.length := by omega
    rw [List.take_length]
    refine k_s ?_; refine k_9 ?_; refine k_d ?_; refine awp_seq ?_; refine k_cf ?_; refine awp_exit ?_; refine k_s ?_; refine k_0 ?_; refine k_4 ?_; refine k_d ?_
    exact awp_ret ⟨_, St.le_refl _, ⟨rfl, trivial⟩, subL_of ⟨rfl, trivial⟩⟩
  simp [*] at hv
end Go.Fw

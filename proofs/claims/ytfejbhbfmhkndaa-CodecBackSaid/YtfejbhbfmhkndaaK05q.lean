/- The reference's Valid. -/
import Derived.Test.YtfejbhbfmhkndaaG3
import Derived.Test.YtfejbhbfmhkndaaK05o
namespace Go.Fw
open Go Go.Proofs
set_option linter.unusedVariables false
set_option linter.unusedSimpArgs false
mutual
/-- Strings and lists that a machine can hold. -/
def strOk : Val → Prop
  | .mk k n d s l => s.length ≤ 9223372036854775807 ∧ l.length ≤ 9223372036854775807 ∧ strOkL l
def strOkL : List Val → Prop
  | [] => True
  | v :: r => strOk v ∧ strOkL r
end
theorem strOkL_mem : ∀ {l : List Val} {x : Val}, strOkL l → x ∈ l → strOk x
  | [], _, _, h => by simp at h
  | v :: r, x, h, hx => by
    rw [strOkL] at h
    rcases List.mem_cons.1 hx with rfl | hx
    · exact h.1
    · exact strOkL_mem h.2 hx
def RValidQ (v : Val) : Prop := strOk v → RValidC v
set_option maxHeartbeats 8000000 in
theorem bare_ffff (k n d : Int) (s : List UInt8) (l : List Val) : Con Try.prog 66 [] [aVal (.mk k n d s l), ab false, ab false, ab false, ab false] [] (ab (decide (n = 0) && decide (d = 0) && decide (s = []) && decide (l.length = 0))) := by
  refine con_of (xs := [ab (decide (n = 0) && decide (d = 0) && decide (s = []) && decide (l.length = 0))]) Try.func66 rfl Try.ntmps66 rfl rfl rfl (fun E => ?_)
  have hlen := cVals_len l
  by_cases hn : n = 0
  case neg =>
    rw [show (decide (n = 0) && decide (d = 0) && decide (s = []) && decide (l.length = 0)) = false by simp [*]]
    refine k_s ?_; refine k_45 (γ := 100) ?_; refine k_4 ?_; refine k_d ?_; refine k_s ?_; refine k_0 ?_; refine k_0 ?_; refine k_32 ?_; refine k_35 ?_; refine k_10 ?_; refine k_40 ?_; refine k_0 ?_; refine k_5 ?_; refine k_5 ?_; refine k_38 ?_; refine k_38 ?_; refine k_38 ?_; refine k_5 ?_; refine k_39 ?_; refine k_0 ?_; refine k_6 ?_; refine k_6 ?_; refine k_38 ?_; refine k_38 ?_; refine k_38 ?_; refine k_6 ?_; refine k_40 ?_; refine k_0 ?_; refine k_6 ?_; refine k_6 ?_; refine k_38 ?_; refine k_38 ?_; refine k_38 ?_; refine k_38 ?_; refine k_6 ?_; refine k_40 ?_; refine k_4 ?_; refine k_d ?_
    exact awp_ret ⟨_, St.le_refl _, ⟨rfl, trivial⟩, subL_nil _⟩
  by_cases hd : d = 0
  case neg =>
    rw [show (decide (n = 0) && decide (d = 0) && decide (s = []) && decide (l.length = 0)) = false by simp [*]]
    refine k_s ?_; refine k_45 (γ := 100) ?_; refine k_4 ?_; refine k_d ?_; refine k_s ?_; refine k_0 ?_; refine k_0 ?_; refine k_32 ?_; refine k_35 ?_; refine k_10 ?_; refine k_40 ?_; refine k_0 ?_; refine k_1 ?_; refine k_1 ?_; refine k_32 ?_; refine k_35 ?_; refine k_10 ?_; refine k_41 ?_; refine k_49 ?_; refine k_0 ?_; refine k_5 ?_; refine k_5 ?_; refine k_38 ?_; refine k_38 ?_; refine k_38 ?_; refine k_5 ?_; refine k_39 ?_; refine k_0 ?_; refine k_6 ?_; refine k_6 ?_; refine k_38 ?_; refine k_38 ?_; refine k_38 ?_; refine k_38 ?_; refine k_6 ?_; refine k_40 ?_; refine k_4 ?_; refine k_d ?_
    exact awp_ret ⟨_, St.le_refl _, ⟨rfl, trivial⟩, subL_nil _⟩
  by_cases hs : s = []
  case neg =>
    rw [show (decide (n = 0) && decide (d = 0) && decide (s = []) && decide (l.length = 0)) = false by simp [*]]
    refine k_s ?_; refine k_45 (γ := 100) ?_; refine k_4 ?_; refine k_d ?_; refine k_s ?_; refine k_0 ?_; refine k_0 ?_; refine k_32 ?_; refine k_35 ?_; refine k_10 ?_; refine k_40 ?_; refine k_0 ?_; refine k_1 ?_; refine k_1 ?_; refine k_32 ?_; refine k_35 ?_; refine k_10 ?_; refine k_41 ?_; refine k_49 ?_; refine k_0 ?_; refine k_1 ?_; refine k_1 ?_; refine k_32 ?_; refine k_35 ?_; refine k_23 ?_; refine k_41 ?_; refine k_49 ?_; refine k_0 ?_; refine k_5 ?_; refine k_5 ?_; refine k_38 ?_; refine k_38 ?_; refine k_38 ?_; refine k_38 ?_; refine k_5 ?_; refine k_39 ?_; refine k_4 ?_; refine k_d ?_
    exact awp_ret ⟨_, St.le_refl _, ⟨rfl, trivial⟩, subL_nil _⟩
  by_cases hl : l.length = 0
  case neg =>
    have hl' : ¬ ((l.length : Int) = 0) := by omega
    rw [show (decide (n = 0) && decide (d = 0) && decide (s = []) && decide (l.length = 0)) = false by simp [*]]
    refine k_s ?_; refine k_45 (γ := 100) ?_; refine k_4 ?_; refine k_d ?_; refine k_s ?_; refine k_0 ?_; refine k_0 ?_; refine k_32 ?_; refine k_35 ?_; refine k_10 ?_; refine k_40 ?_; refine k_0 ?_; refine k_1 ?_; refine k_1 ?_; refine k_32 ?_; refine k_35 ?_; refine k_10 ?_; refine k_41 ?_; refine k_49 ?_; refine k_0 ?_; refine k_1 ?_; refine k_1 ?_; refine k_32 ?_; refine k_35 ?_; refine k_23 ?_; refine k_41 ?_; refine k_49 ?_; refine k_0 ?_; refine k_1 ?_; refine k_1 ?_; refine k_32 ?_; refine k_35 ?_; refine k_61 ?_; refine k_10 ?_; refine k_41 ?_; refine k_49 ?_; refine k_4 ?_; refine k_d ?_
    exact awp_ret ⟨_, le_slot 10 (y := ab false) (AVal.le_of_eq (by refine Eq.trans (b := ab (decide (((cVals l).length : Int) = 0))) rfl ?_; exact congrArg ab (decide_eq_false (by rw [hlen]; exact hl')))), ⟨rfl, trivial⟩, subL_nil _⟩
  rw [show (decide (n = 0) && decide (d = 0) && decide (s = []) && decide (l.length = 0)) = true by simp [*]]
  refine k_s ?_; refine k_45 (γ := 100) ?_; refine k_4 ?_; refine k_d ?_; refine k_s ?_; refine k_0 ?_; refine k_0 ?_; refine k_32 ?_; refine k_35 ?_; refine k_10 ?_; refine k_40 ?_; refine k_0 ?_; refine k_1 ?_; refine k_1 ?_; refine k_32 ?_; refine k_35 ?_; refine k_10 ?_; refine k_41 ?_; refine k_49 ?_; refine k_0 ?_; refine k_1 ?_; refine k_1 ?_; refine k_32 ?_; refine k_35 ?_; refine k_23 ?_; refine k_41 ?_; refine k_49 ?_; refine k_0 ?_; refine k_1 ?_; refine k_1 ?_; refine k_32 ?_; refine k_35 ?_; refine k_61 ?_; refine k_10 ?_; refine k_41 ?_; refine k_49 ?_; refine k_4 ?_; refine k_d ?_
  exact awp_ret ⟨_, le_slot 10 (y := ab true) (AVal.le_of_eq (by refine Eq.trans (b := ab (decide (((cVals l).length : Int) = 0))) rfl ?_; exact congrArg ab (decide_eq_true (by omega)))), ⟨rfl, trivial⟩, subL_nil _⟩
set_option maxHeartbeats 8000000 in
theorem bare_tfff (k n d : Int) (s : List UInt8) (l : List Val) : Con Try.prog 66 [] [aVal (.mk k n d s l), ab true, ab false, ab false, ab false] [] (ab (decide (d = 0) && decide (s = []) && decide (l.length = 0))) := by
  refine con_of (xs := [ab (decide (d = 0) && decide (s = []) && decide (l.length = 0))]) Try.func66 rfl Try.ntmps66 rfl rfl rfl (fun E => ?_)
  have hlen := cVals_len l
  by_cases hd : d = 0
  case neg =>
    rw [show (decide (d = 0) && decide (s = []) && decide (l.length = 0)) = false by simp [*]]
    refine k_s ?_; refine k_45 (γ := 100) ?_; refine k_4 ?_; refine k_d ?_; refine k_s ?_; refine k_0 ?_; refine k_0 ?_; refine k_6 ?_; refine k_6 ?_; refine k_6 ?_; refine k_50 ?_; refine k_0 ?_; refine k_2 ?_; refine k_2 ?_; refine k_32 ?_; refine k_35 ?_; refine k_10 ?_; refine k_44 ?_; refine k_50 ?_; refine k_0 ?_; refine k_5 ?_; refine k_5 ?_; refine k_38 ?_; refine k_38 ?_; refine k_38 ?_; refine k_5 ?_; refine k_39 ?_; refine k_0 ?_; refine k_6 ?_; refine k_6 ?_; refine k_38 ?_; refine k_38 ?_; refine k_38 ?_; refine k_38 ?_; refine k_6 ?_; refine k_40 ?_; refine k_4 ?_; refine k_d ?_
    exact awp_ret ⟨_, St.le_refl _, ⟨rfl, trivial⟩, subL_nil _⟩
  by_cases hs : s = []
  case neg =>
    rw [show (decide (d = 0) && decide (s = []) && decide (l.length = 0)) = false by simp [*]]
    refine k_s ?_; refine k_45 (γ := 100) ?_; refine k_4 ?_; refine k_d ?_; refine k_s ?_; refine k_0 ?_; refine k_0 ?_; refine k_6 ?_; refine k_6 ?_; refine k_6 ?_; refine k_50 ?_; refine k_0 ?_; refine k_2 ?_; refine k_2 ?_; refine k_32 ?_; refine k_35 ?_; refine k_10 ?_; refine k_44 ?_; refine k_50 ?_; refine k_0 ?_; refine k_1 ?_; refine k_1 ?_; refine k_32 ?_; refine k_35 ?_; refine k_23 ?_; refine k_41 ?_; refine k_49 ?_; refine k_0 ?_; refine k_5 ?_; refine k_5 ?_; refine k_38 ?_; refine k_38 ?_; refine k_38 ?_; refine k_38 ?_; refine k_5 ?_; refine k_39 ?_; refine k_4 ?_; refine k_d ?_
    exact awp_ret ⟨_, St.le_refl _, ⟨rfl, trivial⟩, subL_nil _⟩
  by_cases hl : l.length = 0
  case neg =>
    have hl' : ¬ ((l.length : Int) = 0) := by omega
    rw [show (decide (d = 0) && decide (s = []) && decide (l.length = 0)) = false by simp [*]]
    refine k_s ?_; refine k_45 (γ := 100) ?_; refine k_4 ?_; refine k_d ?_; refine k_s ?_; refine k_0 ?_; refine k_0 ?_; refine k_6 ?_; refine k_6 ?_; refine k_6 ?_; refine k_50 ?_; refine k_0 ?_; refine k_2 ?_; refine k_2 ?_; refine k_32 ?_; refine k_35 ?_; refine k_10 ?_; refine k_44 ?_; refine k_50 ?_; refine k_0 ?_; refine k_1 ?_; refine k_1 ?_; refine k_32 ?_; refine k_35 ?_; refine k_23 ?_; refine k_41 ?_; refine k_49 ?_; refine k_0 ?_; refine k_1 ?_; refine k_1 ?_; refine k_32 ?_; refine k_35 ?_; refine k_61 ?_; refine k_10 ?_; refine k_41 ?_; refine k_49 ?_; refine k_4 ?_; refine k_d ?_
    exact awp_ret ⟨_, le_slot 10 (y := ab false) (AVal.le_of_eq (by refine Eq.trans (b := ab (decide (((cVals l).length : Int) = 0))) rfl ?_; exact congrArg ab (decide_eq_false (by rw [hlen]; exact hl')))), ⟨rfl, trivial⟩, subL_nil _⟩
  rw [show (decide (d = 0) && decide (s = []) && decide (l.length = 0)) = true by simp [*]]
  refine k_s ?_; refine k_45 (γ := 100) ?_; refine k_4 ?_; refine k_d ?_; refine k_s ?_; refine k_0 ?_; refine k_0 ?_; refine k_6 ?_; refine k_6 ?_; refine k_6 ?_; refine k_50 ?_; refine k_0 ?_; refine k_2 ?_; refine k_2 ?_; refine k_32 ?_; refine k_35 ?_; refine k_10 ?_; refine k_44 ?_; refine k_50 ?_; refine k_0 ?_; refine k_1 ?_; refine k_1 ?_; refine k_32 ?_; refine k_35 ?_; refine k_23 ?_; refine k_41 ?_; refine k_49 ?_; refine k_0 ?_; refine k_1 ?_; refine k_1 ?_; refine k_32 ?_; refine k_35 ?_; refine k_61 ?_; refine k_10 ?_; refine k_41 ?_; refine k_49 ?_; refine k_4 ?_; refine k_d ?_
  exact awp_ret ⟨_, le_slot 10 (y := ab true) (AVal.le_of_eq (by refine Eq.trans (b := ab (decide (((cVals l).length : Int) = 0))) rfl ?_; exact congrArg ab (decide_eq_true (by omega)))), ⟨rfl, trivial⟩, subL_nil _⟩
set_option maxHeartbeats 8000000 in
theorem bare_ttff (k n d : Int) (s : List UInt8) (l : List Val) : Con Try.prog 66 [] [aVal (.mk k n d s l), ab true, ab true, ab false, ab false] [] (ab (decide (s = []) && decide (l.length = 0))) := by
  refine con_of (xs := [ab (decide (s = []) && decide (l.length = 0))]) Try.func66 rfl Try.ntmps66 rfl rfl rfl (fun E => ?_)
  have hlen := cVals_len l
  by_cases hs : s = []
  case neg =>
    rw [show (decide (s = []) && decide (l.length = 0)) = false by simp [*]]
    refine k_s ?_; refine k_45 (γ := 100) ?_; refine k_4 ?_; refine k_d ?_; refine k_s ?_; refine k_0 ?_; refine k_0 ?_; refine k_6 ?_; refine k_6 ?_; refine k_6 ?_; refine k_50 ?_; refine k_0 ?_; refine k_2 ?_; refine k_2 ?_; refine k_6 ?_; refine k_6 ?_; refine k_6 ?_; refine k_53 ?_; refine k_50 ?_; refine k_0 ?_; refine k_2 ?_; refine k_2 ?_; refine k_32 ?_; refine k_35 ?_; refine k_23 ?_; refine k_44 ?_; refine k_50 ?_; refine k_0 ?_; refine k_5 ?_; refine k_5 ?_; refine k_38 ?_; refine k_38 ?_; refine k_38 ?_; refine k_38 ?_; refine k_5 ?_; refine k_39 ?_; refine k_4 ?_; refine k_d ?_
    exact awp_ret ⟨_, St.le_refl _, ⟨rfl, trivial⟩, subL_nil _⟩
  by_cases hl : l.length = 0
  case neg =>
    have hl' : ¬ ((l.length : Int) = 0) := by omega
    rw [show (decide (s = []) && decide (l.length = 0)) = false by simp [*]]
    refine k_s ?_; refine k_45 (γ := 100) ?_; refine k_4 ?_; refine k_d ?_; refine k_s ?_; refine k_0 ?_; refine k_0 ?_; refine k_6 ?_; refine k_6 ?_; refine k_6 ?_; refine k_50 ?_; refine k_0 ?_; refine k_2 ?_; refine k_2 ?_; refine k_6 ?_; refine k_6 ?_; refine k_6 ?_; refine k_53 ?_; refine k_50 ?_; refine k_0 ?_; refine k_2 ?_; refine k_2 ?_; refine k_32 ?_; refine k_35 ?_; refine k_23 ?_; refine k_44 ?_; refine k_50 ?_; refine k_0 ?_; refine k_1 ?_; refine k_1 ?_; refine k_32 ?_; refine k_35 ?_; refine k_61 ?_; refine k_10 ?_; refine k_41 ?_; refine k_49 ?_; refine k_4 ?_; refine k_d ?_
    exact awp_ret ⟨_, le_slot 10 (y := ab false) (AVal.le_of_eq (by refine Eq.trans (b := ab (decide (((cVals l).length : Int) = 0))) rfl ?_; exact congrArg ab (decide_eq_false (by rw [hlen]; exact hl')))), ⟨rfl, trivial⟩, subL_nil _⟩
  rw [show (decide (s = []) && decide (l.length = 0)) = true by simp [*]]
  refine k_s ?_; refine k_45 (γ := 100) ?_; refine k_4 ?_; refine k_d ?_; refine k_s ?_; refine k_0 ?_; refine k_0 ?_; refine k_6 ?_; refine k_6 ?_; refine k_6 ?_; refine k_50 ?_; refine k_0 ?_; refine k_2 ?_; refine k_2 ?_; refine k_6 ?_; refine k_6 ?_; refine k_6 ?_; refine k_53 ?_; refine k_50 ?_; refine k_0 ?_; refine k_2 ?_; refine k_2 ?_; refine k_32 ?_; refine k_35 ?_; refine k_23 ?_; refine k_44 ?_; refine k_50 ?_; refine k_0 ?_; refine k_1 ?_; refine k_1 ?_; refine k_32 ?_; refine k_35 ?_; refine k_61 ?_; refine k_10 ?_; refine k_41 ?_; refine k_49 ?_; refine k_4 ?_; refine k_d ?_
  exact awp_ret ⟨_, le_slot 10 (y := ab true) (AVal.le_of_eq (by refine Eq.trans (b := ab (decide (((cVals l).length : Int) = 0))) rfl ?_; exact congrArg ab (decide_eq_true (by omega)))), ⟨rfl, trivial⟩, subL_nil _⟩
set_option maxHeartbeats 8000000 in
theorem bare_fftf (k n d : Int) (s : List UInt8) (l : List Val) : Con Try.prog 66 [] [aVal (.mk k n d s l), ab false, ab false, ab true, ab false] [] (ab (decide (n = 0) && decide (d = 0) && decide (l.length = 0))) := by
  refine con_of (xs := [ab (decide (n = 0) && decide (d = 0) && decide (l.length = 0))]) Try.func66 rfl Try.ntmps66 rfl rfl rfl (fun E => ?_)
  have hlen := cVals_len l
  by_cases hn : n = 0
  case neg =>
    rw [show (decide (n = 0) && decide (d = 0) && decide (l.length = 0)) = false by simp [*]]
    refine k_s ?_; refine k_45 (γ := 100) ?_; refine k_4 ?_; refine k_d ?_; refine k_s ?_; refine k_0 ?_; refine k_0 ?_; refine k_32 ?_; refine k_35 ?_; refine k_10 ?_; refine k_40 ?_; refine k_0 ?_; refine k_5 ?_; refine k_5 ?_; refine k_38 ?_; refine k_38 ?_; refine k_38 ?_; refine k_5 ?_; refine k_39 ?_; refine k_0 ?_; refine k_6 ?_; refine k_6 ?_; refine k_38 ?_; refine k_38 ?_; refine k_38 ?_; refine k_6 ?_; refine k_40 ?_; refine k_0 ?_; refine k_6 ?_; refine k_6 ?_; refine k_38 ?_; refine k_38 ?_; refine k_38 ?_; refine k_38 ?_; refine k_6 ?_; refine k_40 ?_; refine k_4 ?_; refine k_d ?_
    exact awp_ret ⟨_, St.le_refl _, ⟨rfl, trivial⟩, subL_nil _⟩
  by_cases hd : d = 0
  case neg =>
    rw [show (decide (n = 0) && decide (d = 0) && decide (l.length = 0)) = false by simp [*]]
    refine k_s ?_; refine k_45 (γ := 100) ?_; refine k_4 ?_; refine k_d ?_; refine k_s ?_; refine k_0 ?_; refine k_0 ?_; refine k_32 ?_; refine k_35 ?_; refine k_10 ?_; refine k_40 ?_; refine k_0 ?_; refine k_1 ?_; refine k_1 ?_; refine k_32 ?_; refine k_35 ?_; refine k_10 ?_; refine k_41 ?_; refine k_49 ?_; refine k_0 ?_; refine k_5 ?_; refine k_5 ?_; refine k_38 ?_; refine k_38 ?_; refine k_38 ?_; refine k_5 ?_; refine k_39 ?_; refine k_0 ?_; refine k_6 ?_; refine k_6 ?_; refine k_38 ?_; refine k_38 ?_; refine k_38 ?_; refine k_38 ?_; refine k_6 ?_; refine k_40 ?_; refine k_4 ?_; refine k_d ?_
    exact awp_ret ⟨_, St.le_refl _, ⟨rfl, trivial⟩, subL_nil _⟩
  by_cases hl : l.length = 0
  case neg =>
    have hl' : ¬ ((l.length : Int) = 0) := by omega
    rw [show (decide (n = 0) && decide (d = 0) && decide (l.length = 0)) = false by simp [*]]
    refine k_s ?_; refine k_45 (γ := 100) ?_; refine k_4 ?_; refine k_d ?_; refine k_s ?_; refine k_0 ?_; refine k_0 ?_; refine k_32 ?_; refine k_35 ?_; refine k_10 ?_; refine k_40 ?_; refine k_0 ?_; refine k_1 ?_; refine k_1 ?_; refine k_32 ?_; refine k_35 ?_; refine k_10 ?_; refine k_41 ?_; refine k_49 ?_; refine k_0 ?_; refine k_1 ?_; refine k_1 ?_; refine k_6 ?_; refine k_6 ?_; refine k_6 ?_; refine k_51 ?_; refine k_49 ?_; refine k_0 ?_; refine k_2 ?_; refine k_2 ?_; refine k_32 ?_; refine k_35 ?_; refine k_61 ?_; refine k_10 ?_; refine k_44 ?_; refine k_50 ?_; refine k_4 ?_; refine k_d ?_
    exact awp_ret ⟨_, le_slot 10 (y := ab false) (AVal.le_of_eq (by refine Eq.trans (b := ab (decide (((cVals l).length : Int) = 0))) rfl ?_; exact congrArg ab (decide_eq_false (by rw [hlen]; exact hl')))), ⟨rfl, trivial⟩, subL_nil _⟩
  rw [show (decide (n = 0) && decide (d = 0) && decide (l.length = 0)) = true by simp [*]]
  refine k_s ?_; refine k_45 (γ := 100) ?_; refine k_4 ?_; refine k_d ?_; refine k_s ?_; refine k_0 ?_; refine k_0 ?_; refine k_32 ?_; refine k_35 ?_; refine k_10 ?_; refine k_40 ?_; refine k_0 ?_; refine k_1 ?_; refine k_1 ?_; refine k_32 ?_; refine k_35 ?_; refine k_10 ?_; refine k_41 ?_; refine k_49 ?_; refine k_0 ?_; refine k_1 ?_; refine k_1 ?_; refine k_6 ?_; refine k_6 ?_; refine k_6 ?_; refine k_51 ?_; refine k_49 ?_; refine k_0 ?_; refine k_2 ?_; refine k_2 ?_; refine k_32 ?_; refine k_35 ?_; refine k_61 ?_; refine k_10 ?_; refine k_44 ?_; refine k_50 ?_; refine k_4 ?_; refine k_d ?_
  exact awp_ret ⟨_, le_slot 10 (y := ab true) (AVal.le_of_eq (by refine Eq.trans (b := ab (decide (((cVals l).length : Int) = 0))) rfl ?_; exact congrArg ab (decide_eq_true (by omega)))), ⟨rfl, trivial⟩, subL_nil _⟩
set_option maxHeartbeats 8000000 in
theorem bare_ffft (k n d : Int) (s : List UInt8) (l : List Val) : Con Try.prog 66 [] [aVal (.mk k n d s l), ab false, ab false, ab false, ab true] [] (ab (decide (n = 0) && decide (d = 0) && decide (s = []))) := by
  refine con_of (xs := [ab (decide (n = 0) && decide (d = 0) && decide (s = []))]) Try.func66 rfl Try.ntmps66 rfl rfl rfl (fun E => ?_)
  have hlen := cVals_len l
  by_cases hn : n = 0
  case neg =>
    rw [show (decide (n = 0) && decide (d = 0) && decide (s = [])) = false by simp [*]]
    refine k_s ?_; refine k_45 (γ := 100) ?_; refine k_4 ?_; refine k_d ?_; refine k_s ?_; refine k_0 ?_; refine k_0 ?_; refine k_32 ?_; refine k_35 ?_; refine k_10 ?_; refine k_40 ?_; refine k_0 ?_; refine k_5 ?_; refine k_5 ?_; refine k_38 ?_; refine k_38 ?_; refine k_38 ?_; refine k_5 ?_; refine k_39 ?_; refine k_0 ?_; refine k_6 ?_; refine k_6 ?_; refine k_38 ?_; refine k_38 ?_; refine k_38 ?_; refine k_6 ?_; refine k_40 ?_; refine k_0 ?_; refine k_6 ?_; refine k_6 ?_; refine k_38 ?_; refine k_38 ?_; refine k_38 ?_; refine k_38 ?_; refine k_6 ?_; refine k_40 ?_; refine k_4 ?_; refine k_d ?_
    exact awp_ret ⟨_, St.le_refl _, ⟨rfl, trivial⟩, subL_nil _⟩
  by_cases hd : d = 0
  case neg =>
    rw [show (decide (n = 0) && decide (d = 0) && decide (s = [])) = false by simp [*]]
    refine k_s ?_; refine k_45 (γ := 100) ?_; refine k_4 ?_; refine k_d ?_; refine k_s ?_; refine k_0 ?_; refine k_0 ?_; refine k_32 ?_; refine k_35 ?_; refine k_10 ?_; refine k_40 ?_; refine k_0 ?_; refine k_1 ?_; refine k_1 ?_; refine k_32 ?_; refine k_35 ?_; refine k_10 ?_; refine k_41 ?_; refine k_49 ?_; refine k_0 ?_; refine k_5 ?_; refine k_5 ?_; refine k_38 ?_; refine k_38 ?_; refine k_38 ?_; refine k_5 ?_; refine k_39 ?_; refine k_0 ?_; refine k_6 ?_; refine k_6 ?_; refine k_38 ?_; refine k_38 ?_; refine k_38 ?_; refine k_38 ?_; refine k_6 ?_; refine k_40 ?_; refine k_4 ?_; refine k_d ?_
    exact awp_ret ⟨_, St.le_refl _, ⟨rfl, trivial⟩, subL_nil _⟩
  by_cases hs : s = []
  case neg =>
    rw [show (decide (n = 0) && decide (d = 0) && decide (s = [])) = false by simp [*]]
    refine k_s ?_; refine k_45 (γ := 100) ?_; refine k_4 ?_; refine k_d ?_; refine k_s ?_; refine k_0 ?_; refine k_0 ?_; refine k_32 ?_; refine k_35 ?_; refine k_10 ?_; refine k_40 ?_; refine k_0 ?_; refine k_1 ?_; refine k_1 ?_; refine k_32 ?_; refine k_35 ?_; refine k_10 ?_; refine k_41 ?_; refine k_49 ?_; refine k_0 ?_; refine k_1 ?_; refine k_1 ?_; refine k_32 ?_; refine k_35 ?_; refine k_23 ?_; refine k_41 ?_; refine k_49 ?_; refine k_0 ?_; refine k_5 ?_; refine k_5 ?_; refine k_38 ?_; refine k_38 ?_; refine k_38 ?_; refine k_38 ?_; refine k_5 ?_; refine k_39 ?_; refine k_4 ?_; refine k_d ?_
    exact awp_ret ⟨_, St.le_refl _, ⟨rfl, trivial⟩, subL_nil _⟩
  rw [show (decide (n = 0) && decide (d = 0) && decide (s = [])) = true by simp [*]]
  refine k_s ?_; refine k_45 (γ := 100) ?_; refine k_4 ?_; refine k_d ?_; refine k_s ?_; refine k_0 ?_; refine k_0 ?_; refine k_32 ?_; refine k_35 ?_; refine k_10 ?_; refine k_40 ?_; refine k_0 ?_; refine k_1 ?_; refine k_1 ?_; refine k_32 ?_; refine k_35 ?_; refine k_10 ?_; refine k_41 ?_; refine k_49 ?_; refine k_0 ?_; refine k_1 ?_; refine k_1 ?_; refine k_32 ?_; refine k_35 ?_; refine k_23 ?_; refine k_41 ?_; refine k_49 ?_; refine k_0 ?_; refine k_1 ?_; refine k_1 ?_; refine k_6 ?_; refine k_6 ?_; refine k_6 ?_; refine k_6 ?_; refine k_51 ?_; refine k_49 ?_; refine k_4 ?_; refine k_d ?_
  exact awp_ret ⟨_, St.le_refl _, ⟨rfl, trivial⟩, subL_nil _⟩
end Go.Fw

/- Ranges, greatest common divisors, fractions. -/
import Derived.Test.YtfejbhbfmhkndaaG3
import Derived.Test.YtfejbhbfmhkndaaChecked
import Derived.Test.YtfejbhbfmhkndaaG4
import Derived.Test.YtfejbhbfmhkndaaG2
namespace Go.Fw
open Go Go.Proofs
set_option linter.unusedVariables false
set_option linter.unusedSimpArgs false
abbrev nj (n : Nat) : Value := .int .i64 n
def inV (n : Int) : Bool := decide (-1000000000000000 ≤ n ∧ n ≤ 1000000000000000)
set_option maxHeartbeats 8000000 in
theorem in_con (n : Int) : Con Try.prog 77 [] [ai n] [] (ab (inV n)) := by
  refine con_of (xs := [ab (inV n)]) Try.func77 rfl Try.ntmps77 rfl rfl rfl (fun E => ?_)
  by_cases h1 : -1000000000000000 ≤ n
  · by_cases h2 : n ≤ 1000000000000000
    · rw [show inV n = true by simp [inV, h1, h2]]
      refine k_s ?_; refine k_4 ?_; refine k_d ?_; refine k_s ?_; refine k_0 ?_; refine k_15 ?_; refine k_0 ?_; refine k_1 ?_; refine k_21 ?_; refine k_49 ?_; refine k_4 ?_; refine k_d ?_
      exact awp_ret ⟨_, le_slot 2 (y := ab true) (AVal.le_of_eq (by refine Eq.trans (b := ab (decide (n ≤ 1000000000000000))) rfl ?_; rw [decide_eq_true h2])), ⟨rfl, trivial⟩, subL_nil _⟩
    · rw [show inV n = false by simp [inV, h2]]
      refine k_s ?_; refine k_4 ?_; refine k_d ?_; refine k_s ?_; refine k_0 ?_; refine k_15 ?_; refine k_0 ?_; refine k_1 ?_; refine k_21 ?_; refine k_49 ?_; refine k_4 ?_; refine k_d ?_
      exact awp_ret ⟨_, le_slot 2 (y := ab false) (AVal.le_of_eq (by refine Eq.trans (b := ab (decide (n ≤ 1000000000000000))) rfl ?_; rw [decide_eq_false h2])), ⟨rfl, trivial⟩, subL_nil _⟩
  · rw [show inV n = false by simp [inV, h1]]
    refine k_s ?_; refine k_4 ?_; refine k_d ?_; refine k_s ?_; refine k_0 ?_; refine k_15 ?_; refine k_0 ?_; refine k_5 ?_; refine k_5 ?_; refine k_39 ?_; refine k_4 ?_; refine k_d ?_
    exact awp_ret ⟨_, le_slot 2 (y := ab false) (AVal.le_refl _), ⟨rfl, trivial⟩, subL_nil _⟩
set_option maxHeartbeats 8000000 in
theorem rin_con (n : Int) : Con Try.prog 67 [] [ai n] [] (ab (inV n)) := by
  refine con_of (xs := [ab (inV n)]) Try.func67 rfl Try.ntmps67 rfl rfl rfl (fun E => ?_)
  by_cases h1 : -1000000000000000 ≤ n
  · by_cases h2 : n ≤ 1000000000000000
    · rw [show inV n = true by simp [inV, h1, h2]]
      refine k_s ?_; refine k_4 ?_; refine k_d ?_; refine k_s ?_; refine k_0 ?_; refine k_15 ?_; refine k_0 ?_; refine k_1 ?_; refine k_21 ?_; refine k_49 ?_; refine k_4 ?_; refine k_d ?_
      exact awp_ret ⟨_, le_slot 2 (y := ab true) (AVal.le_of_eq (by refine Eq.trans (b := ab (decide (n ≤ 1000000000000000))) rfl ?_; rw [decide_eq_true h2])), ⟨rfl, trivial⟩, subL_nil _⟩
    · rw [show inV n = false by simp [inV, h2]]
      refine k_s ?_; refine k_4 ?_; refine k_d ?_; refine k_s ?_; refine k_0 ?_; refine k_15 ?_; refine k_0 ?_; refine k_1 ?_; refine k_21 ?_; refine k_49 ?_; refine k_4 ?_; refine k_d ?_
      exact awp_ret ⟨_, le_slot 2 (y := ab false) (AVal.le_of_eq (by refine Eq.trans (b := ab (decide (n ≤ 1000000000000000))) rfl ?_; rw [decide_eq_false h2])), ⟨rfl, trivial⟩, subL_nil _⟩
  · rw [show inV n = false by simp [inV, h1]]
    refine k_s ?_; refine k_4 ?_; refine k_d ?_; refine k_s ?_; refine k_0 ?_; refine k_15 ?_; refine k_0 ?_; refine k_5 ?_; refine k_5 ?_; refine k_39 ?_; refine k_4 ?_; refine k_d ?_
    exact awp_ret ⟨_, le_slot 2 (y := ab false) (AVal.le_refl _), ⟨rfl, trivial⟩, subL_nil _⟩
set_option maxHeartbeats 8000000 in
theorem abs_con (n : Int) (h : -1000000000000000 ≤ n ∧ n ≤ 1000000000000000) : Con Try.prog 84 [] [ai n] [] (ai (n.natAbs : Nat)) := by
  refine con_of (xs := [ai (n.natAbs : Nat)]) Try.func84 rfl Try.ntmps84 rfl rfl rfl (fun E => ?_)
  refine k_s ?_; refine k_4 ?_; refine k_d ?_; refine k_s ?_; refine k_0 ?_; refine k_0 ?_; refine k_67 ?_ (hr := by exact ru_neg (by omega)); refine k_108 ?_; refine k_4 ?_; refine k_d ?_
  exact awp_ret ⟨_, le_slot 2 (y := ai (n.natAbs : Nat)) (AVal.le_of_eq (by refine Eq.trans (b := ai (max n (-n))) rfl ?_; congr 3; omega)), ⟨rfl, trivial⟩, subL_nil _⟩
set_option maxHeartbeats 8000000 in
theorem size_con (n : Int) (h : -1000000000000000 ≤ n ∧ n ≤ 1000000000000000) : Con Try.prog 64 [] [ai n] [] (ai (n.natAbs : Nat)) := by
  refine con_of (xs := [ai (n.natAbs : Nat)]) Try.func64 rfl Try.ntmps64 rfl rfl rfl (fun E => ?_)
  by_cases h0 : n < 0
  · refine k_s ?_; refine k_4 ?_; refine k_d ?_; refine awp_seq ?_; refine k_s ?_; refine k_0 ?_; refine k_9 ?_; refine k_d ?_; refine k_ct ?_; refine k_s ?_; refine k_0 ?_; refine k_67 ?_ (hr := by exact ru_neg (by omega)); refine k_4 ?_; refine k_d ?_
    exact awp_ret ⟨_, le_slot 2 (y := ai (n.natAbs : Nat)) (AVal.le_of_eq (by refine Eq.trans (b := ai (-n)) rfl ?_; congr 3; omega)), ⟨rfl, trivial⟩, subL_nil _⟩
  · refine k_s ?_; refine k_4 ?_; refine k_d ?_; refine awp_seq ?_; refine k_s ?_; refine k_0 ?_; refine k_9 ?_; refine k_d ?_; refine k_cf ?_; refine awp_skip ?_; refine k_s ?_; refine k_0 ?_; refine k_4 ?_; refine k_d ?_
    exact awp_ret ⟨_, le_slot 2 (y := ai (n.natAbs : Nat)) (AVal.le_of_eq (by refine Eq.trans (b := ai n) rfl ?_; congr 3; omega)), ⟨rfl, trivial⟩, subL_nil _⟩
set_option maxHeartbeats 8000000 in
theorem gcd_con (a b : Int) (ha : -1000000000000000 ≤ a ∧ a ≤ 1000000000000000) (hb : -1000000000000000 ≤ b ∧ b ≤ 1000000000000000) : Con Try.prog 82 [] [ai a, ai b] [] (ai (Nat.gcd a.natAbs b.natAbs : Nat)) := by
  refine con_of (xs := [ai (Nat.gcd a.natAbs b.natAbs : Nat)]) Try.func82 rfl Try.ntmps82 rfl rfl rfl (fun E => ?_)
  have h1 : Con Try.prog 77 [] [ai a] [] (ab true) := by
    have h := in_con a
    rwa [show inV a = true by simpa [inV] using ha] at h
  have h2 : Con Try.prog 77 [] [ai b] [] (ab true) := by
    have h := in_con b
    rwa [show inV b = true by simpa [inV] using hb] at h
  refine k_s ?_; refine k_4 ?_; refine k_d ?_; refine awp_seq ?_; refine k_s ?_; refine k_0 ?_; refine k_56 (hcon := h1) ?_ (hle := by refine ⟨(by exact AVal.le_refl _), ?_⟩; exact trivial) (hLi := by (repeat (first | exact trivial | refine ⟨rfl, ?_⟩ | fail)) <;> fail) (hnew := by (repeat (first | exact trivial | refine ⟨rfl, ?_⟩ | fail)) <;> fail) (hdead := by (repeat (first | exact trivial | refine ⟨rfl, ?_⟩ | fail)) <;> fail); refine k_67 ?_; refine k_0 ?_; refine k_2 ?_; refine k_56 (hcon := h2) ?_ (hle := by refine ⟨(by exact AVal.le_refl _), ?_⟩; exact trivial) (hLi := by (repeat (first | exact trivial | refine ⟨rfl, ?_⟩ | fail)) <;> fail) (hnew := by (repeat (first | exact trivial | refine ⟨rfl, ?_⟩ | fail)) <;> fail) (hdead := by (repeat (first | exact trivial | refine ⟨rfl, ?_⟩ | fail)) <;> fail) (hg := by exact ⟨rfl, rfl⟩); refine k_69 ?_; refine k_40 ?_; refine k_d ?_; refine k_rf ?_
  refine awp_skip ?_; refine k_s ?_; refine k_0 ?_; refine k_56 (hcon := abs_con a ha) ?_ (hle := by refine ⟨(by exact AVal.le_refl _), ?_⟩; exact trivial) (hLi := by (repeat (first | exact trivial | refine ⟨rfl, ?_⟩ | fail)) <;> fail) (hnew := by (repeat (first | exact trivial | refine ⟨rfl, ?_⟩ | fail)) <;> fail) (hdead := by (repeat (first | exact trivial | refine ⟨rfl, ?_⟩ | fail)) <;> fail); refine k_0 ?_; refine k_56 (hcon := abs_con b hb) ?_ (hle := by refine ⟨(by exact AVal.le_refl _), ?_⟩; exact trivial) (hLi := by (repeat (first | exact trivial | refine ⟨rfl, ?_⟩ | fail)) <;> fail) (hnew := by (repeat (first | exact trivial | refine ⟨rfl, ?_⟩ | fail)) <;> fail) (hdead := by (repeat (first | exact trivial | refine ⟨rfl, ?_⟩ | fail)) <;> fail); refine k_4 ?_; refine k_4 ?_; refine k_d ?_; refine awp_seq ?_; refine awp_block ?_
  refine awp_loopI (ι := Nat × Nat) (fun i => Nat.gcd i.1 i.2 = Nat.gcd a.natAbs b.natAbs) (fun i => ⟨24, [(0, ai i.1), (1, ai i.2)], []⟩) (fun i => i.2) (a.natAbs, b.natAbs) rfl
    (le_mk rfl ⟨(by (first | ((exact AVal.le_refl _)) | ((exact AVal.le_nil _)) | ((refine AVal.le_agg ?_; ((repeat (first | exact trivial | refine ⟨(by (first | ((exact AVal.le_refl _)) | ((exact AVal.le_nil _)) | ((refine AVal.le_of_eq ?_; (conv => lhs; whnf); (first | ((rfl)) | ((simp <;> fail)) | fail))) | fail)), ?_⟩ | fail)) <;> fail))) | ((refine AVal.le_of_eq ?_; (conv => lhs; whnf); (first | ((rfl)) | ((simp <;> fail)) | fail))) | fail)), (by (first | ((exact AVal.le_refl _)) | ((exact AVal.le_nil _)) | ((refine AVal.le_agg ?_; ((repeat (first | exact trivial | refine ⟨(by (first | ((exact AVal.le_refl _)) | ((exact AVal.le_nil _)) | ((refine AVal.le_of_eq ?_; (conv => lhs; whnf); (first | ((rfl)) | ((simp <;> fail)) | fail))) | fail)), ?_⟩ | fail)) <;> fail))) | ((refine AVal.le_of_eq ?_; (conv => lhs; whnf); (first | ((rfl)) | ((simp <;> fail)) | fail))) | fail)), trivial⟩ trivial) ?_
  rintro ⟨x, y⟩ hg
  simp only at hg
  by_cases hy : y = 0
  · subst hy
    rw [← hg, Nat.gcd_zero_right]
    refine awp_seq ?_; refine k_s ?_; refine k_0 ?_; refine k_8 ?_; refine k_d ?_; refine k_rf ?_; refine awp_exit ?_; refine k_s ?_; refine k_0 ?_; refine k_4 ?_; refine k_d ?_
    exact awp_ret ⟨_, St.le_refl _, ⟨rfl, trivial⟩, subL_nil _⟩
  · have hy' : ¬ ((y : Int) = 0) := by omega
    refine awp_seq ?_; refine k_s ?_; refine k_0 ?_; refine k_8 ?_; refine k_d ?_; refine k_ct ?_; refine awp_skip ?_; refine awp_block ?_; refine k_r ?_; refine k_0 ?_; refine k_0 ?_; refine k_0 ?_; refine k_74 (op := .rem) (r' := nj (x % y)) (u := nj x) (v := nj y) ?_ (hr := by exact rb_remn hy); refine k_4 ?_; refine k_4 ?_; refine k_e ?_
    exact ⟨(y, x % y), by simp only; rw [← hg, Nat.gcd_comm x y, Nat.gcd_rec y x, Nat.gcd_comm], Nat.mod_lt _ (by omega), le_mk rfl ⟨(by (first | ((exact AVal.le_refl _)) | ((exact AVal.le_nil _)) | ((refine AVal.le_agg ?_; ((repeat (first | exact trivial | refine ⟨(by (first | ((exact AVal.le_refl _)) | ((exact AVal.le_nil _)) | ((refine AVal.le_of_eq ?_; (conv => lhs; whnf); (first | ((rfl)) | ((simp <;> fail)) | fail))) | fail)), ?_⟩ | fail)) <;> fail))) | ((refine AVal.le_of_eq ?_; (conv => lhs; whnf); (first | ((rfl)) | ((simp <;> fail)) | fail))) | fail)), (by (first | ((exact AVal.le_refl _)) | ((exact AVal.le_nil _)) | ((refine AVal.le_agg ?_; ((repeat (first | exact trivial | refine ⟨(by (first | ((exact AVal.le_refl _)) | ((exact AVal.le_nil _)) | ((refine AVal.le_of_eq ?_; (conv => lhs; whnf); (first | ((rfl)) | ((simp <;> fail)) | fail))) | fail)), ?_⟩ | fail)) <;> fail))) | ((refine AVal.le_of_eq ?_; (conv => lhs; whnf); (first | ((rfl)) | ((simp <;> fail)) | fail))) | fail)), trivial⟩ trivial⟩
set_option maxHeartbeats 8000000 in
theorem rgcd_con (x y : Nat) (hx : x ≤ 1000000000000000) (hy : y ≤ 1000000000000000) : Con Try.prog 73 [] [ai x, ai y] [] (ai (Nat.gcd x y : Nat)) := by
  refine con_of (xs := [ai (Nat.gcd x y : Nat)]) Try.func73 rfl Try.ntmps73 rfl rfl rfl (fun E => ?_)
  refine k_s ?_; refine k_4 ?_; refine k_d ?_; refine awp_seq ?_; refine awp_block ?_
  generalize hG : Nat.gcd x y = G
  refine awp_loopI (ι := Nat × Nat) (fun i => Nat.gcd i.1 i.2 = G) (fun i => ⟨12, [(0, ai i.1), (1, ai i.2)], []⟩) (fun i => i.2) (x, y) hG
    (le_mk rfl ⟨(by (first | ((exact AVal.le_refl _)) | ((exact AVal.le_nil _)) | ((refine AVal.le_agg ?_; ((repeat (first | exact trivial | refine ⟨(by (first | ((exact AVal.le_refl _)) | ((exact AVal.le_nil _)) | ((refine AVal.le_of_eq ?_; (conv => lhs; whnf); (first | ((rfl)) | ((simp <;> fail)) | fail))) | fail)), ?_⟩ | fail)) <;> fail))) | ((refine AVal.le_of_eq ?_; (conv => lhs; whnf); (first | ((rfl)) | ((simp <;> fail)) | fail))) | fail)), (by (first | ((exact AVal.le_refl _)) | ((exact AVal.le_nil _)) | ((refine AVal.le_agg ?_; ((repeat (first | exact trivial | refine ⟨(by (first | ((exact AVal.le_refl _)) | ((exact AVal.le_nil _)) | ((refine AVal.le_of_eq ?_; (conv => lhs; whnf); (first | ((rfl)) | ((simp <;> fail)) | fail))) | fail)), ?_⟩ | fail)) <;> fail))) | ((refine AVal.le_of_eq ?_; (conv => lhs; whnf); (first | ((rfl)) | ((simp <;> fail)) | fail))) | fail)), trivial⟩ trivial) ?_
  rintro ⟨x, y⟩ hg
  simp only at hg
  by_cases hy : y = 0
  · subst hy
    rw [← hg, Nat.gcd_zero_right]
    refine awp_seq ?_; refine k_s ?_; refine k_0 ?_; refine k_11 ?_; refine k_d ?_; refine k_rf ?_; refine awp_exit ?_; refine k_s ?_; refine k_0 ?_; refine k_4 ?_; refine k_d ?_
    exact awp_ret ⟨_, St.le_refl _, ⟨rfl, trivial⟩, subL_nil _⟩
  · have hy' : (0 : Int) < y := by omega
    refine awp_seq ?_; refine k_s ?_; refine k_0 ?_; refine k_11 ?_; refine k_d ?_; refine k_ct ?_; refine awp_skip ?_; refine awp_block ?_; refine k_r ?_; refine k_0 ?_; refine k_0 ?_; refine k_0 ?_; refine k_74 (op := .rem) (r' := nj (x % y)) (u := nj x) (v := nj y) ?_ (hr := by exact rb_remn hy); refine k_4 ?_; refine k_4 ?_; refine k_e ?_
    exact ⟨(y, x % y), by simp only; rw [← hg, Nat.gcd_comm x y, Nat.gcd_rec y x, Nat.gcd_comm], Nat.mod_lt _ (by omega), le_mk rfl ⟨(by (first | ((exact AVal.le_refl _)) | ((exact AVal.le_nil _)) | ((refine AVal.le_agg ?_; ((repeat (first | exact trivial | refine ⟨(by (first | ((exact AVal.le_refl _)) | ((exact AVal.le_nil _)) | ((refine AVal.le_of_eq ?_; (conv => lhs; whnf); (first | ((rfl)) | ((simp <;> fail)) | fail))) | fail)), ?_⟩ | fail)) <;> fail))) | ((refine AVal.le_of_eq ?_; (conv => lhs; whnf); (first | ((rfl)) | ((simp <;> fail)) | fail))) | fail)), (by (first | ((exact AVal.le_refl _)) | ((exact AVal.le_nil _)) | ((refine AVal.le_agg ?_; ((repeat (first | exact trivial | refine ⟨(by (first | ((exact AVal.le_refl _)) | ((exact AVal.le_nil _)) | ((refine AVal.le_of_eq ?_; (conv => lhs; whnf); (first | ((rfl)) | ((simp <;> fail)) | fail))) | fail)), ?_⟩ | fail)) <;> fail))) | ((refine AVal.le_of_eq ?_; (conv => lhs; whnf); (first | ((rfl)) | ((simp <;> fail)) | fail))) | fail)), trivial⟩ trivial⟩
abbrev aFrac (n d : Int) : AVal := .agg [ai n, ai d]
theorem fracV_bad {n d : Int} (h : ¬ (1 ≤ d ∧ d ≤ 1000000000000000 ∧ -1000000000000000 ≤ n ∧ n ≤ 1000000000000000)) : fracV n d = false := by simp only [fracV, decide_eq_false h, Bool.false_and]
theorem fracV_good {n d : Int} (h : 1 ≤ d ∧ d ≤ 1000000000000000 ∧ -1000000000000000 ≤ n ∧ n ≤ 1000000000000000) : fracV n d = decide (Nat.gcd n.natAbs d.natAbs = 1) := by simp only [fracV, decide_eq_true h, Bool.true_and]
set_option maxHeartbeats 8000000 in
theorem fracValid_con (n d : Int) : Con Try.prog 78 [] [aFrac n d] [] (ab (fracV n d)) := by
  refine con_of (xs := [ab (fracV n d)]) Try.func78 rfl Try.ntmps78 rfl rfl rfl (fun E => ?_)
  by_cases h1 : 1 ≤ d
  case neg =>
    rw [fracV_bad (by omega)]
    refine k_s ?_; refine k_45 (γ := 100) ?_; refine k_4 ?_; refine k_d ?_; refine k_s ?_; refine k_31 ?_; refine k_34 ?_; refine k_15 ?_; refine k_0 ?_; refine k_5 ?_; refine k_5 ?_; refine k_5 ?_; refine k_39 ?_; refine k_0 ?_; refine k_6 ?_; refine k_6 ?_; refine k_6 ?_; refine k_40 ?_; refine k_0 ?_; refine k_6 ?_; refine k_6 ?_; refine k_6 ?_; refine k_6 ?_; refine k_6 ?_; refine k_6 ?_; refine k_40 ?_; refine k_4 ?_; refine k_d ?_
    exact awp_ret ⟨_, St.le_refl _, ⟨rfl, trivial⟩, subL_nil _⟩
  by_cases h2 : d ≤ 1000000000000000
  case neg =>
    rw [fracV_bad (by omega)]
    refine k_s ?_; refine k_45 (γ := 100) ?_; refine k_4 ?_; refine k_d ?_; refine k_s ?_; refine k_31 ?_; refine k_34 ?_; refine k_15 ?_; refine k_0 ?_; refine k_33 ?_; refine k_36 ?_; refine k_21 ?_; refine k_49 ?_; refine k_0 ?_; refine k_5 ?_; refine k_5 ?_; refine k_5 ?_; refine k_39 ?_; refine k_0 ?_; refine k_6 ?_; refine k_6 ?_; refine k_6 ?_; refine k_6 ?_; refine k_6 ?_; refine k_6 ?_; refine k_40 ?_; refine k_4 ?_; refine k_d ?_
    exact awp_ret ⟨_, St.le_refl _, ⟨rfl, trivial⟩, subL_nil _⟩
  by_cases h3 : -1000000000000000 ≤ n ∧ n ≤ 1000000000000000
  case neg =>
    rw [fracV_bad (by omega)]
    have hin : Con Try.prog 77 [] [ai n] [] (ab false) := by
      have h := in_con n
      rwa [show inV n = false by simpa [inV] using h3] at h
    refine k_s ?_; refine k_45 (γ := 100) ?_; refine k_4 ?_; refine k_d ?_; refine k_s ?_; refine k_31 ?_; refine k_34 ?_; refine k_15 ?_; refine k_0 ?_; refine k_33 ?_; refine k_36 ?_; refine k_21 ?_; refine k_49 ?_; refine k_0 ?_; refine k_33 ?_; refine k_36 ?_; refine k_56 (hcon := hin) ?_ (hle := by refine ⟨(by exact AVal.le_refl _), ?_⟩; exact trivial) (hLi := by (repeat (first | exact trivial | refine ⟨rfl, ?_⟩ | fail)) <;> fail) (hnew := by (repeat (first | exact trivial | refine ⟨rfl, ?_⟩ | fail)) <;> fail) (hdead := by (repeat (first | exact trivial | refine ⟨rfl, ?_⟩ | fail)) <;> fail) (hg := by exact ⟨rfl, congrArg ab (by (simp only [List.length_map, List.length_take, List.length_append, decide_eq_true_eq, decide_eq_false_iff_not, ne_eq, Classical.not_not]; omega))⟩); refine k_49 ?_; refine k_0 ?_; refine k_6 ?_; refine k_6 ?_; refine k_6 ?_; refine k_6 ?_; refine k_6 ?_; refine k_6 ?_
    refine k_40 ?_; refine k_4 ?_; refine k_d ?_
    exact awp_ret ⟨_, St.le_refl _, ⟨rfl, trivial⟩, subL_nil _⟩
  rw [fracV_good (by omega)]
  have hin : Con Try.prog 77 [] [ai n] [] (ab true) := by
    have h := in_con n
    rwa [show inV n = true by simpa [inV] using h3] at h
  refine k_s ?_; refine k_45 (γ := 100) ?_; refine k_4 ?_; refine k_d ?_; refine k_s ?_; refine k_31 ?_; refine k_34 ?_; refine k_15 ?_; refine k_0 ?_; refine k_33 ?_; refine k_36 ?_; refine k_21 ?_; refine k_49 ?_; refine k_0 ?_; refine k_33 ?_; refine k_36 ?_; refine k_56 (hcon := hin) ?_ (hle := by refine ⟨(by exact AVal.le_refl _), ?_⟩; exact trivial) (hLi := by (repeat (first | exact trivial | refine ⟨rfl, ?_⟩ | fail)) <;> fail) (hnew := by (repeat (first | exact trivial | refine ⟨rfl, ?_⟩ | fail)) <;> fail) (hdead := by (repeat (first | exact trivial | refine ⟨rfl, ?_⟩ | fail)) <;> fail) (hg := by exact ⟨rfl, congrArg ab (by (simp only [List.length_map, List.length_take, List.length_append, decide_eq_true_eq, decide_eq_false_iff_not, ne_eq, Classical.not_not]; omega))⟩); refine k_49 ?_; refine k_0 ?_; refine k_32 ?_; refine k_35 ?_; refine k_32 ?_; refine k_35 ?_; refine k_56 (hcon := gcd_con n d h3 (by omega)) ?_ (hle := by refine ⟨(by exact AVal.le_refl _), ?_⟩; refine ⟨(by exact AVal.le_refl _), ?_⟩; exact trivial) (hLi := by (repeat (first | exact trivial | refine ⟨rfl, ?_⟩ | fail)) <;> fail) (hnew := by (repeat (first | exact trivial | refine ⟨rfl, ?_⟩ | fail)) <;> fail) (hdead := by (repeat (first | exact trivial | refine ⟨rfl, ?_⟩ | fail)) <;> fail) (hg := by exact ⟨rfl, rfl⟩)
  refine k_10 ?_; refine k_50 ?_; refine k_4 ?_; refine k_d ?_
  exact awp_ret ⟨_, le_slot 2 (y := ab (decide (Nat.gcd n.natAbs d.natAbs = 1))) (AVal.le_of_eq (by refine Eq.trans (b := ab (decide (((Nat.gcd n.natAbs d.natAbs : Nat) : Int) = 1))) rfl ?_; exact congrArg ab (decide_eq_decide.2 (by omega)))), ⟨rfl, trivial⟩, subL_nil _⟩
set_option maxHeartbeats 8000000 in
theorem rfracValid_con (n d : Int) : Con Try.prog 60 [] [aFrac n d] [] (ab (fracV n d)) := by
  refine con_of (xs := [ab (fracV n d)]) Try.func60 rfl Try.ntmps60 rfl rfl rfl (fun E => ?_)
  by_cases h1 : 1 ≤ d
  case neg =>
    rw [fracV_bad (by omega)]
    refine k_s ?_; refine k_45 (γ := 100) ?_; refine k_4 ?_; refine k_d ?_; refine k_s ?_; refine k_31 ?_; refine k_34 ?_; refine k_15 ?_; refine k_0 ?_; refine k_5 ?_; refine k_5 ?_; refine k_5 ?_; refine k_39 ?_; refine k_0 ?_; refine k_6 ?_; refine k_6 ?_; refine k_6 ?_; refine k_40 ?_; refine k_0 ?_; refine k_6 ?_; refine k_6 ?_; refine k_6 ?_; refine k_40 ?_; refine k_0 ?_; refine k_6 ?_; refine k_6 ?_; refine k_6 ?_; refine k_6 ?_; refine k_6 ?_; refine k_6 ?_; refine k_6 ?_; refine k_40 ?_; refine k_4 ?_; refine k_e ?_
    exact awp_ret ⟨_, St.le_refl _, ⟨rfl, trivial⟩, subL_nil _⟩
  by_cases h2 : d ≤ 1000000000000000
  case neg =>
    rw [fracV_bad (by omega)]
    refine k_s ?_; refine k_45 (γ := 100) ?_; refine k_4 ?_; refine k_d ?_; refine k_s ?_; refine k_31 ?_; refine k_34 ?_; refine k_15 ?_; refine k_0 ?_; refine k_33 ?_; refine k_36 ?_; refine k_21 ?_; refine k_49 ?_; refine k_0 ?_; refine k_5 ?_; refine k_5 ?_; refine k_5 ?_; refine k_39 ?_; refine k_0 ?_; refine k_6 ?_; refine k_6 ?_; refine k_6 ?_; refine k_40 ?_; refine k_0 ?_; refine k_6 ?_; refine k_6 ?_; refine k_6 ?_; refine k_6 ?_; refine k_6 ?_; refine k_6 ?_; refine k_6 ?_; refine k_40 ?_; refine k_4 ?_; refine k_e ?_
    exact awp_ret ⟨_, St.le_refl _, ⟨rfl, trivial⟩, subL_nil _⟩
  by_cases h3 : -1000000000000000 ≤ n
  case neg =>
    rw [fracV_bad (by omega)]
    refine k_s ?_; refine k_45 (γ := 100) ?_; refine k_4 ?_; refine k_d ?_; refine k_s ?_; refine k_31 ?_; refine k_34 ?_; refine k_15 ?_; refine k_0 ?_; refine k_33 ?_; refine k_36 ?_; refine k_21 ?_; refine k_49 ?_; refine k_0 ?_; refine k_33 ?_; refine k_36 ?_; refine k_22 ?_; refine k_49 ?_; refine k_0 ?_; refine k_5 ?_; refine k_5 ?_; refine k_5 ?_; refine k_39 ?_; refine k_0 ?_; refine k_6 ?_; refine k_6 ?_; refine k_6 ?_; refine k_6 ?_; refine k_6 ?_; refine k_6 ?_; refine k_6 ?_; refine k_40 ?_; refine k_4 ?_; refine k_e ?_
    exact awp_ret ⟨_, St.le_refl _, ⟨rfl, trivial⟩, subL_nil _⟩
  by_cases h4 : n ≤ 1000000000000000
  case neg =>
    rw [fracV_bad (by omega)]
    refine k_s ?_; refine k_45 (γ := 100) ?_; refine k_4 ?_; refine k_d ?_; refine k_s ?_; refine k_31 ?_; refine k_34 ?_; refine k_15 ?_; refine k_0 ?_; refine k_33 ?_; refine k_36 ?_; refine k_21 ?_; refine k_49 ?_; refine k_0 ?_; refine k_33 ?_; refine k_36 ?_; refine k_22 ?_; refine k_49 ?_; refine k_0 ?_; refine k_33 ?_; refine k_36 ?_; refine k_21 ?_; refine k_49 ?_; refine k_0 ?_; refine k_5 ?_; refine k_5 ?_; refine k_5 ?_; refine k_5 ?_; refine k_5 ?_; refine k_5 ?_; refine k_5 ?_; refine k_39 ?_; refine k_4 ?_; refine k_e ?_
    exact awp_ret ⟨_, St.le_refl _, ⟨rfl, trivial⟩, subL_nil _⟩
  rw [fracV_good (by omega)]
  obtain ⟨e, rfl⟩ : ∃ e : Nat, d = e := ⟨d.toNat, by omega⟩
  refine k_s ?_; refine k_45 (γ := 100) ?_; refine k_4 ?_; refine k_d ?_; refine k_s ?_; refine k_31 ?_; refine k_34 ?_; refine k_15 ?_; refine k_0 ?_; refine k_33 ?_; refine k_36 ?_; refine k_21 ?_; refine k_49 ?_; refine k_0 ?_; refine k_33 ?_; refine k_36 ?_; refine k_22 ?_; refine k_49 ?_; refine k_0 ?_; refine k_33 ?_; refine k_36 ?_; refine k_21 ?_; refine k_49 ?_; refine k_0 ?_; refine k_33 ?_; refine k_36 ?_; refine k_56 (hcon := size_con n ⟨h3, h4⟩) ?_ (hle := by refine ⟨(by exact AVal.le_refl _), ?_⟩; exact trivial) (hLi := by (repeat (first | exact trivial | refine ⟨rfl, ?_⟩ | fail)) <;> fail) (hnew := by (repeat (first | exact trivial | refine ⟨rfl, ?_⟩ | fail)) <;> fail) (hdead := by (repeat (first | exact trivial | refine ⟨rfl, ?_⟩ | fail)) <;> fail) (hg := by exact ⟨rfl, congrArg ab (by (simp only [List.length_map, List.length_take, List.length_append, decide_eq_true_eq, decide_eq_false_iff_not, ne_eq, Classical.not_not]; omega))⟩)
  refine k_33 ?_; refine k_36 ?_; refine k_56 (hcon := rgcd_con n.natAbs e (by omega) (by omega)) ?_ (hle := by refine ⟨(by exact AVal.le_refl _), ?_⟩; refine ⟨(by exact AVal.le_refl _), ?_⟩; exact trivial) (hLi := by (repeat (first | exact trivial | refine ⟨rfl, ?_⟩ | fail)) <;> fail) (hnew := by (repeat (first | exact trivial | refine ⟨rfl, ?_⟩ | fail)) <;> fail) (hdead := by (repeat (first | exact trivial | refine ⟨rfl, ?_⟩ | fail)) <;> fail) (hg := by exact ⟨rfl, congrArg ab (by (simp only [List.length_map, List.length_take, List.length_append, decide_eq_true_eq, decide_eq_false_iff_not, ne_eq, Classical.not_not]; omega))⟩); refine k_20 ?_; refine k_49 ?_; refine k_4 ?_; refine k_e ?_
  exact awp_ret ⟨_, le_slot 2 (y := ab (decide (Nat.gcd n.natAbs (e : Int).natAbs = 1))) (AVal.le_of_eq (by refine Eq.trans (b := ab (decide (((Nat.gcd n.natAbs e : Nat) : Int) = 1))) rfl ?_; exact congrArg ab (decide_eq_decide.2 (by rw [Int.natAbs_natCast]; omega)))), ⟨rfl, trivial⟩, subL_nil _⟩
end Go.Fw

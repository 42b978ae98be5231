/- Fractions of the reference: a fraction compared with itself. -/
import Derived.Test.YtfejbhbfmhkndaaG3
import Derived.Test.YtfejbhbfmhkndaaK06e
namespace Go.Fw
open Go Go.Proofs
set_option linter.unusedVariables false
set_option linter.unusedSimpArgs false
def sgnI (n : Int) : Int := if n < 0 then -1 else if 0 < n then 1 else 0
set_option maxHeartbeats 8000000 in
theorem sign_con (n : Int) : Con Try.prog 62 [] [ai n] [] (ai (sgnI n)) := by
  refine con_of (xs := [ai (sgnI n)]) Try.func62 rfl Try.ntmps62 rfl rfl rfl (fun E => ?_)
  by_cases h1 : n < 0
  · rw [show sgnI n = -1 by simp [sgnI, h1]]
    refine k_s ?_; refine k_4 ?_; refine k_d ?_; refine awp_seq ?_; refine k_s ?_; refine k_0 ?_; refine k_9 ?_; refine k_d ?_; refine k_ct ?_; refine k_s ?_; refine k_4 ?_; refine k_d ?_
    exact awp_ret ⟨_, St.le_refl _, ⟨rfl, trivial⟩, subL_nil _⟩
  by_cases h2 : 0 < n
  · rw [show sgnI n = 1 by simp [sgnI, h1, h2]]
    refine k_s ?_; refine k_4 ?_; refine k_d ?_; refine awp_seq ?_; refine k_s ?_; refine k_0 ?_; refine k_9 ?_; refine k_d ?_; refine k_cf ?_; refine awp_skip ?_; refine awp_seq ?_; refine k_s ?_; refine k_0 ?_; refine k_11 ?_; refine k_d ?_; refine k_ct ?_; refine k_s ?_; refine k_4 ?_; refine k_d ?_
    exact awp_ret ⟨_, St.le_refl _, ⟨rfl, trivial⟩, subL_nil _⟩
  · rw [show sgnI n = 0 by simp [sgnI, h1, h2]]
    refine k_s ?_; refine k_4 ?_; refine k_d ?_; refine awp_seq ?_; refine k_s ?_; refine k_0 ?_; refine k_9 ?_; refine k_d ?_; refine k_cf ?_; refine awp_skip ?_; refine awp_seq ?_; refine k_s ?_; refine k_0 ?_; refine k_11 ?_; refine k_d ?_; refine k_cf ?_; refine awp_skip ?_; refine k_s ?_; refine k_4 ?_; refine k_d ?_
    exact awp_ret ⟨_, St.le_refl _, ⟨rfl, trivial⟩, subL_nil _⟩
set_option maxHeartbeats 8000000 in
theorem order_same (x : List Nat) (hx : x.length ≤ 1000) : Con Try.prog 75 [] [.d (dWide x), .d (dWide x)] [] (ai 0) := by
  refine con_of (xs := [ai 0]) Try.func75 rfl Try.ntmps75 rfl rfl rfl (fun E => ?_)
  have hlx : (x.map cInt).length = x.length := by simp
  refine k_s ?_; refine k_4 ?_; refine k_d ?_; refine awp_seq ?_; refine k_s ?_; refine k_0 ?_; refine k_60 ?_; refine k_7 ?_ (hr := by exact rb_sub64 (by unfold in64; omega)); refine k_4 ?_; refine k_d ?_; refine awp_block ?_
  refine awp_loopI (fun i : Nat => i ≤ x.length) (fun i => ⟨31, [(0, .d (dWide x)), (1, .d (dWide x)), (5, ai ((i : Int) - 1))], []⟩) (fun i => i) x.length (Nat.le_refl _)
    (le_mk rfl ⟨(by (first | ((exact AVal.le_refl _)) | ((exact AVal.le_nil _)) | ((refine AVal.le_agg ?_; ((repeat (first | exact trivial | refine ⟨(by (first | ((exact AVal.le_refl _)) | ((exact AVal.le_nil _)) | ((refine AVal.le_of_eq ?_; (conv => lhs; whnf); (first | ((rfl)) | ((simp <;> fail)) | fail))) | fail)), ?_⟩ | fail)) <;> fail))) | ((refine AVal.le_of_eq ?_; (conv => lhs; whnf); (first | ((rfl)) | ((simp <;> fail)) | fail))) | fail)), (by (first | ((exact AVal.le_refl _)) | ((exact AVal.le_nil _)) | ((refine AVal.le_agg ?_; ((repeat (first | exact trivial | refine ⟨(by (first | ((exact AVal.le_refl _)) | ((exact AVal.le_nil _)) | ((refine AVal.le_of_eq ?_; (conv => lhs; whnf); (first | ((rfl)) | ((simp <;> fail)) | fail))) | fail)), ?_⟩ | fail)) <;> fail))) | ((refine AVal.le_of_eq ?_; (conv => lhs; whnf); (first | ((rfl)) | ((simp <;> fail)) | fail))) | fail)), (by (first | ((exact AVal.le_refl _)) | ((exact AVal.le_nil _)) | ((refine AVal.le_agg ?_; ((repeat (first | exact trivial | refine ⟨(by (first | ((exact AVal.le_refl _)) | ((exact AVal.le_nil _)) | ((refine AVal.le_of_eq ?_; (conv => lhs; whnf); (first | ((rfl)) | ((simp <;> fail)) | fail))) | fail)), ?_⟩ | fail)) <;> fail))) | ((refine AVal.le_of_eq ?_; (conv => lhs; whnf); (first | ((rfl)) | ((simp <;> fail)) | fail))) | fail)), trivial⟩ trivial) ?_
  intro i hi
  cases i with
  | zero =>
    refine awp_seq ?_; refine k_s ?_; refine k_0 ?_; refine k_15 ?_; refine k_d ?_; refine k_rf ?_; refine awp_exit ?_; refine k_s ?_; refine k_4 ?_; refine k_d ?_
    exact awp_ret ⟨_, St.le_refl _, ⟨rfl, trivial⟩, subL_nil _⟩
  | succ j =>
    have e : (((j + 1 : Nat) : Int) - 1) = (j : Int) := by omega
    rw [e]
    obtain ⟨a, ha⟩ := get_of_lt (l := x) (k := j) (by omega)
    have hxm : (x.map cInt)[j]? = some (cInt a) := map_get ha
    refine awp_seq ?_; refine k_s ?_; refine k_0 ?_; refine k_15 ?_; refine k_d ?_; refine k_rt ?_; refine awp_skip ?_; refine awp_seq ?_; refine awp_block ?_; refine awp_seq ?_; refine k_s ?_; refine k_0 ?_; refine k_0 ?_; refine k_70 ?_; refine k_65 ?_; refine k_0 ?_; refine k_0 ?_; refine k_70 ?_; refine k_65 ?_; refine k_9 ?_; refine k_e ?_; refine k_cf ?_; refine awp_skip ?_; refine k_s ?_; refine k_0 ?_; refine k_0 ?_; refine k_70 ?_; refine k_65 ?_; refine k_0 ?_; refine k_0 ?_; refine k_70 ?_; refine k_65 ?_; refine k_11 ?_; refine k_e ?_; refine k_cf ?_; refine awp_skip ?_; refine k_r ?_; refine k_0 ?_; refine k_7 ?_ (hr := by exact rb_sub64 (by unfold in64; omega)); refine k_4 ?_; refine k_d ?_
    exact ⟨j, by omega, by omega, le_mk rfl ⟨(by (first | ((exact AVal.le_refl _)) | ((exact AVal.le_nil _)) | ((refine AVal.le_agg ?_; ((repeat (first | exact trivial | refine ⟨(by (first | ((exact AVal.le_refl _)) | ((exact AVal.le_nil _)) | ((refine AVal.le_of_eq ?_; (conv => lhs; whnf); (first | ((rfl)) | ((simp <;> fail)) | fail))) | fail)), ?_⟩ | fail)) <;> fail))) | ((refine AVal.le_of_eq ?_; (conv => lhs; whnf); (first | ((rfl)) | ((simp <;> fail)) | fail))) | fail)), (by (first | ((exact AVal.le_refl _)) | ((exact AVal.le_nil _)) | ((refine AVal.le_agg ?_; ((repeat (first | exact trivial | refine ⟨(by (first | ((exact AVal.le_refl _)) | ((exact AVal.le_nil _)) | ((refine AVal.le_of_eq ?_; (conv => lhs; whnf); (first | ((rfl)) | ((simp <;> fail)) | fail))) | fail)), ?_⟩ | fail)) <;> fail))) | ((refine AVal.le_of_eq ?_; (conv => lhs; whnf); (first | ((rfl)) | ((simp <;> fail)) | fail))) | fail)), (by (first | ((exact AVal.le_refl _)) | ((exact AVal.le_nil _)) | ((refine AVal.le_agg ?_; ((repeat (first | exact trivial | refine ⟨(by (first | ((exact AVal.le_refl _)) | ((exact AVal.le_nil _)) | ((refine AVal.le_of_eq ?_; (conv => lhs; whnf); (first | ((rfl)) | ((simp <;> fail)) | fail))) | fail)), ?_⟩ | fail)) <;> fail))) | ((refine AVal.le_of_eq ?_; (conv => lhs; whnf); (first | ((rfl)) | ((simp <;> fail)) | fail))) | fail)), trivial⟩ trivial⟩
abbrev zeros14 : List Nat := List.replicate 14 0
def sumM (s : Int) (x : List Nat) : List Nat := if s = 0 then plusS x x else plusS zeros14 zeros14
set_option maxHeartbeats 8000000 in
theorem sum_same (s : Int) (hs : s = 0 ∨ s = 1 ∨ s = -1) (x : List Nat) (hx : lowN x) (hl : x.length = 14) : Con Try.prog 61 [] [ai s, .d (dWide x), ai (-s), .d (dWide x)] [] (.tup [ai 0, .d (dWide (sumM s x))]) := by
  refine con_of (xs := [ai 0, .d (dWide (sumM s x))]) Try.func61 rfl Try.ntmps61 rfl rfl rfl (fun E => ?_)
  have hp := plus_con x x hx hx rfl (by omega)
  have hz := plus_con zeros14 zeros14 (low_zero 14) (low_zero 14) rfl (by decide)
  have ho := order_same x (by omega)
  by_cases h0 : s = 0
  · subst h0
    rw [show sumM 0 x = plusS x x from if_pos rfl]
    generalize plusS x x = y at *
    refine k_s ?_; refine k_4 ?_; refine k_4 ?_; refine k_d ?_; refine awp_seq ?_; refine k_s ?_; refine k_0 ?_; refine k_0 ?_; refine k_7 ?_; refine k_0 ?_; refine k_6 ?_; refine k_6 ?_; refine k_50 ?_; refine k_d ?_; refine k_rt ?_; refine k_s ?_; refine k_0 ?_; refine k_0 ?_; refine k_0 ?_; refine k_56 (hcon := hp) ?_ (hle := by refine ⟨(by exact AVal.le_refl _), ?_⟩; refine ⟨(by exact AVal.le_refl _), ?_⟩; exact trivial) (hLi := by (repeat (first | exact trivial | refine ⟨rfl, ?_⟩ | fail)) <;> fail) (hnew := by (repeat (first | exact trivial | refine ⟨rfl, ?_⟩ | fail)) <;> fail) (hdead := by (repeat (first | exact trivial | refine ⟨rfl, ?_⟩ | fail)) <;> fail); refine k_4 ?_; refine k_4 ?_; refine k_d ?_
    exact awp_ret ⟨_, St.le_refl _, ⟨rfl, rfl, trivial⟩, subL_nil _⟩
  have hs2 : sumM s x = plusS zeros14 zeros14 := if_neg h0
  rw [hs2]
  clear hs2
  generalize plusS zeros14 zeros14 = y at *
  by_cases h1 : s = 1
  · subst h1
    refine k_s ?_; refine k_4 ?_; refine k_4 ?_; refine k_d ?_; refine awp_seq ?_; refine k_s ?_; refine k_0 ?_; refine k_0 ?_; refine k_7 ?_; refine k_0 ?_; refine k_2 ?_; refine k_10 ?_; refine k_40 ?_; refine k_d ?_; refine k_rf ?_; refine awp_skip ?_; refine awp_seq ?_; refine k_s ?_; refine k_0 ?_; refine k_7 ?_; refine k_d ?_; refine k_rf ?_; refine awp_skip ?_; refine k_s ?_; refine k_0 ?_; refine k_0 ?_; refine k_56 (hcon := ho) ?_ (hle := by refine ⟨(by exact AVal.le_refl _), ?_⟩; refine ⟨(by exact AVal.le_refl _), ?_⟩; exact trivial) (hLi := by (repeat (first | exact trivial | refine ⟨rfl, ?_⟩ | fail)) <;> fail) (hnew := by (repeat (first | exact trivial | refine ⟨rfl, ?_⟩ | fail)) <;> fail) (hdead := by (repeat (first | exact trivial | refine ⟨rfl, ?_⟩ | fail)) <;> fail); refine k_4 ?_; refine k_d ?_; refine awp_seq ?_; refine k_s ?_; refine k_0 ?_; refine k_7 ?_; refine k_d ?_
    refine k_rt ?_; refine k_s ?_; refine k_93 ?_; refine k_93 ?_; refine k_56 (hcon := hz) ?_ (hle := by refine ⟨(by exact AVal.le_refl _), ?_⟩; refine ⟨(by exact AVal.le_refl _), ?_⟩; exact trivial) (hLi := by (repeat (first | exact trivial | refine ⟨rfl, ?_⟩ | fail)) <;> fail) (hnew := by (repeat (first | exact trivial | refine ⟨rfl, ?_⟩ | fail)) <;> fail) (hdead := by (repeat (first | exact trivial | refine ⟨rfl, ?_⟩ | fail)) <;> fail); refine k_4 ?_; refine k_4 ?_; refine k_e ?_
    exact awp_ret ⟨_, St.le_refl _, ⟨rfl, rfl, trivial⟩, subL_nil _⟩
  · obtain rfl : s = -1 := by omega
    refine k_s ?_; refine k_4 ?_; refine k_4 ?_; refine k_d ?_; refine awp_seq ?_; refine k_s ?_; refine k_0 ?_; refine k_0 ?_; refine k_7 ?_; refine k_0 ?_; refine k_2 ?_; refine k_10 ?_; refine k_40 ?_; refine k_d ?_; refine k_rf ?_; refine awp_skip ?_; refine awp_seq ?_; refine k_s ?_; refine k_0 ?_; refine k_7 ?_; refine k_d ?_; refine k_rf ?_; refine awp_skip ?_; refine k_s ?_; refine k_0 ?_; refine k_0 ?_; refine k_56 (hcon := ho) ?_ (hle := by refine ⟨(by exact AVal.le_refl _), ?_⟩; refine ⟨(by exact AVal.le_refl _), ?_⟩; exact trivial) (hLi := by (repeat (first | exact trivial | refine ⟨rfl, ?_⟩ | fail)) <;> fail) (hnew := by (repeat (first | exact trivial | refine ⟨rfl, ?_⟩ | fail)) <;> fail) (hdead := by (repeat (first | exact trivial | refine ⟨rfl, ?_⟩ | fail)) <;> fail); refine k_4 ?_; refine k_d ?_; refine awp_seq ?_; refine k_s ?_; refine k_0 ?_; refine k_7 ?_; refine k_d ?_
    refine k_rt ?_; refine k_s ?_; refine k_93 ?_; refine k_93 ?_; refine k_56 (hcon := hz) ?_ (hle := by refine ⟨(by exact AVal.le_refl _), ?_⟩; refine ⟨(by exact AVal.le_refl _), ?_⟩; exact trivial) (hLi := by (repeat (first | exact trivial | refine ⟨rfl, ?_⟩ | fail)) <;> fail) (hnew := by (repeat (first | exact trivial | refine ⟨rfl, ?_⟩ | fail)) <;> fail) (hdead := by (repeat (first | exact trivial | refine ⟨rfl, ?_⟩ | fail)) <;> fail); refine k_4 ?_; refine k_4 ?_; refine k_e ?_
    exact awp_ret ⟨_, St.le_refl _, ⟨rfl, rfl, trivial⟩, subL_nil _⟩
end Go.Fw

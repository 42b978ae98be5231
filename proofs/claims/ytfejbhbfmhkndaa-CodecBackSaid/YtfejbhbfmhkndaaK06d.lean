/- Wide numbers of the reference: sums, order. -/
import Derived.Test.YtfejbhbfmhkndaaG3
import Derived.Test.YtfejbhbfmhkndaaG4
import Derived.Test.YtfejbhbfmhkndaaK05r
namespace Go.Fw
open Go Go.Proofs
set_option linter.unusedVariables false
set_option linter.unusedSimpArgs false
theorem wide_set {l : List Nat} {k y : Nat} (h : k < l.length) : List.take k (l.map cInt) ++ [cInt y] ++ List.drop (k + 1) (l.map cInt) = (l.set k y).map cInt := by
  rw [List.set_eq_take_append_cons_drop, if_pos h]; simp
theorem wide_zero (n : Nat) : List.replicate n (cInt 0) = (List.replicate n 0).map cInt := by simp
set_option maxHeartbeats 8000000 in
theorem plus_con (x y : List Nat) (hx : lowN x) (hy : lowN y) (hl : y.length = x.length) (hn : x.length ≤ 1000) : Con Try.prog 74 [] [.d (dWide x), .d (dWide y)] [] (.d (dWide (plusS x y))) := by
  have hlx : (x.map cInt).length = x.length := by simp
  have own : Con Try.prog 74 [] [.d (dWide x), .d (dWide y)] [(130, .row 1 ((plusS x y).map cInt))] (.own 130 ((plusS x y).map cInt).length) := by
    refine con_of (xs := [.own 130 ((plusS x y).map cInt).length]) Try.func74 rfl Try.ntmps74 rfl rfl rfl (fun E => ?_)
    refine k_s ?_; refine k_4 ?_; refine k_d ?_; refine k_s ?_; refine k_0 ?_; refine k_60 ?_; refine k_94 (γ := 130) ?_; refine k_4 ?_; refine k_d ?_; refine k_s ?_; refine k_4 ?_; refine k_d ?_; refine awp_seq ?_; refine k_s ?_; refine k_4 ?_; refine k_d ?_; refine awp_block ?_
    refine awp_loopI (fun k : Nat => k ≤ x.length) (fun k => ⟨36, [(0, .d (dWide x)), (1, .d (dWide y)), (5, .own 130 (x.map cInt).length), (6, ai (plusK x y k).2), (7, ai k)], [(130, .row 1 ((plusK x y k).1.map cInt))]⟩) (fun k => x.length - k) 0 (by omega)
      (le_mk rfl ⟨(by (first | ((exact AVal.le_refl _)) | ((exact AVal.le_nil _)) | ((refine AVal.le_agg ?_; ((repeat (first | exact trivial | refine ⟨(by (first | ((exact AVal.le_refl _)) | ((exact AVal.le_nil _)) | ((refine AVal.le_of_eq ?_; (conv => lhs; whnf); (first | ((rfl)) | ((simp <;> fail)) | fail))) | fail)), ?_⟩ | fail)) <;> fail))) | ((refine AVal.le_of_eq ?_; (conv => lhs; whnf); (first | ((rfl)) | ((simp <;> fail)) | fail))) | fail)), (by (first | ((exact AVal.le_refl _)) | ((exact AVal.le_nil _)) | ((refine AVal.le_agg ?_; ((repeat (first | exact trivial | refine ⟨(by (first | ((exact AVal.le_refl _)) | ((exact AVal.le_nil _)) | ((refine AVal.le_of_eq ?_; (conv => lhs; whnf); (first | ((rfl)) | ((simp <;> fail)) | fail))) | fail)), ?_⟩ | fail)) <;> fail))) | ((refine AVal.le_of_eq ?_; (conv => lhs; whnf); (first | ((rfl)) | ((simp <;> fail)) | fail))) | fail)), (by (first | ((exact AVal.le_refl _)) | ((exact AVal.le_nil _)) | ((refine AVal.le_agg ?_; ((repeat (first | exact trivial | refine ⟨(by (first | ((exact AVal.le_refl _)) | ((exact AVal.le_nil _)) | ((refine AVal.le_of_eq ?_; (conv => lhs; whnf); (first | ((rfl)) | ((simp <;> fail)) | fail))) | fail)), ?_⟩ | fail)) <;> fail))) | ((refine AVal.le_of_eq ?_; (conv => lhs; whnf); (first | ((rfl)) | ((simp <;> fail)) | fail))) | fail)), (by (first | ((exact AVal.le_refl _)) | ((exact AVal.le_nil _)) | ((refine AVal.le_agg ?_; ((repeat (first | exact trivial | refine ⟨(by (first | ((exact AVal.le_refl _)) | ((exact AVal.le_nil _)) | ((refine AVal.le_of_eq ?_; (conv => lhs; whnf); (first | ((rfl)) | ((simp <;> fail)) | fail))) | fail)), ?_⟩ | fail)) <;> fail))) | ((refine AVal.le_of_eq ?_; (conv => lhs; whnf); (first | ((rfl)) | ((simp <;> fail)) | fail))) | fail)), (by (first | ((exact AVal.le_refl _)) | ((exact AVal.le_nil _)) | ((refine AVal.le_agg ?_; ((repeat (first | exact trivial | refine ⟨(by (first | ((exact AVal.le_refl _)) | ((exact AVal.le_nil _)) | ((refine AVal.le_of_eq ?_; (conv => lhs; whnf); (first | ((rfl)) | ((simp <;> fail)) | fail))) | fail)), ?_⟩ | fail)) <;> fail))) | ((refine AVal.le_of_eq ?_; (conv => lhs; whnf); (first | ((rfl)) | ((simp <;> fail)) | fail))) | fail)), trivial⟩ ⟨?_, trivial⟩) ?_
    · refine congrArg (AObj.row 1) ?_
      refine Eq.trans (b := List.replicate (x.map cInt).length (cInt 0)) rfl ?_
      rw [hlx]; exact wide_zero x.length
    intro k hk
    have hpl := plusK_len x y k
    have hpm : ((plusK x y k).1.map cInt).length = x.length := by rw [List.length_map, hpl]
    by_cases hkx : k < x.length
    case neg =>
      obtain rfl : k = x.length := by omega
      refine awp_seq ?_; refine k_s ?_; refine k_0 ?_; refine k_0 ?_; refine k_60 ?_; refine k_9 ?_; refine k_d ?_; refine k_cf ?_; refine awp_exit ?_; refine k_s ?_; refine k_0 ?_; refine k_4 ?_; refine k_d ?_
      exact awp_ret ⟨_, le_slot 4 (y := .own 130 ((plusS x y).map cInt).length) (AVal.le_of_eq (by refine Eq.trans (b := .own 130 (x.map cInt).length) rfl ?_; congr 1; rw [hlx]; exact hpm.symm)), ⟨rfl, trivial⟩, subL_of ⟨rfl, trivial⟩⟩
    obtain ⟨a, ha⟩ := get_of_lt (l := x) hkx
    obtain ⟨b, hb⟩ := get_of_lt (l := y) (k := k) (by omega)
    have hc := plusK_carry hx hy k
    have ha1 := lowN_get hx ha
    have hb1 := lowN_get hy hb
    have hsucc : plusK x y (k + 1) = ((plusK x y k).1.set k (((plusK x y k).2 + a + b) % 1000), ((plusK x y k).2 + a + b) / 1000) := by
      simp only [plusK, ha, hb, Option.getD_some]
    generalize plusK x y k = p at *
    obtain ⟨l, c⟩ := p
    simp only at hpl hpm hc hsucc
    refine awp_seq ?_; refine k_s ?_; refine k_0 ?_; refine k_0 ?_; refine k_60 ?_; refine k_9 ?_; refine k_d ?_; refine k_ct ?_; refine awp_skip ?_; refine awp_seq ?_; refine awp_block ?_; refine k_s ?_; refine k_0 ?_; refine k_0 ?_; refine k_0 ?_; refine k_70 ?_; refine k_65 ?_; refine k_74 (op := .add) (r' := nj (c + a)) (u := nj c) (v := nj a) ?_; refine k_0 ?_; refine k_0 ?_; refine k_70 ?_; refine k_65 ?_; refine k_74 (op := .add) (r' := nj (c + a + b)) (u := nj (c + a)) (v := nj b) ?_; refine k_4 ?_; refine k_e ?_; refine k_s ?_; refine k_0 ?_; refine k_0 ?_; refine k_0 ?_; refine k_76 (op := .rem) (r' := nj ((c + a + b) % 1000)) (u := nj (c + a + b)) (v := nj 1000) ?_; refine k_92 ?_; refine k_97 ?_; refine k_d ?_; refine k_r ?_; refine k_0 ?_; refine k_78 (op := .quo) (r' := nj ((c + a + b) / 1000)) (u := nj (c + a + b)) (v := nj 1000) ?_; refine k_4 ?_; refine k_d ?_; refine k_r ?_
    refine k_0 ?_; refine k_14 ?_; refine k_4 ?_; refine k_d ?_
    refine ⟨k + 1, by omega, by omega, ?_⟩
    dsimp only
    rw [hsucc]
    refine le_mk rfl ⟨(by (first | ((exact AVal.le_refl _)) | ((exact AVal.le_nil _)) | ((refine AVal.le_agg ?_; ((repeat (first | exact trivial | refine ⟨(by (first | ((exact AVal.le_refl _)) | ((exact AVal.le_nil _)) | ((refine AVal.le_of_eq ?_; (conv => lhs; whnf); (first | ((rfl)) | ((simp <;> fail)) | fail))) | fail)), ?_⟩ | fail)) <;> fail))) | ((refine AVal.le_of_eq ?_; (conv => lhs; whnf); (first | ((rfl)) | ((simp <;> fail)) | fail))) | fail)), (by (first | ((exact AVal.le_refl _)) | ((exact AVal.le_nil _)) | ((refine AVal.le_agg ?_; ((repeat (first | exact trivial | refine ⟨(by (first | ((exact AVal.le_refl _)) | ((exact AVal.le_nil _)) | ((refine AVal.le_of_eq ?_; (conv => lhs; whnf); (first | ((rfl)) | ((simp <;> fail)) | fail))) | fail)), ?_⟩ | fail)) <;> fail))) | ((refine AVal.le_of_eq ?_; (conv => lhs; whnf); (first | ((rfl)) | ((simp <;> fail)) | fail))) | fail)), (by (first | ((exact AVal.le_refl _)) | ((exact AVal.le_nil _)) | ((refine AVal.le_agg ?_; ((repeat (first | exact trivial | refine ⟨(by (first | ((exact AVal.le_refl _)) | ((exact AVal.le_nil _)) | ((refine AVal.le_of_eq ?_; (conv => lhs; whnf); (first | ((rfl)) | ((simp <;> fail)) | fail))) | fail)), ?_⟩ | fail)) <;> fail))) | ((refine AVal.le_of_eq ?_; (conv => lhs; whnf); (first | ((rfl)) | ((simp <;> fail)) | fail))) | fail)), (by (first | ((exact AVal.le_refl _)) | ((exact AVal.le_nil _)) | ((refine AVal.le_agg ?_; ((repeat (first | exact trivial | refine ⟨(by (first | ((exact AVal.le_refl _)) | ((exact AVal.le_nil _)) | ((refine AVal.le_of_eq ?_; (conv => lhs; whnf); (first | ((rfl)) | ((simp <;> fail)) | fail))) | fail)), ?_⟩ | fail)) <;> fail))) | ((refine AVal.le_of_eq ?_; (conv => lhs; whnf); (first | ((rfl)) | ((simp <;> fail)) | fail))) | fail)), (by (first | ((exact AVal.le_refl _)) | ((exact AVal.le_nil _)) | ((refine AVal.le_agg ?_; ((repeat (first | exact trivial | refine ⟨(by (first | ((exact AVal.le_refl _)) | ((exact AVal.le_nil _)) | ((refine AVal.le_of_eq ?_; (conv => lhs; whnf); (first | ((rfl)) | ((simp <;> fail)) | fail))) | fail)), ?_⟩ | fail)) <;> fail))) | ((refine AVal.le_of_eq ?_; (conv => lhs; whnf); (first | ((rfl)) | ((simp <;> fail)) | fail))) | fail)), trivial⟩ ⟨?_, trivial⟩
    exact congrArg (AObj.row 1) (wide_set (by omega))
  exact own.data (by simp)
end Go.Fw

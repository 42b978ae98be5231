/- The letters of a string value. -/
import Derived.Test.YtfejbhbfmhkndaaG3
import Derived.Test.YtfejbhbfmhkndaaK05j
import Derived.Laws.RangeAny
namespace Go.Fw
open Go Go.Proofs
set_option linter.unusedVariables false
set_option linter.unusedSimpArgs false
abbrev aStr' (l : List UInt8) : AVal := .d (.v (.string (baOf l)))
def okB (b : UInt8) : Bool := decide (32 ≤ b.toNat ∧ b.toNat ≤ 126)
/-- The first letter that may not be in a value, or -1. -/
def badIdx (s : List UInt8) : Int := if strV s then -1 else (s.takeWhile okB).length
theorem badIdx_neg {s : List UInt8} : (badIdx s < 0) ↔ strV s = true := by
  unfold badIdx
  cases strV s <;> simp
theorem strV_at {s : List UInt8} {p : Nat} (h : ∀ j, j < p → ∃ b, s[j]? = some b ∧ okB b = true) (hp : p = s.length) : strV s = true := by
  unfold strV
  rw [List.all_eq_true]
  intro x hx
  obtain ⟨i, hi⟩ := List.getElem?_of_mem hx
  obtain ⟨b, h1, h2⟩ := h i (by rw [hp]; exact (List.getElem?_eq_some_iff.1 hi).1)
  rw [hi] at h1; cases h1; exact h2
theorem badIdx_at {s : List UInt8} {p : Nat} {c : UInt8} (h : ∀ j, j < p → ∃ b, s[j]? = some b ∧ okB b = true) (hc : s[p]? = some c) (hb : okB c = false) : badIdx s = p := by
  have h1 : strV s = false := by
    cases hs : strV s with
    | false => rfl
    | true =>
      unfold strV at hs
      rw [List.all_eq_true] at hs
      have := hs c (List.mem_of_getElem? hc)
      unfold okB at hb
      rw [hb] at this; simp at this
  unfold badIdx
  rw [h1, while_len s p h (fun b hb' => by rw [hc] at hb'; cases hb'; exact hb)]
  simp
theorem ba_get (l : List UInt8) {p : Nat} {c : UInt8} (h : l[p]? = some c) (hp : p < (baOf l).size) : (baOf l)[p] = c := by
  have h1 := (List.getElem?_eq_some_iff.1 h).2
  exact h1
set_option maxHeartbeats 8000000 in
theorem rune_con (c : Nat) (hc : c ≤ 2147483647) : Con Try.prog 80 [] [.d (.v (.int .i32 c))] [] (ab (!decide (32 ≤ c ∧ c ≤ 126))) := by
  refine con_of (xs := [ab (!decide (32 ≤ c ∧ c ≤ 126))]) Try.func80 rfl Try.ntmps80 rfl rfl rfl (fun E => ?_)
  by_cases h1 : c < 32
  · rw [show (!decide (32 ≤ c ∧ c ≤ 126)) = true by simp; omega]
    refine k_s ?_; refine k_4 ?_; refine k_d ?_; refine k_s ?_; refine k_0 ?_; refine k_9 ?_; refine k_0 ?_; refine k_5 ?_; refine k_5 ?_; refine k_49 ?_; refine k_4 ?_; refine k_d ?_
    exact awp_ret ⟨_, St.le_refl _, ⟨rfl, trivial⟩, subL_nil _⟩
  · by_cases h2 : 126 < c
    · rw [show (!decide (32 ≤ c ∧ c ≤ 126)) = true by simp; omega]
      refine k_s ?_; refine k_4 ?_; refine k_d ?_; refine k_s ?_; refine k_0 ?_; refine k_9 ?_; refine k_0 ?_; refine k_1 ?_; refine k_16 ?_; refine k_39 ?_; refine k_4 ?_; refine k_d ?_
      exact awp_ret ⟨_, le_slot 2 (y := ab true) (AVal.le_of_eq (by refine Eq.trans (b := ab (decide (126 < (c : Int)))) rfl ?_; exact congrArg ab (decide_eq_true (by omega)))), ⟨rfl, trivial⟩, subL_nil _⟩
    · rw [show (!decide (32 ≤ c ∧ c ≤ 126)) = false by simp; omega]
      refine k_s ?_; refine k_4 ?_; refine k_d ?_; refine k_s ?_; refine k_0 ?_; refine k_9 ?_; refine k_0 ?_; refine k_1 ?_; refine k_16 ?_; refine k_39 ?_; refine k_4 ?_; refine k_d ?_
      exact awp_ret ⟨_, le_slot 2 (y := ab false) (AVal.le_of_eq (by refine Eq.trans (b := ab (decide (126 < (c : Int)))) rfl ?_; exact congrArg ab (decide_eq_false (by omega)))), ⟨rfl, trivial⟩, subL_nil _⟩
set_option maxHeartbeats 8000000 in
theorem indexFunc_con (s : List UInt8) (hs : s.length ≤ 9223372036854775807) : Con Try.prog 83 [] [aStr' s, .fn 80 [], ab true] [] (ai (badIdx s)) := by
  refine con_of (xs := [ai (badIdx s)]) Try.func83 rfl Try.ntmps83 rfl rfl rfl (fun E => ?_)
  have hsz : (baOf s).size = s.length := rfl
  refine k_s ?_; refine k_4 ?_; refine k_d ?_; refine awp_seq ?_; refine k_s ?_; refine k_0 ?_; refine k_109 (γ := 100) ?_; refine k_d ?_; refine awp_block ?_
  refine awp_loopI (fun p : Nat => p ≤ s.length ∧ ∀ j, j < p → ∃ b, s[j]? = some b ∧ okB b = true) (fun p => ⟨21, [(1, .fn 80 []), (2, ab true), (10, .ptr 100 0)], [(100, .iter (baOf s) p)]⟩) (fun p => s.length - p) 0 ⟨by omega, fun j hj => by omega⟩
    (le_mk rfl ⟨(by (first | ((exact AVal.le_refl _)) | ((exact AVal.le_nil _)) | ((refine AVal.le_agg ?_; ((repeat (first | exact trivial | refine ⟨(by (first | ((exact AVal.le_refl _)) | ((exact AVal.le_nil _)) | ((refine AVal.le_of_eq ?_; (conv => lhs; whnf); (first | ((rfl)) | ((simp <;> fail)) | fail))) | fail)), ?_⟩ | fail)) <;> fail))) | ((refine AVal.le_of_eq ?_; (conv => lhs; whnf); (first | ((rfl)) | ((simp <;> fail)) | fail))) | fail)), (by (first | ((exact AVal.le_refl _)) | ((exact AVal.le_nil _)) | ((refine AVal.le_agg ?_; ((repeat (first | exact trivial | refine ⟨(by (first | ((exact AVal.le_refl _)) | ((exact AVal.le_nil _)) | ((refine AVal.le_of_eq ?_; (conv => lhs; whnf); (first | ((rfl)) | ((simp <;> fail)) | fail))) | fail)), ?_⟩ | fail)) <;> fail))) | ((refine AVal.le_of_eq ?_; (conv => lhs; whnf); (first | ((rfl)) | ((simp <;> fail)) | fail))) | fail)), (by (first | ((exact AVal.le_refl _)) | ((exact AVal.le_nil _)) | ((refine AVal.le_agg ?_; ((repeat (first | exact trivial | refine ⟨(by (first | ((exact AVal.le_refl _)) | ((exact AVal.le_nil _)) | ((refine AVal.le_of_eq ?_; (conv => lhs; whnf); (first | ((rfl)) | ((simp <;> fail)) | fail))) | fail)), ?_⟩ | fail)) <;> fail))) | ((refine AVal.le_of_eq ?_; (conv => lhs; whnf); (first | ((rfl)) | ((simp <;> fail)) | fail))) | fail)), trivial⟩ ⟨rfl, trivial⟩) ?_
  rintro p ⟨hp, hall⟩
  by_cases hlt : p < s.length
  · obtain ⟨c, hc⟩ := get_of_lt (l := s) hlt
    have hlt' : p < (baOf s).size := hlt
    have hget := ba_get s hc hlt'
    have hr := rune_con (Utf8.decode (baOf s) p).1 (decode_le _ _)
    have go : okB c = true → Utf8.decode (baOf s) p = (c.toNat, 1) := fun hok => decode_ascii _ _ hlt' (by unfold okB at hok; rw [decide_eq_true_eq] at hok; rw [hget]; omega) |>.trans (by rw [hget])
    cases hok : okB c with
    | true =>
      have hd := go hok
      rw [show (!decide (32 ≤ (Utf8.decode (baOf s) p).1 ∧ (Utf8.decode (baOf s) p).1 ≤ 126)) = false by rw [hd]; unfold okB at hok; simp only; rw [hok]; rfl] at hr
      refine k_s ?_; refine k_100 ?_; refine k_37 ?_; refine k_d ?_; refine awp_seq ?_; refine k_rt ?_; refine awp_skip ?_; refine awp_block ?_; refine k_s ?_; refine k_37 ?_; refine k_37 ?_; refine k_4 ?_; refine k_4 ?_; refine k_d ?_; refine k_s ?_; refine k_0 ?_; refine k_0 ?_; refine k_101 (hcon := hr) ?_ (hle := by refine ⟨(by exact AVal.le_refl _), ?_⟩; exact trivial) (hLi := by (repeat (first | exact trivial | refine ⟨rfl, ?_⟩ | fail)) <;> fail) (hnew := by (repeat (first | exact trivial | refine ⟨rfl, ?_⟩ | fail)) <;> fail) (hdead := by (repeat (first | exact trivial | refine ⟨rfl, ?_⟩ | fail)) <;> fail); refine k_0 ?_; refine k_7 ?_ (hr := by exact rb_eqb rfl); refine k_d ?_; refine k_rf ?_; refine awp_skip ?_
      refine ⟨p + 1, ⟨by omega, fun j hj => ?_⟩, by omega, le_mk rfl ⟨(by (first | ((exact AVal.le_refl _)) | ((exact AVal.le_nil _)) | ((refine AVal.le_agg ?_; ((repeat (first | exact trivial | refine ⟨(by (first | ((exact AVal.le_refl _)) | ((exact AVal.le_nil _)) | ((refine AVal.le_of_eq ?_; (conv => lhs; whnf); (first | ((rfl)) | ((simp <;> fail)) | fail))) | fail)), ?_⟩ | fail)) <;> fail))) | ((refine AVal.le_of_eq ?_; (conv => lhs; whnf); (first | ((rfl)) | ((simp <;> fail)) | fail))) | fail)), (by (first | ((exact AVal.le_refl _)) | ((exact AVal.le_nil _)) | ((refine AVal.le_agg ?_; ((repeat (first | exact trivial | refine ⟨(by (first | ((exact AVal.le_refl _)) | ((exact AVal.le_nil _)) | ((refine AVal.le_of_eq ?_; (conv => lhs; whnf); (first | ((rfl)) | ((simp <;> fail)) | fail))) | fail)), ?_⟩ | fail)) <;> fail))) | ((refine AVal.le_of_eq ?_; (conv => lhs; whnf); (first | ((rfl)) | ((simp <;> fail)) | fail))) | fail)), (by (first | ((exact AVal.le_refl _)) | ((exact AVal.le_nil _)) | ((refine AVal.le_agg ?_; ((repeat (first | exact trivial | refine ⟨(by (first | ((exact AVal.le_refl _)) | ((exact AVal.le_nil _)) | ((refine AVal.le_of_eq ?_; (conv => lhs; whnf); (first | ((rfl)) | ((simp <;> fail)) | fail))) | fail)), ?_⟩ | fail)) <;> fail))) | ((refine AVal.le_of_eq ?_; (conv => lhs; whnf); (first | ((rfl)) | ((simp <;> fail)) | fail))) | fail)), trivial⟩ ⟨?_, trivial⟩⟩
      · by_cases e : j = p
        · subst e; exact ⟨c, hc, hok⟩
        · exact hall j (by omega)
      · refine Eq.trans (b := AObj.iter (baOf s) (p + (Utf8.decode (baOf s) p).2)) rfl ?_
        rw [hd]
    | false =>
      rw [badIdx_at hall hc hok]
      have hbad : (!decide (32 ≤ (Utf8.decode (baOf s) p).1 ∧ (Utf8.decode (baOf s) p).1 ≤ 126)) = true := by
        by_cases ha : c.toNat < 128
        · rw [decode_ascii _ _ hlt' (by rw [hget]; exact ha), hget]
          unfold okB at hok
          simp only; rw [hok]; rfl
        · have := (decode_high (baOf s) p hlt' (by rw [hget]; omega)).1
          simp; omega
      rw [hbad] at hr
      refine k_s ?_; refine k_100 ?_; refine k_37 ?_; refine k_d ?_; refine awp_seq ?_; refine k_rt ?_; refine awp_skip ?_; refine awp_block ?_; refine k_s ?_; refine k_37 ?_; refine k_37 ?_; refine k_4 ?_; refine k_4 ?_; refine k_d ?_; refine k_s ?_; refine k_0 ?_; refine k_0 ?_; refine k_101 (hcon := hr) ?_ (hle := by refine ⟨(by exact AVal.le_refl _), ?_⟩; exact trivial) (hLi := by (repeat (first | exact trivial | refine ⟨rfl, ?_⟩ | fail)) <;> fail) (hnew := by (repeat (first | exact trivial | refine ⟨rfl, ?_⟩ | fail)) <;> fail) (hdead := by (repeat (first | exact trivial | refine ⟨rfl, ?_⟩ | fail)) <;> fail); refine k_0 ?_; refine k_7 ?_ (hr := by exact rb_eqb rfl); refine k_d ?_; refine k_rt ?_; refine k_s ?_; refine k_0 ?_; refine k_4 ?_; refine k_d ?_
      exact awp_ret ⟨_, St.le_refl _, ⟨rfl, trivial⟩, subL_nil _⟩
  · obtain rfl : p = s.length := by omega
    rw [show badIdx s = -1 by unfold badIdx; rw [strV_at hall rfl]; rfl]
    have hge : (baOf s).size ≤ s.length := Nat.le_refl _
    refine k_s ?_; refine k_110 ?_; refine k_37 ?_; refine k_d ?_; refine awp_seq ?_; refine k_rf ?_; refine awp_exit ?_; refine k_s ?_; refine k_4 ?_; refine k_d ?_
    exact awp_ret ⟨_, St.le_refl _, ⟨rfl, trivial⟩, subL_nil _⟩
set_option maxHeartbeats 8000000 in
theorem IndexFunc_con (s : List UInt8) (hs : s.length ≤ 9223372036854775807) : Con Try.prog 79 [] [aStr' s, .fn 80 []] [] (ai (badIdx s)) := by
  refine con_of (xs := [ai (badIdx s)]) Try.func79 rfl Try.ntmps79 rfl rfl rfl (fun E => ?_)
  refine k_s ?_; refine k_4 ?_; refine k_d ?_; refine k_s ?_; refine k_0 ?_; refine k_0 ?_; refine k_56 (hcon := indexFunc_con s hs) ?_ (hle := by refine ⟨(by exact AVal.le_refl _), ?_⟩; refine ⟨(by exact AVal.le_refl _), ?_⟩; refine ⟨(by exact AVal.le_refl _), ?_⟩; exact trivial) (hLi := by (repeat (first | exact trivial | refine ⟨rfl, ?_⟩ | fail)) <;> fail) (hnew := by (repeat (first | exact trivial | refine ⟨rfl, ?_⟩ | fail)) <;> fail) (hdead := by (repeat (first | exact trivial | refine ⟨rfl, ?_⟩ | fail)) <;> fail); refine k_4 ?_; refine k_d ?_
  exact awp_ret ⟨_, St.le_refl _, ⟨rfl, trivial⟩, subL_nil _⟩
end Go.Fw

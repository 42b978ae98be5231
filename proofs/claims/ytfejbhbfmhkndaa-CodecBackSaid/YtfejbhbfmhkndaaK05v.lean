/- Reading values: the count and the kind. -/
import Derived.Test.YtfejbhbfmhkndaaG3
import Derived.Test.YtfejbhbfmhkndaaK05u
namespace Go.Fw
open Go Go.Proofs
set_option linter.unusedVariables false
set_option linter.unusedSimpArgs false
def countE (k : Int) (u : Int × Int × Int) : Int := if u.2.2 ≠ 0 then u.2.2 else if countBad k u.1 then 2 else 0
set_option maxHeartbeats 8000000 in
theorem count8_con (b : List UInt8) (a e : Int) (hb : b.length ≤ 281474976710656) : Con Try.prog 56 [(0, oRd b a e)] [.ptr 0 0, ai 64, ab false] [(0, oRd b (uintS b a).2.1 (countE 8 (uintS b a)))] (ai (uintS b a).1) := by
  have hu := uint_con b a hb
  have hz : (uintS b a).2.2 ≠ 0 → (uintS b a).1 = 0 := by
    intro h; rw [uint_read] at h ⊢
    split
    · rfl
    · split
      · rfl
      · rename_i h1 h2; simp [h1, h2] at h
  generalize uintS b a = u at *
  obtain ⟨n, at_, e'⟩ := u
  simp only at hz
  refine con_of (xs := [ai n]) Try.func56 rfl Try.ntmps56 rfl rfl rfl (fun E => ?_)
  by_cases h : 64 < n
  · have he : e' = 0 := by
      by_cases h0 : e' = 0
      · exact h0
      · have := hz h0; omega
    subst he
    rw [show countE 8 (n, at_, 0) = 2 by simp [countE, countBad, h]]
    refine k_s ?_; refine k_4 ?_; refine k_d ?_; refine k_s ?_; refine k_0 ?_; refine k_46 ?_; refine k_31 ?_; refine k_34 ?_; refine k_0 ?_; refine k_46 ?_; refine k_31 ?_; refine k_34 ?_; refine k_56 (hcon := hu) ?_ (hle := by refine ⟨(by exact AVal.le_refl _), ?_⟩; refine ⟨(by exact AVal.le_refl _), ?_⟩; exact trivial) (hLi := by (repeat (first | exact trivial | refine ⟨rfl, ?_⟩ | fail)) <;> fail) (hnew := by (repeat (first | exact trivial | refine ⟨rfl, ?_⟩ | fail)) <;> fail) (hdead := by (repeat (first | exact trivial | refine ⟨rfl, ?_⟩ | fail)) <;> fail); refine k_0 ?_; refine k_37 ?_; refine k_37 ?_; refine k_37 ?_; refine k_4 ?_; refine k_4 ?_; refine k_4 ?_; refine k_e ?_; refine k_s ?_; refine k_0 ?_; refine k_0 ?_; refine k_0 ?_; refine k_0 ?_; refine k_46 ?_; refine k_31 ?_; refine k_48 ?_; refine k_46 ?_; refine k_31 ?_; refine k_48 ?_; refine k_d ?_; refine awp_seq ?_; refine awp_seq ?_
    refine k_r ?_; refine k_0 ?_; refine k_0 ?_; refine k_11 ?_; refine k_0 ?_; refine k_5 ?_; refine k_5 ?_; refine k_38 ?_; refine k_38 ?_; refine k_38 ?_; refine k_5 ?_; refine k_49 ?_; refine k_d ?_; refine k_rt ?_; refine k_r ?_; refine k_0 ?_; refine k_56 (hcon := fail_con b at_ 0 2) ?_ (hle := by refine ⟨(by exact AVal.le_refl _), ?_⟩; refine ⟨(by exact AVal.le_refl _), ?_⟩; exact trivial) (hLi := by (repeat (first | exact trivial | refine ⟨rfl, ?_⟩ | fail)) <;> fail) (hnew := by (repeat (first | exact trivial | refine ⟨rfl, ?_⟩ | fail)) <;> fail) (hdead := by (repeat (first | exact trivial | refine ⟨rfl, ?_⟩ | fail)) <;> fail); refine k_d ?_; refine k_s ?_; refine k_0 ?_; refine k_4 ?_; refine k_d ?_
    exact awp_ret ⟨_, St.le_refl _, ⟨rfl, trivial⟩, subL_of ⟨rfl, trivial⟩⟩
  · rw [show countE 8 (n, at_, e') = e' by by_cases h0 : e' = 0 <;> simp [countE, countBad, h, h0]]
    refine k_s ?_; refine k_4 ?_; refine k_d ?_; refine k_s ?_; refine k_0 ?_; refine k_46 ?_; refine k_31 ?_; refine k_34 ?_; refine k_0 ?_; refine k_46 ?_; refine k_31 ?_; refine k_34 ?_; refine k_56 (hcon := hu) ?_ (hle := by refine ⟨(by exact AVal.le_refl _), ?_⟩; refine ⟨(by exact AVal.le_refl _), ?_⟩; exact trivial) (hLi := by (repeat (first | exact trivial | refine ⟨rfl, ?_⟩ | fail)) <;> fail) (hnew := by (repeat (first | exact trivial | refine ⟨rfl, ?_⟩ | fail)) <;> fail) (hdead := by (repeat (first | exact trivial | refine ⟨rfl, ?_⟩ | fail)) <;> fail); refine k_0 ?_; refine k_37 ?_; refine k_37 ?_; refine k_37 ?_; refine k_4 ?_; refine k_4 ?_; refine k_4 ?_; refine k_e ?_; refine k_s ?_; refine k_0 ?_; refine k_0 ?_; refine k_0 ?_; refine k_0 ?_; refine k_46 ?_; refine k_31 ?_; refine k_48 ?_; refine k_46 ?_; refine k_31 ?_; refine k_48 ?_; refine k_d ?_; refine awp_seq ?_; refine awp_seq ?_
    refine k_r ?_; refine k_0 ?_; refine k_0 ?_; refine k_11 ?_; refine k_0 ?_; refine k_1 ?_; refine k_1 ?_; refine k_6 ?_; refine k_6 ?_; refine k_6 ?_; refine k_41 ?_; refine k_39 ?_; refine k_d ?_; refine k_rf ?_; refine awp_skip ?_; refine k_s ?_; refine k_0 ?_; refine k_4 ?_; refine k_d ?_
    exact awp_ret ⟨_, St.le_refl _, ⟨rfl, trivial⟩, subL_of ⟨rfl, trivial⟩⟩
set_option maxHeartbeats 8000000 in
theorem count7_con (b : List UInt8) (a e : Int) (hb : b.length ≤ 281474976710656) : Con Try.prog 56 [(0, oRd b a e)] [.ptr 0 0, ai 25, ab true] [(0, oRd b (uintS b a).2.1 (countE 7 (uintS b a)))] (ai (uintS b a).1) := by
  have hu := uint_con b a hb
  have hz : (uintS b a).2.2 ≠ 0 → (uintS b a).1 = 0 := by
    intro h; rw [uint_read] at h ⊢
    split
    · rfl
    · split
      · rfl
      · rename_i h1 h2; simp [h1, h2] at h
  have hp : 0 ≤ (uintS b a).1 := by
    rw [uint_read]
    split
    · simp
    · split <;> simp
  generalize uintS b a = u at *
  obtain ⟨n, at_, e'⟩ := u
  simp only at hz hp
  refine con_of (xs := [ai n]) Try.func56 rfl Try.ntmps56 rfl rfl rfl (fun E => ?_)
  have hf := fail_con b at_ e' 2
  by_cases h : 25 < n
  · have he : e' = 0 := by
      by_cases h0 : e' = 0
      · exact h0
      · have := hz h0; omega
    subst he
    rw [show countE 7 (n, at_, 0) = 2 by simp [countE, countBad, h]]
    rw [if_pos rfl] at hf
    refine k_s ?_; refine k_4 ?_; refine k_d ?_; refine k_s ?_; refine k_0 ?_; refine k_46 ?_; refine k_31 ?_; refine k_34 ?_; refine k_0 ?_; refine k_46 ?_; refine k_31 ?_; refine k_34 ?_; refine k_56 (hcon := hu) ?_ (hle := by refine ⟨(by exact AVal.le_refl _), ?_⟩; refine ⟨(by exact AVal.le_refl _), ?_⟩; exact trivial) (hLi := by (repeat (first | exact trivial | refine ⟨rfl, ?_⟩ | fail)) <;> fail) (hnew := by (repeat (first | exact trivial | refine ⟨rfl, ?_⟩ | fail)) <;> fail) (hdead := by (repeat (first | exact trivial | refine ⟨rfl, ?_⟩ | fail)) <;> fail); refine k_0 ?_; refine k_37 ?_; refine k_37 ?_; refine k_37 ?_; refine k_4 ?_; refine k_4 ?_; refine k_4 ?_; refine k_e ?_; refine k_s ?_; refine k_0 ?_; refine k_0 ?_; refine k_0 ?_; refine k_0 ?_; refine k_46 ?_; refine k_31 ?_; refine k_48 ?_; refine k_46 ?_; refine k_31 ?_; refine k_48 ?_; refine k_d ?_; refine awp_seq ?_; refine awp_seq ?_
    refine k_r ?_; refine k_0 ?_; refine k_0 ?_; refine k_11 ?_; refine k_0 ?_; refine k_5 ?_; refine k_5 ?_; refine k_38 ?_; refine k_38 ?_; refine k_38 ?_; refine k_5 ?_; refine k_49 ?_; refine k_d ?_; refine k_rt ?_; refine k_r ?_; refine k_0 ?_; refine k_56 (hcon := hf) ?_ (hle := by refine ⟨(by exact AVal.le_refl _), ?_⟩; refine ⟨(by exact AVal.le_refl _), ?_⟩; exact trivial) (hLi := by (repeat (first | exact trivial | refine ⟨rfl, ?_⟩ | fail)) <;> fail) (hnew := by (repeat (first | exact trivial | refine ⟨rfl, ?_⟩ | fail)) <;> fail) (hdead := by (repeat (first | exact trivial | refine ⟨rfl, ?_⟩ | fail)) <;> fail); refine k_d ?_; refine k_s ?_; refine k_0 ?_; refine k_4 ?_; refine k_d ?_
    exact awp_ret ⟨_, St.le_refl _, ⟨rfl, trivial⟩, subL_of ⟨rfl, trivial⟩⟩
  · by_cases h2 : n % 2 = 0
    · rw [show countE 7 (n, at_, e') = if e' = 0 then 2 else e' by simp only [countE, countBad]; by_cases h0 : e' = 0 <;> simp [h0, h2]]
      refine k_s ?_; refine k_4 ?_; refine k_d ?_; refine k_s ?_; refine k_0 ?_; refine k_46 ?_; refine k_31 ?_; refine k_34 ?_; refine k_0 ?_; refine k_46 ?_; refine k_31 ?_; refine k_34 ?_; refine k_56 (hcon := hu) ?_ (hle := by refine ⟨(by exact AVal.le_refl _), ?_⟩; refine ⟨(by exact AVal.le_refl _), ?_⟩; exact trivial) (hLi := by (repeat (first | exact trivial | refine ⟨rfl, ?_⟩ | fail)) <;> fail) (hnew := by (repeat (first | exact trivial | refine ⟨rfl, ?_⟩ | fail)) <;> fail) (hdead := by (repeat (first | exact trivial | refine ⟨rfl, ?_⟩ | fail)) <;> fail); refine k_0 ?_; refine k_37 ?_; refine k_37 ?_; refine k_37 ?_; refine k_4 ?_; refine k_4 ?_; refine k_4 ?_; refine k_e ?_; refine k_s ?_; refine k_0 ?_; refine k_0 ?_; refine k_0 ?_; refine k_0 ?_; refine k_46 ?_; refine k_31 ?_; refine k_48 ?_; refine k_46 ?_; refine k_31 ?_; refine k_48 ?_; refine k_d ?_; refine awp_seq ?_; refine awp_seq ?_
      refine k_r ?_; refine k_0 ?_; refine k_0 ?_; refine k_11 ?_; refine k_0 ?_; refine k_1 ?_; refine k_1 ?_; refine k_2 ?_; refine k_30 ?_ (hg := by exact ⟨rfl, rfl⟩); refine k_10 ?_; refine k_51 ?_; refine k_39 ?_; refine k_d ?_; refine k_ct ?_; refine k_r ?_; refine k_0 ?_; refine k_56 (hcon := hf) ?_ (hle := by refine ⟨(by exact AVal.le_refl _), ?_⟩; refine ⟨(by exact AVal.le_refl _), ?_⟩; exact trivial) (hLi := by (repeat (first | exact trivial | refine ⟨rfl, ?_⟩ | fail)) <;> fail) (hnew := by (repeat (first | exact trivial | refine ⟨rfl, ?_⟩ | fail)) <;> fail) (hdead := by (repeat (first | exact trivial | refine ⟨rfl, ?_⟩ | fail)) <;> fail); refine k_d ?_; refine k_s ?_; refine k_0 ?_; refine k_4 ?_; refine k_d ?_
      exact awp_ret ⟨_, St.le_refl _, ⟨rfl, trivial⟩, subL_of ⟨rfl, trivial⟩⟩
    · rw [show countE 7 (n, at_, e') = e' by by_cases h0 : e' = 0 <;> simp [countE, countBad, h, h2, h0]]
      refine k_s ?_; refine k_4 ?_; refine k_d ?_; refine k_s ?_; refine k_0 ?_; refine k_46 ?_; refine k_31 ?_; refine k_34 ?_; refine k_0 ?_; refine k_46 ?_; refine k_31 ?_; refine k_34 ?_; refine k_56 (hcon := hu) ?_ (hle := by refine ⟨(by exact AVal.le_refl _), ?_⟩; refine ⟨(by exact AVal.le_refl _), ?_⟩; exact trivial) (hLi := by (repeat (first | exact trivial | refine ⟨rfl, ?_⟩ | fail)) <;> fail) (hnew := by (repeat (first | exact trivial | refine ⟨rfl, ?_⟩ | fail)) <;> fail) (hdead := by (repeat (first | exact trivial | refine ⟨rfl, ?_⟩ | fail)) <;> fail); refine k_0 ?_; refine k_37 ?_; refine k_37 ?_; refine k_37 ?_; refine k_4 ?_; refine k_4 ?_; refine k_4 ?_; refine k_e ?_; refine k_s ?_; refine k_0 ?_; refine k_0 ?_; refine k_0 ?_; refine k_0 ?_; refine k_46 ?_; refine k_31 ?_; refine k_48 ?_; refine k_46 ?_; refine k_31 ?_; refine k_48 ?_; refine k_d ?_; refine awp_seq ?_; refine awp_seq ?_
      refine k_r ?_; refine k_0 ?_; refine k_0 ?_; refine k_11 ?_; refine k_0 ?_; refine k_1 ?_; refine k_1 ?_; refine k_2 ?_; refine k_30 ?_ (hg := by exact ⟨rfl, rfl⟩); refine k_10 ?_; refine k_51 ?_; refine k_39 ?_; refine k_d ?_; refine k_cf ?_; refine awp_skip ?_; refine k_s ?_; refine k_0 ?_; refine k_4 ?_; refine k_d ?_
      exact awp_ret ⟨_, St.le_refl _, ⟨rfl, trivial⟩, subL_of ⟨rfl, trivial⟩⟩
def kindS (b : List UInt8) (a : Nat) (m : Nat) (want : Int) : Int × Int × Int :=
  if a = b.length then (0, (a : Int), 3) else let k : Int := ((b[a]?).getD 0).toNat
    if 8 < k ∨ (k = 8 ∧ m = 0) ∨ (want ≠ 0 ∧ k ≠ want) then (0, (a : Int), 2) else (k, (a : Int) + 1, 0)
set_option maxHeartbeats 8000000 in
theorem kind_con (b : List UInt8) (a m : Nat) (want : Int) (hm : m ≤ 8) (ha : a ≤ b.length) (hb : b.length ≤ 281474976710656) : Con Try.prog 54 [(0, oRd b a 0)] [.ptr 0 0, ai (8 - m), ai want] [(0, oRd b (kindS b a m want).2.1 (kindS b a m want).2.2)] (ai (kindS b a m want).1) := by
  refine con_of (xs := [ai (kindS b a m want).1]) Try.func54 rfl Try.ntmps54 rfl rfl rfl (fun E => ?_)
  by_cases ha' : a = b.length
  · rw [show kindS b a m want = (0, (a : Int), 3) by unfold kindS; rw [if_pos ha']]
    have hai : (a : Int) = b.length := by omega
    refine k_s ?_; refine k_4 ?_; refine k_d ?_; refine awp_seq ?_; refine k_s ?_; refine k_0 ?_; refine k_46 ?_; refine k_31 ?_; refine k_34 ?_; refine k_8 ?_; refine k_d ?_; refine k_rf ?_; refine awp_skip ?_; refine awp_seq ?_; refine k_s ?_; refine k_0 ?_; refine k_46 ?_; refine k_31 ?_; refine k_34 ?_; refine k_0 ?_; refine k_46 ?_; refine k_31 ?_; refine k_34 ?_; refine k_60 ?_; refine k_7 ?_; refine k_e ?_; refine k_ct ?_; refine k_s ?_; refine k_0 ?_; refine k_46 ?_; refine k_31 ?_; refine k_48 ?_; refine k_d ?_; refine k_s ?_; refine k_4 ?_; refine k_d ?_
    exact awp_ret ⟨_, St.le_refl _, ⟨rfl, trivial⟩, subL_of ⟨rfl, trivial⟩⟩
  obtain ⟨c, hc⟩ := get_of_lt (l := b) (k := a) (by omega)
  have e1 : kindS b a m want = if 8 < (c.toNat : Int) ∨ ((c.toNat : Int) = 8 ∧ m = 0) ∨ (want ≠ 0 ∧ (c.toNat : Int) ≠ want) then (0, (a : Int), 2) else ((c.toNat : Int), (a : Int) + 1, 0) := by
    unfold kindS; rw [if_neg ha', hc]; rfl
  have hai : (a : Int) ≠ b.length := by omega
  by_cases h8 : 8 < (c.toNat : Int)
  · rw [e1, if_pos (.inl h8)]
    refine k_s ?_; refine k_4 ?_; refine k_d ?_; refine awp_seq ?_; refine k_s ?_; refine k_0 ?_; refine k_46 ?_; refine k_31 ?_; refine k_34 ?_; refine k_8 ?_; refine k_d ?_; refine k_rf ?_; refine awp_skip ?_; refine awp_seq ?_; refine k_s ?_; refine k_0 ?_; refine k_46 ?_; refine k_31 ?_; refine k_34 ?_; refine k_0 ?_; refine k_46 ?_; refine k_31 ?_; refine k_34 ?_; refine k_60 ?_; refine k_7 ?_; refine k_e ?_; refine k_cf ?_; refine awp_skip ?_; refine k_s ?_; refine k_0 ?_; refine k_46 ?_; refine k_31 ?_; refine k_34 ?_; refine k_0 ?_; refine k_46 ?_; refine k_31 ?_; refine k_34 ?_; refine k_70 ?_; refine k_65 ?_; refine k_84 ?_; refine k_4 ?_; refine k_e ?_; refine awp_seq ?_; refine k_s ?_; refine k_0 ?_; refine k_11 ?_; refine k_0 ?_; refine k_5 ?_; refine k_5 ?_; refine k_5 ?_; refine k_38 ?_; refine k_38 ?_; refine k_5 ?_; refine k_49 ?_; refine k_0 ?_; refine k_6 ?_; refine k_6 ?_
    refine k_6 ?_; refine k_38 ?_; refine k_38 ?_; refine k_38 ?_; refine k_6 ?_; refine k_50 ?_; refine k_d ?_; refine k_rt ?_; refine k_s ?_; refine k_0 ?_; refine k_46 ?_; refine k_31 ?_; refine k_48 ?_; refine k_d ?_; refine k_s ?_; refine k_4 ?_; refine k_d ?_
    exact awp_ret ⟨_, St.le_refl _, ⟨rfl, trivial⟩, subL_of ⟨rfl, trivial⟩⟩
  by_cases hw : want ≠ 0 ∧ (c.toNat : Int) ≠ want
  · rw [e1, if_pos (.inr (.inr hw))]
    obtain ⟨hw1, hw2⟩ := hw
    by_cases hk : (c.toNat : Int) = 8
    · by_cases hm0 : m = 0
      · have : (8 : Int) - m ≥ 8 := by omega
        refine k_s ?_; refine k_4 ?_; refine k_d ?_; refine awp_seq ?_; refine k_s ?_; refine k_0 ?_; refine k_46 ?_; refine k_31 ?_; refine k_34 ?_; refine k_8 ?_; refine k_d ?_; refine k_rf ?_; refine awp_skip ?_; refine awp_seq ?_; refine k_s ?_; refine k_0 ?_; refine k_46 ?_; refine k_31 ?_; refine k_34 ?_; refine k_0 ?_; refine k_46 ?_; refine k_31 ?_; refine k_34 ?_; refine k_60 ?_; refine k_7 ?_; refine k_e ?_; refine k_cf ?_; refine awp_skip ?_; refine k_s ?_; refine k_0 ?_; refine k_46 ?_; refine k_31 ?_; refine k_34 ?_; refine k_0 ?_; refine k_46 ?_; refine k_31 ?_; refine k_34 ?_; refine k_70 ?_; refine k_65 ?_; refine k_84 ?_; refine k_4 ?_; refine k_e ?_; refine awp_seq ?_; refine k_s ?_; refine k_0 ?_; refine k_11 ?_; refine k_0 ?_; refine k_1 ?_; refine k_20 ?_; refine k_1 ?_; refine k_1 ?_; refine k_22 ?_; refine k_54 ?_; refine k_39 ?_; refine k_0 ?_; refine k_5 ?_; refine k_5 ?_
        refine k_5 ?_; refine k_38 ?_; refine k_38 ?_; refine k_38 ?_; refine k_5 ?_; refine k_49 ?_; refine k_d ?_; refine k_rt ?_; refine k_s ?_; refine k_0 ?_; refine k_46 ?_; refine k_31 ?_; refine k_48 ?_; refine k_d ?_; refine k_s ?_; refine k_4 ?_; refine k_d ?_
        exact awp_ret ⟨_, St.le_refl _, ⟨rfl, trivial⟩, subL_of ⟨rfl, trivial⟩⟩
      · have : ¬ (8 : Int) - m ≥ 8 := by omega
        refine k_s ?_; refine k_4 ?_; refine k_d ?_; refine awp_seq ?_; refine k_s ?_; refine k_0 ?_; refine k_46 ?_; refine k_31 ?_; refine k_34 ?_; refine k_8 ?_; refine k_d ?_; refine k_rf ?_; refine awp_skip ?_; refine awp_seq ?_; refine k_s ?_; refine k_0 ?_; refine k_46 ?_; refine k_31 ?_; refine k_34 ?_; refine k_0 ?_; refine k_46 ?_; refine k_31 ?_; refine k_34 ?_; refine k_60 ?_; refine k_7 ?_; refine k_e ?_; refine k_cf ?_; refine awp_skip ?_; refine k_s ?_; refine k_0 ?_; refine k_46 ?_; refine k_31 ?_; refine k_34 ?_; refine k_0 ?_; refine k_46 ?_; refine k_31 ?_; refine k_34 ?_; refine k_70 ?_; refine k_65 ?_; refine k_84 ?_; refine k_4 ?_; refine k_e ?_; refine awp_seq ?_; refine k_s ?_; refine k_0 ?_; refine k_11 ?_; refine k_0 ?_; refine k_1 ?_; refine k_20 ?_; refine k_1 ?_; refine k_1 ?_; refine k_22 ?_; refine k_54 ?_; refine k_39 ?_; refine k_0 ?_; refine k_1 ?_; refine k_12 ?_
        refine k_1 ?_; refine k_1 ?_; refine k_1 ?_; refine k_12 ?_; refine k_54 ?_; refine k_39 ?_; refine k_d ?_; refine k_ct ?_; refine k_s ?_; refine k_0 ?_; refine k_46 ?_; refine k_31 ?_; refine k_48 ?_; refine k_d ?_; refine k_s ?_; refine k_4 ?_; refine k_d ?_
        exact awp_ret ⟨_, St.le_refl _, ⟨rfl, trivial⟩, subL_of ⟨rfl, trivial⟩⟩
    · refine k_s ?_; refine k_4 ?_; refine k_d ?_; refine awp_seq ?_; refine k_s ?_; refine k_0 ?_; refine k_46 ?_; refine k_31 ?_; refine k_34 ?_; refine k_8 ?_; refine k_d ?_; refine k_rf ?_; refine awp_skip ?_; refine awp_seq ?_; refine k_s ?_; refine k_0 ?_; refine k_46 ?_; refine k_31 ?_; refine k_34 ?_; refine k_0 ?_; refine k_46 ?_; refine k_31 ?_; refine k_34 ?_; refine k_60 ?_; refine k_7 ?_; refine k_e ?_; refine k_cf ?_; refine awp_skip ?_; refine k_s ?_; refine k_0 ?_; refine k_46 ?_; refine k_31 ?_; refine k_34 ?_; refine k_0 ?_; refine k_46 ?_; refine k_31 ?_; refine k_34 ?_; refine k_70 ?_; refine k_65 ?_; refine k_84 ?_; refine k_4 ?_; refine k_e ?_; refine awp_seq ?_; refine k_s ?_; refine k_0 ?_; refine k_11 ?_; refine k_0 ?_; refine k_1 ?_; refine k_20 ?_; refine k_1 ?_; refine k_5 ?_; refine k_5 ?_; refine k_41 ?_ (hb := by simp only [List.length_map, List.length_take, List.length_append, decide_eq_true_eq, decide_eq_false_iff_not, ne_eq, Classical.not_not]; omega)
      refine k_39 ?_; refine k_0 ?_; refine k_2 ?_; refine k_13 ?_; refine k_2 ?_; refine k_1 ?_; refine k_1 ?_; refine k_12 ?_; refine k_52 ?_; refine k_40 ?_; refine k_d ?_; refine k_ct ?_; refine k_s ?_; refine k_0 ?_; refine k_46 ?_; refine k_31 ?_; refine k_48 ?_; refine k_d ?_; refine k_s ?_; refine k_4 ?_; refine k_d ?_
      exact awp_ret ⟨_, St.le_refl _, ⟨rfl, trivial⟩, subL_of ⟨rfl, trivial⟩⟩
  by_cases hk : (c.toNat : Int) = 8
  · by_cases hm0 : m = 0
    · rw [e1, if_pos (.inr (.inl ⟨hk, hm0⟩))]
      have : (8 : Int) - m ≥ 8 := by omega
      refine k_s ?_; refine k_4 ?_; refine k_d ?_; refine awp_seq ?_; refine k_s ?_; refine k_0 ?_; refine k_46 ?_; refine k_31 ?_; refine k_34 ?_; refine k_8 ?_; refine k_d ?_; refine k_rf ?_; refine awp_skip ?_; refine awp_seq ?_; refine k_s ?_; refine k_0 ?_; refine k_46 ?_; refine k_31 ?_; refine k_34 ?_; refine k_0 ?_; refine k_46 ?_; refine k_31 ?_; refine k_34 ?_; refine k_60 ?_; refine k_7 ?_; refine k_e ?_; refine k_cf ?_; refine awp_skip ?_; refine k_s ?_; refine k_0 ?_; refine k_46 ?_; refine k_31 ?_; refine k_34 ?_; refine k_0 ?_; refine k_46 ?_; refine k_31 ?_; refine k_34 ?_; refine k_70 ?_; refine k_65 ?_; refine k_84 ?_; refine k_4 ?_; refine k_e ?_; refine awp_seq ?_; refine k_s ?_; refine k_0 ?_; refine k_11 ?_; refine k_0 ?_; refine k_1 ?_; refine k_20 ?_; refine k_1 ?_; refine k_1 ?_; refine k_22 ?_; refine k_54 ?_; refine k_39 ?_; refine k_0 ?_; refine k_5 ?_; refine k_5 ?_
      refine k_5 ?_; refine k_38 ?_; refine k_38 ?_; refine k_38 ?_; refine k_5 ?_; refine k_49 ?_; refine k_d ?_; refine k_rt ?_; refine k_s ?_; refine k_0 ?_; refine k_46 ?_; refine k_31 ?_; refine k_48 ?_; refine k_d ?_; refine k_s ?_; refine k_4 ?_; refine k_d ?_
      exact awp_ret ⟨_, St.le_refl _, ⟨rfl, trivial⟩, subL_of ⟨rfl, trivial⟩⟩
    · rw [e1, if_neg (by omega)]
      have : ¬ (8 : Int) - m ≥ 8 := by omega
      by_cases hw0 : want = 0
      · refine k_s ?_; refine k_4 ?_; refine k_d ?_; refine awp_seq ?_; refine k_s ?_; refine k_0 ?_; refine k_46 ?_; refine k_31 ?_; refine k_34 ?_; refine k_8 ?_; refine k_d ?_; refine k_rf ?_; refine awp_skip ?_; refine awp_seq ?_; refine k_s ?_; refine k_0 ?_; refine k_46 ?_; refine k_31 ?_; refine k_34 ?_; refine k_0 ?_; refine k_46 ?_; refine k_31 ?_; refine k_34 ?_; refine k_60 ?_; refine k_7 ?_; refine k_e ?_; refine k_cf ?_; refine awp_skip ?_; refine k_s ?_; refine k_0 ?_; refine k_46 ?_; refine k_31 ?_; refine k_34 ?_; refine k_0 ?_; refine k_46 ?_; refine k_31 ?_; refine k_34 ?_; refine k_70 ?_; refine k_65 ?_; refine k_84 ?_; refine k_4 ?_; refine k_e ?_; refine awp_seq ?_; refine k_s ?_; refine k_0 ?_; refine k_11 ?_; refine k_0 ?_; refine k_1 ?_; refine k_20 ?_; refine k_1 ?_; refine k_1 ?_; refine k_22 ?_; refine k_54 ?_; refine k_39 ?_; refine k_0 ?_; refine k_1 ?_; refine k_12 ?_
        refine k_1 ?_; refine k_5 ?_; refine k_5 ?_; refine k_5 ?_; refine k_41 ?_ (hb := by simp only [List.length_map, List.length_take, List.length_append, decide_eq_true_eq, decide_eq_false_iff_not, ne_eq, Classical.not_not]; omega); refine k_39 ?_; refine k_d ?_; refine k_rf ?_; refine awp_skip ?_; refine k_s ?_; refine k_0 ?_; refine k_46 ?_; refine k_31 ?_; refine k_34 ?_; refine k_14 ?_; refine k_46 ?_; refine k_31 ?_; refine k_48 ?_; refine k_d ?_; refine k_s ?_; refine k_0 ?_; refine k_4 ?_; refine k_d ?_
        exact awp_ret ⟨_, St.le_refl _, ⟨rfl, trivial⟩, subL_of ⟨rfl, trivial⟩⟩
      · have hw1 : (c.toNat : Int) = want := by omega
        refine k_s ?_; refine k_4 ?_; refine k_d ?_; refine awp_seq ?_; refine k_s ?_; refine k_0 ?_; refine k_46 ?_; refine k_31 ?_; refine k_34 ?_; refine k_8 ?_; refine k_d ?_; refine k_rf ?_; refine awp_skip ?_; refine awp_seq ?_; refine k_s ?_; refine k_0 ?_; refine k_46 ?_; refine k_31 ?_; refine k_34 ?_; refine k_0 ?_; refine k_46 ?_; refine k_31 ?_; refine k_34 ?_; refine k_60 ?_; refine k_7 ?_; refine k_e ?_; refine k_cf ?_; refine awp_skip ?_; refine k_s ?_; refine k_0 ?_; refine k_46 ?_; refine k_31 ?_; refine k_34 ?_; refine k_0 ?_; refine k_46 ?_; refine k_31 ?_; refine k_34 ?_; refine k_70 ?_; refine k_65 ?_; refine k_84 ?_; refine k_4 ?_; refine k_e ?_; refine awp_seq ?_; refine k_s ?_; refine k_0 ?_; refine k_11 ?_; refine k_0 ?_; refine k_1 ?_; refine k_20 ?_; refine k_1 ?_; refine k_1 ?_; refine k_22 ?_; refine k_54 ?_; refine k_39 ?_; refine k_0 ?_; refine k_1 ?_; refine k_12 ?_
        refine k_1 ?_; refine k_1 ?_; refine k_1 ?_; refine k_12 ?_; refine k_54 ?_; refine k_39 ?_; refine k_d ?_; refine k_cf ?_; refine awp_skip ?_; refine k_s ?_; refine k_0 ?_; refine k_46 ?_; refine k_31 ?_; refine k_34 ?_; refine k_14 ?_; refine k_46 ?_; refine k_31 ?_; refine k_48 ?_; refine k_d ?_; refine k_s ?_; refine k_0 ?_; refine k_4 ?_; refine k_d ?_
        exact awp_ret ⟨_, St.le_refl _, ⟨rfl, trivial⟩, subL_of ⟨rfl, trivial⟩⟩
  · rw [e1, if_neg (by omega)]
    by_cases hw0 : want = 0
    · refine k_s ?_; refine k_4 ?_; refine k_d ?_; refine awp_seq ?_; refine k_s ?_; refine k_0 ?_; refine k_46 ?_; refine k_31 ?_; refine k_34 ?_; refine k_8 ?_; refine k_d ?_; refine k_rf ?_; refine awp_skip ?_; refine awp_seq ?_; refine k_s ?_; refine k_0 ?_; refine k_46 ?_; refine k_31 ?_; refine k_34 ?_; refine k_0 ?_; refine k_46 ?_; refine k_31 ?_; refine k_34 ?_; refine k_60 ?_; refine k_7 ?_; refine k_e ?_; refine k_cf ?_; refine awp_skip ?_; refine k_s ?_; refine k_0 ?_; refine k_46 ?_; refine k_31 ?_; refine k_34 ?_; refine k_0 ?_; refine k_46 ?_; refine k_31 ?_; refine k_34 ?_; refine k_70 ?_; refine k_65 ?_; refine k_84 ?_; refine k_4 ?_; refine k_e ?_; refine awp_seq ?_; refine k_s ?_; refine k_0 ?_; refine k_11 ?_; refine k_0 ?_; refine k_1 ?_; refine k_20 ?_; refine k_1 ?_; refine k_5 ?_; refine k_5 ?_; refine k_41 ?_ (hb := by simp only [List.length_map, List.length_take, List.length_append, decide_eq_true_eq, decide_eq_false_iff_not, ne_eq, Classical.not_not]; omega)
      refine k_39 ?_; refine k_0 ?_; refine k_2 ?_; refine k_13 ?_; refine k_2 ?_; refine k_5 ?_; refine k_5 ?_; refine k_5 ?_; refine k_42 ?_; refine k_40 ?_; refine k_d ?_; refine k_rf ?_; refine awp_skip ?_; refine k_s ?_; refine k_0 ?_; refine k_46 ?_; refine k_31 ?_; refine k_34 ?_; refine k_14 ?_; refine k_46 ?_; refine k_31 ?_; refine k_48 ?_; refine k_d ?_; refine k_s ?_; refine k_0 ?_; refine k_4 ?_; refine k_d ?_
      exact awp_ret ⟨_, St.le_refl _, ⟨rfl, trivial⟩, subL_of ⟨rfl, trivial⟩⟩
    · have hw1 : (c.toNat : Int) = want := by omega
      refine k_s ?_; refine k_4 ?_; refine k_d ?_; refine awp_seq ?_; refine k_s ?_; refine k_0 ?_; refine k_46 ?_; refine k_31 ?_; refine k_34 ?_; refine k_8 ?_; refine k_d ?_; refine k_rf ?_; refine awp_skip ?_; refine awp_seq ?_; refine k_s ?_; refine k_0 ?_; refine k_46 ?_; refine k_31 ?_; refine k_34 ?_; refine k_0 ?_; refine k_46 ?_; refine k_31 ?_; refine k_34 ?_; refine k_60 ?_; refine k_7 ?_; refine k_e ?_; refine k_cf ?_; refine awp_skip ?_; refine k_s ?_; refine k_0 ?_; refine k_46 ?_; refine k_31 ?_; refine k_34 ?_; refine k_0 ?_; refine k_46 ?_; refine k_31 ?_; refine k_34 ?_; refine k_70 ?_; refine k_65 ?_; refine k_84 ?_; refine k_4 ?_; refine k_e ?_; refine awp_seq ?_; refine k_s ?_; refine k_0 ?_; refine k_11 ?_; refine k_0 ?_; refine k_1 ?_; refine k_20 ?_; refine k_1 ?_; refine k_5 ?_; refine k_5 ?_; refine k_41 ?_ (hb := by simp only [List.length_map, List.length_take, List.length_append, decide_eq_true_eq, decide_eq_false_iff_not, ne_eq, Classical.not_not]; omega)
      refine k_39 ?_; refine k_0 ?_; refine k_2 ?_; refine k_13 ?_; refine k_2 ?_; refine k_1 ?_; refine k_1 ?_; refine k_12 ?_; refine k_52 ?_; refine k_40 ?_; refine k_d ?_; refine k_cf ?_; refine awp_skip ?_; refine k_s ?_; refine k_0 ?_; refine k_46 ?_; refine k_31 ?_; refine k_34 ?_; refine k_14 ?_; refine k_46 ?_; refine k_31 ?_; refine k_48 ?_; refine k_d ?_; refine k_s ?_; refine k_0 ?_; refine k_4 ?_; refine k_d ?_
      exact awp_ret ⟨_, St.le_refl _, ⟨rfl, trivial⟩, subL_of ⟨rfl, trivial⟩⟩
end Go.Fw

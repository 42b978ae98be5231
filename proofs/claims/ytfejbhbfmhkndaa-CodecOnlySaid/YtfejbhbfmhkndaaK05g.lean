/- The reference's Uint and Int; Str. -/
import Derived.Test.YtfejbhbfmhkndaaG3
import Derived.Test.YtfejbhbfmhkndaaK05f
namespace Go.Fw
open Go Go.Proofs
set_option linter.unusedVariables false
set_option linter.unusedSimpArgs false
theorem uint_def {b : List UInt8} {a : Int} : uintS b a = if (numS b a).2.2 ≠ 0 then (0, 0, (numS b a).2.2) else if 9223372036854775807 < (numS b a).1 then (0, 0, 4) else if padded b a = true then (0, 0, 2) else (((numS b a).1 : Int), (numS b a).2.1, 0) := rfl
theorem int_def {b : List UInt8} {a : Int} : intS b a = if (numS b a).2.2 ≠ 0 then (0, 0, (numS b a).2.2) else if padded b a = true then (0, 0, 2) else (zag (numS b a).1, (numS b a).2.1, 0) := rfl
set_option maxHeartbeats 8000000 in
theorem ruint_con (b : List UInt8) (a : Int) (hb : b.length ≤ 281474976710656) : Con Try.prog 12 [] [.d (dBytes b), ai a] [] (aN3 (uintS b a)) := by
  refine con_of (xs := [ai (uintS b a).1, ai (uintS b a).2.1, ai (uintS b a).2.2]) Try.func12 rfl Try.ntmps12 rfl rfl rfl (fun E => ?_)
  have hr := rnumber_con b a hb
  have hlt := num_lt (b := b) (a := a)
  have hmin := minimal_con b a (hb := hb)
  rw [uint_def]
  generalize padded b a = p at *
  generalize numS b a = r at *
  obtain ⟨u, e, err⟩ := r
  simp only at hlt hmin ⊢
  by_cases h2 : err = 0
  · have hm := hmin h2
    rw [if_neg (by simpa using h2)]
    by_cases h1 : 9223372036854775807 < u
    · rw [if_pos h1]
      refine k_s ?_; refine k_4 ?_; refine k_4 ?_; refine k_4 ?_; refine k_d ?_; refine k_s ?_; refine k_0 ?_; refine k_0 ?_; refine k_56 (hcon := hr) ?_ (hle := by refine ⟨(by exact AVal.le_refl _), ?_⟩; refine ⟨(by exact AVal.le_refl _), ?_⟩; exact trivial) (hLi := by (repeat (first | exact trivial | refine ⟨rfl, ?_⟩ | fail)) <;> fail) (hnew := by (repeat (first | exact trivial | refine ⟨rfl, ?_⟩ | fail)) <;> fail) (hdead := by (repeat (first | exact trivial | refine ⟨rfl, ?_⟩ | fail)) <;> fail); refine k_0 ?_; refine k_37 ?_; refine k_37 ?_; refine k_37 ?_; refine k_4 ?_; refine k_4 ?_; refine k_4 ?_; refine k_d ?_; refine awp_seq ?_; refine k_s ?_; refine k_0 ?_; refine k_8 ?_; refine k_d ?_; refine k_cf ?_; refine awp_skip ?_; refine awp_seq ?_; refine k_s ?_; refine k_0 ?_; refine k_11 ?_; refine k_d ?_; refine k_ct ?_; refine k_s ?_; refine k_4 ?_; refine k_4 ?_; refine k_4 ?_; refine k_d ?_
      exact awp_ret ⟨_, St.le_refl _, ⟨rfl, rfl, rfl, trivial⟩, subL_nil _⟩
    rw [if_neg h1]
    cases p with
    | true =>
      rw [if_pos rfl]
      refine k_s ?_; refine k_4 ?_; refine k_4 ?_; refine k_4 ?_; refine k_d ?_; refine k_s ?_; refine k_0 ?_; refine k_0 ?_; refine k_56 (hcon := hr) ?_ (hle := by refine ⟨(by exact AVal.le_refl _), ?_⟩; refine ⟨(by exact AVal.le_refl _), ?_⟩; exact trivial) (hLi := by (repeat (first | exact trivial | refine ⟨rfl, ?_⟩ | fail)) <;> fail) (hnew := by (repeat (first | exact trivial | refine ⟨rfl, ?_⟩ | fail)) <;> fail) (hdead := by (repeat (first | exact trivial | refine ⟨rfl, ?_⟩ | fail)) <;> fail); refine k_0 ?_; refine k_37 ?_; refine k_37 ?_; refine k_37 ?_; refine k_4 ?_; refine k_4 ?_; refine k_4 ?_; refine k_d ?_; refine awp_seq ?_; refine k_s ?_; refine k_0 ?_; refine k_8 ?_; refine k_d ?_; refine k_cf ?_; refine awp_skip ?_; refine awp_seq ?_; refine k_s ?_; refine k_0 ?_; refine k_11 ?_; refine k_d ?_; refine k_cf ?_; refine awp_skip ?_; refine awp_seq ?_; refine k_s ?_; refine k_0 ?_
      refine k_0 ?_; refine k_0 ?_; refine k_56 (hcon := hm) ?_ (hle := by refine ⟨(by exact AVal.le_refl _), ?_⟩; refine ⟨(by exact AVal.le_refl _), ?_⟩; refine ⟨(by exact AVal.le_refl _), ?_⟩; exact trivial) (hLi := by (repeat (first | exact trivial | refine ⟨rfl, ?_⟩ | fail)) <;> fail) (hnew := by (repeat (first | exact trivial | refine ⟨rfl, ?_⟩ | fail)) <;> fail) (hdead := by (repeat (first | exact trivial | refine ⟨rfl, ?_⟩ | fail)) <;> fail); refine k_67 ?_; refine k_d ?_; refine k_rt ?_; refine k_s ?_; refine k_4 ?_; refine k_4 ?_; refine k_4 ?_; refine k_d ?_
      exact awp_ret ⟨_, St.le_refl _, ⟨rfl, rfl, rfl, trivial⟩, subL_nil _⟩
    | false =>
      rw [if_neg (by simp)]
      refine k_s ?_; refine k_4 ?_; refine k_4 ?_; refine k_4 ?_; refine k_d ?_; refine k_s ?_; refine k_0 ?_; refine k_0 ?_; refine k_56 (hcon := hr) ?_ (hle := by refine ⟨(by exact AVal.le_refl _), ?_⟩; refine ⟨(by exact AVal.le_refl _), ?_⟩; exact trivial) (hLi := by (repeat (first | exact trivial | refine ⟨rfl, ?_⟩ | fail)) <;> fail) (hnew := by (repeat (first | exact trivial | refine ⟨rfl, ?_⟩ | fail)) <;> fail) (hdead := by (repeat (first | exact trivial | refine ⟨rfl, ?_⟩ | fail)) <;> fail); refine k_0 ?_; refine k_37 ?_; refine k_37 ?_; refine k_37 ?_; refine k_4 ?_; refine k_4 ?_; refine k_4 ?_; refine k_d ?_; refine awp_seq ?_; refine k_s ?_; refine k_0 ?_; refine k_8 ?_; refine k_d ?_; refine k_cf ?_; refine awp_skip ?_; refine awp_seq ?_; refine k_s ?_; refine k_0 ?_; refine k_11 ?_; refine k_d ?_; refine k_cf ?_; refine awp_skip ?_; refine awp_seq ?_; refine k_s ?_; refine k_0 ?_
      refine k_0 ?_; refine k_0 ?_; refine k_56 (hcon := hm) ?_ (hle := by refine ⟨(by exact AVal.le_refl _), ?_⟩; refine ⟨(by exact AVal.le_refl _), ?_⟩; refine ⟨(by exact AVal.le_refl _), ?_⟩; exact trivial) (hLi := by (repeat (first | exact trivial | refine ⟨rfl, ?_⟩ | fail)) <;> fail) (hnew := by (repeat (first | exact trivial | refine ⟨rfl, ?_⟩ | fail)) <;> fail) (hdead := by (repeat (first | exact trivial | refine ⟨rfl, ?_⟩ | fail)) <;> fail); refine k_67 ?_; refine k_d ?_; refine k_rf ?_; refine awp_skip ?_; refine k_s ?_; refine k_0 ?_; refine k_85 (u := n64 u) (r := ni u) ?_; refine k_0 ?_; refine k_4 ?_; refine k_4 ?_; refine k_4 ?_; refine k_d ?_
      exact awp_ret ⟨_, St.le_refl _, ⟨rfl, rfl, rfl, trivial⟩, subL_nil _⟩
  · rw [if_pos h2]
    refine k_s ?_; refine k_4 ?_; refine k_4 ?_; refine k_4 ?_; refine k_d ?_; refine k_s ?_; refine k_0 ?_; refine k_0 ?_; refine k_56 (hcon := hr) ?_ (hle := by refine ⟨(by exact AVal.le_refl _), ?_⟩; refine ⟨(by exact AVal.le_refl _), ?_⟩; exact trivial) (hLi := by (repeat (first | exact trivial | refine ⟨rfl, ?_⟩ | fail)) <;> fail) (hnew := by (repeat (first | exact trivial | refine ⟨rfl, ?_⟩ | fail)) <;> fail) (hdead := by (repeat (first | exact trivial | refine ⟨rfl, ?_⟩ | fail)) <;> fail); refine k_0 ?_; refine k_37 ?_; refine k_37 ?_; refine k_37 ?_; refine k_4 ?_; refine k_4 ?_; refine k_4 ?_; refine k_d ?_; refine awp_seq ?_; refine k_s ?_; refine k_0 ?_; refine k_8 ?_; refine k_d ?_; refine k_ct ?_; refine k_s ?_; refine k_0 ?_; refine k_4 ?_; refine k_4 ?_; refine k_4 ?_; refine k_d ?_
    exact awp_ret ⟨_, St.le_refl _, ⟨rfl, rfl, rfl, trivial⟩, subL_nil _⟩
set_option maxHeartbeats 8000000 in
theorem rint_con (b : List UInt8) (a : Int) (hb : b.length ≤ 281474976710656) : Con Try.prog 14 [] [.d (dBytes b), ai a] [] (aN3 (intS b a)) := by
  refine con_of (xs := [ai (intS b a).1, ai (intS b a).2.1, ai (intS b a).2.2]) Try.func14 rfl Try.ntmps14 rfl rfl rfl (fun E => ?_)
  have hr := rnumber_con b a hb
  have hlt := num_lt (b := b) (a := a)
  have hmin := minimal_con b a (hb := hb)
  rw [int_def]
  generalize padded b a = p at *
  generalize numS b a = r at *
  obtain ⟨u, e, err⟩ := r
  simp only at hlt hmin ⊢
  by_cases h2 : err = 0
  · have hm := hmin h2
    rw [if_neg (by simpa using h2)]
    cases p with
    | true =>
      rw [if_pos rfl]
      refine k_s ?_; refine k_4 ?_; refine k_4 ?_; refine k_4 ?_; refine k_d ?_; refine k_s ?_; refine k_0 ?_; refine k_0 ?_; refine k_56 (hcon := hr) ?_ (hle := by refine ⟨(by exact AVal.le_refl _), ?_⟩; refine ⟨(by exact AVal.le_refl _), ?_⟩; exact trivial) (hLi := by (repeat (first | exact trivial | refine ⟨rfl, ?_⟩ | fail)) <;> fail) (hnew := by (repeat (first | exact trivial | refine ⟨rfl, ?_⟩ | fail)) <;> fail) (hdead := by (repeat (first | exact trivial | refine ⟨rfl, ?_⟩ | fail)) <;> fail); refine k_0 ?_; refine k_37 ?_; refine k_37 ?_; refine k_37 ?_; refine k_4 ?_; refine k_4 ?_; refine k_4 ?_; refine k_d ?_; refine awp_seq ?_; refine k_s ?_; refine k_0 ?_; refine k_8 ?_; refine k_d ?_; refine k_cf ?_; refine awp_skip ?_; refine awp_seq ?_; refine k_s ?_; refine k_0 ?_; refine k_0 ?_; refine k_0 ?_; refine k_56 (hcon := hm) ?_ (hle := by refine ⟨(by exact AVal.le_refl _), ?_⟩; refine ⟨(by exact AVal.le_refl _), ?_⟩; refine ⟨(by exact AVal.le_refl _), ?_⟩; exact trivial) (hLi := by (repeat (first | exact trivial | refine ⟨rfl, ?_⟩ | fail)) <;> fail) (hnew := by (repeat (first | exact trivial | refine ⟨rfl, ?_⟩ | fail)) <;> fail) (hdead := by (repeat (first | exact trivial | refine ⟨rfl, ?_⟩ | fail)) <;> fail)
      refine k_67 ?_; refine k_d ?_; refine k_rt ?_; refine k_s ?_; refine k_4 ?_; refine k_4 ?_; refine k_4 ?_; refine k_d ?_
      exact awp_ret ⟨_, St.le_refl _, ⟨rfl, rfl, rfl, trivial⟩, subL_nil _⟩
    | false =>
      rw [if_neg (by simp)]
      have hx : ∀ w, (Op.unary .neg (ni (u / 2))).run Try.prog w = .ok (.int .i64 (-((u / 2 : Nat) : Int))) w := fun w => ru_neg (P := Try.prog) (by omega) w
      by_cases hodd : u % 2 = 1
      · rw [show zag u = -((u / 2 : Nat) : Int) - 1 by unfold zag; rw [if_pos hodd]]
        refine k_s ?_; refine k_4 ?_; refine k_4 ?_; refine k_4 ?_; refine k_d ?_; refine k_s ?_; refine k_0 ?_; refine k_0 ?_; refine k_56 (hcon := hr) ?_ (hle := by refine ⟨(by exact AVal.le_refl _), ?_⟩; refine ⟨(by exact AVal.le_refl _), ?_⟩; exact trivial) (hLi := by (repeat (first | exact trivial | refine ⟨rfl, ?_⟩ | fail)) <;> fail) (hnew := by (repeat (first | exact trivial | refine ⟨rfl, ?_⟩ | fail)) <;> fail) (hdead := by (repeat (first | exact trivial | refine ⟨rfl, ?_⟩ | fail)) <;> fail); refine k_0 ?_; refine k_37 ?_; refine k_37 ?_; refine k_37 ?_; refine k_4 ?_; refine k_4 ?_; refine k_4 ?_; refine k_d ?_; refine awp_seq ?_; refine k_s ?_; refine k_0 ?_; refine k_8 ?_; refine k_d ?_; refine k_cf ?_; refine awp_skip ?_; refine awp_seq ?_; refine k_s ?_; refine k_0 ?_; refine k_0 ?_; refine k_0 ?_; refine k_56 (hcon := hm) ?_ (hle := by refine ⟨(by exact AVal.le_refl _), ?_⟩; refine ⟨(by exact AVal.le_refl _), ?_⟩; refine ⟨(by exact AVal.le_refl _), ?_⟩; exact trivial) (hLi := by (repeat (first | exact trivial | refine ⟨rfl, ?_⟩ | fail)) <;> fail) (hnew := by (repeat (first | exact trivial | refine ⟨rfl, ?_⟩ | fail)) <;> fail) (hdead := by (repeat (first | exact trivial | refine ⟨rfl, ?_⟩ | fail)) <;> fail)
        refine k_67 ?_; refine k_d ?_; refine k_rf ?_; refine awp_skip ?_; refine awp_seq ?_; refine k_s ?_; refine k_0 ?_; refine k_76 (op := .rem) (r' := n64 (u % 2)) (u := n64 u) (v := n64 2) ?_; refine k_7 ?_; refine k_d ?_; refine k_ct ?_; refine k_s ?_; refine k_0 ?_; refine k_74 (op := .quo) (r' := n64 (u / 2)) (u := n64 u) (v := n64 2) ?_ (hr := by exact rb_quo (by omega) (by rw [cap_u64]; omega)); refine k_85 (u := n64 (u / 2)) (r := ni (u / 2)) ?_; refine k_67 (u := ni (u / 2)) (r := .int .i64 (-((u / 2 : Nat) : Int))) ?_ (hr := by exact hx); refine k_7 ?_ (hr := by exact rb_sub64 (by unfold in64; omega)); refine k_0 ?_; refine k_4 ?_; refine k_4 ?_; refine k_4 ?_; refine k_d ?_
        exact awp_ret ⟨_, St.le_refl _, ⟨rfl, rfl, rfl, trivial⟩, subL_nil _⟩
      · rw [show zag u = ((u / 2 : Nat) : Int) by unfold zag; rw [if_neg hodd]]
        refine k_s ?_; refine k_4 ?_; refine k_4 ?_; refine k_4 ?_; refine k_d ?_; refine k_s ?_; refine k_0 ?_; refine k_0 ?_; refine k_56 (hcon := hr) ?_ (hle := by refine ⟨(by exact AVal.le_refl _), ?_⟩; refine ⟨(by exact AVal.le_refl _), ?_⟩; exact trivial) (hLi := by (repeat (first | exact trivial | refine ⟨rfl, ?_⟩ | fail)) <;> fail) (hnew := by (repeat (first | exact trivial | refine ⟨rfl, ?_⟩ | fail)) <;> fail) (hdead := by (repeat (first | exact trivial | refine ⟨rfl, ?_⟩ | fail)) <;> fail); refine k_0 ?_; refine k_37 ?_; refine k_37 ?_; refine k_37 ?_; refine k_4 ?_; refine k_4 ?_; refine k_4 ?_; refine k_d ?_; refine awp_seq ?_; refine k_s ?_; refine k_0 ?_; refine k_8 ?_; refine k_d ?_; refine k_cf ?_; refine awp_skip ?_; refine awp_seq ?_; refine k_s ?_; refine k_0 ?_; refine k_0 ?_; refine k_0 ?_; refine k_56 (hcon := hm) ?_ (hle := by refine ⟨(by exact AVal.le_refl _), ?_⟩; refine ⟨(by exact AVal.le_refl _), ?_⟩; refine ⟨(by exact AVal.le_refl _), ?_⟩; exact trivial) (hLi := by (repeat (first | exact trivial | refine ⟨rfl, ?_⟩ | fail)) <;> fail) (hnew := by (repeat (first | exact trivial | refine ⟨rfl, ?_⟩ | fail)) <;> fail) (hdead := by (repeat (first | exact trivial | refine ⟨rfl, ?_⟩ | fail)) <;> fail)
        refine k_67 ?_; refine k_d ?_; refine k_rf ?_; refine awp_skip ?_; refine awp_seq ?_; refine k_s ?_; refine k_0 ?_; refine k_76 (op := .rem) (r' := n64 (u % 2)) (u := n64 u) (v := n64 2) ?_; refine k_7 ?_; refine k_d ?_; refine k_cf ?_; refine awp_skip ?_; refine k_s ?_; refine k_0 ?_; refine k_74 (op := .quo) (r' := n64 (u / 2)) (u := n64 u) (v := n64 2) ?_ (hr := by exact rb_quo (by omega) (by rw [cap_u64]; omega)); refine k_85 (u := n64 (u / 2)) (r := ni (u / 2)) ?_; refine k_0 ?_; refine k_4 ?_; refine k_4 ?_; refine k_4 ?_; refine k_d ?_
        exact awp_ret ⟨_, St.le_refl _, ⟨rfl, rfl, rfl, trivial⟩, subL_nil _⟩
  · rw [if_pos h2]
    refine k_s ?_; refine k_4 ?_; refine k_4 ?_; refine k_4 ?_; refine k_d ?_; refine k_s ?_; refine k_0 ?_; refine k_0 ?_; refine k_56 (hcon := hr) ?_ (hle := by refine ⟨(by exact AVal.le_refl _), ?_⟩; refine ⟨(by exact AVal.le_refl _), ?_⟩; exact trivial) (hLi := by (repeat (first | exact trivial | refine ⟨rfl, ?_⟩ | fail)) <;> fail) (hnew := by (repeat (first | exact trivial | refine ⟨rfl, ?_⟩ | fail)) <;> fail) (hdead := by (repeat (first | exact trivial | refine ⟨rfl, ?_⟩ | fail)) <;> fail); refine k_0 ?_; refine k_37 ?_; refine k_37 ?_; refine k_37 ?_; refine k_4 ?_; refine k_4 ?_; refine k_4 ?_; refine k_d ?_; refine awp_seq ?_; refine k_s ?_; refine k_0 ?_; refine k_8 ?_; refine k_d ?_; refine k_ct ?_; refine k_s ?_; refine k_0 ?_; refine k_4 ?_; refine k_4 ?_; refine k_4 ?_; refine k_d ?_
    exact awp_ret ⟨_, St.le_refl _, ⟨rfl, rfl, rfl, trivial⟩, subL_nil _⟩
theorem str_def {b : List UInt8} {a most : Int} : strS b a most = if (uintS b a).2.2 ≠ 0 then ([], 0, (uintS b a).2.2) else if most < (uintS b a).1 then ([], 0, 4) else if (b.length : Int) - (uintS b a).2.1 < (uintS b a).1 then ([], 0, 3) else
    ((b.drop (uintS b a).2.1.toNat).take (uintS b a).1.toNat, (uintS b a).2.1 + (uintS b a).1, 0) := rfl
theorem uint_facts {b : List UInt8} {a : Int} : (uintS b a).2.2 = 0 → ∃ n f : Nat, (uintS b a).1 = n ∧ (uintS b a).2.1 = f ∧ f ≤ b.length ∧ (n : Int) ≤ 9223372036854775807 := by
  intro h
  obtain ⟨⟨k1, k2, k3, k4⟩, k5, k6, k7⟩ := uint_only (b := b) (a := a) (n := (uintS b a).1) (e := (uintS b a).2.1) (by rw [← h])
  exact ⟨(uintS b a).1.toNat, (uintS b a).2.1.toNat, by omega, by omega, by omega, by omega⟩
set_option maxHeartbeats 8000000 in
theorem str_con (b : List UInt8) (a most : Int) (hb : b.length ≤ 281474976710656) : Con Try.prog 15 [] [.d (dBytes b), ai a, ai most] [] (aThree (aStr (strS b a most).1) (strS b a most).2.1 (strS b a most).2.2) := by
  refine con_of (xs := [aStr (strS b a most).1, ai (strS b a most).2.1, ai (strS b a most).2.2]) Try.func15 rfl Try.ntmps15 rfl rfl rfl (fun E => ?_)
  have hr := uint_con b a hb
  have hf := uint_facts (b := b) (a := a)
  rw [str_def]
  generalize uintS b a = r at *
  obtain ⟨n, f, err⟩ := r
  simp only at hf ⊢
  by_cases h2 : err = 0
  · obtain ⟨n, f, rfl, rfl, hf1, hf2⟩ := hf h2
    rw [if_neg (by simpa using h2)]
    by_cases h3 : most < (n : Int)
    · rw [if_pos h3]
      refine k_s ?_; refine k_4 ?_; refine k_4 ?_; refine k_4 ?_; refine k_d ?_; refine k_s ?_; refine k_0 ?_; refine k_0 ?_; refine k_56 (hcon := hr) ?_ (hle := by refine ⟨(by exact AVal.le_refl _), ?_⟩; refine ⟨(by exact AVal.le_refl _), ?_⟩; exact trivial) (hLi := by (repeat (first | exact trivial | refine ⟨rfl, ?_⟩ | fail)) <;> fail) (hnew := by (repeat (first | exact trivial | refine ⟨rfl, ?_⟩ | fail)) <;> fail) (hdead := by (repeat (first | exact trivial | refine ⟨rfl, ?_⟩ | fail)) <;> fail); refine k_0 ?_; refine k_37 ?_; refine k_37 ?_; refine k_37 ?_; refine k_4 ?_; refine k_4 ?_; refine k_4 ?_; refine k_d ?_; refine awp_seq ?_; refine awp_block ?_; refine k_s ?_; refine k_0 ?_; refine k_8 ?_; refine k_4 ?_; refine k_d ?_; refine k_cf ?_; refine k_s ?_; refine k_0 ?_; refine k_0 ?_; refine k_11 ?_; refine k_4 ?_; refine k_d ?_; refine k_ct ?_; refine k_s ?_; refine k_4 ?_; refine k_4 ?_
      refine k_4 ?_; refine k_d ?_
      exact awp_ret ⟨_, St.le_refl _, ⟨rfl, rfl, rfl, trivial⟩, subL_nil _⟩
    rw [if_neg h3]
    by_cases h4 : (b.length : Int) - f < n
    · rw [if_pos h4]
      refine k_s ?_; refine k_4 ?_; refine k_4 ?_; refine k_4 ?_; refine k_d ?_; refine k_s ?_; refine k_0 ?_; refine k_0 ?_; refine k_56 (hcon := hr) ?_ (hle := by refine ⟨(by exact AVal.le_refl _), ?_⟩; refine ⟨(by exact AVal.le_refl _), ?_⟩; exact trivial) (hLi := by (repeat (first | exact trivial | refine ⟨rfl, ?_⟩ | fail)) <;> fail) (hnew := by (repeat (first | exact trivial | refine ⟨rfl, ?_⟩ | fail)) <;> fail) (hdead := by (repeat (first | exact trivial | refine ⟨rfl, ?_⟩ | fail)) <;> fail); refine k_0 ?_; refine k_37 ?_; refine k_37 ?_; refine k_37 ?_; refine k_4 ?_; refine k_4 ?_; refine k_4 ?_; refine k_d ?_; refine awp_seq ?_; refine awp_block ?_; refine k_s ?_; refine k_0 ?_; refine k_8 ?_; refine k_4 ?_; refine k_d ?_; refine k_cf ?_; refine k_s ?_; refine k_0 ?_; refine k_0 ?_; refine k_11 ?_; refine k_4 ?_; refine k_d ?_; refine k_cf ?_; refine k_s ?_; refine k_0 ?_; refine k_0 ?_
      refine k_60 ?_; refine k_0 ?_; refine k_26 ?_; refine k_11 ?_; refine k_4 ?_; refine k_d ?_; refine k_ct ?_; refine k_s ?_; refine k_4 ?_; refine k_4 ?_; refine k_4 ?_; refine k_d ?_
      exact awp_ret ⟨_, St.le_refl _, ⟨rfl, rfl, rfl, trivial⟩, subL_nil _⟩
    rw [if_neg h4]
    have hsl : ((b.map cByte).take (f + n)).drop f = ((b.drop f).take n).map cByte := by rw [List.map_take, List.map_drop, List.drop_take, Nat.add_sub_cancel_left]
    refine k_s ?_; refine k_4 ?_; refine k_4 ?_; refine k_4 ?_; refine k_d ?_; refine k_s ?_; refine k_0 ?_; refine k_0 ?_; refine k_56 (hcon := hr) ?_ (hle := by refine ⟨(by exact AVal.le_refl _), ?_⟩; refine ⟨(by exact AVal.le_refl _), ?_⟩; exact trivial) (hLi := by (repeat (first | exact trivial | refine ⟨rfl, ?_⟩ | fail)) <;> fail) (hnew := by (repeat (first | exact trivial | refine ⟨rfl, ?_⟩ | fail)) <;> fail) (hdead := by (repeat (first | exact trivial | refine ⟨rfl, ?_⟩ | fail)) <;> fail); refine k_0 ?_; refine k_37 ?_; refine k_37 ?_; refine k_37 ?_; refine k_4 ?_; refine k_4 ?_; refine k_4 ?_; refine k_d ?_; refine awp_seq ?_; refine awp_block ?_; refine k_s ?_; refine k_0 ?_; refine k_8 ?_; refine k_4 ?_; refine k_d ?_; refine k_cf ?_; refine k_s ?_; refine k_0 ?_; refine k_0 ?_; refine k_11 ?_; refine k_4 ?_; refine k_d ?_; refine k_cf ?_; refine k_s ?_; refine k_0 ?_; refine k_0 ?_
    refine k_60 ?_; refine k_0 ?_; refine k_26 ?_; refine k_11 ?_; refine k_4 ?_; refine k_d ?_; refine k_cf ?_; refine awp_skip ?_; refine k_s ?_; refine k_0 ?_; refine k_0 ?_; refine k_0 ?_; refine k_0 ?_; refine k_74 (op := .add) (r' := ni (f + n)) (u := ni f) (v := ni n) ?_; refine k_95 (lb := f) (hb := f + n) (ys := ((b.drop f).take n).map cByte) ?_ (hys := by exact hsl); refine k_86 ?_; refine k_0 ?_; refine k_0 ?_; refine k_74 (op := .add) (r' := ni (f + n)) (u := ni f) (v := ni n) ?_; refine k_4 ?_; refine k_4 ?_; refine k_4 ?_; refine k_d ?_
    exact awp_ret ⟨_, St.le_refl _, ⟨rfl, rfl, rfl, trivial⟩, subL_nil _⟩
  · rw [if_pos h2]
    refine k_s ?_; refine k_4 ?_; refine k_4 ?_; refine k_4 ?_; refine k_d ?_; refine k_s ?_; refine k_0 ?_; refine k_0 ?_; refine k_56 (hcon := hr) ?_ (hle := by refine ⟨(by exact AVal.le_refl _), ?_⟩; refine ⟨(by exact AVal.le_refl _), ?_⟩; exact trivial) (hLi := by (repeat (first | exact trivial | refine ⟨rfl, ?_⟩ | fail)) <;> fail) (hnew := by (repeat (first | exact trivial | refine ⟨rfl, ?_⟩ | fail)) <;> fail) (hdead := by (repeat (first | exact trivial | refine ⟨rfl, ?_⟩ | fail)) <;> fail); refine k_0 ?_; refine k_37 ?_; refine k_37 ?_; refine k_37 ?_; refine k_4 ?_; refine k_4 ?_; refine k_4 ?_; refine k_d ?_; refine awp_seq ?_; refine awp_block ?_; refine k_s ?_; refine k_0 ?_; refine k_8 ?_; refine k_4 ?_; refine k_d ?_; refine k_ct ?_; refine k_s ?_; refine k_0 ?_; refine k_4 ?_; refine k_4 ?_; refine k_4 ?_; refine k_d ?_
    exact awp_ret ⟨_, St.le_refl _, ⟨rfl, rfl, rfl, trivial⟩, subL_nil _⟩
set_option maxHeartbeats 8000000 in
theorem rstr_con (b : List UInt8) (a most : Int) (hb : b.length ≤ 281474976710656) : Con Try.prog 16 [] [.d (dBytes b), ai a, ai most] [] (aThree (aStr (strS b a most).1) (strS b a most).2.1 (strS b a most).2.2) := by
  refine con_of (xs := [aStr (strS b a most).1, ai (strS b a most).2.1, ai (strS b a most).2.2]) Try.func16 rfl Try.ntmps16 rfl rfl rfl (fun E => ?_)
  have hr := ruint_con b a hb
  have hf := uint_facts (b := b) (a := a)
  rw [str_def]
  generalize uintS b a = r at *
  obtain ⟨n, f, err⟩ := r
  simp only at hf ⊢
  by_cases h2 : err = 0
  · obtain ⟨n, f, rfl, rfl, hf1, hf2⟩ := hf h2
    rw [if_neg (by simpa using h2)]
    by_cases h3 : most < (n : Int)
    · rw [if_pos h3]
      refine k_s ?_; refine k_4 ?_; refine k_4 ?_; refine k_4 ?_; refine k_d ?_; refine k_s ?_; refine k_0 ?_; refine k_0 ?_; refine k_56 (hcon := hr) ?_ (hle := by refine ⟨(by exact AVal.le_refl _), ?_⟩; refine ⟨(by exact AVal.le_refl _), ?_⟩; exact trivial) (hLi := by (repeat (first | exact trivial | refine ⟨rfl, ?_⟩ | fail)) <;> fail) (hnew := by (repeat (first | exact trivial | refine ⟨rfl, ?_⟩ | fail)) <;> fail) (hdead := by (repeat (first | exact trivial | refine ⟨rfl, ?_⟩ | fail)) <;> fail); refine k_0 ?_; refine k_37 ?_; refine k_37 ?_; refine k_37 ?_; refine k_4 ?_; refine k_4 ?_; refine k_4 ?_; refine k_d ?_; refine awp_seq ?_; refine k_s ?_; refine k_0 ?_; refine k_8 ?_; refine k_d ?_; refine k_cf ?_; refine awp_skip ?_; refine awp_seq ?_; refine k_s ?_; refine k_0 ?_; refine k_0 ?_; refine k_11 ?_; refine k_d ?_; refine k_ct ?_; refine k_s ?_; refine k_4 ?_; refine k_4 ?_; refine k_4 ?_
      refine k_d ?_
      exact awp_ret ⟨_, St.le_refl _, ⟨rfl, rfl, rfl, trivial⟩, subL_nil _⟩
    rw [if_neg h3]
    by_cases h4 : (b.length : Int) - f < n
    · rw [if_pos h4]
      refine k_s ?_; refine k_4 ?_; refine k_4 ?_; refine k_4 ?_; refine k_d ?_; refine k_s ?_; refine k_0 ?_; refine k_0 ?_; refine k_56 (hcon := hr) ?_ (hle := by refine ⟨(by exact AVal.le_refl _), ?_⟩; refine ⟨(by exact AVal.le_refl _), ?_⟩; exact trivial) (hLi := by (repeat (first | exact trivial | refine ⟨rfl, ?_⟩ | fail)) <;> fail) (hnew := by (repeat (first | exact trivial | refine ⟨rfl, ?_⟩ | fail)) <;> fail) (hdead := by (repeat (first | exact trivial | refine ⟨rfl, ?_⟩ | fail)) <;> fail); refine k_0 ?_; refine k_37 ?_; refine k_37 ?_; refine k_37 ?_; refine k_4 ?_; refine k_4 ?_; refine k_4 ?_; refine k_d ?_; refine awp_seq ?_; refine k_s ?_; refine k_0 ?_; refine k_8 ?_; refine k_d ?_; refine k_cf ?_; refine awp_skip ?_; refine awp_seq ?_; refine k_s ?_; refine k_0 ?_; refine k_0 ?_; refine k_11 ?_; refine k_d ?_; refine k_cf ?_; refine awp_skip ?_; refine awp_seq ?_; refine awp_seq ?_
      refine k_r ?_; refine k_0 ?_; refine k_0 ?_; refine k_60 ?_; refine k_0 ?_; refine k_26 ?_; refine k_11 ?_; refine k_d ?_; refine k_ct ?_; refine k_s ?_; refine k_4 ?_; refine k_4 ?_; refine k_4 ?_; refine k_d ?_
      exact awp_ret ⟨_, St.le_refl _, ⟨rfl, rfl, rfl, trivial⟩, subL_nil _⟩
    rw [if_neg h4]
    have hsl : ((b.map cByte).take (f + n)).drop f = ((b.drop f).take n).map cByte := by rw [List.map_take, List.map_drop, List.drop_take, Nat.add_sub_cancel_left]
    refine k_s ?_; refine k_4 ?_; refine k_4 ?_; refine k_4 ?_; refine k_d ?_; refine k_s ?_; refine k_0 ?_; refine k_0 ?_; refine k_56 (hcon := hr) ?_ (hle := by refine ⟨(by exact AVal.le_refl _), ?_⟩; refine ⟨(by exact AVal.le_refl _), ?_⟩; exact trivial) (hLi := by (repeat (first | exact trivial | refine ⟨rfl, ?_⟩ | fail)) <;> fail) (hnew := by (repeat (first | exact trivial | refine ⟨rfl, ?_⟩ | fail)) <;> fail) (hdead := by (repeat (first | exact trivial | refine ⟨rfl, ?_⟩ | fail)) <;> fail); refine k_0 ?_; refine k_37 ?_; refine k_37 ?_; refine k_37 ?_; refine k_4 ?_; refine k_4 ?_; refine k_4 ?_; refine k_d ?_; refine awp_seq ?_; refine k_s ?_; refine k_0 ?_; refine k_8 ?_; refine k_d ?_; refine k_cf ?_; refine awp_skip ?_; refine awp_seq ?_; refine k_s ?_; refine k_0 ?_; refine k_0 ?_; refine k_11 ?_; refine k_d ?_; refine k_cf ?_; refine awp_skip ?_; refine awp_seq ?_; refine awp_seq ?_
    refine k_r ?_; refine k_0 ?_; refine k_0 ?_; refine k_60 ?_; refine k_0 ?_; refine k_26 ?_; refine k_11 ?_; refine k_d ?_; refine k_cf ?_; refine awp_skip ?_; refine k_s ?_; refine k_0 ?_; refine k_0 ?_; refine k_0 ?_; refine k_0 ?_; refine k_74 (op := .add) (r' := ni (f + n)) (u := ni f) (v := ni n) ?_; refine k_95 (lb := f) (hb := f + n) (ys := ((b.drop f).take n).map cByte) ?_ (hys := by exact hsl); refine k_86 ?_; refine k_0 ?_; refine k_0 ?_; refine k_74 (op := .add) (r' := ni (f + n)) (u := ni f) (v := ni n) ?_; refine k_4 ?_; refine k_4 ?_; refine k_4 ?_; refine k_d ?_
    exact awp_ret ⟨_, St.le_refl _, ⟨rfl, rfl, rfl, trivial⟩, subL_nil _⟩
  · rw [if_pos h2]
    refine k_s ?_; refine k_4 ?_; refine k_4 ?_; refine k_4 ?_; refine k_d ?_; refine k_s ?_; refine k_0 ?_; refine k_0 ?_; refine k_56 (hcon := hr) ?_ (hle := by refine ⟨(by exact AVal.le_refl _), ?_⟩; refine ⟨(by exact AVal.le_refl _), ?_⟩; exact trivial) (hLi := by (repeat (first | exact trivial | refine ⟨rfl, ?_⟩ | fail)) <;> fail) (hnew := by (repeat (first | exact trivial | refine ⟨rfl, ?_⟩ | fail)) <;> fail) (hdead := by (repeat (first | exact trivial | refine ⟨rfl, ?_⟩ | fail)) <;> fail); refine k_0 ?_; refine k_37 ?_; refine k_37 ?_; refine k_37 ?_; refine k_4 ?_; refine k_4 ?_; refine k_4 ?_; refine k_d ?_; refine awp_seq ?_; refine k_s ?_; refine k_0 ?_; refine k_8 ?_; refine k_d ?_; refine k_ct ?_; refine k_s ?_; refine k_0 ?_; refine k_4 ?_; refine k_4 ?_; refine k_4 ?_; refine k_d ?_
    exact awp_ret ⟨_, St.le_refl _, ⟨rfl, rfl, rfl, trivial⟩, subL_nil _⟩
end Go.Fw

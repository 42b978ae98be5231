/- Uint, Int, Str, the program's and the reference's. -/
import Derived.Test.YtfejbhbfmhkndaaG3
import Derived.Test.YtfejbhbfmhkndaaK05e
namespace Go.Fw
open Go Go.Proofs
set_option linter.unusedVariables false
set_option linter.unusedSimpArgs false
theorem num_shape {b : List UInt8} {a : Int} (h : (numS b a).2.2 = 0) : ∃ k : Nat, a = k ∧ k ≤ b.length ∧ more (b.drop k) < (b.drop k).length ∧ more (b.drop k) < 10 ∧ (numS b a).2.1 = ((k + more (b.drop k) + 1 : Nat) : Int) := by
  unfold numS at h ⊢
  split at h
  · simp at h
  rename_i ha
  have hm : more (b.drop a.toNat) ≤ 10 := by
    unfold more
    have := (List.takeWhile_sublist (l := (b.drop a.toNat).take 10) (fun b => decide (128 ≤ b.toNat))).length_le
    simp at this ⊢; omega
  simp only at h ⊢
  split at h
  · simp at h
  rename_i h10
  split at h
  · simp at h
  rename_i hle
  split at h
  · simp at h
  rename_i h9
  have ha' : ¬(a < 0) ∧ ¬((b.length : Int) < a) := by simpa using ha
  refine ⟨a.toNat, by omega, by omega, by omega, by omega, ?_⟩
  rw [if_neg ha, if_neg h10, if_neg hle, if_neg h9]
  simp only; omega
theorem num_lt {b : List UInt8} {a : Int} : (numS b a).1 < 18446744073709551616 := by
  by_cases h : (numS b a).2.2 = 0
  · by_cases hp : padded b a = false
    · exact (num_only (b := b) (a := a) (e := (numS b a).2.1) (u := (numS b a).1) (by rw [← h]) hp).2.2.2.2
    · obtain ⟨k, rfl, hk, h1, h2, _⟩ := num_shape h
      have hp : padded b (k : Int) = true := by simpa using hp
      unfold padded at hp
      simp only [Int.toNat_natCast, Bool.and_eq_true, decide_eq_true_eq] at hp
      obtain ⟨c, hc⟩ := get_of_lt (l := b.drop k) h1
      rw [hc] at hp
      simp only [Option.getD_some] at hp
      have hc0 : c.toNat = 0 := by rw [hp.2]; rfl
      unfold numS
      rw [if_neg (by omega)]
      simp only [Int.toNat_natCast]
      rw [if_neg (by omega), if_neg (by omega)]
      split
      · simp
      · simp only
        rw [numL_snoc _ _ c hc, hc0]
        have h3 := numL_take_lt (b.drop k) (more (b.drop k))
        have h4 : (2 : Nat) ^ (7 * more (b.drop k)) ≤ 2 ^ 63 := Nat.pow_le_pow_right (by omega) (by omega)
        omega
  · unfold numS at h ⊢
    split at h
    · rename_i h1; rw [if_pos h1]; simp
    rename_i h1; rw [if_neg h1]
    simp only at h ⊢
    split at h
    · rename_i h2; rw [if_pos h2]; simp
    rename_i h2; rw [if_neg h2]
    split at h
    · rename_i h3; rw [if_pos h3]; simp
    rename_i h3; rw [if_neg h3]
    split at h
    · rename_i h4; rw [if_pos h4]; simp
    · simp at h
theorem read_lt {b : List UInt8} {a : Int} : (readS b a).1 < 18446744073709551616 := by
  unfold readS
  simp only
  split
  · simp
  · split <;> exact num_lt
theorem uint_read {b : List UInt8} {a : Int} : uintS b a = if 9223372036854775807 < (readS b a).1 then (0, 0, 4) else if (readS b a).2.2 ≠ 0 then (0, 0, (readS b a).2.2) else (((readS b a).1 : Int), (readS b a).2.1, 0) := by
  unfold uintS readS
  simp only
  by_cases h : (numS b a).2.2 = 0
  · simp only [h, ne_eq, not_true_eq_false, if_false]
    cases hp : padded b a with
    | true => simp only [if_true]; simp
    | false => simp only [Bool.false_eq_true, if_false, h]; simp
  · simp [h]
theorem int_read {b : List UInt8} {a : Int} : intS b a = if (readS b a).2.2 ≠ 0 then (0, 0, (readS b a).2.2) else (zag (readS b a).1, (readS b a).2.1, 0) := by
  unfold intS readS
  simp only
  by_cases h : (numS b a).2.2 = 0
  · simp only [h, ne_eq, not_true_eq_false, if_false]
    cases hp : padded b a with
    | true => simp
    | false => simp [h]
  · simp [h]
set_option maxHeartbeats 8000000 in
theorem minimal_con (b : List UInt8) (a : Int) (h : (numS b a).2.2 = 0) (hb : b.length ≤ 281474976710656) : Con Try.prog 40 [] [.d (dBytes b), ai a, ai (numS b a).2.1] [] (ab (!padded b a)) := by
  refine con_of (xs := [ab (!padded b a)]) Try.func40 rfl Try.ntmps40 rfl rfl rfl (fun E => ?_)
  obtain ⟨k, rfl, hk, h1, h2, he⟩ := num_shape h
  have hll : (b.drop k).length = b.length - k := List.length_drop
  obtain ⟨c, hc⟩ := get_of_lt (l := b.drop k) h1
  have hbc : b[k + more (b.drop k)]? = some c := drop_get hc
  have hp : padded b (k : Int) = (decide (0 < more (b.drop k)) && decide (c = 0)) := by
    show (decide (0 < more (b.drop ((k : Int)).toNat)) && decide (((b.drop ((k : Int)).toNat)[more (b.drop ((k : Int)).toNat)]?).getD 0 = 0)) = _
    rw [Int.toNat_natCast, hc]; rfl
  rw [he, hp]
  generalize more (b.drop k) = m at *
  have ee : Value.int .i64 (((k + m + 1 : Nat) : Int) - 1) = ni (k + m) := by show Value.int .i64 _ = Value.int .i64 _; congr 1; omega
  by_cases h0 : m = 0
  · subst h0
    refine k_s ?_; refine k_4 ?_; refine k_d ?_; refine k_s ?_; refine k_0 ?_; refine k_0 ?_; refine k_14 ?_; refine k_7 ?_; refine k_0 ?_; refine k_5 ?_; refine k_5 ?_; refine k_5 ?_; refine k_5 ?_; refine k_5 ?_; refine k_5 ?_; refine k_49 ?_; refine k_4 ?_; refine k_d ?_
    exact awp_ret ⟨_, St.le_refl _, ⟨rfl, trivial⟩, subL_nil _⟩
  · have h1' : ¬ (((k + m + 1 : Nat) : Int) = k + 1) := by omega
    have hm : 0 < m := by omega
    by_cases hz : c = 0
    · have hz3 : c.toNat = 0 := by rw [hz]; rfl
      rw [show (!(decide (0 < m) && decide (c = 0))) = false by simp [hm, hz]]
      refine k_s ?_; refine k_4 ?_; refine k_d ?_; refine k_s ?_; refine k_0 ?_; refine k_0 ?_; refine k_14 ?_; refine k_7 ?_; refine k_0 ?_; refine k_1 ?_; refine k_1 ?_; refine k_77 (op := .sub) (r' := ni (k + m)) (u := .int .i64 ((k + m + 1 : Nat) : Int)) (v := .int .i64 1) ?_ (hr' := by exact ee) (hr := by exact rb_sub64 (by unfold in64; omega)); refine k_72 ?_; refine k_66 ?_; refine k_12 ?_; refine k_39 ?_; refine k_4 ?_; refine k_d ?_
      exact awp_ret ⟨_, le_slot 6 (y := ab false) (AVal.le_of_eq (by refine Eq.trans (b := ab (decide ((c.toNat : Int) ≠ 0))) rfl ?_; simp [hz3])), ⟨rfl, trivial⟩, subL_nil _⟩
    · have hz3 : ¬ (c.toNat = 0) := fun h => hz (UInt8.toNat_inj.1 h)
      rw [show (!(decide (0 < m) && decide (c = 0))) = true by simp [hm, hz]]
      refine k_s ?_; refine k_4 ?_; refine k_d ?_; refine k_s ?_; refine k_0 ?_; refine k_0 ?_; refine k_14 ?_; refine k_7 ?_; refine k_0 ?_; refine k_1 ?_; refine k_1 ?_; refine k_77 (op := .sub) (r' := ni (k + m)) (u := .int .i64 ((k + m + 1 : Nat) : Int)) (v := .int .i64 1) ?_ (hr' := by exact ee) (hr := by exact rb_sub64 (by unfold in64; omega)); refine k_72 ?_; refine k_66 ?_; refine k_12 ?_; refine k_39 ?_; refine k_4 ?_; refine k_d ?_
      exact awp_ret ⟨_, le_slot 6 (y := ab true) (AVal.le_of_eq (by refine Eq.trans (b := ab (decide ((c.toNat : Int) ≠ 0))) rfl ?_; simp [hz3])), ⟨rfl, trivial⟩, subL_nil _⟩
abbrev aN3 (r : Int × Int × Int) : AVal := .tup [ai r.1, ai r.2.1, ai r.2.2]
set_option maxHeartbeats 8000000 in
theorem uint_con (b : List UInt8) (a : Int) (hb : b.length ≤ 281474976710656) : Con Try.prog 11 [] [.d (dBytes b), ai a] [] (aN3 (uintS b a)) := by
  refine con_of (xs := [ai (uintS b a).1, ai (uintS b a).2.1, ai (uintS b a).2.2]) Try.func11 rfl Try.ntmps11 rfl rfl rfl (fun E => ?_)
  have hr := read_con b a hb
  have hlt := read_lt (b := b) (a := a)
  rw [uint_read]
  generalize readS b a = r at *
  obtain ⟨u, e, err⟩ := r
  simp only at hlt ⊢
  by_cases h1 : 9223372036854775807 < u
  · rw [if_pos h1]
    refine k_s ?_; refine k_4 ?_; refine k_4 ?_; refine k_4 ?_; refine k_d ?_; refine k_s ?_; refine k_0 ?_; refine k_0 ?_; refine k_56 (hcon := hr) ?_ (hle := by refine ⟨(by exact AVal.le_refl _), ?_⟩; refine ⟨(by exact AVal.le_refl _), ?_⟩; exact trivial) (hLi := by (repeat (first | exact trivial | refine ⟨rfl, ?_⟩ | fail)) <;> fail) (hnew := by (repeat (first | exact trivial | refine ⟨rfl, ?_⟩ | fail)) <;> fail) (hdead := by (repeat (first | exact trivial | refine ⟨rfl, ?_⟩ | fail)) <;> fail); refine k_0 ?_; refine k_37 ?_; refine k_37 ?_; refine k_37 ?_; refine k_4 ?_; refine k_4 ?_; refine k_4 ?_; refine k_d ?_; refine awp_seq ?_; refine awp_block ?_; refine k_s ?_; refine k_0 ?_; refine k_11 ?_; refine k_4 ?_; refine k_d ?_; refine k_ct ?_; refine k_s ?_; refine k_4 ?_; refine k_4 ?_; refine k_4 ?_; refine k_d ?_
    exact awp_ret ⟨_, St.le_refl _, ⟨rfl, rfl, rfl, trivial⟩, subL_nil _⟩
  rw [if_neg h1]
  by_cases h2 : err = 0
  · rw [if_neg (by simpa using h2)]
    refine k_s ?_; refine k_4 ?_; refine k_4 ?_; refine k_4 ?_; refine k_d ?_; refine k_s ?_; refine k_0 ?_; refine k_0 ?_; refine k_56 (hcon := hr) ?_ (hle := by refine ⟨(by exact AVal.le_refl _), ?_⟩; refine ⟨(by exact AVal.le_refl _), ?_⟩; exact trivial) (hLi := by (repeat (first | exact trivial | refine ⟨rfl, ?_⟩ | fail)) <;> fail) (hnew := by (repeat (first | exact trivial | refine ⟨rfl, ?_⟩ | fail)) <;> fail) (hdead := by (repeat (first | exact trivial | refine ⟨rfl, ?_⟩ | fail)) <;> fail); refine k_0 ?_; refine k_37 ?_; refine k_37 ?_; refine k_37 ?_; refine k_4 ?_; refine k_4 ?_; refine k_4 ?_; refine k_d ?_; refine awp_seq ?_; refine awp_block ?_; refine k_s ?_; refine k_0 ?_; refine k_11 ?_; refine k_4 ?_; refine k_d ?_; refine k_cf ?_; refine k_s ?_; refine k_0 ?_; refine k_8 ?_; refine k_4 ?_; refine k_d ?_; refine k_cf ?_; refine awp_skip ?_; refine k_s ?_; refine k_0 ?_; refine k_85 (u := n64 u) (r := ni u) ?_
    refine k_0 ?_; refine k_4 ?_; refine k_4 ?_; refine k_4 ?_; refine k_d ?_
    exact awp_ret ⟨_, St.le_refl _, ⟨rfl, rfl, rfl, trivial⟩, subL_nil _⟩
  · rw [if_pos h2]
    refine k_s ?_; refine k_4 ?_; refine k_4 ?_; refine k_4 ?_; refine k_d ?_; refine k_s ?_; refine k_0 ?_; refine k_0 ?_; refine k_56 (hcon := hr) ?_ (hle := by refine ⟨(by exact AVal.le_refl _), ?_⟩; refine ⟨(by exact AVal.le_refl _), ?_⟩; exact trivial) (hLi := by (repeat (first | exact trivial | refine ⟨rfl, ?_⟩ | fail)) <;> fail) (hnew := by (repeat (first | exact trivial | refine ⟨rfl, ?_⟩ | fail)) <;> fail) (hdead := by (repeat (first | exact trivial | refine ⟨rfl, ?_⟩ | fail)) <;> fail); refine k_0 ?_; refine k_37 ?_; refine k_37 ?_; refine k_37 ?_; refine k_4 ?_; refine k_4 ?_; refine k_4 ?_; refine k_d ?_; refine awp_seq ?_; refine awp_block ?_; refine k_s ?_; refine k_0 ?_; refine k_11 ?_; refine k_4 ?_; refine k_d ?_; refine k_cf ?_; refine k_s ?_; refine k_0 ?_; refine k_8 ?_; refine k_4 ?_; refine k_d ?_; refine k_ct ?_; refine k_s ?_; refine k_0 ?_; refine k_4 ?_; refine k_4 ?_
    refine k_4 ?_; refine k_d ?_
    exact awp_ret ⟨_, St.le_refl _, ⟨rfl, rfl, rfl, trivial⟩, subL_nil _⟩
set_option maxHeartbeats 8000000 in
theorem int_con (b : List UInt8) (a : Int) (hb : b.length ≤ 281474976710656) : Con Try.prog 13 [] [.d (dBytes b), ai a] [] (aN3 (intS b a)) := by
  refine con_of (xs := [ai (intS b a).1, ai (intS b a).2.1, ai (intS b a).2.2]) Try.func13 rfl Try.ntmps13 rfl rfl rfl (fun E => ?_)
  have hr := read_con b a hb
  have hlt := read_lt (b := b) (a := a)
  rw [int_read]
  generalize readS b a = r at *
  obtain ⟨u, e, err⟩ := r
  simp only at hlt ⊢
  by_cases h2 : err = 0
  · rw [if_neg (by simpa using h2)]
    have hx : ∀ w, (Op.unary .xor (ni (u / 2))).run Try.prog w = .ok (.int .i64 (-((u / 2 : Nat) : Int) - 1)) w := fun w => ru_compl_i64 (P := Try.prog) (by omega) w
    by_cases hodd : u % 2 = 1
    · rw [show zag u = -((u / 2 : Nat) : Int) - 1 by unfold zag; rw [if_pos hodd]]
      refine k_s ?_; refine k_4 ?_; refine k_4 ?_; refine k_4 ?_; refine k_d ?_; refine k_s ?_; refine k_0 ?_; refine k_0 ?_; refine k_56 (hcon := hr) ?_ (hle := by refine ⟨(by exact AVal.le_refl _), ?_⟩; refine ⟨(by exact AVal.le_refl _), ?_⟩; exact trivial) (hLi := by (repeat (first | exact trivial | refine ⟨rfl, ?_⟩ | fail)) <;> fail) (hnew := by (repeat (first | exact trivial | refine ⟨rfl, ?_⟩ | fail)) <;> fail) (hdead := by (repeat (first | exact trivial | refine ⟨rfl, ?_⟩ | fail)) <;> fail); refine k_0 ?_; refine k_37 ?_; refine k_37 ?_; refine k_37 ?_; refine k_4 ?_; refine k_4 ?_; refine k_4 ?_; refine k_d ?_; refine awp_seq ?_; refine k_s ?_; refine k_0 ?_; refine k_8 ?_; refine k_d ?_; refine k_cf ?_; refine awp_skip ?_; refine k_s ?_; refine k_0 ?_; refine k_74 (op := .shr) (r' := n64 (u / 2)) (u := n64 u) (v := n64 1) ?_ (hr := by exact rb_shr (by decide)); refine k_85 (u := n64 (u / 2)) (r := ni (u / 2)) ?_
      refine k_4 ?_; refine k_d ?_; refine awp_seq ?_; refine k_s ?_; refine k_0 ?_; refine k_74 (op := .and) (r' := n64 (u % 2)) (u := n64 u) (v := n64 1) ?_ (hr' := by exact congrArg n64 (Nat.and_one_is_mod u)) (hr := by exact rb_and (by rw [cap_u64]; omega) (by rw [cap_u64]; omega)); refine k_7 ?_; refine k_d ?_; refine k_ct ?_; refine k_r ?_; refine k_0 ?_; refine k_67 (u := ni (u / 2)) (r := .int .i64 (-((u / 2 : Nat) : Int) - 1)) ?_ (hr := by exact hx); refine k_4 ?_; refine k_d ?_; refine k_s ?_; refine k_0 ?_; refine k_0 ?_; refine k_4 ?_; refine k_4 ?_; refine k_4 ?_; refine k_d ?_
      exact awp_ret ⟨_, St.le_refl _, ⟨rfl, rfl, rfl, trivial⟩, subL_nil _⟩
    · rw [show zag u = ((u / 2 : Nat) : Int) by unfold zag; rw [if_neg hodd]]
      refine k_s ?_; refine k_4 ?_; refine k_4 ?_; refine k_4 ?_; refine k_d ?_; refine k_s ?_; refine k_0 ?_; refine k_0 ?_; refine k_56 (hcon := hr) ?_ (hle := by refine ⟨(by exact AVal.le_refl _), ?_⟩; refine ⟨(by exact AVal.le_refl _), ?_⟩; exact trivial) (hLi := by (repeat (first | exact trivial | refine ⟨rfl, ?_⟩ | fail)) <;> fail) (hnew := by (repeat (first | exact trivial | refine ⟨rfl, ?_⟩ | fail)) <;> fail) (hdead := by (repeat (first | exact trivial | refine ⟨rfl, ?_⟩ | fail)) <;> fail); refine k_0 ?_; refine k_37 ?_; refine k_37 ?_; refine k_37 ?_; refine k_4 ?_; refine k_4 ?_; refine k_4 ?_; refine k_d ?_; refine awp_seq ?_; refine k_s ?_; refine k_0 ?_; refine k_8 ?_; refine k_d ?_; refine k_cf ?_; refine awp_skip ?_; refine k_s ?_; refine k_0 ?_; refine k_74 (op := .shr) (r' := n64 (u / 2)) (u := n64 u) (v := n64 1) ?_ (hr := by exact rb_shr (by decide)); refine k_85 (u := n64 (u / 2)) (r := ni (u / 2)) ?_
      refine k_4 ?_; refine k_d ?_; refine awp_seq ?_; refine k_s ?_; refine k_0 ?_; refine k_74 (op := .and) (r' := n64 (u % 2)) (u := n64 u) (v := n64 1) ?_ (hr' := by exact congrArg n64 (Nat.and_one_is_mod u)) (hr := by exact rb_and (by rw [cap_u64]; omega) (by rw [cap_u64]; omega)); refine k_7 ?_; refine k_d ?_; refine k_cf ?_; refine awp_skip ?_; refine k_s ?_; refine k_0 ?_; refine k_0 ?_; refine k_4 ?_; refine k_4 ?_; refine k_4 ?_; refine k_d ?_
      exact awp_ret ⟨_, St.le_refl _, ⟨rfl, rfl, rfl, trivial⟩, subL_nil _⟩
  · rw [if_pos h2]
    refine k_s ?_; refine k_4 ?_; refine k_4 ?_; refine k_4 ?_; refine k_d ?_; refine k_s ?_; refine k_0 ?_; refine k_0 ?_; refine k_56 (hcon := hr) ?_ (hle := by refine ⟨(by exact AVal.le_refl _), ?_⟩; refine ⟨(by exact AVal.le_refl _), ?_⟩; exact trivial) (hLi := by (repeat (first | exact trivial | refine ⟨rfl, ?_⟩ | fail)) <;> fail) (hnew := by (repeat (first | exact trivial | refine ⟨rfl, ?_⟩ | fail)) <;> fail) (hdead := by (repeat (first | exact trivial | refine ⟨rfl, ?_⟩ | fail)) <;> fail); refine k_0 ?_; refine k_37 ?_; refine k_37 ?_; refine k_37 ?_; refine k_4 ?_; refine k_4 ?_; refine k_4 ?_; refine k_d ?_; refine awp_seq ?_; refine k_s ?_; refine k_0 ?_; refine k_8 ?_; refine k_d ?_; refine k_ct ?_; refine k_s ?_; refine k_0 ?_; refine k_4 ?_; refine k_4 ?_; refine k_4 ?_; refine k_d ?_
    exact awp_ret ⟨_, St.le_refl _, ⟨rfl, rfl, rfl, trivial⟩, subL_nil _⟩
end Go.Fw

/- The law about reading values. -/
import Derived.Test.YtfejbhbfmhkndaaG3
import Derived.Test.YtfejbhbfmhkndaaL05c
import Derived.Test.YtfejbhbfmhkndaaK06h
import Derived.Test.YtfejbhbfmhkndaaG5
namespace Go.Fw
open Go Go.Proofs
set_option linter.unusedVariables false
set_option linter.unusedSimpArgs false
theorem noG_valid (i : Nat) (q : Int) (h : (noG i q).2.2 = 0) : validV 8 (noG i q).1 = true := by simp [noG] at h
theorem pathG_valid (b : List UInt8) (i : Nat) (q : Int) (h : (pathG b i q).2.2 = 0) : validV 8 (pathG b i q).1 = true := valG_valid h
theorem valP_valid (b : List UInt8) (m : Nat) (q : Int) (h : (valP b m q).2.2 = 0) : validV 8 (valP b m q).1 = true := by
  rw [valP_eq] at h ⊢
  exact valG_valid h
theorem listG_valid (b : List UInt8) : ∀ (m i : Nat) (q : Int), (listG b m i q).2.2 = 0 → validV 8 (listG b m i q).1 = true
  | 0, i, q, h => noG_valid i q h
  | m + 1, i, q, h => valP_valid b m q h
theorem contentR_ok {gl gp : Nat → Int → Val × Int × Int} {b : List UInt8} {a k : Int} (hgl : ∀ i q, (gl i q).2.2 = 0 → validV 8 (gl i q).1 = true) (hgp : ∀ i q, (gp i q).2.2 = 0 → validV 8 (gp i q).1 = true)
    (h : (contentR gl gp b a k).2.2 = 0) : strOk (contentR gl gp b a k).1 := by
  obtain ⟨e1, e2⟩ := content_fix gl gp b a k
  rw [e1] at h
  rw [e2 h]
  exact content_ok hgl hgp h
theorem rleaf_con (b : List UInt8) (hb : b.length ≤ 65536) (m a i : Nat) (hm : m ≤ 8) (ha : a ≤ b.length) : NestC b a (8 - m) i (fixE (pathG b i a)) := by
  have hw : (5 + ((i % 2 : Nat) : Int)) = 5 ∨ (5 + ((i % 2 : Nat) : Int)) = 6 := by omega
  unfold pathG
  rw [← leaf_val b a m _ hw noG noG]
  refine rnested_of b m a (5 + ((i % 2 : Nat) : Int)) i noG noG _ hm ha hb (fun _ k hk _ hkw => ?_) (fun k h => contentR_ok noG_valid noG_valid h) (.inr ⟨i, rfl, rfl⟩) rfl
  have hk2 := hkw (by omega)
  exact rcontent_of b m k (a + 1) noG noG _ hm hb hk (fun h => by omega) (fun h => by omega) rfl
theorem rnest_con (b : List UInt8) (hb : b.length ≤ 65536) : ∀ (m a : Nat), m ≤ 8 → a ≤ b.length → NestC b a (8 - m) (-1) (fixE (valP b m a))
  | 0, a, hm, ha => by
    rw [valP_eq]
    exact rnested_of b 0 a 0 (-1) (listG b 0) (pathG b) _ hm ha hb
      (fun _ k hk h8 _ => rcontent_of b 0 k (a + 1) (listG b 0) (pathG b) _ hm hb hk (fun h => absurd rfl (h8 h))
        (fun _ R hR => relem_k7 b 0 (a + 1) (pathG b) R hm hb (fun i q h => pathG_end i q h) (fun i q h => rleaf_con b hb 0 q i hm h) hR) rfl)
      (fun k h => contentR_ok (listG_valid b 0) (pathG_valid b) h) (.inl ⟨rfl, rfl⟩) rfl
  | m + 1, a, hm, ha => by
    rw [valP_eq]
    exact rnested_of b (m + 1) a 0 (-1) (listG b (m + 1)) (pathG b) _ hm ha hb
      (fun _ k hk h8 _ => rcontent_of b (m + 1) k (a + 1) (listG b (m + 1)) (pathG b) _ hm hb hk
        (fun _ R hR => relem_k8 b (m + 1) (a + 1) (listG b (m + 1)) R hm hb (fun i q h => valP_end m q h) (fun i q h => by
          have := rnest_con b hb m q (by omega) h
          rw [show (8 : Int) - ((m + 1 : Nat) : Int) + 1 = 8 - (m : Int) by omega]
          exact this) hR)
        (fun _ R hR => relem_k7 b (m + 1) (a + 1) (pathG b) R hm hb (fun i q h => pathG_end i q h) (fun i q h => rleaf_con b hb (m + 1) q i hm h) hR) rfl)
      (fun k h => contentR_ok (listG_valid b (m + 1)) (pathG_valid b) h) (.inl ⟨rfl, rfl⟩) rfl
set_option maxHeartbeats 8000000 in
theorem rnest_out (b : List UInt8) (a : Int) (h : a < 0 ∨ (b.length : Int) < a) : Con Try.prog 42 [] [.d (dBytes b), ai a, ai 0, ai (-1)] [] (.tup [aVal zV, ai 0, ai 1]) := by
  refine con_of (xs := [aVal zV, ai 0, ai 1]) Try.func42 rfl Try.ntmps42 rfl rfl rfl (fun E => ?_)
  by_cases h1 : a < 0
  · refine k_s ?_; refine k_49 (γ := 100) ?_; refine k_4 ?_; refine k_4 ?_; refine k_d ?_; refine awp_seq ?_; refine k_s ?_; refine k_0 ?_; refine k_7 ?_; refine k_0 ?_; refine k_27 ?_; refine k_27 ?_; refine k_27 ?_; refine k_27 ?_; refine k_50 ?_; refine k_d ?_; refine k_rt ?_; refine k_s ?_; refine k_63 ?_; refine k_37 ?_; refine k_4 ?_; refine k_4 ?_; refine k_d ?_
    exact awp_ret ⟨_, le_box 100 (cs := [ai 0, ai 0, ai 0, .d (.v (.string (baOf []))), ani]) (cs' := [ai 0, ai 0, ai 0, .d (.v (.string (baOf []))), .d (.sl 5 [])]) rfl ⟨AVal.le_refl _, AVal.le_refl _, AVal.le_refl _, AVal.le_refl _, AVal.le_nil 5, trivial⟩ rfl, ⟨⟨100, 0, _, rfl, rfl, .inr ⟨5, _, rfl, rfl, rfl, rfl⟩⟩, rfl, rfl, trivial⟩, subL_nil _⟩
  · have h2 : (b.length : Int) < a := by omega
    refine k_s ?_; refine k_49 (γ := 100) ?_; refine k_4 ?_; refine k_4 ?_; refine k_d ?_; refine awp_seq ?_; refine k_s ?_; refine k_0 ?_; refine k_7 ?_; refine k_0 ?_; refine k_1 ?_; refine k_1 ?_; refine k_59 ?_; refine k_17 ?_; refine k_38 ?_; refine k_d ?_; refine k_ct ?_; refine k_s ?_; refine k_63 ?_; refine k_37 ?_; refine k_4 ?_; refine k_4 ?_; refine k_d ?_
    exact awp_ret ⟨_, le_box 100 (cs := [ai 0, ai 0, ai 0, .d (.v (.string (baOf []))), ani]) (cs' := [ai 0, ai 0, ai 0, .d (.v (.string (baOf []))), .d (.sl 5 [])]) rfl ⟨AVal.le_refl _, AVal.le_refl _, AVal.le_refl _, AVal.le_refl _, AVal.le_nil 5, trivial⟩ rfl, ⟨⟨100, 0, _, rfl, rfl, .inr ⟨5, _, rfl, rfl, rfl, rfl⟩⟩, rfl, rfl, trivial⟩, subL_nil _⟩
theorem rnest_top (b : List UInt8) (hb : b.length ≤ 65536) (a : Int) : Con Try.prog 42 [] [.d (dBytes b), ai a, ai 0, ai (-1)] [] (.tup [aVal (valueS b a).1, ai (valueS b a).2.1, ai (valueS b a).2.2]) := by
  rw [value_fix]
  by_cases h : a < 0 ∨ (b.length : Int) < a
  · rw [if_pos h]; exact rnest_out b a h
  · rw [if_neg h]
    obtain ⟨q, rfl⟩ : ∃ q : Nat, a = q := ⟨a.toNat, by omega⟩
    exact rnest_con b hb 8 q (by omega) (by omega)
set_option maxHeartbeats 8000000 in
theorem rvalue_con (b : List UInt8) (hb : b.length ≤ 65536) (a : Int) : Con Try.prog 18 [] [.d (dBytes b), ai a] [] (.tup [aVal (valueS b a).1, ai (valueS b a).2.1, ai (valueS b a).2.2]) := by
  refine con_of (xs := [aVal (valueS b a).1, ai (valueS b a).2.1, ai (valueS b a).2.2]) Try.func18 rfl Try.ntmps18 rfl rfl rfl (fun E => ?_)
  have h := rnest_top b hb a
  generalize valueS b a = u at *
  obtain ⟨⟨k, n, d, s, l⟩, i, e⟩ := u
  simp only [aVal] at h
  refine k_s ?_; refine k_49 (γ := 100) ?_; refine k_4 ?_; refine k_4 ?_; refine k_d ?_; refine k_s ?_; refine k_0 ?_; refine k_0 ?_; refine k_60 (hcon := h) ?_ (hle := by refine ⟨(by exact AVal.le_refl _), ?_⟩; refine ⟨(by exact AVal.le_refl _), ?_⟩; refine ⟨(by exact AVal.le_refl _), ?_⟩; refine ⟨(by exact AVal.le_refl _), ?_⟩; exact trivial) (hLi := by (repeat (first | exact trivial | refine ⟨rfl, ?_⟩ | fail)) <;> fail) (hnew := by (repeat (first | exact trivial | refine ⟨rfl, ?_⟩ | fail)) <;> fail) (hdead := by (repeat (first | exact trivial | refine ⟨rfl, ?_⟩ | fail)) <;> fail); refine k_36 ?_; refine k_36 ?_; refine k_36 ?_; refine k_37 ?_; refine k_4 ?_; refine k_4 ?_; refine k_d ?_
  exact awp_ret ⟨_, St.le_refl _, ⟨⟨100, 0, _, rfl, rfl, .inr ⟨5, _, rfl, rfl, rfl, rfl⟩⟩, rfl, rfl, trivial⟩, subL_nil _⟩
theorem valueS_valid (b : List UInt8) (a : Int) : validV 8 (valueS b a).1 = true := by
  rw [value_fix]
  split
  · rw [validV]; simp
  unfold fixE
  split
  · rw [validV]; simp
  · rename_i h; exact valP_valid b 8 a (by simpa using h)
set_option maxHeartbeats 8000000 in
theorem codecValues_con (b : List UInt8) (a : Int) : Con Try.prog 4 [] [.d (dBytes b), ai a] [] (ab true) := by
  refine con_of (xs := [ab true]) Try.func4 rfl Try.ntmps4 rfl rfl rfl (fun E => ?_)
  by_cases h : 2000 < b.length
  · refine k_s ?_; refine k_4 ?_; refine k_d ?_; refine awp_seq ?_; refine k_s ?_; refine k_0 ?_; refine k_57 ?_; refine k_9 ?_; refine k_d ?_; refine k_ct ?_; refine k_s ?_; refine k_60 (hcon := alive_con) ?_ (hle := by exact trivial) (hLi := by (repeat (first | exact trivial | refine ⟨rfl, ?_⟩ | fail)) <;> fail) (hnew := by (repeat (first | exact trivial | refine ⟨rfl, ?_⟩ | fail)) <;> fail) (hdead := by (repeat (first | exact trivial | refine ⟨rfl, ?_⟩ | fail)) <;> fail); refine k_4 ?_; refine k_d ?_
    exact awp_ret ⟨_, St.le_refl _, ⟨rfl, trivial⟩, subL_nil _⟩
  have hb : b.length ≤ 65536 := by omega
  have h1 := codecValue_con b hb a
  have h2 := rvalue_con b hb a
  have h3 := order_same_con (valueS b a).1 (valid_strOk _ 8 (valueS_valid b a))
  unfold OrderC at h3
  generalize valueS b a = u at *
  obtain ⟨⟨k, n, d, s, l⟩, i, e⟩ := u
  simp only [aVal] at h1 h2 h3
  refine k_s ?_; refine k_4 ?_; refine k_d ?_; refine awp_seq ?_; refine k_s ?_; refine k_0 ?_; refine k_57 ?_; refine k_9 ?_; refine k_d ?_; refine k_cf ?_; refine awp_skip ?_; refine k_s ?_; refine k_0 ?_; refine k_0 ?_; refine k_60 (hcon := h1) ?_ (hle := by refine ⟨(by exact AVal.le_refl _), ?_⟩; refine ⟨(by exact AVal.le_refl _), ?_⟩; exact trivial) (hLi := by (repeat (first | exact trivial | refine ⟨rfl, ?_⟩ | fail)) <;> fail) (hnew := by (repeat (first | exact trivial | refine ⟨rfl, ?_⟩ | fail)) <;> fail) (hdead := by (repeat (first | exact trivial | refine ⟨rfl, ?_⟩ | fail)) <;> fail); refine k_0 ?_; refine k_36 ?_; refine k_36 ?_; refine k_36 ?_; refine k_49 (γ := 100) ?_; refine k_37 ?_; refine k_4 ?_; refine k_4 ?_; refine k_d ?_; refine k_s ?_; refine k_0 ?_; refine k_0 ?_; refine k_60 (hcon := h2) ?_ (hle := by refine ⟨(by exact AVal.le_refl _), ?_⟩; refine ⟨(by exact AVal.le_refl _), ?_⟩; exact trivial) (hLi := by (repeat (first | exact trivial | refine ⟨rfl, ?_⟩ | fail)) <;> fail) (hnew := by (repeat (first | exact trivial | refine ⟨rfl, ?_⟩ | fail)) <;> fail) (hdead := by (repeat (first | exact trivial | refine ⟨rfl, ?_⟩ | fail)) <;> fail)
  refine k_0 ?_; refine k_36 ?_; refine k_36 ?_; refine k_36 ?_; refine k_49 (γ := 101) ?_; refine k_37 ?_; refine k_4 ?_; refine k_4 ?_; refine k_d ?_; refine k_s ?_; refine k_47 ?_; refine k_47 ?_; refine k_60 (hcon := h3) ?_ (hle := by refine ⟨(by exact AVal.le_refl _), ?_⟩; refine ⟨(by exact AVal.le_refl _), ?_⟩; exact trivial) (hLi := by (repeat (first | exact trivial | refine ⟨rfl, ?_⟩ | fail)) <;> fail) (hnew := by (repeat (first | exact trivial | refine ⟨rfl, ?_⟩ | fail)) <;> fail) (hdead := by (repeat (first | exact trivial | refine ⟨rfl, ?_⟩ | fail)) <;> fail); refine k_5 ?_; refine k_0 ?_; refine k_2 ?_; refine k_2 ?_; refine k_10 ?_; refine k_51 ?_; refine k_0 ?_; refine k_3 ?_; refine k_3 ?_; refine k_22 ?_; refine k_55 ?_; refine k_0 ?_; refine k_60 (hcon := alive_con) ?_ (hle := by exact trivial) (hLi := by (repeat (first | exact trivial | refine ⟨rfl, ?_⟩ | fail)) <;> fail) (hnew := by (repeat (first | exact trivial | refine ⟨rfl, ?_⟩ | fail)) <;> fail) (hdead := by (repeat (first | exact trivial | refine ⟨rfl, ?_⟩ | fail)) <;> fail) (hg := by exact ⟨rfl, congrArg ab (by (simp <;> fail))⟩)
  refine k_55 ?_; refine k_4 ?_; refine k_d ?_
  exact awp_ret ⟨_, St.le_refl _, ⟨rfl, trivial⟩, subL_nil _⟩
end Go.Fw

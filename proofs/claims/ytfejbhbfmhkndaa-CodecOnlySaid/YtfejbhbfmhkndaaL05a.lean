/- Reading values: by recursion, and codec.Value. -/
import Derived.Test.YtfejbhbfmhkndaaG3
import Derived.Test.YtfejbhbfmhkndaaK05y
namespace Go.Fw
open Go Go.Proofs
set_option linter.unusedVariables false
set_option linter.unusedSimpArgs false
/-- An element of a path, read inside any number of lists. -/
theorem leaf_val (b : List UInt8) (a m : Nat) (want : Int) (hw : want = 5 ∨ want = 6) (gl gp : Nat → Int → Val × Int × Int) : valG gl gp m b a want = leafP b a want := by
  unfold leafP valG
  split
  · rfl
  simp only
  have hc : ∀ gl gp gl' gp' (k : Int), (k = 5 ∨ k = 6) → contentG gl gp b (a + 1) k = contentG gl' gp' b (a + 1) k := by
    intro _ _ _ _ k hk
    unfold contentG
    rw [if_pos (by omega), if_pos (by omega)]
  by_cases h : ((((b[(a : Int).toNat]?).getD 0).toNat : Nat) : Int) = want
  · rw [if_neg (c := 8 < _ ∨ _) (by omega), if_neg (c := 8 < _ ∨ _) (by omega), hc gl gp noG noG _ (by omega)]
  · rw [if_pos (by omega), if_pos (by omega)]
theorem leaf_con (b : List UInt8) (a m : Nat) (want : Int) (hm : m ≤ 8) (ha : a ≤ b.length) (hb : b.length ≤ 281474976710656) (hw : want = 5 ∨ want = 6) : ValueC b a (8 - m) want (leafP b a want) := by
  rw [← leaf_val b a m want hw noG noG]
  exact value_of b m a want noG noG hm ha hb (fun i q _ => noG_end i q) (fun i q _ => noG_end i q) (by omega) (by omega) (by omega)
theorem value_conP (b : List UInt8) (hb : b.length ≤ 281474976710656) : ∀ (m a : Nat), m ≤ 8 → a ≤ b.length → ValueC b a (8 - m) 0 (valP b m a)
  | 0, a, hm, ha => by
    rw [valP_eq]
    exact value_of b 0 a 0 (listG b 0) (pathG b) hm ha hb (fun i q _ => noG_end i q) (fun i q h => pathG_end i q h) (fun _ h => absurd rfl h) (fun _ i q h => leaf_con b q 0 _ hm h hb (by omega)) (fun h => absurd rfl h)
  | m + 1, a, hm, ha => by
    rw [valP_eq]
    refine value_of b (m + 1) a 0 (listG b (m + 1)) (pathG b) hm ha hb (fun i q h => valP_end m q h) (fun i q h => pathG_end i q h) (fun _ _ i q h => ?_) (fun _ i q h => leaf_con b q (m + 1) _ hm h hb (by omega)) (fun h => absurd rfl h)
    have := value_conP b hb m q (by omega) h
    rw [show (8 : Int) - ((m + 1 : Nat) : Int) + 1 = 8 - (m : Int) by omega]
    exact this
theorem value_con101 (b : List UInt8) (hb : b.length ≤ 281474976710656) (a : Nat) (ha : a ≤ b.length) (r : Val × Int × Int) (hr : valP b 8 a = r) :
    Con Try.prog 41 [(101, oRd b a 0)] [.ptr 101 0, ai 0, ai 0] [(101, oRd b r.2.1 r.2.2)] (aVal r.1) := by
  have h := con_swp 0 101 (value_conP b hb 8 a (by omega) ha)
  rw [hr] at h
  obtain ⟨⟨k, n, d, s, l⟩, x, y⟩ := r
  exact h
set_option maxHeartbeats 8000000 in
theorem codecValue_con (b : List UInt8) (hb : b.length ≤ 281474976710656) (a : Int) : Con Try.prog 17 [] [.d (dBytes b), ai a] [] (.tup [aVal (valueS b a).1, ai (valueS b a).2.1, ai (valueS b a).2.2]) := by
  refine con_of (xs := [aVal (valueS b a).1, ai (valueS b a).2.1, ai (valueS b a).2.2]) Try.func17 rfl Try.ntmps17 rfl rfl rfl (fun E => ?_)
  by_cases h1 : a < 0
  · rw [show valueS b a = (zV, 0, 1) by unfold valueS; rw [if_pos (.inl h1)]]
    refine k_s ?_; refine k_64 (γ := 100) ?_; refine k_4 ?_; refine k_4 ?_; refine k_d ?_; refine awp_seq ?_; refine k_s ?_; refine k_0 ?_; refine k_9 ?_; refine k_0 ?_; refine k_5 ?_; refine k_5 ?_; refine k_5 ?_; refine k_5 ?_; refine k_49 ?_; refine k_d ?_; refine k_rt ?_; refine k_s ?_; refine k_79 ?_; refine k_48 ?_; refine k_4 ?_; refine k_4 ?_; refine k_d ?_
    exact awp_ret ⟨_, le_box 100 (cs := [ai 0, ai 0, ai 0, .d (.v (.string (baOf []))), ani]) (cs' := [ai 0, ai 0, ai 0, .d (.v (.string (baOf []))), .d (.sl 5 [])]) rfl ⟨AVal.le_refl _, AVal.le_refl _, AVal.le_refl _, AVal.le_refl _, AVal.le_nil 5, trivial⟩ rfl, ⟨⟨100, 0, _, rfl, rfl, .inr ⟨5, _, rfl, rfl, rfl, rfl⟩⟩, rfl, rfl, trivial⟩, subL_nil _⟩
  by_cases h2 : (b.length : Int) < a
  · rw [show valueS b a = (zV, 0, 1) by unfold valueS; rw [if_pos (.inr h2)]]
    refine k_s ?_; refine k_64 (γ := 100) ?_; refine k_4 ?_; refine k_4 ?_; refine k_d ?_; refine awp_seq ?_; refine k_s ?_; refine k_0 ?_; refine k_9 ?_; refine k_0 ?_; refine k_1 ?_; refine k_1 ?_; refine k_62 ?_; refine k_16 ?_; refine k_39 ?_; refine k_d ?_; refine k_ct ?_; refine k_s ?_; refine k_79 ?_; refine k_48 ?_; refine k_4 ?_; refine k_4 ?_; refine k_d ?_
    exact awp_ret ⟨_, le_box 100 (cs := [ai 0, ai 0, ai 0, .d (.v (.string (baOf []))), ani]) (cs' := [ai 0, ai 0, ai 0, .d (.v (.string (baOf []))), .d (.sl 5 [])]) rfl ⟨AVal.le_refl _, AVal.le_refl _, AVal.le_refl _, AVal.le_refl _, AVal.le_nil 5, trivial⟩ rfl, ⟨⟨100, 0, _, rfl, rfl, .inr ⟨5, _, rfl, rfl, rfl, rfl⟩⟩, rfl, rfl, trivial⟩, subL_nil _⟩
  obtain ⟨q, rfl⟩ : ∃ q : Nat, a = q := ⟨a.toNat, by omega⟩
  have hq : q ≤ b.length := by omega
  have hv : valueS b q = if (valP b 8 q).2.2 ≠ 0 then (zV, 0, (valP b 8 q).2.2) else valP b 8 q := by unfold valueS; rw [if_neg (by omega)]
  have hcon := value_con101 b hb q hq _ rfl
  rw [hv]
  clear hv
  generalize valP b 8 q = r at *
  obtain ⟨⟨k, n, d, s, l⟩, x, y⟩ := r
  simp only [aVal] at hcon
  by_cases h3 : y = 0
  · subst h3
    rw [if_neg (by simp)]
    refine k_s ?_; refine k_64 (γ := 100) ?_; refine k_4 ?_; refine k_4 ?_; refine k_d ?_; refine awp_seq ?_; refine k_s ?_; refine k_0 ?_; refine k_9 ?_; refine k_0 ?_; refine k_2 ?_; refine k_2 ?_; refine k_61 ?_; refine k_17 ?_; refine k_40 ?_; refine k_d ?_; refine k_cf ?_; refine awp_skip ?_; refine k_s ?_; refine k_0 ?_; refine k_0 ?_; refine k_79 ?_; refine k_45 (γ := 101) ?_; refine k_4 ?_; refine k_d ?_; refine k_s ?_; refine k_0 ?_; refine k_56 (hcon := hcon) ?_ (hle := by refine ⟨(by exact AVal.le_refl _), ?_⟩; refine ⟨(by exact AVal.le_refl _), ?_⟩; refine ⟨(by exact AVal.le_refl _), ?_⟩; exact trivial) (hLi := by (repeat (first | exact trivial | refine ⟨rfl, ?_⟩ | fail)) <;> fail) (hnew := by (repeat (first | exact trivial | refine ⟨rfl, ?_⟩ | fail)) <;> fail) (hdead := by (repeat (first | exact trivial | refine ⟨rfl, ?_⟩ | fail)) <;> fail); refine k_64 (γ := 102) ?_; refine k_48 ?_
    refine k_d ?_; refine awp_seq ?_; refine k_s ?_; refine k_0 ?_; refine k_46 ?_; refine k_31 ?_; refine k_34 ?_; refine k_8 ?_; refine k_d ?_; refine k_rf ?_; refine awp_skip ?_; refine k_s ?_; refine k_57 ?_; refine k_0 ?_; refine k_46 ?_; refine k_31 ?_; refine k_34 ?_; refine k_48 ?_; refine k_4 ?_; refine k_4 ?_; refine k_e ?_
    exact awp_ret ⟨_, St.le_refl _, ⟨⟨100, 0, _, rfl, rfl, .inr ⟨5, _, rfl, rfl, rfl, rfl⟩⟩, rfl, rfl, trivial⟩, subL_nil _⟩
  · rw [if_pos h3]
    refine k_s ?_; refine k_64 (γ := 100) ?_; refine k_4 ?_; refine k_4 ?_; refine k_d ?_; refine awp_seq ?_; refine k_s ?_; refine k_0 ?_; refine k_9 ?_; refine k_0 ?_; refine k_2 ?_; refine k_2 ?_; refine k_61 ?_; refine k_17 ?_; refine k_40 ?_; refine k_d ?_; refine k_cf ?_; refine awp_skip ?_; refine k_s ?_; refine k_0 ?_; refine k_0 ?_; refine k_79 ?_; refine k_45 (γ := 101) ?_; refine k_4 ?_; refine k_d ?_; refine k_s ?_; refine k_0 ?_; refine k_56 (hcon := hcon) ?_ (hle := by refine ⟨(by exact AVal.le_refl _), ?_⟩; refine ⟨(by exact AVal.le_refl _), ?_⟩; refine ⟨(by exact AVal.le_refl _), ?_⟩; exact trivial) (hLi := by (repeat (first | exact trivial | refine ⟨rfl, ?_⟩ | fail)) <;> fail) (hnew := by (repeat (first | exact trivial | refine ⟨rfl, ?_⟩ | fail)) <;> fail) (hdead := by (repeat (first | exact trivial | refine ⟨rfl, ?_⟩ | fail)) <;> fail); refine k_64 (γ := 102) ?_; refine k_48 ?_
    refine k_d ?_; refine awp_seq ?_; refine k_s ?_; refine k_0 ?_; refine k_46 ?_; refine k_31 ?_; refine k_34 ?_; refine k_8 ?_; refine k_d ?_; refine k_ct ?_; refine k_s ?_; refine k_79 ?_; refine k_0 ?_; refine k_46 ?_; refine k_31 ?_; refine k_34 ?_; refine k_48 ?_; refine k_4 ?_; refine k_4 ?_; refine k_e ?_
    exact awp_ret ⟨_, le_box 100 (cs := [ai 0, ai 0, ai 0, .d (.v (.string (baOf []))), ani]) (cs' := [ai 0, ai 0, ai 0, .d (.v (.string (baOf []))), .d (.sl 5 [])]) rfl ⟨AVal.le_refl _, AVal.le_refl _, AVal.le_refl _, AVal.le_refl _, AVal.le_nil 5, trivial⟩ rfl, ⟨⟨100, 0, _, rfl, rfl, .inr ⟨5, _, rfl, rfl, rfl, rfl⟩⟩, rfl, rfl, trivial⟩, subL_nil _⟩
end Go.Fw

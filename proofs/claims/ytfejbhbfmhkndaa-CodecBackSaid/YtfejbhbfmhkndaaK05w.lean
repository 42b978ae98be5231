/- Reading values: value. -/
import Derived.Test.YtfejbhbfmhkndaaG3
import Derived.Test.YtfejbhbfmhkndaaK05v
import Derived.Test.YtfejbhbfmhkndaaG5
namespace Go.Fw
open Go Go.Proofs
set_option linter.unusedVariables false
set_option linter.unusedSimpArgs false
def ValueC (b : List UInt8) (a : Nat) (nest want : Int) (r : Val × Int × Int) : Prop :=
  Con Try.prog 41 [(0, oRd b a 0)] [.ptr 0 0, ai nest, ai want] [(0, oRd b r.2.1 r.2.2)] (aVal r.1)
def finG (c : Val × Int × Int) : Val × Int × Int := if c.2.2 = 0 ∧ validV 8 c.1 = false then (c.1, c.2.1, 2) else c
theorem cVals_snoc (l : List Val) (k n d : Int) (s : List UInt8) (q : List Val) : cVals l ++ [[.v (.int .i64 k), .v (.int .i64 n), .v (.int .i64 d), .v (.string (baOf s)), .sl 5 (cVals q)]] = cVals (l ++ [.mk k n d s q]) := by
  rw [cVals_map l, cVals_map (l ++ _), List.map_append, List.map_cons, List.map_nil, cVal]
theorem kind_bad {b : List UInt8} {a m : Nat} {want : Int} (h : (kindS b a m want).2.2 ≠ 0) (gl gp : Nat → Int → Val × Int × Int) : valG gl gp m b a want = (zV, (kindS b a m want).2.1, (kindS b a m want).2.2) := by
  unfold kindS at *
  unfold valG
  by_cases ha : a = b.length
  · rw [if_pos ha] at *; rw [if_pos (by omega)]
  · rw [if_neg ha] at *
    rw [if_neg (by omega), Int.toNat_natCast]
    simp only at *
    split
    · rfl
    · rename_i h2; rw [if_neg h2] at h; simp at h
theorem kind_good {b : List UInt8} {a m : Nat} {want : Int} (ha : a ≤ b.length) (h : (kindS b a m want).2.2 = 0) :
    ∃ k : Nat, kindS b a m want = ((k : Int), (a : Int) + 1, 0) ∧ a < b.length ∧ k ≤ 8 ∧ (k = 8 → m ≠ 0) ∧ (want ≠ 0 → (k : Int) = want) ∧ ∀ gl gp, valG gl gp m b a want = finG (contentG gl gp b (a + 1) k) := by
  unfold kindS at *
  by_cases ha' : a = b.length
  · rw [if_pos ha'] at h; simp at h
  rw [if_neg ha'] at *
  simp only at *
  split at h
  · simp at h
  rename_i h2
  refine ⟨_, by rw [if_neg h2], by omega, by omega, fun h3 h4 => h2 (.inr (.inl ⟨by omega, h4⟩)), fun h3 => Classical.byContradiction fun h4 => h2 (.inr (.inr ⟨h3, h4⟩)), fun gl gp => ?_⟩
  unfold valG
  rw [if_neg (by omega), Int.toNat_natCast]
  simp only
  rw [if_neg h2]
  rfl
set_option maxHeartbeats 16000000 in
theorem value_k8 (b : List UInt8) (m a : Nat) (want : Int) (gl gp : Nat → Int → Val × Int × Int) (R : Val × Int × Int) (hm : m ≤ 8) (ha : a < b.length) (hb : b.length ≤ 281474976710656)
    (hge : ∀ i q : Nat, q ≤ b.length → endOk b (gl i q).2) (hg : ∀ i q : Nat, q ≤ b.length → ValueC b q (8 - m + 1) 0 (gl i q))
    (hk : Con Try.prog 54 [(0, oRd b a 0)] [.ptr 0 0, ai (8 - m), ai want] [(0, oRd b ((a : Int) + 1) 0)] (ai 8)) (hG : R = finG (contentG gl gp b (a + 1) 8)) : ValueC b a (8 - m) want R := by
  refine con_of (xs := [aVal R.1]) Try.func41 rfl Try.ntmps41 rfl rfl rfl (fun E => ?_)
  · have hc := count8_con b (a + 1) 0 hb
    have hcz : contentG gl gp b (a + 1) 8 = if countE 8 (uintS b (a + 1)) ≠ 0 then (.mk 8 0 0 [] [], (uintS b (a + 1)).2.1, countE 8 (uintS b (a + 1))) else
        (.mk 8 0 0 [] (loopP gl (uintS b (a + 1)).2.1 (uintS b (a + 1)).1.toNat).1, (loopP gl (uintS b (a + 1)).2.1 (uintS b (a + 1)).1.toNat).2.1, (loopP gl (uintS b (a + 1)).2.1 (uintS b (a + 1)).1.toNat).2.2) := by
      simp only [contentG, countE]
      by_cases e1 : (uintS b (a + 1)).2.2 = 0
      · by_cases e2 : countBad 8 (uintS b (a + 1)).1 = true <;> simp [e1, e2]
      · simp [e1]
    have hue := uint_end b (a + 1)
    obtain ⟨N, hN⟩ := uint_nat b (a + 1)
    have hNb : countE 8 (uintS b (a + 1)) = 0 → (uintS b (a + 1)).2.2 = 0 ∧ N ≤ 64 := by
      unfold countE
      rw [hN]
      split
      · intro h; contradiction
      · rename_i h1
        split
        · intro h; simp at h
        · rename_i h2
          refine fun _ => ⟨Classical.not_not.1 h1, ?_⟩
          simp [countBad] at h2
          omega
    generalize countE 8 (uintS b (a + 1)) = ce at *
    generalize uintS b (a + 1) = u at *
    obtain ⟨n, a2, e2⟩ := u
    simp only at hN
    subst hN
    simp only [Int.toNat_natCast] at hc hcz hue hNb
    by_cases hce : ce = 0
    case neg =>
      rw [if_pos hce] at hcz
      rw [hcz] at hG
      obtain rfl : R = (.mk 8 0 0 [] [], a2, ce) := by rw [hG]; simp [finG, hce]
      refine k_s ?_; refine k_64 (γ := 100) ?_; refine k_d ?_; refine k_s ?_; refine k_0 ?_; refine k_0 ?_; refine k_0 ?_; refine k_56 (hcon := hk) ?_ (hle := by refine ⟨(by exact AVal.le_refl _), ?_⟩; refine ⟨(by exact AVal.le_refl _), ?_⟩; refine ⟨(by exact AVal.le_refl _), ?_⟩; exact trivial) (hLi := by (repeat (first | exact trivial | refine ⟨rfl, ?_⟩ | fail)) <;> fail) (hnew := by (repeat (first | exact trivial | refine ⟨rfl, ?_⟩ | fail)) <;> fail) (hdead := by (repeat (first | exact trivial | refine ⟨rfl, ?_⟩ | fail)) <;> fail); refine k_79 ?_; refine k_64 (γ := 101) ?_; refine k_48 ?_; refine k_d ?_; refine awp_seq ?_; refine k_s ?_; refine k_0 ?_; refine k_46 ?_; refine k_31 ?_; refine k_34 ?_; refine k_8 ?_; refine k_d ?_; refine k_rf ?_; refine awp_skip ?_; refine awp_seq ?_; refine k_s ?_; refine k_31 ?_; refine k_34 ?_; refine k_d ?_; refine awp_block ?_; refine awp_seq ?_; refine awp_seq ?_
      refine k_r ?_; refine k_7 ?_; refine k_4 ?_; refine k_d ?_; refine k_rf ?_; refine k_s ?_; refine k_7 ?_; refine k_4 ?_; refine k_d ?_; refine k_rf ?_; refine k_s ?_; refine k_7 ?_; refine k_4 ?_; refine k_d ?_; refine k_rf ?_; refine k_r ?_; refine k_7 ?_; refine k_4 ?_; refine k_d ?_; refine k_rf ?_; refine k_s ?_; refine k_7 ?_; refine k_4 ?_; refine k_d ?_; refine k_rf ?_; refine k_s ?_; refine k_7 ?_; refine k_4 ?_; refine k_d ?_; refine k_rf ?_; refine k_s ?_; refine k_7 ?_; refine k_4 ?_; refine k_d ?_; refine k_rt ?_; refine k_s ?_; refine k_0 ?_; refine k_56 (hcon := hc) ?_ (hle := by refine ⟨(by exact AVal.le_refl _), ?_⟩; refine ⟨(by exact AVal.le_refl _), ?_⟩; refine ⟨(by exact AVal.le_refl _), ?_⟩; exact trivial) (hLi := by (repeat (first | exact trivial | refine ⟨rfl, ?_⟩ | fail)) <;> fail) (hnew := by (repeat (first | exact trivial | refine ⟨rfl, ?_⟩ | fail)) <;> fail) (hdead := by (repeat (first | exact trivial | refine ⟨rfl, ?_⟩ | fail)) <;> fail)
      refine k_4 ?_; refine k_d ?_; refine k_s ?_; refine k_4 ?_; refine k_d ?_; refine awp_block ?_
      refine awp_loopI (fun _ : Unit => True) (fun _ => ⟨135, [(0, .ptr 0 0), (1, ai (8 - m)), (2, ai want), (6, .ptr 100 0), (7, .ptr 101 0), (11, ai N), (12, ai 0)], [(0, oRd b a2 ce), (100, .box [ai 0, ai 0, ai 0, .d (.v (.string (baOf []))), ani]), (101, .box [ai 8, ai 0, ai 0, .d (.v (.string (baOf []))), ani])]⟩) (fun _ => 0) () trivial
        (le_mk rfl ⟨(by (first | ((exact AVal.le_refl _)) | ((exact AVal.le_nil _)) | ((refine AVal.le_agg ?_; ((repeat (first | exact trivial | refine ⟨(by (first | ((exact AVal.le_refl _)) | ((exact AVal.le_nil _)) | ((refine AVal.le_of_eq ?_; (conv => lhs; whnf); (first | ((rfl)) | ((simp <;> fail)) | fail))) | fail)), ?_⟩ | fail)) <;> fail))) | ((refine AVal.le_of_eq ?_; (conv => lhs; whnf); (first | ((rfl)) | ((simp <;> fail)) | fail))) | fail)), (by (first | ((exact AVal.le_refl _)) | ((exact AVal.le_nil _)) | ((refine AVal.le_agg ?_; ((repeat (first | exact trivial | refine ⟨(by (first | ((exact AVal.le_refl _)) | ((exact AVal.le_nil _)) | ((refine AVal.le_of_eq ?_; (conv => lhs; whnf); (first | ((rfl)) | ((simp <;> fail)) | fail))) | fail)), ?_⟩ | fail)) <;> fail))) | ((refine AVal.le_of_eq ?_; (conv => lhs; whnf); (first | ((rfl)) | ((simp <;> fail)) | fail))) | fail)), (by (first | ((exact AVal.le_refl _)) | ((exact AVal.le_nil _)) | ((refine AVal.le_agg ?_; ((repeat (first | exact trivial | refine ⟨(by (first | ((exact AVal.le_refl _)) | ((exact AVal.le_nil _)) | ((refine AVal.le_of_eq ?_; (conv => lhs; whnf); (first | ((rfl)) | ((simp <;> fail)) | fail))) | fail)), ?_⟩ | fail)) <;> fail))) | ((refine AVal.le_of_eq ?_; (conv => lhs; whnf); (first | ((rfl)) | ((simp <;> fail)) | fail))) | fail)), (by (first | ((exact AVal.le_refl _)) | ((exact AVal.le_nil _)) | ((refine AVal.le_agg ?_; ((repeat (first | exact trivial | refine ⟨(by (first | ((exact AVal.le_refl _)) | ((exact AVal.le_nil _)) | ((refine AVal.le_of_eq ?_; (conv => lhs; whnf); (first | ((rfl)) | ((simp <;> fail)) | fail))) | fail)), ?_⟩ | fail)) <;> fail))) | ((refine AVal.le_of_eq ?_; (conv => lhs; whnf); (first | ((rfl)) | ((simp <;> fail)) | fail))) | fail)), (by (first | ((exact AVal.le_refl _)) | ((exact AVal.le_nil _)) | ((refine AVal.le_agg ?_; ((repeat (first | exact trivial | refine ⟨(by (first | ((exact AVal.le_refl _)) | ((exact AVal.le_nil _)) | ((refine AVal.le_of_eq ?_; (conv => lhs; whnf); (first | ((rfl)) | ((simp <;> fail)) | fail))) | fail)), ?_⟩ | fail)) <;> fail))) | ((refine AVal.le_of_eq ?_; (conv => lhs; whnf); (first | ((rfl)) | ((simp <;> fail)) | fail))) | fail)), (by (first | ((exact AVal.le_refl _)) | ((exact AVal.le_nil _)) | ((refine AVal.le_agg ?_; ((repeat (first | exact trivial | refine ⟨(by (first | ((exact AVal.le_refl _)) | ((exact AVal.le_nil _)) | ((refine AVal.le_of_eq ?_; (conv => lhs; whnf); (first | ((rfl)) | ((simp <;> fail)) | fail))) | fail)), ?_⟩ | fail)) <;> fail))) | ((refine AVal.le_of_eq ?_; (conv => lhs; whnf); (first | ((rfl)) | ((simp <;> fail)) | fail))) | fail)), (by (first | ((exact AVal.le_refl _)) | ((exact AVal.le_nil _)) | ((refine AVal.le_agg ?_; ((repeat (first | exact trivial | refine ⟨(by (first | ((exact AVal.le_refl _)) | ((exact AVal.le_nil _)) | ((refine AVal.le_of_eq ?_; (conv => lhs; whnf); (first | ((rfl)) | ((simp <;> fail)) | fail))) | fail)), ?_⟩ | fail)) <;> fail))) | ((refine AVal.le_of_eq ?_; (conv => lhs; whnf); (first | ((rfl)) | ((simp <;> fail)) | fail))) | fail)), trivial⟩ ⟨rfl, rfl, rfl, trivial⟩) ?_
      intro _ _
      by_cases h0N : 0 < N
      · refine awp_seq ?_; refine k_s ?_; refine k_0 ?_; refine k_0 ?_; refine k_9 ?_; refine k_0 ?_; refine k_1 ?_; refine k_47 ?_; refine k_33 ?_; refine k_36 ?_; refine k_20 ?_; refine k_49 ?_; refine k_d ?_; refine k_cf ?_; refine awp_exit ?_; refine awp_seq ?_; refine k_s ?_; refine k_0 ?_; refine k_46 ?_; refine k_31 ?_; refine k_34 ?_; refine k_7 ?_; refine k_0 ?_; refine k_5 ?_; refine k_5 ?_; refine k_5 ?_; refine k_39 ?_; refine k_d ?_; refine k_rf ?_; refine awp_skip ?_; refine k_s ?_; refine k_57 ?_; refine k_48 ?_; refine k_d ?_
        exact awp_ret ⟨_, le_box 100 (cs := [ai 8, ai 0, ai 0, .d (.v (.string (baOf []))), ani]) (cs' := [ai 8, ai 0, ai 0, .d (.v (.string (baOf []))), .d (.sl 5 [])]) rfl ⟨AVal.le_refl _, AVal.le_refl _, AVal.le_refl _, AVal.le_refl _, AVal.le_nil 5, trivial⟩ rfl, ⟨⟨100, 0, _, rfl, rfl, .inr ⟨5, _, rfl, rfl, rfl, rfl⟩⟩, trivial⟩, subL_of ⟨rfl, trivial⟩⟩
      · refine awp_seq ?_; refine k_s ?_; refine k_0 ?_; refine k_0 ?_; refine k_9 ?_; refine k_0 ?_; refine k_5 ?_; refine k_5 ?_; refine k_5 ?_; refine k_5 ?_; refine k_5 ?_; refine k_39 ?_; refine k_d ?_; refine k_rf ?_; refine awp_exit ?_; refine awp_seq ?_; refine k_s ?_; refine k_0 ?_; refine k_46 ?_; refine k_31 ?_; refine k_34 ?_; refine k_7 ?_; refine k_0 ?_; refine k_5 ?_; refine k_5 ?_; refine k_5 ?_; refine k_39 ?_; refine k_d ?_; refine k_rf ?_; refine awp_skip ?_; refine k_s ?_; refine k_57 ?_; refine k_48 ?_; refine k_d ?_
        exact awp_ret ⟨_, le_box 100 (cs := [ai 8, ai 0, ai 0, .d (.v (.string (baOf []))), ani]) (cs' := [ai 8, ai 0, ai 0, .d (.v (.string (baOf []))), .d (.sl 5 [])]) rfl ⟨AVal.le_refl _, AVal.le_refl _, AVal.le_refl _, AVal.le_refl _, AVal.le_nil 5, trivial⟩ rfl, ⟨⟨100, 0, _, rfl, rfl, .inr ⟨5, _, rfl, rfl, rfl, rfl⟩⟩, trivial⟩, subL_of ⟨rfl, trivial⟩⟩
    subst hce
    obtain ⟨he2, hN⟩ := hNb rfl
    subst he2
    rw [if_neg (by simp)] at hcz
    rw [hcz] at hG
    clear hcz
    have h00 := hue rfl
    simp only at h00
    clear hue
    refine k_s ?_; refine k_64 (γ := 100) ?_; refine k_d ?_; refine k_s ?_; refine k_0 ?_; refine k_0 ?_; refine k_0 ?_; refine k_56 (hcon := hk) ?_ (hle := by refine ⟨(by exact AVal.le_refl _), ?_⟩; refine ⟨(by exact AVal.le_refl _), ?_⟩; refine ⟨(by exact AVal.le_refl _), ?_⟩; exact trivial) (hLi := by (repeat (first | exact trivial | refine ⟨rfl, ?_⟩ | fail)) <;> fail) (hnew := by (repeat (first | exact trivial | refine ⟨rfl, ?_⟩ | fail)) <;> fail) (hdead := by (repeat (first | exact trivial | refine ⟨rfl, ?_⟩ | fail)) <;> fail); refine k_79 ?_; refine k_64 (γ := 101) ?_; refine k_48 ?_; refine k_d ?_; refine awp_seq ?_; refine k_s ?_; refine k_0 ?_; refine k_46 ?_; refine k_31 ?_; refine k_34 ?_; refine k_8 ?_; refine k_d ?_; refine k_rf ?_; refine awp_skip ?_; refine awp_seq ?_; refine k_s ?_; refine k_31 ?_; refine k_34 ?_; refine k_d ?_; refine awp_block ?_; refine awp_seq ?_; refine awp_seq ?_
    refine k_r ?_; refine k_7 ?_; refine k_4 ?_; refine k_d ?_; refine k_rf ?_; refine k_s ?_; refine k_7 ?_; refine k_4 ?_; refine k_d ?_; refine k_rf ?_; refine k_s ?_; refine k_7 ?_; refine k_4 ?_; refine k_d ?_; refine k_rf ?_; refine k_r ?_; refine k_7 ?_; refine k_4 ?_; refine k_d ?_; refine k_rf ?_; refine k_s ?_; refine k_7 ?_; refine k_4 ?_; refine k_d ?_; refine k_rf ?_; refine k_s ?_; refine k_7 ?_; refine k_4 ?_; refine k_d ?_; refine k_rf ?_; refine k_s ?_; refine k_7 ?_; refine k_4 ?_; refine k_d ?_; refine k_rt ?_; refine k_s ?_; refine k_0 ?_; refine k_56 (hcon := hc) ?_ (hle := by refine ⟨(by exact AVal.le_refl _), ?_⟩; refine ⟨(by exact AVal.le_refl _), ?_⟩; refine ⟨(by exact AVal.le_refl _), ?_⟩; exact trivial) (hLi := by (repeat (first | exact trivial | refine ⟨rfl, ?_⟩ | fail)) <;> fail) (hnew := by (repeat (first | exact trivial | refine ⟨rfl, ?_⟩ | fail)) <;> fail) (hdead := by (repeat (first | exact trivial | refine ⟨rfl, ?_⟩ | fail)) <;> fail)
    refine k_4 ?_; refine k_d ?_; refine k_s ?_; refine k_4 ?_; refine k_d ?_; refine awp_block ?_
    refine awp_le (le_adopt_box 101 4 121 5 (cs := [ai 8, ai 0, ai 0, .d (.v (.string (baOf []))), ani]) rfl rfl rfl rfl rfl) ?_
    refine awp_loopI (fun i : Nat => i ≤ N ∧ (loopP gl a2 i).1.length = i) (fun i => ⟨135, [(0, .ptr 0 0), (1, ai (8 - m)), (2, ai want), (6, .ptr 100 0), (7, .ptr 101 0), (11, ai N), (12, ai i)], [(0, oRd b (loopP gl a2 i).2.1 (loopP gl a2 i).2.2), (100, .box [ai 0, ai 0, ai 0, .d (.v (.string (baOf []))), ani]), (101, .box [ai 8, ai 0, ai 0, .d (.v (.string (baOf []))), .own 121 (loopP gl a2 i).1.length]), (121, .row 5 (cVals (loopP gl a2 i).1))]⟩) (fun i => N - i) 0 ⟨by omega, rfl⟩
      (le_mk rfl ⟨(by (first | ((exact AVal.le_refl _)) | ((exact AVal.le_nil _)) | ((refine AVal.le_agg ?_; ((repeat (first | exact trivial | refine ⟨(by (first | ((exact AVal.le_refl _)) | ((exact AVal.le_nil _)) | ((refine AVal.le_of_eq ?_; (conv => lhs; whnf); (first | ((rfl)) | ((simp <;> fail)) | fail))) | fail)), ?_⟩ | fail)) <;> fail))) | ((refine AVal.le_of_eq ?_; (conv => lhs; whnf); (first | ((rfl)) | ((simp <;> fail)) | fail))) | fail)), (by (first | ((exact AVal.le_refl _)) | ((exact AVal.le_nil _)) | ((refine AVal.le_agg ?_; ((repeat (first | exact trivial | refine ⟨(by (first | ((exact AVal.le_refl _)) | ((exact AVal.le_nil _)) | ((refine AVal.le_of_eq ?_; (conv => lhs; whnf); (first | ((rfl)) | ((simp <;> fail)) | fail))) | fail)), ?_⟩ | fail)) <;> fail))) | ((refine AVal.le_of_eq ?_; (conv => lhs; whnf); (first | ((rfl)) | ((simp <;> fail)) | fail))) | fail)), (by (first | ((exact AVal.le_refl _)) | ((exact AVal.le_nil _)) | ((refine AVal.le_agg ?_; ((repeat (first | exact trivial | refine ⟨(by (first | ((exact AVal.le_refl _)) | ((exact AVal.le_nil _)) | ((refine AVal.le_of_eq ?_; (conv => lhs; whnf); (first | ((rfl)) | ((simp <;> fail)) | fail))) | fail)), ?_⟩ | fail)) <;> fail))) | ((refine AVal.le_of_eq ?_; (conv => lhs; whnf); (first | ((rfl)) | ((simp <;> fail)) | fail))) | fail)), (by (first | ((exact AVal.le_refl _)) | ((exact AVal.le_nil _)) | ((refine AVal.le_agg ?_; ((repeat (first | exact trivial | refine ⟨(by (first | ((exact AVal.le_refl _)) | ((exact AVal.le_nil _)) | ((refine AVal.le_of_eq ?_; (conv => lhs; whnf); (first | ((rfl)) | ((simp <;> fail)) | fail))) | fail)), ?_⟩ | fail)) <;> fail))) | ((refine AVal.le_of_eq ?_; (conv => lhs; whnf); (first | ((rfl)) | ((simp <;> fail)) | fail))) | fail)), (by (first | ((exact AVal.le_refl _)) | ((exact AVal.le_nil _)) | ((refine AVal.le_agg ?_; ((repeat (first | exact trivial | refine ⟨(by (first | ((exact AVal.le_refl _)) | ((exact AVal.le_nil _)) | ((refine AVal.le_of_eq ?_; (conv => lhs; whnf); (first | ((rfl)) | ((simp <;> fail)) | fail))) | fail)), ?_⟩ | fail)) <;> fail))) | ((refine AVal.le_of_eq ?_; (conv => lhs; whnf); (first | ((rfl)) | ((simp <;> fail)) | fail))) | fail)), (by (first | ((exact AVal.le_refl _)) | ((exact AVal.le_nil _)) | ((refine AVal.le_agg ?_; ((repeat (first | exact trivial | refine ⟨(by (first | ((exact AVal.le_refl _)) | ((exact AVal.le_nil _)) | ((refine AVal.le_of_eq ?_; (conv => lhs; whnf); (first | ((rfl)) | ((simp <;> fail)) | fail))) | fail)), ?_⟩ | fail)) <;> fail))) | ((refine AVal.le_of_eq ?_; (conv => lhs; whnf); (first | ((rfl)) | ((simp <;> fail)) | fail))) | fail)), (by (first | ((exact AVal.le_refl _)) | ((exact AVal.le_nil _)) | ((refine AVal.le_agg ?_; ((repeat (first | exact trivial | refine ⟨(by (first | ((exact AVal.le_refl _)) | ((exact AVal.le_nil _)) | ((refine AVal.le_of_eq ?_; (conv => lhs; whnf); (first | ((rfl)) | ((simp <;> fail)) | fail))) | fail)), ?_⟩ | fail)) <;> fail))) | ((refine AVal.le_of_eq ?_; (conv => lhs; whnf); (first | ((rfl)) | ((simp <;> fail)) | fail))) | fail)), trivial⟩ ⟨rfl, rfl, rfl, rfl, trivial⟩) ?_
    intro i hi
    obtain ⟨hi, hil⟩ := hi
    have hlen := cVals_len (loopP gl a2 i).1
    by_cases hpe : (loopP gl a2 i).2.2 = 0
    case neg =>
      have hst := loopP_stick hpe N hi
      rw [hst] at hG
      generalize loopP gl a2 i = p at *
      obtain ⟨l, pa, pe⟩ := p
      simp only at hpe hil hG hlen hst
      clear hst
      obtain rfl : R = (.mk 8 0 0 [] l, pa, pe) := by rw [hG]; simp [finG, hpe]
      refine awp_le (le_freeze 121 rfl) ?_
      refine awp_le (le_data_box 101 4 121 (cs := [ai 8, ai 0, ai 0, .d (.v (.string (baOf []))), .own 121 l.length]) (sz := 5) (xs := cVals l) rfl rfl rfl hlen.symm) ?_
      by_cases hiN : i < N
      · refine awp_seq ?_; refine k_s ?_; refine k_0 ?_; refine k_0 ?_; refine k_9 ?_; refine k_0 ?_; refine k_1 ?_; refine k_47 ?_; refine k_33 ?_; refine k_36 ?_; refine k_20 ?_; refine k_49 ?_; refine k_d ?_; refine k_cf ?_; refine awp_exit ?_; refine awp_seq ?_; refine k_s ?_; refine k_0 ?_; refine k_46 ?_; refine k_31 ?_; refine k_34 ?_; refine k_7 ?_; refine k_0 ?_; refine k_5 ?_; refine k_5 ?_; refine k_5 ?_; refine k_39 ?_; refine k_d ?_; refine k_rf ?_; refine awp_skip ?_; refine k_s ?_; refine k_57 ?_; refine k_48 ?_; refine k_d ?_
        exact awp_ret ⟨_, St.le_refl _, ⟨⟨100, 0, _, rfl, rfl, .inr ⟨5, _, rfl, rfl, rfl, rfl⟩⟩, trivial⟩, subL_of ⟨rfl, trivial⟩⟩
      · refine awp_seq ?_; refine k_s ?_; refine k_0 ?_; refine k_0 ?_; refine k_9 ?_; refine k_0 ?_; refine k_5 ?_; refine k_5 ?_; refine k_5 ?_; refine k_5 ?_; refine k_5 ?_; refine k_39 ?_; refine k_d ?_; refine k_rf ?_; refine awp_exit ?_; refine awp_seq ?_; refine k_s ?_; refine k_0 ?_; refine k_46 ?_; refine k_31 ?_; refine k_34 ?_; refine k_7 ?_; refine k_0 ?_; refine k_5 ?_; refine k_5 ?_; refine k_5 ?_; refine k_39 ?_; refine k_d ?_; refine k_rf ?_; refine awp_skip ?_; refine k_s ?_; refine k_57 ?_; refine k_48 ?_; refine k_d ?_
        exact awp_ret ⟨_, St.le_refl _, ⟨⟨100, 0, _, rfl, rfl, .inr ⟨5, _, rfl, rfl, rfl, rfl⟩⟩, trivial⟩, subL_of ⟨rfl, trivial⟩⟩
    by_cases hiN : i < N
    case neg =>
      obtain rfl : i = N := by omega
      generalize loopP gl a2 i = p at *
      obtain ⟨l, pa, pe⟩ := p
      simp only at hpe hil hG hlen
      subst hpe
      have hval := validTop_con (.mk 8 0 0 [] l)
      simp only [aVal] at hval
      refine awp_le (le_freeze 121 rfl) ?_
      refine awp_le (le_data_box 101 4 121 (cs := [ai 8, ai 0, ai 0, .d (.v (.string (baOf []))), .own 121 l.length]) (sz := 5) (xs := cVals l) rfl rfl rfl hlen.symm) ?_
      cases hv : validV 8 (.mk 8 0 0 [] l) with
      | false =>
        rw [hv] at hval
        obtain rfl : R = (.mk 8 0 0 [] l, pa, 2) := by rw [hG]; simp [finG, hv]
        refine awp_seq ?_; refine k_s ?_; refine k_0 ?_; refine k_0 ?_; refine k_9 ?_; refine k_0 ?_; refine k_5 ?_; refine k_5 ?_; refine k_5 ?_; refine k_5 ?_; refine k_5 ?_; refine k_39 ?_; refine k_d ?_; refine k_rf ?_; refine awp_exit ?_; refine awp_seq ?_; refine k_s ?_; refine k_0 ?_; refine k_46 ?_; refine k_31 ?_; refine k_34 ?_; refine k_7 ?_; refine k_0 ?_; refine k_58 ?_; refine k_56 (hcon := hval) ?_ (hle := by refine ⟨(by exact AVal.le_refl _), ?_⟩; exact trivial) (hLi := by (repeat (first | exact trivial | refine ⟨rfl, ?_⟩ | fail)) <;> fail) (hnew := by (repeat (first | exact trivial | refine ⟨rfl, ?_⟩ | fail)) <;> fail) (hdead := by (repeat (first | exact trivial | refine ⟨rfl, ?_⟩ | fail)) <;> fail) (hg := by exact ⟨rfl, rfl⟩); refine k_69 ?_; refine k_50 ?_; refine k_d ?_; refine k_rt ?_; refine k_r ?_; refine k_0 ?_; refine k_46 ?_; refine k_31 ?_; refine k_48 ?_; refine k_d ?_
        refine k_s ?_; refine k_57 ?_; refine k_48 ?_; refine k_d ?_
        exact awp_ret ⟨_, St.le_refl _, ⟨⟨100, 0, _, rfl, rfl, .inr ⟨5, _, rfl, rfl, rfl, rfl⟩⟩, trivial⟩, subL_of ⟨rfl, trivial⟩⟩
      | true =>
        rw [hv] at hval
        obtain rfl : R = (.mk 8 0 0 [] l, pa, 0) := by rw [hG]; simp [finG, hv]
        refine awp_seq ?_; refine k_s ?_; refine k_0 ?_; refine k_0 ?_; refine k_9 ?_; refine k_0 ?_; refine k_5 ?_; refine k_5 ?_; refine k_5 ?_; refine k_5 ?_; refine k_5 ?_; refine k_39 ?_; refine k_d ?_; refine k_rf ?_; refine awp_exit ?_; refine awp_seq ?_; refine k_s ?_; refine k_0 ?_; refine k_46 ?_; refine k_31 ?_; refine k_34 ?_; refine k_7 ?_; refine k_0 ?_; refine k_58 ?_; refine k_56 (hcon := hval) ?_ (hle := by refine ⟨(by exact AVal.le_refl _), ?_⟩; exact trivial) (hLi := by (repeat (first | exact trivial | refine ⟨rfl, ?_⟩ | fail)) <;> fail) (hnew := by (repeat (first | exact trivial | refine ⟨rfl, ?_⟩ | fail)) <;> fail) (hdead := by (repeat (first | exact trivial | refine ⟨rfl, ?_⟩ | fail)) <;> fail) (hg := by exact ⟨rfl, rfl⟩); refine k_69 ?_; refine k_50 ?_; refine k_d ?_; refine k_rf ?_; refine awp_skip ?_; refine k_s ?_; refine k_57 ?_; refine k_48 ?_; refine k_d ?_
        exact awp_ret ⟨_, St.le_refl _, ⟨⟨100, 0, _, rfl, rfl, .inr ⟨5, _, rfl, rfl, rfl, rfl⟩⟩, trivial⟩, subL_of ⟨rfl, trivial⟩⟩
    obtain ⟨q, hq1, hq2⟩ := loopP_end hge h00 i hpe
    have hcall := hg i q hq2
    unfold ValueC at hcall
    have hsucc := loopP_succ hpe
    have hsl := loopP_succ_len hpe
    rw [hq1] at hsucc
    generalize gl i q = r at hcall hsucc
    generalize loopP gl a2 i = p at *
    obtain ⟨l, pa, pe⟩ := p
    obtain ⟨x, xa, xe⟩ := r
    simp only at hq1 hpe hil hsucc hlen hcall
    subst hq1 hpe
    obtain ⟨xk, xn, xd, xs, xl⟩ := x
    simp only [aVal] at hcall
    skip
    refine awp_seq ?_; refine k_s ?_; refine k_0 ?_; refine k_0 ?_; refine k_9 ?_; refine k_0 ?_; refine k_1 ?_; refine k_47 ?_; refine k_33 ?_; refine k_36 ?_; refine k_20 ?_; refine k_49 ?_; refine k_d ?_; refine k_rt ?_; refine awp_skip ?_; refine awp_seq ?_; refine awp_block ?_; refine k_r ?_; refine k_31 ?_; refine k_34 ?_; refine k_0 ?_; refine k_0 ?_; refine k_14 ?_; refine k_56 (hcon := hcall) ?_ (hle := by refine ⟨(by exact AVal.le_refl _), ?_⟩; refine ⟨(by exact AVal.le_refl _), ?_⟩; refine ⟨(by exact AVal.le_refl _), ?_⟩; exact trivial) (hLi := by (repeat (first | exact trivial | refine ⟨rfl, ?_⟩ | fail)) <;> fail) (hnew := by (repeat (first | exact trivial | refine ⟨rfl, ?_⟩ | fail)) <;> fail) (hdead := by (repeat (first | exact trivial | refine ⟨rfl, ?_⟩ | fail)) <;> fail); refine k_82 ?_; refine k_80 ?_ (hn := by simp only [List.length_map, List.length_take, List.length_drop, List.length_append, List.length_cons, List.length_nil, List.length_replicate, List.length_set] <;> omega)
    refine k_31 ?_; refine k_48 ?_; refine k_e ?_; refine k_r ?_; refine k_0 ?_; refine k_14 ?_; refine k_4 ?_; refine k_d ?_
    refine ⟨i + 1, ⟨by omega, hsl⟩, by omega, ?_⟩
    dsimp only
    rw [hsucc]
    refine le_mk rfl ⟨(by (first | ((exact AVal.le_refl _)) | ((exact AVal.le_nil _)) | ((refine AVal.le_agg ?_; ((repeat (first | exact trivial | refine ⟨(by (first | ((exact AVal.le_refl _)) | ((exact AVal.le_nil _)) | ((refine AVal.le_of_eq ?_; (conv => lhs; whnf); (first | ((rfl)) | ((simp <;> fail)) | fail))) | fail)), ?_⟩ | fail)) <;> fail))) | ((refine AVal.le_of_eq ?_; (conv => lhs; whnf); (first | ((rfl)) | ((simp <;> fail)) | fail))) | fail)), (by (first | ((exact AVal.le_refl _)) | ((exact AVal.le_nil _)) | ((refine AVal.le_agg ?_; ((repeat (first | exact trivial | refine ⟨(by (first | ((exact AVal.le_refl _)) | ((exact AVal.le_nil _)) | ((refine AVal.le_of_eq ?_; (conv => lhs; whnf); (first | ((rfl)) | ((simp <;> fail)) | fail))) | fail)), ?_⟩ | fail)) <;> fail))) | ((refine AVal.le_of_eq ?_; (conv => lhs; whnf); (first | ((rfl)) | ((simp <;> fail)) | fail))) | fail)), (by (first | ((exact AVal.le_refl _)) | ((exact AVal.le_nil _)) | ((refine AVal.le_agg ?_; ((repeat (first | exact trivial | refine ⟨(by (first | ((exact AVal.le_refl _)) | ((exact AVal.le_nil _)) | ((refine AVal.le_of_eq ?_; (conv => lhs; whnf); (first | ((rfl)) | ((simp <;> fail)) | fail))) | fail)), ?_⟩ | fail)) <;> fail))) | ((refine AVal.le_of_eq ?_; (conv => lhs; whnf); (first | ((rfl)) | ((simp <;> fail)) | fail))) | fail)), (by (first | ((exact AVal.le_refl _)) | ((exact AVal.le_nil _)) | ((refine AVal.le_agg ?_; ((repeat (first | exact trivial | refine ⟨(by (first | ((exact AVal.le_refl _)) | ((exact AVal.le_nil _)) | ((refine AVal.le_of_eq ?_; (conv => lhs; whnf); (first | ((rfl)) | ((simp <;> fail)) | fail))) | fail)), ?_⟩ | fail)) <;> fail))) | ((refine AVal.le_of_eq ?_; (conv => lhs; whnf); (first | ((rfl)) | ((simp <;> fail)) | fail))) | fail)), (by (first | ((exact AVal.le_refl _)) | ((exact AVal.le_nil _)) | ((refine AVal.le_agg ?_; ((repeat (first | exact trivial | refine ⟨(by (first | ((exact AVal.le_refl _)) | ((exact AVal.le_nil _)) | ((refine AVal.le_of_eq ?_; (conv => lhs; whnf); (first | ((rfl)) | ((simp <;> fail)) | fail))) | fail)), ?_⟩ | fail)) <;> fail))) | ((refine AVal.le_of_eq ?_; (conv => lhs; whnf); (first | ((rfl)) | ((simp <;> fail)) | fail))) | fail)), (by (first | ((exact AVal.le_refl _)) | ((exact AVal.le_nil _)) | ((refine AVal.le_agg ?_; ((repeat (first | exact trivial | refine ⟨(by (first | ((exact AVal.le_refl _)) | ((exact AVal.le_nil _)) | ((refine AVal.le_of_eq ?_; (conv => lhs; whnf); (first | ((rfl)) | ((simp <;> fail)) | fail))) | fail)), ?_⟩ | fail)) <;> fail))) | ((refine AVal.le_of_eq ?_; (conv => lhs; whnf); (first | ((rfl)) | ((simp <;> fail)) | fail))) | fail)), (by (first | ((exact AVal.le_refl _)) | ((exact AVal.le_nil _)) | ((refine AVal.le_agg ?_; ((repeat (first | exact trivial | refine ⟨(by (first | ((exact AVal.le_refl _)) | ((exact AVal.le_nil _)) | ((refine AVal.le_of_eq ?_; (conv => lhs; whnf); (first | ((rfl)) | ((simp <;> fail)) | fail))) | fail)), ?_⟩ | fail)) <;> fail))) | ((refine AVal.le_of_eq ?_; (conv => lhs; whnf); (first | ((rfl)) | ((simp <;> fail)) | fail))) | fail)), trivial⟩ ⟨rfl, rfl, ?_, ?_, trivial⟩
    · refine Eq.trans (b := AObj.box ([ai 8, ai 0, ai 0, .d (.v (.string (baOf []))), .own 121 _])) rfl ?_
      congr 6; simp [hlen]
    · exact congrArg (AObj.row 5) (cVals_snoc l xk xn xd xs xl)
end Go.Fw

/- Reading values by the reference: the elements of a list. -/
import Derived.Test.YtfejbhbfmhkndaaG3
import Derived.Test.YtfejbhbfmhkndaaK05w
import Derived.Test.YtfejbhbfmhkndaaG5
namespace Go.Fw
open Go Go.Proofs
set_option linter.unusedVariables false
set_option linter.unusedSimpArgs false
def NestC (b : List UInt8) (a : Nat) (lists path : Int) (r : Val × Int × Int) : Prop :=
  Con Try.prog 42 [] [.d (dBytes b), ai a, ai lists, ai path] [] (.tup [aVal r.1, ai r.2.1, ai r.2.2])
def ElemC (b : List UInt8) (a : Int) (k lists : Int) (r : Val × Int × Int) : Prop :=
  Con Try.prog 72 [] [.d (dBytes b), ai a, ai k, ai lists] [] (.tup [aVal r.1, ai r.2.1, ai r.2.2])
set_option maxHeartbeats 16000000 in
theorem relem_k8 (b : List UInt8) (m : Nat) (a : Int) (gl : Nat → Int → Val × Int × Int) (R : Val × Int × Int) (hm : m ≤ 8) (hb : b.length ≤ 65536)
    (hge : ∀ i q : Nat, q ≤ b.length → endOk b (gl i q).2) (hg : ∀ i q : Nat, q ≤ b.length → NestC b q (8 - m + 1) (-1) (fixE (gl i q))) (hG : R = elemsR gl b a 8) : ElemC b a 8 (8 - m) R := by
  refine con_of (xs := [aVal R.1, ai R.2.1, ai R.2.2]) Try.func72 rfl Try.ntmps72 rfl rfl rfl (fun E => ?_)
  have hc := ruint_con b a hb
  have hue := uint_end b a
  unfold elemsR at hG
  simp only at hG
  obtain ⟨N, hN⟩ := uint_nat b a
  generalize uintS b a = u at *
  obtain ⟨n, a2, e2⟩ := u
  simp only at hN
  subst hN
  simp only [Int.toNat_natCast] at hc hG hue
  by_cases he2 : e2 = 0
  case neg =>
    rw [if_pos he2] at hG
    subst hG
    refine k_s ?_; refine k_49 (γ := 100) ?_; refine k_4 ?_; refine k_4 ?_; refine k_d ?_; refine k_s ?_; refine k_0 ?_; refine k_63 ?_; refine k_49 (γ := 101) ?_; refine k_37 ?_; refine k_d ?_; refine k_s ?_; refine k_0 ?_; refine k_0 ?_; refine k_60 (hcon := hc) ?_ (hle := by refine ⟨(by exact AVal.le_refl _), ?_⟩; refine ⟨(by exact AVal.le_refl _), ?_⟩; exact trivial) (hLi := by (repeat (first | exact trivial | refine ⟨rfl, ?_⟩ | fail)) <;> fail) (hnew := by (repeat (first | exact trivial | refine ⟨rfl, ?_⟩ | fail)) <;> fail) (hdead := by (repeat (first | exact trivial | refine ⟨rfl, ?_⟩ | fail)) <;> fail); refine k_0 ?_; refine k_36 ?_; refine k_36 ?_; refine k_36 ?_; refine k_4 ?_; refine k_4 ?_; refine k_4 ?_; refine k_d ?_; refine awp_seq ?_; refine k_s ?_; refine k_0 ?_; refine k_6 ?_; refine k_d ?_; refine k_ct ?_; refine k_s ?_; refine k_47 ?_; refine k_0 ?_; refine k_37 ?_; refine k_4 ?_
    refine k_4 ?_; refine k_d ?_
    exact awp_ret ⟨_, le_box 100 (cs := [ai 8, ai 0, ai 0, .d (.v (.string (baOf []))), ani]) (cs' := [ai 8, ai 0, ai 0, .d (.v (.string (baOf []))), .d (.sl 5 [])]) rfl ⟨AVal.le_refl _, AVal.le_refl _, AVal.le_refl _, AVal.le_refl _, AVal.le_nil 5, trivial⟩ rfl, ⟨⟨100, 0, _, rfl, rfl, .inr ⟨5, _, rfl, rfl, rfl, rfl⟩⟩, rfl, rfl, trivial⟩, subL_nil _⟩
  subst he2
  rw [if_neg (by simp)] at hG
  have h00 := hue rfl
  simp only at h00
  clear hue
  by_cases hN : 64 < N
  · rw [if_pos (by simp [countBad]; omega)] at hG
    subst hG
    have hN' : (N : Int) > 64 := by omega
    refine k_s ?_; refine k_49 (γ := 100) ?_; refine k_4 ?_; refine k_4 ?_; refine k_d ?_; refine k_s ?_; refine k_0 ?_; refine k_63 ?_; refine k_49 (γ := 101) ?_; refine k_37 ?_; refine k_d ?_; refine k_s ?_; refine k_0 ?_; refine k_0 ?_; refine k_60 (hcon := hc) ?_ (hle := by refine ⟨(by exact AVal.le_refl _), ?_⟩; refine ⟨(by exact AVal.le_refl _), ?_⟩; exact trivial) (hLi := by (repeat (first | exact trivial | refine ⟨rfl, ?_⟩ | fail)) <;> fail) (hnew := by (repeat (first | exact trivial | refine ⟨rfl, ?_⟩ | fail)) <;> fail) (hdead := by (repeat (first | exact trivial | refine ⟨rfl, ?_⟩ | fail)) <;> fail); refine k_0 ?_; refine k_36 ?_; refine k_36 ?_; refine k_36 ?_; refine k_4 ?_; refine k_4 ?_; refine k_4 ?_; refine k_d ?_; refine awp_seq ?_; refine k_s ?_; refine k_0 ?_; refine k_6 ?_; refine k_d ?_; refine k_rf ?_; refine awp_skip ?_; refine awp_seq ?_; refine k_s ?_; refine k_0 ?_
    refine k_5 ?_; refine k_0 ?_; refine k_2 ?_; refine k_13 ?_; refine k_51 ?_; refine k_0 ?_; refine k_27 ?_; refine k_27 ?_; refine k_27 ?_; refine k_35 ?_; refine k_35 ?_; refine k_35 ?_; refine k_35 ?_; refine k_35 ?_; refine k_35 ?_; refine k_35 ?_; refine k_27 ?_; refine k_50 ?_; refine k_d ?_; refine k_rt ?_; refine k_s ?_; refine k_47 ?_; refine k_37 ?_; refine k_4 ?_; refine k_4 ?_; refine k_d ?_
    exact awp_ret ⟨_, le_box 100 (cs := [ai 8, ai 0, ai 0, .d (.v (.string (baOf []))), ani]) (cs' := [ai 8, ai 0, ai 0, .d (.v (.string (baOf []))), .d (.sl 5 [])]) rfl ⟨AVal.le_refl _, AVal.le_refl _, AVal.le_refl _, AVal.le_refl _, AVal.le_nil 5, trivial⟩ rfl, ⟨⟨100, 0, _, rfl, rfl, .inr ⟨5, _, rfl, rfl, rfl, rfl⟩⟩, rfl, rfl, trivial⟩, subL_nil _⟩
  rw [if_neg (by simp [countBad]; omega)] at hG
  have hN' : ¬ (N : Int) > 64 := by omega
  refine k_s ?_; refine k_49 (γ := 100) ?_; refine k_4 ?_; refine k_4 ?_; refine k_d ?_; refine k_s ?_; refine k_0 ?_; refine k_63 ?_; refine k_49 (γ := 101) ?_; refine k_37 ?_; refine k_d ?_; refine k_s ?_; refine k_0 ?_; refine k_0 ?_; refine k_60 (hcon := hc) ?_ (hle := by refine ⟨(by exact AVal.le_refl _), ?_⟩; refine ⟨(by exact AVal.le_refl _), ?_⟩; exact trivial) (hLi := by (repeat (first | exact trivial | refine ⟨rfl, ?_⟩ | fail)) <;> fail) (hnew := by (repeat (first | exact trivial | refine ⟨rfl, ?_⟩ | fail)) <;> fail) (hdead := by (repeat (first | exact trivial | refine ⟨rfl, ?_⟩ | fail)) <;> fail); refine k_0 ?_; refine k_36 ?_; refine k_36 ?_; refine k_36 ?_; refine k_4 ?_; refine k_4 ?_; refine k_4 ?_; refine k_d ?_; refine awp_seq ?_; refine k_s ?_; refine k_0 ?_; refine k_6 ?_; refine k_d ?_; refine k_rf ?_; refine awp_skip ?_; refine awp_seq ?_; refine k_s ?_; refine k_0 ?_
  refine k_5 ?_; refine k_0 ?_; refine k_2 ?_; refine k_13 ?_; refine k_51 ?_; refine k_0 ?_; refine k_1 ?_; refine k_15 ?_; refine k_1 ?_; refine k_28 ?_; refine k_28 ?_; refine k_28 ?_; refine k_35 ?_; refine k_35 ?_; refine k_35 ?_; refine k_28 ?_; refine k_40 ?_; refine k_38 ?_; refine k_d ?_; refine k_rf ?_; refine awp_skip ?_; refine awp_seq ?_; refine k_s ?_; refine k_4 ?_; refine k_d ?_; refine awp_block ?_
  refine awp_le (le_adopt_box 101 4 121 5 (cs := [ai 8, ai 0, ai 0, .d (.v (.string (baOf []))), ani]) rfl rfl rfl rfl rfl) ?_
  refine awp_loopI (fun i : Nat => i ≤ N ∧ (loopP gl a2 i).2.2 = 0 ∧ (loopP gl a2 i).1.length = i) (fun i => ⟨87, [(0, .d (dBytes b)), (2, ai 8), (3, ai (8 - m)), (8, .ptr 100 0), (11, .ptr 101 0), (12, ai N), (13, ai (loopP gl a2 i).2.1), (15, ai i)], [(100, .box [ai 0, ai 0, ai 0, .d (.v (.string (baOf []))), ani]), (101, .box [ai 8, ai 0, ai 0, .d (.v (.string (baOf []))), .own 121 (loopP gl a2 i).1.length]), (121, .row 5 (cVals (loopP gl a2 i).1))]⟩) (fun i => N - i) 0 ⟨by omega, rfl, rfl⟩
    (le_mk rfl ⟨(by (first | ((exact AVal.le_refl _)) | ((exact AVal.le_nil _)) | ((refine AVal.le_agg ?_; ((repeat (first | exact trivial | refine ⟨(by (first | ((exact AVal.le_refl _)) | ((exact AVal.le_nil _)) | ((refine AVal.le_of_eq ?_; (conv => lhs; whnf); (first | ((rfl)) | ((simp <;> fail)) | fail))) | fail)), ?_⟩ | fail)) <;> fail))) | ((refine AVal.le_of_eq ?_; (conv => lhs; whnf); (first | ((rfl)) | ((simp <;> fail)) | fail))) | fail)), (by (first | ((exact AVal.le_refl _)) | ((exact AVal.le_nil _)) | ((refine AVal.le_agg ?_; ((repeat (first | exact trivial | refine ⟨(by (first | ((exact AVal.le_refl _)) | ((exact AVal.le_nil _)) | ((refine AVal.le_of_eq ?_; (conv => lhs; whnf); (first | ((rfl)) | ((simp <;> fail)) | fail))) | fail)), ?_⟩ | fail)) <;> fail))) | ((refine AVal.le_of_eq ?_; (conv => lhs; whnf); (first | ((rfl)) | ((simp <;> fail)) | fail))) | fail)), (by (first | ((exact AVal.le_refl _)) | ((exact AVal.le_nil _)) | ((refine AVal.le_agg ?_; ((repeat (first | exact trivial | refine ⟨(by (first | ((exact AVal.le_refl _)) | ((exact AVal.le_nil _)) | ((refine AVal.le_of_eq ?_; (conv => lhs; whnf); (first | ((rfl)) | ((simp <;> fail)) | fail))) | fail)), ?_⟩ | fail)) <;> fail))) | ((refine AVal.le_of_eq ?_; (conv => lhs; whnf); (first | ((rfl)) | ((simp <;> fail)) | fail))) | fail)), (by (first | ((exact AVal.le_refl _)) | ((exact AVal.le_nil _)) | ((refine AVal.le_agg ?_; ((repeat (first | exact trivial | refine ⟨(by (first | ((exact AVal.le_refl _)) | ((exact AVal.le_nil _)) | ((refine AVal.le_of_eq ?_; (conv => lhs; whnf); (first | ((rfl)) | ((simp <;> fail)) | fail))) | fail)), ?_⟩ | fail)) <;> fail))) | ((refine AVal.le_of_eq ?_; (conv => lhs; whnf); (first | ((rfl)) | ((simp <;> fail)) | fail))) | fail)), (by (first | ((exact AVal.le_refl _)) | ((exact AVal.le_nil _)) | ((refine AVal.le_agg ?_; ((repeat (first | exact trivial | refine ⟨(by (first | ((exact AVal.le_refl _)) | ((exact AVal.le_nil _)) | ((refine AVal.le_of_eq ?_; (conv => lhs; whnf); (first | ((rfl)) | ((simp <;> fail)) | fail))) | fail)), ?_⟩ | fail)) <;> fail))) | ((refine AVal.le_of_eq ?_; (conv => lhs; whnf); (first | ((rfl)) | ((simp <;> fail)) | fail))) | fail)), (by (first | ((exact AVal.le_refl _)) | ((exact AVal.le_nil _)) | ((refine AVal.le_agg ?_; ((repeat (first | exact trivial | refine ⟨(by (first | ((exact AVal.le_refl _)) | ((exact AVal.le_nil _)) | ((refine AVal.le_of_eq ?_; (conv => lhs; whnf); (first | ((rfl)) | ((simp <;> fail)) | fail))) | fail)), ?_⟩ | fail)) <;> fail))) | ((refine AVal.le_of_eq ?_; (conv => lhs; whnf); (first | ((rfl)) | ((simp <;> fail)) | fail))) | fail)), (by (first | ((exact AVal.le_refl _)) | ((exact AVal.le_nil _)) | ((refine AVal.le_agg ?_; ((repeat (first | exact trivial | refine ⟨(by (first | ((exact AVal.le_refl _)) | ((exact AVal.le_nil _)) | ((refine AVal.le_of_eq ?_; (conv => lhs; whnf); (first | ((rfl)) | ((simp <;> fail)) | fail))) | fail)), ?_⟩ | fail)) <;> fail))) | ((refine AVal.le_of_eq ?_; (conv => lhs; whnf); (first | ((rfl)) | ((simp <;> fail)) | fail))) | fail)), (by (first | ((exact AVal.le_refl _)) | ((exact AVal.le_nil _)) | ((refine AVal.le_agg ?_; ((repeat (first | exact trivial | refine ⟨(by (first | ((exact AVal.le_refl _)) | ((exact AVal.le_nil _)) | ((refine AVal.le_of_eq ?_; (conv => lhs; whnf); (first | ((rfl)) | ((simp <;> fail)) | fail))) | fail)), ?_⟩ | fail)) <;> fail))) | ((refine AVal.le_of_eq ?_; (conv => lhs; whnf); (first | ((rfl)) | ((simp <;> fail)) | fail))) | fail)), trivial⟩ ⟨rfl, rfl, rfl, trivial⟩) ?_
  intro i hi
  obtain ⟨hi, hpe, hil⟩ := hi
  have hlen := cVals_len (loopP gl a2 i).1
  by_cases hiN : i < N
  case neg =>
    obtain rfl : i = N := by omega
    rw [if_neg (by simpa using hpe)] at hG
    generalize loopP gl a2 i = p at *
    obtain ⟨l, pa, pe⟩ := p
    simp only at hpe hil hG hlen
    subst hpe hG
    refine awp_le (le_freeze 121 rfl) ?_
    refine awp_le (le_data_box 101 4 121 (cs := [ai 8, ai 0, ai 0, .d (.v (.string (baOf []))), .own 121 l.length]) (sz := 5) (xs := cVals l) rfl rfl rfl hlen.symm) ?_
    refine awp_seq ?_; refine k_s ?_; refine k_0 ?_; refine k_0 ?_; refine k_7 ?_; refine k_d ?_; refine k_cf ?_; refine awp_exit ?_; refine k_s ?_; refine k_47 ?_; refine k_0 ?_; refine k_37 ?_; refine k_4 ?_; refine k_4 ?_; refine k_d ?_
    exact awp_ret ⟨_, St.le_refl _, ⟨⟨100, 0, _, rfl, rfl, .inr ⟨5, _, rfl, rfl, rfl, rfl⟩⟩, rfl, rfl, trivial⟩, subL_nil _⟩
  obtain ⟨q, hq1, hq2⟩ := loopP_end hge h00 i hpe
  have hcall := hg i q hq2
  unfold NestC at hcall
  have hsucc := loopP_succ hpe
  have hsl := loopP_succ_len hpe
  rw [hq1] at hsucc
  generalize gl i q = r at hcall hsucc
  by_cases hre : r.2.2 = 0
  case neg =>
    have hst := loopP_stick (g := gl) (a := a2) (k := i + 1) (by rw [hsucc]; exact hre) N (by omega)
    rw [hst, if_pos (by rw [hsucc]; exact hre), hsucc] at hG
    unfold fixE at hcall
    rw [if_pos hre] at hcall
    generalize loopP gl a2 i = p at *
    obtain ⟨l, pa, pe⟩ := p
    obtain ⟨x, xa, xe⟩ := r
    simp only [List.dropLast_concat] at hq1 hpe hil hG hlen hcall hre
    clear hsucc hst hsl
    subst hG hq1 hpe
    simp only [aVal, cVals] at hcall
    refine awp_le (le_freeze 121 rfl) ?_
    refine awp_le (le_data_box 101 4 121 (cs := [ai 8, ai 0, ai 0, .d (.v (.string (baOf []))), .own 121 l.length]) (sz := 5) (xs := cVals l) rfl rfl rfl hlen.symm) ?_
    refine awp_seq ?_; refine k_s ?_; refine k_0 ?_; refine k_0 ?_; refine k_7 ?_; refine k_d ?_; refine k_ct ?_; refine awp_skip ?_; refine awp_seq ?_; refine awp_block ?_; refine k_s ?_; refine k_4 ?_; refine k_d ?_; refine k_s ?_; refine k_0 ?_; refine k_12 ?_; refine k_4 ?_; refine k_d ?_; refine awp_seq ?_; refine k_s ?_; refine k_0 ?_; refine k_5 ?_; refine k_d ?_; refine k_rf ?_; refine awp_skip ?_; refine k_s ?_; refine k_0 ?_; refine k_0 ?_; refine k_0 ?_; refine k_0 ?_; refine k_60 (hcon := hcall) ?_ (hle := by refine ⟨(by exact AVal.le_refl _), ?_⟩; refine ⟨(by exact AVal.le_refl _), ?_⟩; refine ⟨(by exact AVal.le_refl _), ?_⟩; refine ⟨(by exact AVal.le_refl _), ?_⟩; exact trivial) (hLi := by (repeat (first | exact trivial | refine ⟨rfl, ?_⟩ | fail)) <;> fail) (hnew := by (repeat (first | exact trivial | refine ⟨rfl, ?_⟩ | fail)) <;> fail) (hdead := by (repeat (first | exact trivial | refine ⟨rfl, ?_⟩ | fail)) <;> fail)
    refine k_0 ?_; refine k_36 ?_; refine k_36 ?_; refine k_36 ?_; refine k_49 (γ := 102) ?_; refine k_37 ?_; refine k_4 ?_; refine k_4 ?_; refine k_d ?_; refine awp_seq ?_; refine k_s ?_; refine k_0 ?_; refine k_6 ?_; refine k_d ?_; refine k_ct ?_; refine k_s ?_; refine k_47 ?_; refine k_0 ?_; refine k_37 ?_; refine k_4 ?_; refine k_4 ?_; refine k_d ?_
    exact awp_ret ⟨_, St.le_refl _, ⟨⟨100, 0, _, rfl, rfl, .inr ⟨5, _, rfl, rfl, rfl, rfl⟩⟩, rfl, rfl, trivial⟩, subL_nil _⟩
  have hpe2 : (loopP gl a2 (i + 1)).2.2 = 0 := by rw [hsucc]; exact hre
  unfold fixE at hcall
  rw [if_neg (by simpa using hre)] at hcall
  generalize loopP gl a2 i = p at *
  obtain ⟨l, pa, pe⟩ := p
  obtain ⟨x, xa, xe⟩ := r
  simp only at hq1 hpe hil hsucc hlen hcall hre
  subst hq1 hpe hre
  obtain ⟨xk, xn, xd, xs, xl⟩ := x
  simp only [aVal] at hcall
  skip
  refine awp_seq ?_; refine k_s ?_; refine k_0 ?_; refine k_0 ?_; refine k_7 ?_; refine k_d ?_; refine k_ct ?_; refine awp_skip ?_; refine awp_seq ?_; refine awp_block ?_; refine k_s ?_; refine k_4 ?_; refine k_d ?_; refine k_s ?_; refine k_0 ?_; refine k_12 ?_; refine k_4 ?_; refine k_d ?_; refine awp_seq ?_; refine k_s ?_; refine k_0 ?_; refine k_5 ?_; refine k_d ?_; refine k_rf ?_; refine awp_skip ?_; refine k_s ?_; refine k_0 ?_; refine k_0 ?_; refine k_0 ?_; refine k_0 ?_; refine k_60 (hcon := hcall) ?_ (hle := by refine ⟨(by exact AVal.le_refl _), ?_⟩; refine ⟨(by exact AVal.le_refl _), ?_⟩; refine ⟨(by exact AVal.le_refl _), ?_⟩; refine ⟨(by exact AVal.le_refl _), ?_⟩; exact trivial) (hLi := by (repeat (first | exact trivial | refine ⟨rfl, ?_⟩ | fail)) <;> fail) (hnew := by (repeat (first | exact trivial | refine ⟨rfl, ?_⟩ | fail)) <;> fail) (hdead := by (repeat (first | exact trivial | refine ⟨rfl, ?_⟩ | fail)) <;> fail)
  refine k_0 ?_; refine k_36 ?_; refine k_36 ?_; refine k_36 ?_; refine k_49 (γ := 102) ?_; refine k_37 ?_; refine k_4 ?_; refine k_4 ?_; refine k_d ?_; refine awp_seq ?_; refine k_s ?_; refine k_0 ?_; refine k_6 ?_; refine k_d ?_; refine k_rf ?_; refine awp_skip ?_; refine k_s ?_; refine k_29 ?_; refine k_32 ?_; refine k_47 ?_; refine k_78 ?_; refine k_81 ?_; refine k_29 ?_; refine k_37 ?_; refine k_d ?_; refine k_r ?_; refine k_0 ?_; refine k_4 ?_; refine k_d ?_; refine k_r ?_; refine k_0 ?_; refine k_12 ?_; refine k_4 ?_; refine k_d ?_
  refine ⟨i + 1, ⟨by omega, hpe2, hsl⟩, by omega, ?_⟩
  dsimp only
  rw [hsucc]
  refine le_mk rfl ⟨(by (first | ((exact AVal.le_refl _)) | ((exact AVal.le_nil _)) | ((refine AVal.le_agg ?_; ((repeat (first | exact trivial | refine ⟨(by (first | ((exact AVal.le_refl _)) | ((exact AVal.le_nil _)) | ((refine AVal.le_of_eq ?_; (conv => lhs; whnf); (first | ((rfl)) | ((simp <;> fail)) | fail))) | fail)), ?_⟩ | fail)) <;> fail))) | ((refine AVal.le_of_eq ?_; (conv => lhs; whnf); (first | ((rfl)) | ((simp <;> fail)) | fail))) | fail)), (by (first | ((exact AVal.le_refl _)) | ((exact AVal.le_nil _)) | ((refine AVal.le_agg ?_; ((repeat (first | exact trivial | refine ⟨(by (first | ((exact AVal.le_refl _)) | ((exact AVal.le_nil _)) | ((refine AVal.le_of_eq ?_; (conv => lhs; whnf); (first | ((rfl)) | ((simp <;> fail)) | fail))) | fail)), ?_⟩ | fail)) <;> fail))) | ((refine AVal.le_of_eq ?_; (conv => lhs; whnf); (first | ((rfl)) | ((simp <;> fail)) | fail))) | fail)), (by (first | ((exact AVal.le_refl _)) | ((exact AVal.le_nil _)) | ((refine AVal.le_agg ?_; ((repeat (first | exact trivial | refine ⟨(by (first | ((exact AVal.le_refl _)) | ((exact AVal.le_nil _)) | ((refine AVal.le_of_eq ?_; (conv => lhs; whnf); (first | ((rfl)) | ((simp <;> fail)) | fail))) | fail)), ?_⟩ | fail)) <;> fail))) | ((refine AVal.le_of_eq ?_; (conv => lhs; whnf); (first | ((rfl)) | ((simp <;> fail)) | fail))) | fail)), (by (first | ((exact AVal.le_refl _)) | ((exact AVal.le_nil _)) | ((refine AVal.le_agg ?_; ((repeat (first | exact trivial | refine ⟨(by (first | ((exact AVal.le_refl _)) | ((exact AVal.le_nil _)) | ((refine AVal.le_of_eq ?_; (conv => lhs; whnf); (first | ((rfl)) | ((simp <;> fail)) | fail))) | fail)), ?_⟩ | fail)) <;> fail))) | ((refine AVal.le_of_eq ?_; (conv => lhs; whnf); (first | ((rfl)) | ((simp <;> fail)) | fail))) | fail)), (by (first | ((exact AVal.le_refl _)) | ((exact AVal.le_nil _)) | ((refine AVal.le_agg ?_; ((repeat (first | exact trivial | refine ⟨(by (first | ((exact AVal.le_refl _)) | ((exact AVal.le_nil _)) | ((refine AVal.le_of_eq ?_; (conv => lhs; whnf); (first | ((rfl)) | ((simp <;> fail)) | fail))) | fail)), ?_⟩ | fail)) <;> fail))) | ((refine AVal.le_of_eq ?_; (conv => lhs; whnf); (first | ((rfl)) | ((simp <;> fail)) | fail))) | fail)), (by (first | ((exact AVal.le_refl _)) | ((exact AVal.le_nil _)) | ((refine AVal.le_agg ?_; ((repeat (first | exact trivial | refine ⟨(by (first | ((exact AVal.le_refl _)) | ((exact AVal.le_nil _)) | ((refine AVal.le_of_eq ?_; (conv => lhs; whnf); (first | ((rfl)) | ((simp <;> fail)) | fail))) | fail)), ?_⟩ | fail)) <;> fail))) | ((refine AVal.le_of_eq ?_; (conv => lhs; whnf); (first | ((rfl)) | ((simp <;> fail)) | fail))) | fail)), (by (first | ((exact AVal.le_refl _)) | ((exact AVal.le_nil _)) | ((refine AVal.le_agg ?_; ((repeat (first | exact trivial | refine ⟨(by (first | ((exact AVal.le_refl _)) | ((exact AVal.le_nil _)) | ((refine AVal.le_of_eq ?_; (conv => lhs; whnf); (first | ((rfl)) | ((simp <;> fail)) | fail))) | fail)), ?_⟩ | fail)) <;> fail))) | ((refine AVal.le_of_eq ?_; (conv => lhs; whnf); (first | ((rfl)) | ((simp <;> fail)) | fail))) | fail)), (by (first | ((exact AVal.le_refl _)) | ((exact AVal.le_nil _)) | ((refine AVal.le_agg ?_; ((repeat (first | exact trivial | refine ⟨(by (first | ((exact AVal.le_refl _)) | ((exact AVal.le_nil _)) | ((refine AVal.le_of_eq ?_; (conv => lhs; whnf); (first | ((rfl)) | ((simp <;> fail)) | fail))) | fail)), ?_⟩ | fail)) <;> fail))) | ((refine AVal.le_of_eq ?_; (conv => lhs; whnf); (first | ((rfl)) | ((simp <;> fail)) | fail))) | fail)), trivial⟩ ⟨rfl, ?_, ?_, trivial⟩
  · refine Eq.trans (b := AObj.box ([ai 8, ai 0, ai 0, .d (.v (.string (baOf []))), .own 121 _])) rfl ?_
    congr 6; simp [hlen]
  · exact congrArg (AObj.row 5) (cVals_snoc l xk xn xd xs xl)
end Go.Fw

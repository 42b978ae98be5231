/- The worked examples of the chapter hold. -/
import Derived.Test.YtfejbhbfmhkndaaG3
import Derived.Test.YtfejbhbfmhkndaaL05a
import Derived.Test.YtfejbhbfmhkndaaK05h
import Derived.Test.YtfejbhbfmhkndaaK05t
namespace Go.Fw
open Go Go.Proofs
set_option linter.unusedVariables false
set_option linter.unusedSimpArgs false
theorem ex_u1 : uintS [172, 2] 0 = (300, 2, 0) := by rfl
theorem ex_u2 : uintS [128, 0] 0 = (0, 0, 2) := by rfl
theorem ex_v : valueS [8, 2, 0, 2, 1] 0 = (.mk 8 0 0 [] [.mk 0 0 0 [] [], .mk 2 (-1) 0 [] []], 5, 0) := by rfl
theorem ex_p1 : putUintS 300 = [172, 2] := by simp [putUintS, vS]
theorem ex_p2 : putIntS (-1) = [1] := by simp [putIntS, zig, vS]
theorem ex_p3 : putStrS [97, 98] = [2, 97, 98] := by simp [putStrS, putUintS, vS]
theorem ex_sum : sumS [49, 50, 51, 52, 53, 54, 55, 56, 57] = 3421780262 := by kernel_rfl
theorem ex_f : frameS [] = [0, 0, 0, 0, 0] := by simp [frameS, putUintS, vS, sumB, sumS, crcAll]
set_option maxHeartbeats 8000000 in
theorem alive_con : Con Try.prog 10 [] [] [] (ab true) := by
  refine con_of (xs := [ab true]) Try.func10 rfl Try.ntmps10 rfl rfl rfl (fun E => ?_)
  have hu1 := uint_con [172, 2] 0 (by decide)
  rw [ex_u1] at hu1
  have hu2 := uint_con [128, 0] 0 (by decide)
  rw [ex_u2] at hu2
  have hv := codecValue_con [8, 2, 0, 2, 1] (by decide) 0
  rw [ex_v] at hv
  simp only [aVal] at hv
  have hp1 := putUint_con 300 (by decide)
  rw [ex_p1] at hp1
  have hp2 := putInt_con (-1) (by decide)
  rw [ex_p2] at hp2
  have hp3 := putStr_con [97, 98] (by decide)
  rw [ex_p3] at hp3
  have hs := sum_con [49, 50, 51, 52, 53, 54, 55, 56, 57]
  rw [ex_sum] at hs
  have hf := frame_con [] (by decide)
  rw [ex_f] at hf
  refine k_s ?_; refine k_4 ?_; refine k_d ?_; refine k_s ?_; refine k_82 ?_; refine k_56 (hcon := hu1) ?_ (hle := by refine ⟨(by exact AVal.le_refl _), ?_⟩; refine ⟨(by exact AVal.le_refl _), ?_⟩; exact trivial) (hLi := by (repeat (first | exact trivial | refine ⟨rfl, ?_⟩ | fail)) <;> fail) (hnew := by (repeat (first | exact trivial | refine ⟨rfl, ?_⟩ | fail)) <;> fail) (hdead := by (repeat (first | exact trivial | refine ⟨rfl, ?_⟩ | fail)) <;> fail); refine k_0 ?_; refine k_37 ?_; refine k_37 ?_; refine k_37 ?_; refine k_4 ?_; refine k_4 ?_; refine k_4 ?_; refine k_d ?_; refine k_s ?_; refine k_82 ?_; refine k_56 (hcon := hu2) ?_ (hle := by refine ⟨(by exact AVal.le_refl _), ?_⟩; refine ⟨(by exact AVal.le_refl _), ?_⟩; exact trivial) (hLi := by (repeat (first | exact trivial | refine ⟨rfl, ?_⟩ | fail)) <;> fail) (hnew := by (repeat (first | exact trivial | refine ⟨rfl, ?_⟩ | fail)) <;> fail) (hdead := by (repeat (first | exact trivial | refine ⟨rfl, ?_⟩ | fail)) <;> fail)
  refine k_0 ?_; refine k_37 ?_; refine k_37 ?_; refine k_37 ?_; refine k_4 ?_; refine k_4 ?_; refine k_4 ?_; refine k_d ?_; refine k_s ?_; refine k_82 ?_; refine k_56 (hcon := hv) ?_ (hle := by refine ⟨(by exact AVal.le_refl _), ?_⟩; refine ⟨(by exact AVal.le_refl _), ?_⟩; exact trivial) (hLi := by (repeat (first | exact trivial | refine ⟨rfl, ?_⟩ | fail)) <;> fail) (hnew := by (repeat (first | exact trivial | refine ⟨rfl, ?_⟩ | fail)) <;> fail) (hdead := by (repeat (first | exact trivial | refine ⟨rfl, ?_⟩ | fail)) <;> fail); refine k_0 ?_; refine k_37 ?_; refine k_37 ?_; refine k_37 ?_; refine k_64 (γ := 100) ?_; refine k_48 ?_; refine k_4 ?_; refine k_4 ?_; refine k_d ?_; refine k_s ?_; refine k_56 (hcon := hf) ?_ (hle := by refine ⟨(by exact AVal.le_nil _), ?_⟩; exact trivial) (hLi := by (repeat (first | exact trivial | refine ⟨rfl, ?_⟩ | fail)) <;> fail) (hnew := by (repeat (first | exact trivial | refine ⟨rfl, ?_⟩ | fail)) <;> fail) (hdead := by (repeat (first | exact trivial | refine ⟨rfl, ?_⟩ | fail)) <;> fail)
  refine k_4 ?_; refine k_d ?_; refine k_s ?_; refine k_56 (hcon := hp1) ?_ (hle := by refine ⟨(by exact AVal.le_refl _), ?_⟩; exact trivial) (hLi := by (repeat (first | exact trivial | refine ⟨rfl, ?_⟩ | fail)) <;> fail) (hnew := by (repeat (first | exact trivial | refine ⟨rfl, ?_⟩ | fail)) <;> fail) (hdead := by (repeat (first | exact trivial | refine ⟨rfl, ?_⟩ | fail)) <;> fail); refine k_86 ?_; refine k_7 ?_ (hr := by exact rb_eqls); refine k_0 ?_; refine k_56 (hcon := hp2) ?_ (hle := by refine ⟨(by exact AVal.le_refl _), ?_⟩; exact trivial) (hLi := by (repeat (first | exact trivial | refine ⟨rfl, ?_⟩ | fail)) <;> fail) (hnew := by (repeat (first | exact trivial | refine ⟨rfl, ?_⟩ | fail)) <;> fail) (hdead := by (repeat (first | exact trivial | refine ⟨rfl, ?_⟩ | fail)) <;> fail) (hg := by exact ⟨rfl, rfl⟩); refine k_86 ?_ (hg := by exact ⟨rfl, rfl⟩); refine k_23 ?_; refine k_50 ?_; refine k_0 ?_
  refine k_56 (hcon := hp3) ?_ (hle := by refine ⟨(by exact AVal.le_refl _), ?_⟩; exact trivial) (hLi := by (repeat (first | exact trivial | refine ⟨rfl, ?_⟩ | fail)) <;> fail) (hnew := by (repeat (first | exact trivial | refine ⟨rfl, ?_⟩ | fail)) <;> fail) (hdead := by (repeat (first | exact trivial | refine ⟨rfl, ?_⟩ | fail)) <;> fail) (hg := by exact ⟨rfl, rfl⟩); refine k_86 ?_ (hg := by exact ⟨rfl, rfl⟩); refine k_23 ?_; refine k_50 ?_; refine k_0 ?_; refine k_2 ?_; refine k_10 ?_; refine k_50 ?_; refine k_0 ?_; refine k_2 ?_; refine k_10 ?_; refine k_50 ?_; refine k_0 ?_; refine k_2 ?_; refine k_10 ?_; refine k_50 ?_; refine k_0 ?_; refine k_2 ?_; refine k_10 ?_; refine k_50 ?_; refine k_0 ?_; refine k_2 ?_; refine k_10 ?_; refine k_50 ?_; refine k_0 ?_; refine k_2 ?_; refine k_10 ?_; refine k_50 ?_; refine k_0 ?_; refine k_32 ?_; refine k_35 ?_; refine k_10 ?_; refine k_50 ?_; refine k_0 ?_
  refine k_32 ?_; refine k_35 ?_; refine k_61 ?_; refine k_10 ?_; refine k_50 ?_; refine k_0 ?_; refine k_32 ?_; refine k_35 ?_; refine k_73 ?_ (hg := by exact ⟨rfl, rfl⟩); refine k_91 ?_ (hg := by exact ⟨rfl, rfl⟩); refine k_65 ?_ (hg := by exact ⟨rfl, rfl⟩); refine k_10 ?_; refine k_50 ?_; refine k_0 ?_; refine k_90 (γ := 105) ?_ (hg := by exact ⟨rfl, rfl⟩); refine k_111 ?_; refine k_56 (hcon := hs) ?_ (hle := by refine ⟨(by exact AVal.le_refl _), ?_⟩; exact trivial) (hLi := by (repeat (first | exact trivial | refine ⟨rfl, ?_⟩ | fail)) <;> fail) (hnew := by (repeat (first | exact trivial | refine ⟨rfl, ?_⟩ | fail)) <;> fail) (hdead := by (repeat (first | exact trivial | refine ⟨rfl, ?_⟩ | fail)) <;> fail) (hg := by exact ⟨rfl, rfl⟩); refine k_10 ?_; refine k_50 ?_; refine k_0 ?_; refine k_2 ?_; refine k_86 ?_ (hg := by exact ⟨rfl, rfl⟩); refine k_23 ?_; refine k_50 ?_; refine k_4 ?_; refine k_d ?_
  exact awp_ret ⟨_, St.le_refl _, ⟨rfl, trivial⟩, subL_nil _⟩
end Go.Fw

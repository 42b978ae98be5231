/- varint, the program's and the reference's. -/
import Derived.Test.YtfejbhbfmhkndaaG3
import Derived.Test.YtfejbhbfmhkndaaChecked
import Derived.Test.YtfejbhbfmhkndaaG4
import Derived.Test.YtfejbhbfmhkndaaG2
namespace Go.Fw
open Go Go.Proofs
set_option linter.unusedVariables false
set_option linter.unusedSimpArgs false
abbrev au64 (n : Nat) : AVal := .d (.v (.int .u64 n))
abbrev n8 (n : Nat) : Value := .int .u8 n
abbrev n32 (n : Nat) : Value := .int .u32 n
abbrev n64 (n : Nat) : Value := .int .u64 n
abbrev ni (n : Nat) : Value := .int .i64 n
theorem rc_to8 {src dst : TypeId} {k : IntKind} {a : Nat} (hs : (Try.prog.underlying src).isSome = true) (hd : isInt Try.prog dst .u8 = true) (w : World) : (convert src dst (.int k (a : Int))).run Try.prog w = .ok (n8 (a % 256)) w :=
  rc_mod hs hd rfl w
theorem or128 : ∀ m, m < 256 → m ||| 128 = m % 128 + 128 := by decide +kernel
theorem vS_len {n : Nat} (h : n < 18446744073709551616) : (vS n).length ≤ 10 := by
  obtain ⟨h1, h2, _⟩ := vS_canon n
  exact canon_len 10 h1 (by rw [h2]; exact Nat.lt_of_lt_of_le h (by decide)) (by omega)
theorem vS_big {n : Nat} (h : 128 ≤ n) : vS n = UInt8.ofNat (n % 128 + 128) :: vS (n / 128) := by rw [vS, if_neg (by omega)]
set_option maxHeartbeats 8000000 in
theorem varint_con (n : Nat) (hn : n < 18446744073709551616) : Con Try.prog 49 [] [ani, au64 n] [(130, .row 1 ((vS n).map cByte))] (.own 130 (vS n).length) := by
  refine con_of (xs := [.own 130 (vS n).length]) Try.func49 rfl Try.ntmps49 rfl rfl rfl (fun E => ?_)
  refine k_s ?_; refine k_4 ?_; refine k_d ?_; refine awp_seq ?_; refine awp_block ?_
  refine awp_le (le_adopt 0 130 1 rfl rfl rfl) ?_
  refine awp_loopI (ι := List UInt8 × Nat) (fun i => i.1 ++ vS i.2 = vS n ∧ i.2 ≤ n) (fun i => ⟨20, [(1, au64 i.2), (0, .own 130 i.1.length)], [(130, .row 1 (i.1.map cByte))]⟩) (fun i => i.2) ([], n) ⟨rfl, Nat.le_refl _⟩
    (le_mk rfl ⟨(by (first | ((exact AVal.le_refl _)) | ((exact AVal.le_nil _)) | ((refine AVal.le_agg ?_; ((repeat (first | exact trivial | refine ⟨(by (first | ((exact AVal.le_refl _)) | ((exact AVal.le_nil _)) | ((refine AVal.le_of_eq ?_; (conv => lhs; whnf); (first | ((rfl)) | ((simp <;> fail)) | fail))) | fail)), ?_⟩ | fail)) <;> fail))) | ((refine AVal.le_of_eq ?_; (conv => lhs; whnf); (first | ((rfl)) | ((simp <;> fail)) | fail))) | fail)), (by (first | ((exact AVal.le_refl _)) | ((exact AVal.le_nil _)) | ((refine AVal.le_agg ?_; ((repeat (first | exact trivial | refine ⟨(by (first | ((exact AVal.le_refl _)) | ((exact AVal.le_nil _)) | ((refine AVal.le_of_eq ?_; (conv => lhs; whnf); (first | ((rfl)) | ((simp <;> fail)) | fail))) | fail)), ?_⟩ | fail)) <;> fail))) | ((refine AVal.le_of_eq ?_; (conv => lhs; whnf); (first | ((rfl)) | ((simp <;> fail)) | fail))) | fail)), trivial⟩ ⟨rfl, trivial⟩) ?_
  rintro ⟨pre, m⟩ ⟨hpre, hm⟩
  simp only at hpre hm
  have hlen : pre.length ≤ 10 := by
    have h1 := congrArg List.length hpre
    have h2 := vS_len hn
    simp only [List.length_append] at h1; omega
  by_cases h : 128 ≤ m
  · have hv := vS_big h
    have e1 : n8 (m % 256 ||| 128) = n8 (UInt8.ofNat (m % 128 + 128)).toNat := by rw [or128 _ (by omega), toNat_ofNat8 (by omega)]; congr 2; omega
    have e2 : n64 (m / 2 ^ 7) = n64 (m / 128) := rfl
    refine awp_seq ?_; refine k_s ?_; refine k_0 ?_; refine k_15 ?_; refine k_d ?_; refine k_ct ?_; refine awp_skip ?_; refine awp_block ?_; refine k_s ?_; refine k_0 ?_; refine k_0 ?_; refine k_83 (u := n64 m) (r := n8 (m % 256)) ?_ (hr := by exact rc_to8 rfl rfl); refine k_74 (op := .or) (r' := _) (u := n8 (m % 256)) (v := n8 128) ?_ (hr' := by exact e1) (hr := by exact rb_or (by rw [cap_u8]; omega) (by rw [cap_u8]; omega)); refine k_82 ?_; refine k_80 ?_; refine k_4 ?_; refine k_d ?_; refine k_r ?_; refine k_0 ?_; refine k_74 (op := .shr) (r' := _) (u := n64 m) (v := n64 7) ?_ (hr' := by exact e2) (hr := by exact rb_shr (by decide)); refine k_4 ?_; refine k_d ?_
    refine ⟨(pre ++ [UInt8.ofNat (m % 128 + 128)], m / 128), ⟨by simp only; rw [← hpre, hv]; simp, by simp only; omega⟩, by simp only; omega, le_mk rfl ⟨(by (first | ((exact AVal.le_refl _)) | ((exact AVal.le_nil _)) | ((refine AVal.le_agg ?_; ((repeat (first | exact trivial | refine ⟨(by (first | ((exact AVal.le_refl _)) | ((exact AVal.le_nil _)) | ((refine AVal.le_of_eq ?_; (conv => lhs; whnf); (first | ((rfl)) | ((simp <;> fail)) | fail))) | fail)), ?_⟩ | fail)) <;> fail))) | ((refine AVal.le_of_eq ?_; (conv => lhs; whnf); (first | ((rfl)) | ((simp <;> fail)) | fail))) | fail)), (by refine AVal.le_of_eq ?_; refine Eq.trans (b := AVal.own 130 (_ + _)) rfl ?_; simp), trivial⟩ ⟨?_, trivial⟩⟩
    refine Eq.trans (b := AObj.row 1 (_ ++ [[.v (n8 _)]])) rfl ?_
    simp
  · have hv : vS m = [UInt8.ofNat m] := vS_small (by omega)
    have e3 : n8 (m % 256) = n8 (UInt8.ofNat m).toNat := by rw [toNat_ofNat8 (by omega)]; congr 2; omega
    refine awp_seq ?_; refine k_s ?_; refine k_0 ?_; refine k_15 ?_; refine k_d ?_; refine k_cf ?_; refine awp_exit ?_; refine k_s ?_; refine k_0 ?_; refine k_0 ?_; refine k_83 (u := n64 m) (r := n8 (UInt8.ofNat m).toNat) ?_ (hr := by exact by rw [← e3]; exact rc_to8 rfl rfl); refine k_82 ?_; refine k_80 ?_; refine k_4 ?_; refine k_d ?_
    refine awp_ret ⟨_, le_slot 4 (y := .own 130 (vS n).length) (AVal.le_of_eq ?_), ⟨rfl, trivial⟩, subL_of ⟨?_, trivial⟩⟩
    · refine Eq.trans (b := AVal.own 130 (_ + _)) rfl ?_
      rw [← hpre, hv]; simp
    · refine Eq.trans (b := AObj.row 1 (_ ++ [[.v (n8 _)]])) rfl ?_
      rw [← hpre, hv]; simp
set_option maxHeartbeats 8000000 in
theorem rvarint_con (n : Nat) (hn : n < 18446744073709551616) : Con Try.prog 50 [] [au64 n] [(130, .row 1 ((vS n).map cByte))] (.own 130 (vS n).length) := by
  refine con_of (xs := [.own 130 (vS n).length]) Try.func50 rfl Try.ntmps50 rfl rfl rfl (fun E => ?_)
  refine k_s ?_; refine k_4 ?_; refine k_d ?_; refine k_s ?_; refine k_4 ?_; refine k_d ?_; refine awp_seq ?_; refine awp_block ?_
  refine awp_le (le_adopt 3 130 1 rfl rfl rfl) ?_
  refine awp_loopI (ι := List UInt8 × Nat) (fun i => i.1 ++ vS i.2 = vS n ∧ i.2 ≤ n) (fun i => ⟨20, [(0, au64 i.2), (3, .own 130 i.1.length)], [(130, .row 1 (i.1.map cByte))]⟩) (fun i => i.2) ([], n) ⟨rfl, Nat.le_refl _⟩
    (le_mk rfl ⟨(by (first | ((exact AVal.le_refl _)) | ((exact AVal.le_nil _)) | ((refine AVal.le_agg ?_; ((repeat (first | exact trivial | refine ⟨(by (first | ((exact AVal.le_refl _)) | ((exact AVal.le_nil _)) | ((refine AVal.le_of_eq ?_; (conv => lhs; whnf); (first | ((rfl)) | ((simp <;> fail)) | fail))) | fail)), ?_⟩ | fail)) <;> fail))) | ((refine AVal.le_of_eq ?_; (conv => lhs; whnf); (first | ((rfl)) | ((simp <;> fail)) | fail))) | fail)), (by (first | ((exact AVal.le_refl _)) | ((exact AVal.le_nil _)) | ((refine AVal.le_agg ?_; ((repeat (first | exact trivial | refine ⟨(by (first | ((exact AVal.le_refl _)) | ((exact AVal.le_nil _)) | ((refine AVal.le_of_eq ?_; (conv => lhs; whnf); (first | ((rfl)) | ((simp <;> fail)) | fail))) | fail)), ?_⟩ | fail)) <;> fail))) | ((refine AVal.le_of_eq ?_; (conv => lhs; whnf); (first | ((rfl)) | ((simp <;> fail)) | fail))) | fail)), trivial⟩ ⟨rfl, trivial⟩) ?_
  rintro ⟨pre, m⟩ ⟨hpre, hm⟩
  simp only at hpre hm
  have hlen : pre.length ≤ 10 := by
    have h1 := congrArg List.length hpre
    have h2 := vS_len hn
    simp only [List.length_append] at h1; omega
  by_cases h : 128 ≤ m
  · have hv := vS_big h
    have e1 : n8 ((m % 128 + 128) % 256) = n8 (UInt8.ofNat (m % 128 + 128)).toNat := by rw [toNat_ofNat8 (by omega)]; congr 2; omega
    refine awp_seq ?_; refine k_s ?_; refine k_0 ?_; refine k_15 ?_; refine k_d ?_; refine k_ct ?_; refine awp_skip ?_; refine awp_block ?_; refine k_s ?_; refine k_0 ?_; refine k_0 ?_; refine k_76 (op := .rem) (r' := n64 (m % 128)) (u := n64 m) (v := n64 128) ?_; refine k_74 (op := .add) (r' := n64 (m % 128 + 128)) (u := n64 (m % 128)) (v := n64 128) ?_ (hr := by exact rb_addn (by rw [cap_u64]; omega)); refine k_83 (u := n64 (m % 128 + 128)) (r := n8 (UInt8.ofNat (m % 128 + 128)).toNat) ?_ (hr := by exact by rw [← e1]; exact rc_to8 rfl rfl); refine k_82 ?_; refine k_80 ?_; refine k_4 ?_; refine k_d ?_; refine k_r ?_; refine k_0 ?_; refine k_74 (op := .quo) (r' := n64 (m / 128)) (u := n64 m) (v := n64 128) ?_ (hr := by exact rb_quo (by omega) (by rw [cap_u64]; omega)); refine k_4 ?_; refine k_d ?_
    refine ⟨(pre ++ [UInt8.ofNat (m % 128 + 128)], m / 128), ⟨by simp only; rw [← hpre, hv]; simp, by simp only; omega⟩, by simp only; omega, le_mk rfl ⟨(by (first | ((exact AVal.le_refl _)) | ((exact AVal.le_nil _)) | ((refine AVal.le_agg ?_; ((repeat (first | exact trivial | refine ⟨(by (first | ((exact AVal.le_refl _)) | ((exact AVal.le_nil _)) | ((refine AVal.le_of_eq ?_; (conv => lhs; whnf); (first | ((rfl)) | ((simp <;> fail)) | fail))) | fail)), ?_⟩ | fail)) <;> fail))) | ((refine AVal.le_of_eq ?_; (conv => lhs; whnf); (first | ((rfl)) | ((simp <;> fail)) | fail))) | fail)), (by refine AVal.le_of_eq ?_; refine Eq.trans (b := AVal.own 130 (_ + _)) rfl ?_; simp), trivial⟩ ⟨?_, trivial⟩⟩
    refine Eq.trans (b := AObj.row 1 (_ ++ [[.v (n8 _)]])) rfl ?_
    simp
  · have hv : vS m = [UInt8.ofNat m] := vS_small (by omega)
    have e3 : n8 (m % 256) = n8 (UInt8.ofNat m).toNat := by rw [toNat_ofNat8 (by omega)]; congr 2; omega
    refine awp_seq ?_; refine k_s ?_; refine k_0 ?_; refine k_15 ?_; refine k_d ?_; refine k_cf ?_; refine awp_exit ?_; refine k_s ?_; refine k_0 ?_; refine k_0 ?_; refine k_83 (u := n64 m) (r := n8 (UInt8.ofNat m).toNat) ?_ (hr := by exact by rw [← e3]; exact rc_to8 rfl rfl); refine k_82 ?_; refine k_80 ?_; refine k_4 ?_; refine k_d ?_
    refine awp_ret ⟨_, le_slot 2 (y := .own 130 (vS n).length) (AVal.le_of_eq ?_), ⟨rfl, trivial⟩, subL_of ⟨?_, trivial⟩⟩
    · refine Eq.trans (b := AVal.own 130 (_ + _)) rfl ?_
      rw [← hpre, hv]; simp
    · refine Eq.trans (b := AObj.row 1 (_ ++ [[.v (n8 _)]])) rfl ?_
      rw [← hpre, hv]; simp
end Go.Fw

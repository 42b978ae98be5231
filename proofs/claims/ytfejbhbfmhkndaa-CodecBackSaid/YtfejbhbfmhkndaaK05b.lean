/- PutUint, PutInt, PutStr. -/
import Derived.Test.YtfejbhbfmhkndaaG3
import Derived.Test.YtfejbhbfmhkndaaK05a
import Derived.Test.YtfejbhbfmhkndaaG2
namespace Go.Fw
open Go Go.Proofs
set_option linter.unusedVariables false
set_option linter.unusedSimpArgs false
theorem vlen (l : List UInt8) : l.length = (l.map cByte).length := by simp
set_option maxHeartbeats 8000000 in
theorem putUint_own (n : Int) (hn : n ≤ 9223372036854775807) : Con Try.prog 27 [] [ai n] [(130, .row 1 ((putUintS n).map cByte))] (.own 130 (putUintS n).length) := by
  refine con_of (xs := [.own 130 (putUintS n).length]) Try.func27 rfl Try.ntmps27 rfl rfl rfl (fun E => ?_)
  by_cases h : n < 0
  · rw [show putUintS n = [] by simp [putUintS, h]]
    refine k_s ?_; refine k_4 ?_; refine k_d ?_; refine awp_seq ?_; refine k_s ?_; refine k_0 ?_; refine k_9 ?_; refine k_d ?_; refine k_ct ?_; refine k_s ?_; refine k_4 ?_; refine k_d ?_
    refine awp_le (le_adopt 2 130 1 rfl rfl rfl) ?_
    exact awp_ret ⟨_, St.le_refl _, ⟨rfl, trivial⟩, subL_of ⟨rfl, trivial⟩⟩
  · obtain ⟨m, rfl⟩ : ∃ m : Nat, n = m := ⟨n.toNat, by omega⟩
    rw [show putUintS (m : Int) = vS m by unfold putUintS; rw [if_neg h, Int.toNat_natCast]]
    refine k_s ?_; refine k_4 ?_; refine k_d ?_; refine awp_seq ?_; refine k_s ?_; refine k_0 ?_; refine k_9 ?_; refine k_d ?_; refine k_rf ?_; refine awp_skip ?_; refine k_s ?_; refine k_0 ?_; refine k_83 (u := ni m) (r := n64 m) ?_; refine k_56 (hcon := varint_con m (by omega)) ?_ (hle := by refine ⟨(by exact AVal.le_refl _), ?_⟩; refine ⟨(by exact AVal.le_refl _), ?_⟩; exact trivial) (hLi := by (repeat (first | exact trivial | refine ⟨rfl, ?_⟩ | fail)) <;> fail) (hnew := by (repeat (first | exact trivial | refine ⟨rfl, ?_⟩ | fail)) <;> fail) (hdead := by (repeat (first | exact trivial | refine ⟨rfl, ?_⟩ | fail)) <;> fail); refine k_4 ?_; refine k_d ?_
    exact awp_ret ⟨_, St.le_refl _, ⟨rfl, trivial⟩, subL_of ⟨rfl, trivial⟩⟩
set_option maxHeartbeats 8000000 in
theorem rputUint_own (n : Int) (hn : n ≤ 9223372036854775807) : Con Try.prog 28 [] [ai n] [(130, .row 1 ((putUintS n).map cByte))] (.own 130 (putUintS n).length) := by
  refine con_of (xs := [.own 130 (putUintS n).length]) Try.func28 rfl Try.ntmps28 rfl rfl rfl (fun E => ?_)
  by_cases h : n < 0
  · rw [show putUintS n = [] by simp [putUintS, h]]
    refine k_s ?_; refine k_4 ?_; refine k_d ?_; refine awp_seq ?_; refine k_s ?_; refine k_0 ?_; refine k_9 ?_; refine k_d ?_; refine k_ct ?_; refine k_s ?_; refine k_4 ?_; refine k_d ?_
    refine awp_le (le_adopt 2 130 1 rfl rfl rfl) ?_
    exact awp_ret ⟨_, St.le_refl _, ⟨rfl, trivial⟩, subL_of ⟨rfl, trivial⟩⟩
  · obtain ⟨m, rfl⟩ : ∃ m : Nat, n = m := ⟨n.toNat, by omega⟩
    rw [show putUintS (m : Int) = vS m by unfold putUintS; rw [if_neg h, Int.toNat_natCast]]
    refine k_s ?_; refine k_4 ?_; refine k_d ?_; refine awp_seq ?_; refine k_s ?_; refine k_0 ?_; refine k_9 ?_; refine k_d ?_; refine k_rf ?_; refine awp_skip ?_; refine k_s ?_; refine k_0 ?_; refine k_83 (u := ni m) (r := n64 m) ?_; refine k_56 (hcon := rvarint_con m (by omega)) ?_ (hle := by refine ⟨(by exact AVal.le_refl _), ?_⟩; exact trivial) (hLi := by (repeat (first | exact trivial | refine ⟨rfl, ?_⟩ | fail)) <;> fail) (hnew := by (repeat (first | exact trivial | refine ⟨rfl, ?_⟩ | fail)) <;> fail) (hdead := by (repeat (first | exact trivial | refine ⟨rfl, ?_⟩ | fail)) <;> fail); refine k_4 ?_; refine k_d ?_
    exact awp_ret ⟨_, St.le_refl _, ⟨rfl, trivial⟩, subL_of ⟨rfl, trivial⟩⟩
set_option maxHeartbeats 8000000 in
theorem putInt_own (n : Int) (hn : -9223372036854775808 ≤ n ∧ n ≤ 9223372036854775807) : Con Try.prog 29 [] [ai n] [(130, .row 1 ((putIntS n).map cByte))] (.own 130 (putIntS n).length) := by
  refine con_of (xs := [.own 130 (putIntS n).length]) Try.func29 rfl Try.ntmps29 rfl rfl rfl (fun E => ?_)
  by_cases h : n < 0
  · obtain ⟨m, rfl⟩ : ∃ m : Nat, n = -(m : Int) - 1 := ⟨(-n - 1).toNat, by omega⟩
    have ez : zig (-(m : Int) - 1) = 2 * m + 1 := by unfold zig; rw [if_pos (by omega)]; omega
    unfold putIntS; rw [ez]
    have ew : IntKind.u64.wrap (-(m : Int) - 1) = ((18446744073709551615 - m : Nat) : Int) := by rw [IntKind.wrap_u64]; omega
    have es : (18446744073709551615 - m) * 2 ^ 1 % 2 ^ IntKind.u64.bits = 18446744073709551614 - 2 * m := by
      rw [show 2 ^ IntKind.u64.bits = 18446744073709551616 from rfl]; omega
    have ec : 2 ^ IntKind.u64.bits - 1 - (18446744073709551614 - 2 * m) = 2 * m + 1 := by
      rw [show 2 ^ IntKind.u64.bits = 18446744073709551616 from rfl]; omega
    have hcompl : ∀ w, (Op.unary .xor (n64 (18446744073709551614 - 2 * m))).run Try.prog w = .ok (n64 (2 * m + 1)) w := fun w => by
      have h := ru_compl (P := Try.prog) (k := .u64) (a := 18446744073709551614 - 2 * m) rfl (by rw [show 2 ^ IntKind.u64.bits = 18446744073709551616 from rfl]; omega) w
      rwa [ec] at h
    refine k_s ?_; refine k_4 ?_; refine k_d ?_; refine k_s ?_; refine k_0 ?_; refine k_83 (u := .int .i64 (-(m : Int) - 1)) (r := n64 (18446744073709551615 - m)) ?_ (hr := by exact by intro w; show _ = Result.ok (Value.int .u64 ((18446744073709551615 - m : Nat) : Int)) w; rw [← ew]; exact rc_int rfl rfl w); refine k_74 (op := .shl) (r' := n64 (18446744073709551614 - 2 * m)) (u := n64 (18446744073709551615 - m)) (v := n64 1) ?_ (hr' := by exact congrArg n64 es) (hr := by exact rb_shl_mod rfl (by decide)); refine k_4 ?_; refine k_d ?_; refine awp_seq ?_; refine k_s ?_; refine k_0 ?_; refine k_9 ?_; refine k_d ?_; refine k_ct ?_; refine k_r ?_; refine k_0 ?_; refine k_67 (u := n64 (18446744073709551614 - 2 * m)) (r := n64 (2 * m + 1)) ?_ (hr := by exact hcompl); refine k_4 ?_; refine k_d ?_; refine k_s ?_; refine k_0 ?_; refine k_56 (hcon := varint_con (2 * m + 1) (by omega)) ?_ (hle := by refine ⟨(by exact AVal.le_refl _), ?_⟩; refine ⟨(by exact AVal.le_refl _), ?_⟩; exact trivial) (hLi := by (repeat (first | exact trivial | refine ⟨rfl, ?_⟩ | fail)) <;> fail) (hnew := by (repeat (first | exact trivial | refine ⟨rfl, ?_⟩ | fail)) <;> fail) (hdead := by (repeat (first | exact trivial | refine ⟨rfl, ?_⟩ | fail)) <;> fail)
    refine k_4 ?_; refine k_d ?_
    exact awp_ret ⟨_, St.le_refl _, ⟨rfl, trivial⟩, subL_of ⟨rfl, trivial⟩⟩
  · obtain ⟨m, rfl⟩ : ∃ m : Nat, n = m := ⟨n.toNat, by omega⟩
    have ez : zig (m : Int) = 2 * m := by unfold zig; rw [if_neg (by omega)]; omega
    unfold putIntS; rw [ez]
    have es : m * 2 ^ 1 % 2 ^ IntKind.u64.bits = 2 * m := by
      rw [show 2 ^ IntKind.u64.bits = 18446744073709551616 from rfl]; omega
    refine k_s ?_; refine k_4 ?_; refine k_d ?_; refine k_s ?_; refine k_0 ?_; refine k_83 (u := ni m) (r := n64 m) ?_; refine k_74 (op := .shl) (r' := n64 (2 * m)) (u := n64 m) (v := n64 1) ?_ (hr' := by exact congrArg n64 es) (hr := by exact rb_shl_mod rfl (by decide)); refine k_4 ?_; refine k_d ?_; refine awp_seq ?_; refine k_s ?_; refine k_0 ?_; refine k_9 ?_; refine k_d ?_; refine k_rf ?_; refine awp_skip ?_; refine k_s ?_; refine k_0 ?_; refine k_56 (hcon := varint_con (2 * m) (by omega)) ?_ (hle := by refine ⟨(by exact AVal.le_refl _), ?_⟩; refine ⟨(by exact AVal.le_refl _), ?_⟩; exact trivial) (hLi := by (repeat (first | exact trivial | refine ⟨rfl, ?_⟩ | fail)) <;> fail) (hnew := by (repeat (first | exact trivial | refine ⟨rfl, ?_⟩ | fail)) <;> fail) (hdead := by (repeat (first | exact trivial | refine ⟨rfl, ?_⟩ | fail)) <;> fail); refine k_4 ?_; refine k_d ?_
    exact awp_ret ⟨_, St.le_refl _, ⟨rfl, trivial⟩, subL_of ⟨rfl, trivial⟩⟩
set_option maxHeartbeats 8000000 in
theorem rputInt_own (n : Int) (hn : -9223372036854775808 ≤ n ∧ n ≤ 9223372036854775807) : Con Try.prog 30 [] [ai n] [(130, .row 1 ((putIntS n).map cByte))] (.own 130 (putIntS n).length) := by
  refine con_of (xs := [.own 130 (putIntS n).length]) Try.func30 rfl Try.ntmps30 rfl rfl rfl (fun E => ?_)
  by_cases h : n < 0
  · obtain ⟨m, hm⟩ : ∃ m : Nat, -(n + 1) = (m : Int) := ⟨(-(n + 1)).toNat, by omega⟩
    have ez : zig n = 2 * m + 1 := by unfold zig; rw [if_pos h, hm, Int.toNat_natCast]
    unfold putIntS; rw [ez]
    have hneg : ∀ w, (Op.unary .neg (.int .i64 (n + 1))).run Try.prog w = .ok (ni m) w := fun w => by
      have h := ru_neg (P := Try.prog) (n := n + 1) (by omega) w
      rwa [hm] at h
    refine k_s ?_; refine k_4 ?_; refine k_d ?_; refine awp_seq ?_; refine k_s ?_; refine k_0 ?_; refine k_9 ?_; refine k_d ?_; refine k_ct ?_; refine k_s ?_; refine k_0 ?_; refine k_14 ?_; refine k_67 (u := .int .i64 (n + 1)) (r := ni m) ?_ (hr := by exact hneg); refine k_83 (u := ni m) (r := n64 m) ?_; refine k_74 (op := .mul) (r' := n64 (2 * m)) (u := n64 2) (v := n64 m) ?_ (hr := by exact rb_muln (by rw [cap_u64]; omega)); refine k_74 (op := .add) (r' := n64 (2 * m + 1)) (u := n64 (2 * m)) (v := n64 1) ?_ (hr := by exact rb_addn (by rw [cap_u64]; omega)); refine k_56 (hcon := rvarint_con (2 * m + 1) (by omega)) ?_ (hle := by refine ⟨(by exact AVal.le_refl _), ?_⟩; exact trivial) (hLi := by (repeat (first | exact trivial | refine ⟨rfl, ?_⟩ | fail)) <;> fail) (hnew := by (repeat (first | exact trivial | refine ⟨rfl, ?_⟩ | fail)) <;> fail) (hdead := by (repeat (first | exact trivial | refine ⟨rfl, ?_⟩ | fail)) <;> fail)
    refine k_4 ?_; refine k_d ?_
    exact awp_ret ⟨_, St.le_refl _, ⟨rfl, trivial⟩, subL_of ⟨rfl, trivial⟩⟩
  · obtain ⟨m, rfl⟩ : ∃ m : Nat, n = m := ⟨n.toNat, by omega⟩
    have ez : zig (m : Int) = 2 * m := by unfold zig; rw [if_neg (by omega)]; omega
    unfold putIntS; rw [ez]
    refine k_s ?_; refine k_4 ?_; refine k_d ?_; refine awp_seq ?_; refine k_s ?_; refine k_0 ?_; refine k_9 ?_; refine k_d ?_; refine k_rf ?_; refine awp_skip ?_; refine k_s ?_; refine k_0 ?_; refine k_83 (u := ni m) (r := n64 m) ?_; refine k_74 (op := .mul) (r' := n64 (2 * m)) (u := n64 2) (v := n64 m) ?_ (hr := by exact rb_muln (by rw [cap_u64]; omega)); refine k_56 (hcon := rvarint_con (2 * m) (by omega)) ?_ (hle := by refine ⟨(by exact AVal.le_refl _), ?_⟩; exact trivial) (hLi := by (repeat (first | exact trivial | refine ⟨rfl, ?_⟩ | fail)) <;> fail) (hnew := by (repeat (first | exact trivial | refine ⟨rfl, ?_⟩ | fail)) <;> fail) (hdead := by (repeat (first | exact trivial | refine ⟨rfl, ?_⟩ | fail)) <;> fail); refine k_4 ?_; refine k_d ?_
    exact awp_ret ⟨_, St.le_refl _, ⟨rfl, trivial⟩, subL_of ⟨rfl, trivial⟩⟩
theorem putUint_con (n : Int) (hn : n ≤ 9223372036854775807) : Con Try.prog 27 [] [ai n] [] (.d (dBytes (putUintS n))) := (putUint_own n hn).data (by simp)
theorem rputUint_con (n : Int) (hn : n ≤ 9223372036854775807) : Con Try.prog 28 [] [ai n] [] (.d (dBytes (putUintS n))) := (rputUint_own n hn).data (by simp)
theorem putInt_con (n : Int) (hn : -9223372036854775808 ≤ n ∧ n ≤ 9223372036854775807) : Con Try.prog 29 [] [ai n] [] (.d (dBytes (putIntS n))) := (putInt_own n hn).data (by simp)
theorem rputInt_con (n : Int) (hn : -9223372036854775808 ≤ n ∧ n ≤ 9223372036854775807) : Con Try.prog 30 [] [ai n] [] (.d (dBytes (putIntS n))) := (rputInt_own n hn).data (by simp)
end Go.Fw

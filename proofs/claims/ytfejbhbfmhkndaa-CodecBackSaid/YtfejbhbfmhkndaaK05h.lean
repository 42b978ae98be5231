/- Frame, the program's and the reference's. -/
import Derived.Test.YtfejbhbfmhkndaaG3
import Derived.Test.YtfejbhbfmhkndaaK05g
namespace Go.Fw
open Go Go.Proofs
set_option linter.unusedVariables false
set_option linter.unusedSimpArgs false
abbrev zB : List D := [.v (.int .u8 0)]
theorem sumB_get {b : List UInt8} {i : Nat} (hi : i < 4) : ∃ y, (sumB b)[i]? = some y ∧ n8 (sumS b / 2 ^ (8 * i) % 256) = n8 y.toNat := by
  have hs := sum_lt b
  rcases i with _ | _ | _ | _ | i
  · exact ⟨_, rfl, by rw [toNat_ofNat8 (by omega)]; simp⟩
  · exact ⟨_, rfl, by rw [toNat_ofNat8 (by omega)]⟩
  · exact ⟨_, rfl, by rw [toNat_ofNat8 (by omega)]⟩
  · exact ⟨_, rfl, by rw [toNat_ofNat8 (by omega)]; show n8 (sumS b / 16777216 % 256) = _; rw [Nat.mod_eq_of_lt (by omega)]⟩
  · omega
set_option maxHeartbeats 8000000 in
theorem frame_con (b : List UInt8) (hb : b.length ≤ 65536) : Con Try.prog 24 [] [.d (dBytes b)] [] (.d (dBytes (frameS b))) := by
  refine con_of (xs := [.d (dBytes (frameS b))]) Try.func24 rfl Try.ntmps24 rfl rfl rfl (fun E => ?_)
  have hl : (putUintS (b.length : Int)).length ≤ 10 := by rw [put_uint (by omega)]; exact vS_len (by omega)
  have hpc := putUint_con b.length (by omega)
  have hput : frameS b = putUintS (b.length : Int) ++ b ++ sumB b := rfl
  generalize putUintS (b.length : Int) = hd at *
  have hlb : (List.map cByte b).length = b.length := by simp
  have hlm : (List.map cByte hd).length = hd.length := by simp
  have hm1 : hd.length = min (hd.map cByte).length (List.replicate ((hd.map cByte).length + (b.map cByte).length + 4) (zD (Value.int IntKind.u8 0).cells.toList)).length := by simp; omega
  have hk : hd.length ≤ ((hd.map cByte).take hd.length ++ (List.replicate ((hd.map cByte).length + (b.map cByte).length + 4) (zD (Value.int IntKind.u8 0).cells.toList)).drop hd.length).length := by simp
  have hm2 : b.length = min (b.map cByte).length (((hd.map cByte).take hd.length ++ (List.replicate ((hd.map cByte).length + (b.map cByte).length + 4) (zD (Value.int IntKind.u8 0).cells.toList)).drop hd.length).length - hd.length) := by simp; omega
  refine k_s ?_; refine k_4 ?_; refine k_d ?_; refine k_s ?_; refine k_0 ?_; refine k_60 ?_; refine k_56 (hcon := hpc) ?_ (hle := by refine ⟨(by (refine AVal.le_of_eq ?_; (conv => lhs; whnf); (simp <;> fail))), ?_⟩; exact trivial) (hLi := by (repeat (first | exact trivial | refine ⟨rfl, ?_⟩ | fail)) <;> fail) (hnew := by (repeat (first | exact trivial | refine ⟨rfl, ?_⟩ | fail)) <;> fail) (hdead := by (repeat (first | exact trivial | refine ⟨rfl, ?_⟩ | fail)) <;> fail); refine k_4 ?_; refine k_d ?_; refine k_s ?_; refine k_0 ?_; refine k_60 ?_; refine k_0 ?_; refine k_60 ?_; refine k_14 ?_; refine k_14 ?_; refine k_94 (γ := 131) ?_ (hn := by simp only [List.length_map, List.length_take, List.length_drop, List.length_append, List.length_cons, List.length_nil, List.length_replicate, List.length_set] <;> omega); refine k_4 ?_; refine k_d ?_; refine k_s ?_; refine k_0 ?_; refine k_0 ?_; refine k_98 (m := hd.length) ?_ (hm := by exact hm1)
  refine k_4 ?_; refine k_d ?_; refine k_s ?_; refine k_0 ?_; refine k_0 ?_; refine k_0 ?_; refine k_103 (k := hd.length) ?_ (hn := by simp only [List.length_map, List.length_take, List.length_drop, List.length_append, List.length_cons, List.length_nil, List.length_replicate, List.length_set] <;> omega) (hk := by exact hk); refine k_0 ?_; refine k_104 (m := b.length) ?_ (hn := by simp only [List.length_map, List.length_take, List.length_drop, List.length_append, List.length_cons, List.length_nil, List.length_replicate, List.length_set] <;> omega) (hk := by exact hk) (hsrc := by exact srcV_d) (hm := by exact hm2); refine k_74 (op := .add) (r' := ni (hd.length + b.length)) (u := ni hd.length) (v := ni b.length) ?_; refine k_4 ?_; refine k_d ?_; refine k_s ?_; refine k_0 ?_; refine k_56 (hcon := sum_con b) ?_ (hle := by refine ⟨(by exact AVal.le_refl _), ?_⟩; exact trivial) (hLi := by (repeat (first | exact trivial | refine ⟨rfl, ?_⟩ | fail)) <;> fail) (hnew := by (repeat (first | exact trivial | refine ⟨rfl, ?_⟩ | fail)) <;> fail) (hdead := by (repeat (first | exact trivial | refine ⟨rfl, ?_⟩ | fail)) <;> fail)
  refine k_4 ?_; refine k_d ?_; refine awp_seq ?_; refine k_s ?_; refine k_0 ?_; refine k_d ?_; refine awp_block ?_
  refine awp_loopI (fun i : Nat => i ≤ 4) (fun i => ⟨45, [(4, .own 131 (hd.length + b.length + 4)), (5, ai (hd.length + b.length : Nat)), (6, ai (sumS b)), (30, ai i)], [(131, .row 1 ((hd ++ b ++ (sumB b).take i).map cByte ++ List.replicate (4 - i) zB))]⟩) (fun i => 4 - i) 0 (by omega)
    (le_mk rfl ⟨(by refine AVal.le_of_eq ?_; refine Eq.trans (b := AVal.own 131 ((hd.map cByte).length + (b.map cByte).length + 4)) rfl ?_; rw [hlb, hlm]), (by (first | ((exact AVal.le_refl _)) | ((exact AVal.le_nil _)) | ((refine AVal.le_agg ?_; ((repeat (first | exact trivial | refine ⟨(by (first | ((exact AVal.le_refl _)) | ((exact AVal.le_nil _)) | ((refine AVal.le_of_eq ?_; (conv => lhs; whnf); (first | ((rfl)) | ((simp <;> fail)) | fail))) | fail)), ?_⟩ | fail)) <;> fail))) | ((refine AVal.le_of_eq ?_; (conv => lhs; whnf); (first | ((rfl)) | ((simp <;> fail)) | fail))) | fail)), (by (first | ((exact AVal.le_refl _)) | ((exact AVal.le_nil _)) | ((refine AVal.le_agg ?_; ((repeat (first | exact trivial | refine ⟨(by (first | ((exact AVal.le_refl _)) | ((exact AVal.le_nil _)) | ((refine AVal.le_of_eq ?_; (conv => lhs; whnf); (first | ((rfl)) | ((simp <;> fail)) | fail))) | fail)), ?_⟩ | fail)) <;> fail))) | ((refine AVal.le_of_eq ?_; (conv => lhs; whnf); (first | ((rfl)) | ((simp <;> fail)) | fail))) | fail)), (by (first | ((exact AVal.le_refl _)) | ((exact AVal.le_nil _)) | ((refine AVal.le_agg ?_; ((repeat (first | exact trivial | refine ⟨(by (first | ((exact AVal.le_refl _)) | ((exact AVal.le_nil _)) | ((refine AVal.le_of_eq ?_; (conv => lhs; whnf); (first | ((rfl)) | ((simp <;> fail)) | fail))) | fail)), ?_⟩ | fail)) <;> fail))) | ((refine AVal.le_of_eq ?_; (conv => lhs; whnf); (first | ((rfl)) | ((simp <;> fail)) | fail))) | fail)), trivial⟩ ⟨?_, trivial⟩) ?_
  · refine Eq.trans (b := AObj.row 1 (List.take _ _ ++ _ ++ List.drop _ _)) rfl ?_
    congr 1
    rw [List.take_of_length_le (l := hd.map cByte) (by simp), List.take_left' (by simp), List.take_of_length_le (by simp), List.drop_append, List.drop_of_length_le (by simp), List.nil_append, List.drop_drop, List.drop_replicate]
    simp only [List.take_zero, List.append_nil, List.map_append, Nat.sub_zero]
    congr 1
    rw [show (List.map cByte hd).length + (List.map cByte b).length + 4 - (hd.length + (hd.length + b.length - (List.map cByte hd).length)) = 4 by rw [hlb, hlm]; omega]
    rfl
  intro i hi
  by_cases h4 : i < 4
  · obtain ⟨y, hy, hey⟩ := sumB_get (b := b) h4
    have hs := sum_lt b
    have h8 : 8 * i ≤ 64 := by omega
    have hrl : ((hd ++ b ++ (sumB b).take i).map cByte ++ List.replicate (4 - i) zB).length = hd.length + b.length + 4 := by
      have := sumB_len b
      simp only [List.length_append, List.length_map, List.length_take, List.length_replicate]; omega
    have hrl2 := hrl.symm
    have hrl3 : hd.length + b.length + i < ((hd ++ b ++ (sumB b).take i).map cByte ++ List.replicate (4 - i) zB).length := by rw [hrl]; omega
    have hsl : (hd ++ b ++ (sumB b).take i).length = hd.length + b.length + i := by
      have := sumB_len b
      simp only [List.length_append, List.length_take]; omega
    refine k_s ?_; refine k_9 ?_; refine k_d ?_; refine awp_seq ?_; refine k_ct ?_; refine awp_skip ?_; refine awp_seq ?_; refine awp_block ?_; refine k_s ?_; refine k_0 ?_; refine k_4 ?_; refine k_d ?_; refine k_r ?_; refine k_0 ?_; refine k_0 ?_; refine k_0 ?_; refine k_74 (op := .add) (r' := ni (hd.length + b.length + i)) (u := ni (hd.length + b.length)) (v := ni i) ?_; refine k_0 ?_; refine k_0 ?_; refine k_75 (op := .mul) (r' := ni (8 * i)) (u := ni 8) (v := ni i) ?_; refine k_74 (op := .shr) (r' := ni (sumS b / 2 ^ (8 * i))) (u := ni (sumS b)) (v := ni (8 * i)) ?_ (hr := by exact rb_shr h8); refine k_83 (u := ni (sumS b / 2 ^ (8 * i))) (r := n8 y.toNat) ?_ (hr := by exact by rw [← hey]; exact rc_to8 rfl rfl); refine k_92 ?_ (hn := by assumption) (hlt := by omega); refine k_97 ?_ (hn := by assumption) (hlt := by omega); refine k_d ?_; refine k_r ?_; refine k_14 ?_; refine k_0 ?_; refine k_d ?_
    refine ⟨i + 1, by omega, by omega, le_mk rfl ⟨(by (first | ((exact AVal.le_refl _)) | ((exact AVal.le_nil _)) | ((refine AVal.le_agg ?_; ((repeat (first | exact trivial | refine ⟨(by (first | ((exact AVal.le_refl _)) | ((exact AVal.le_nil _)) | ((refine AVal.le_of_eq ?_; (conv => lhs; whnf); (first | ((rfl)) | ((simp <;> fail)) | fail))) | fail)), ?_⟩ | fail)) <;> fail))) | ((refine AVal.le_of_eq ?_; (conv => lhs; whnf); (first | ((rfl)) | ((simp <;> fail)) | fail))) | fail)), (by (first | ((exact AVal.le_refl _)) | ((exact AVal.le_nil _)) | ((refine AVal.le_agg ?_; ((repeat (first | exact trivial | refine ⟨(by (first | ((exact AVal.le_refl _)) | ((exact AVal.le_nil _)) | ((refine AVal.le_of_eq ?_; (conv => lhs; whnf); (first | ((rfl)) | ((simp <;> fail)) | fail))) | fail)), ?_⟩ | fail)) <;> fail))) | ((refine AVal.le_of_eq ?_; (conv => lhs; whnf); (first | ((rfl)) | ((simp <;> fail)) | fail))) | fail)), (by (first | ((exact AVal.le_refl _)) | ((exact AVal.le_nil _)) | ((refine AVal.le_agg ?_; ((repeat (first | exact trivial | refine ⟨(by (first | ((exact AVal.le_refl _)) | ((exact AVal.le_nil _)) | ((refine AVal.le_of_eq ?_; (conv => lhs; whnf); (first | ((rfl)) | ((simp <;> fail)) | fail))) | fail)), ?_⟩ | fail)) <;> fail))) | ((refine AVal.le_of_eq ?_; (conv => lhs; whnf); (first | ((rfl)) | ((simp <;> fail)) | fail))) | fail)), (by (first | ((exact AVal.le_refl _)) | ((exact AVal.le_nil _)) | ((refine AVal.le_agg ?_; ((repeat (first | exact trivial | refine ⟨(by (first | ((exact AVal.le_refl _)) | ((exact AVal.le_nil _)) | ((refine AVal.le_of_eq ?_; (conv => lhs; whnf); (first | ((rfl)) | ((simp <;> fail)) | fail))) | fail)), ?_⟩ | fail)) <;> fail))) | ((refine AVal.le_of_eq ?_; (conv => lhs; whnf); (first | ((rfl)) | ((simp <;> fail)) | fail))) | fail)), trivial⟩ ⟨?_, trivial⟩⟩
    refine Eq.trans (b := AObj.row 1 (List.take _ _ ++ [cByte y] ++ List.drop _ _)) rfl ?_
    congr 1
    rw [List.take_left' (by rw [List.length_map, hsl]), List.drop_append, List.drop_of_length_le (by rw [List.length_map, hsl]; omega), List.nil_append, List.length_map, hsl, List.drop_replicate, List.take_add_one, hy]
    simp only [Option.toList_some, List.map_append, List.map_cons, List.map_nil, List.append_assoc]
    rw [show 4 - i - (hd.length + b.length + i + 1 - (hd.length + b.length + i)) = 4 - (i + 1) by omega]
  obtain rfl : i = 4 := by omega
  have hfin : (hd ++ b ++ (sumB b).take 4).map cByte ++ List.replicate (4 - 4) zB = (frameS b).map cByte := by
    rw [hput, List.take_of_length_le (by rw [sumB_len]; omega)]; simp
  rw [hfin]
  refine awp_le (le_freeze 131 rfl) ?_
  refine awp_le (le_data 4 131 rfl rfl (by rw [List.length_map, hput]; simp only [List.length_append, sumB_len])) ?_
  refine k_s ?_; refine k_9 ?_; refine k_d ?_; refine awp_seq ?_; refine k_rf ?_; refine awp_exit ?_; refine k_s ?_; refine k_0 ?_; refine k_4 ?_; refine k_d ?_
  exact awp_ret ⟨_, St.le_refl _, ⟨rfl, trivial⟩, subL_nil _⟩
set_option maxHeartbeats 8000000 in
theorem rframe_con (b : List UInt8) (hb : b.length ≤ 65536) : Con Try.prog 25 [] [.d (dBytes b)] [] (.d (dBytes (frameS b))) := by
  refine con_of (xs := [.d (dBytes (frameS b))]) Try.func25 rfl Try.ntmps25 rfl rfl rfl (fun E => ?_)
  have hl : (putUintS (b.length : Int)).length ≤ 10 := by rw [put_uint (by omega)]; exact vS_len (by omega)
  have hpc := rputUint_own b.length (by omega)
  have hput : frameS b = putUintS (b.length : Int) ++ b ++ sumB b := rfl
  generalize putUintS (b.length : Int) = hd at *
  have hlb : (List.map cByte b).length = b.length := by simp
  have hs := sum_lt b
  have hb0 : n8 (sumS b % 256 % 256) = n8 (UInt8.ofNat (sumS b % 256)).toNat := by rw [toNat_ofNat8 (by omega), Nat.mod_mod]
  have hb1 : n8 (sumS b / 256 % 256 % 256) = n8 (UInt8.ofNat (sumS b / 256 % 256)).toNat := by rw [toNat_ofNat8 (by omega), Nat.mod_mod]
  have hb2 : n8 (sumS b / 65536 % 256 % 256) = n8 (UInt8.ofNat (sumS b / 65536 % 256)).toNat := by rw [toNat_ofNat8 (by omega), Nat.mod_mod]
  have hb3 : n8 (sumS b / 16777216 % 256) = n8 (UInt8.ofNat (sumS b / 16777216)).toNat := by rw [toNat_ofNat8 (by omega), Nat.mod_eq_of_lt (by omega)]
  refine k_s ?_; refine k_4 ?_; refine k_d ?_; refine k_s ?_; refine k_0 ?_; refine k_60 ?_; refine k_56 (hcon := hpc) ?_ (hle := by refine ⟨(by (refine AVal.le_of_eq ?_; (conv => lhs; whnf); (simp <;> fail))), ?_⟩; exact trivial) (hLi := by (repeat (first | exact trivial | refine ⟨rfl, ?_⟩ | fail)) <;> fail) (hnew := by (repeat (first | exact trivial | refine ⟨rfl, ?_⟩ | fail)) <;> fail) (hdead := by (repeat (first | exact trivial | refine ⟨rfl, ?_⟩ | fail)) <;> fail); refine k_0 ?_; refine k_80 ?_; refine k_4 ?_; refine k_d ?_; refine k_s ?_; refine k_0 ?_; refine k_56 (hcon := rsum_con b) ?_ (hle := by refine ⟨(by exact AVal.le_refl _), ?_⟩; exact trivial) (hLi := by (repeat (first | exact trivial | refine ⟨rfl, ?_⟩ | fail)) <;> fail) (hnew := by (repeat (first | exact trivial | refine ⟨rfl, ?_⟩ | fail)) <;> fail) (hdead := by (repeat (first | exact trivial | refine ⟨rfl, ?_⟩ | fail)) <;> fail)
  refine k_4 ?_; refine k_d ?_; refine k_s ?_; refine k_0 ?_; refine k_0 ?_; refine k_76 (op := .rem) (r' := ni (sumS b % 256)) (u := ni (sumS b)) (v := ni 256) ?_; refine k_83 (u := ni (sumS b % 256)) (r := n8 (UInt8.ofNat (sumS b % 256)).toNat) ?_ (hr := by exact by rw [← hb0]; exact rc_to8 rfl rfl); refine k_0 ?_; refine k_78 (op := .quo) (r' := ni (sumS b / 256)) (u := ni (sumS b)) (v := ni 256) ?_; refine k_76 (op := .rem) (r' := ni (sumS b / 256 % 256)) (u := ni (sumS b / 256)) (v := ni 256) ?_; refine k_83 (u := ni (sumS b / 256 % 256)) (r := n8 (UInt8.ofNat (sumS b / 256 % 256)).toNat) ?_ (hr := by exact by rw [← hb1]; exact rc_to8 rfl rfl); refine k_0 ?_; refine k_78 (op := .quo) (r' := ni (sumS b / 65536)) (u := ni (sumS b)) (v := ni 65536) ?_; refine k_76 (op := .rem) (r' := ni (sumS b / 65536 % 256)) (u := ni (sumS b / 65536)) (v := ni 256) ?_; refine k_83 (u := ni (sumS b / 65536 % 256)) (r := n8 (UInt8.ofNat (sumS b / 65536 % 256)).toNat) ?_ (hr := by exact by rw [← hb2]; exact rc_to8 rfl rfl)
  refine k_0 ?_; refine k_78 (op := .quo) (r' := ni (sumS b / 16777216)) (u := ni (sumS b)) (v := ni 16777216) ?_; refine k_83 (u := ni (sumS b / 16777216)) (r := n8 (UInt8.ofNat (sumS b / 16777216)).toNat) ?_ (hr := by exact by rw [← hb3]; exact rc_to8 rfl rfl); refine k_82 ?_; refine k_80 ?_; refine k_4 ?_; refine k_d ?_
  refine awp_le (le_freeze 130 rfl) ?_
  refine awp_le (le_data 2 130 rfl rfl (by simp; omega)) ?_
  exact awp_ret ⟨_, le_slot 2 (y := .d (dBytes (frameS b))) (AVal.le_of_eq (by refine Eq.trans (b := AVal.d (.sl 1 (_ ++ _ ++ _))) rfl ?_; rw [hput]; show _ = AVal.d (.sl 1 ((hd ++ b ++ sumB b).map cByte)); rw [List.map_append, List.map_append]; rfl)), ⟨rfl, trivial⟩, subL_nil _⟩
end Go.Fw

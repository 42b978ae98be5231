/- The law about frames with a changed byte. -/
import Derived.Test.YtfejbhbfmhkndaaG3
import Derived.Test.YtfejbhbfmhkndaaL05b
import Derived.Test.YtfejbhbfmhkndaaG4
namespace Go.Fw
open Go Go.Proofs
set_option linter.unusedVariables false
set_option linter.unusedSimpArgs false
theorem frame_len {s : List UInt8} (h : s.length < 128) : (frameS s).length = s.length + 5 := by rw [frame_small h]; simp [sumB]
theorem unframe_whole {s : List UInt8} (h : s.length < 128) : unframeS (frameS s) 0 = (s, (((frameS s).length : Nat) : Int), 0) := by
  have := frame_back (s := s) (by omega) [] []
  simp at this
  simpa using this
theorem set_row {b : List UInt8} {k : Nat} {z : UInt8} (h : k < b.length) : List.take k ([] ++ List.map cByte b) ++ [[D.v (Value.int .u8 (z.toNat : Nat))]] ++ List.drop (k + 1) ([] ++ List.map cByte b) = (b.set k z).map cByte := by
  rw [List.set_eq_take_append_cons_drop, if_pos h]; simp
set_option maxHeartbeats 8000000 in
theorem codecSpoilt_con (s : List UInt8) (at_ y : UInt8) : Con Try.prog 6 [] [.d (dBytes s), au8 at_.toNat, au8 y.toNat] [] (ab true) := by
  refine con_of (xs := [ab true]) Try.func6 rfl Try.ntmps6 rfl rfl rfl (fun E => ?_)
  by_cases h : 120 < s.length
  · refine k_s ?_; refine k_4 ?_; refine k_d ?_; refine awp_seq ?_; refine k_s ?_; refine k_0 ?_; refine k_52 ?_; refine k_12 ?_; refine k_d ?_; refine k_ct ?_; refine k_s ?_; refine k_55 (hcon := alive_con) ?_ (hle := by exact trivial) (hLi := by (repeat (first | exact trivial | refine ⟨rfl, ?_⟩ | fail)) <;> fail) (hnew := by (repeat (first | exact trivial | refine ⟨rfl, ?_⟩ | fail)) <;> fail) (hdead := by (repeat (first | exact trivial | refine ⟨rfl, ?_⟩ | fail)) <;> fail); refine k_4 ?_; refine k_d ?_
    exact awp_ret ⟨_, St.le_refl _, ⟨rfl, trivial⟩, subL_nil _⟩
  have hl := frame_len (s := s) (by omega)
  have hf := frame_con s (by omega)
  have hsh : ∀ k, 1 ≤ k → k < s.length + 5 → unframeS ((frameS s).take k) 0 = ([], 0, 3) := fun k h1 h2 => spoilt_short (by omega) h1 h2
  have hw := unframe_whole (s := s) (by omega)
  have hsp : ∀ (k : Nat) (x y : UInt8), 1 ≤ k → (frameS s)[k]? = some x → x ≠ y → unframeS ((frameS s).set k y) 0 = ([], 0, 21) := fun k x y h1 h2 h3 => spoilt_sum (by omega) h1 h2 h3
  generalize frameS s = b at *
  have hr : (at_.toNat : Int) % (((b.map cByte).length : Int) - 1) = ((at_.toNat % (s.length + 4) : Nat) : Int) := by
    rw [List.length_map, hl, show (((s.length + 5 : Nat) : Int) - 1) = ((s.length + 4 : Nat) : Int) by omega]; rfl
  have hrl : at_.toNat % (s.length + 4) < s.length + 4 := Nat.mod_lt _ (by omega)
  generalize at_.toNat % (s.length + 4) = r at *
  have hadd : (1 : Int) + (r : Int) = ((1 + r : Nat) : Int) := by omega
  generalize hkr : 1 + r = k at *
  obtain ⟨x, hx⟩ := get_of_lt (l := b) (k := k) (by omega)
  have hs1 := hsh k (by omega) (by omega)
  have hc1 := unframe_con (b.take k) 0 (by simp; omega)
  rw [hs1] at hc1
  have hxor : (x.toNat ^^^ y.toNat) = (x ^^^ y).toNat := (UInt8.toNat_xor x y).symm
  have hbm : 0 < b.length := by omega
  refine k_s ?_; refine k_4 ?_; refine k_d ?_; refine awp_seq ?_; refine k_s ?_; refine k_0 ?_; refine k_52 ?_; refine k_12 ?_; refine k_d ?_; refine k_cf ?_; refine awp_skip ?_; refine k_s ?_; refine k_0 ?_; refine k_55 (hcon := hf) ?_ (hle := by refine ⟨(by exact AVal.le_refl _), ?_⟩; exact trivial) (hLi := by (repeat (first | exact trivial | refine ⟨rfl, ?_⟩ | fail)) <;> fail) (hnew := by (repeat (first | exact trivial | refine ⟨rfl, ?_⟩ | fail)) <;> fail) (hdead := by (repeat (first | exact trivial | refine ⟨rfl, ?_⟩ | fail)) <;> fail); refine k_4 ?_; refine k_d ?_; refine awp_seq ?_; refine k_s ?_; refine k_0 ?_; refine k_52 ?_; refine k_0 ?_; refine k_52 ?_; refine k_5 ?_ (hr := by exact rb_add64 (by unfold in64; (simp; omega))); refine k_6 ?_; refine k_d ?_; refine k_cf ?_; refine awp_skip ?_; refine k_s ?_; refine k_0 ?_; refine k_74 ?_; refine k_0 ?_; refine k_52 ?_; refine k_21 ?_
  refine k_63 (op := .rem) (r' := .int .i64 (r : Nat)) (u := .int .i64 at_.toNat) (v := .int .i64 (((b.map cByte).length : Int) - 1)) ?_ (hr' := by exact congrArg (Value.int .i64) hr) (hr := by exact rb_rem (by omega) (by rw [List.length_map]; omega)); refine k_63 (op := .add) (r' := .int .i64 (k : Nat)) (u := .int .i64 1) (v := .int .i64 (r : Nat)) ?_ (hr' := by exact congrArg (Value.int .i64) hadd) (hr := by exact rb_add64 (by unfold in64; omega)); refine k_4 ?_; refine k_d ?_; refine k_s ?_; refine k_0 ?_; refine k_0 ?_; refine k_99 ?_; refine k_55 (hcon := hc1) ?_ (hle := by refine ⟨(by (refine AVal.le_of_eq ?_; (conv => lhs; whnf); (simp <;> fail))), ?_⟩; refine ⟨(by exact AVal.le_refl _), ?_⟩; exact trivial) (hLi := by (repeat (first | exact trivial | refine ⟨rfl, ?_⟩ | fail)) <;> fail) (hnew := by (repeat (first | exact trivial | refine ⟨rfl, ?_⟩ | fail)) <;> fail) (hdead := by (repeat (first | exact trivial | refine ⟨rfl, ?_⟩ | fail)) <;> fail)
  refine k_0 ?_; refine k_37 ?_; refine k_37 ?_; refine k_37 ?_; refine k_4 ?_; refine k_4 ?_; refine k_4 ?_; refine k_d ?_; refine k_s ?_; refine k_77 (len := 0) (γ := 100) ?_; refine k_0 ?_; refine k_69 ?_; refine k_4 ?_; refine k_d ?_; refine k_s ?_; refine k_0 ?_; refine k_0 ?_; refine k_0 ?_; refine k_0 ?_; refine k_88 ?_; refine k_100 ?_; refine k_0 ?_; refine k_63 (op := .xor) (r' := .int .u8 ((x ^^^ y).toNat : Nat)) (u := .int .u8 x.toNat) (v := .int .u8 y.toNat) ?_ (hr' := by exact congrArg (fun z : Nat => Value.int .u8 z) hxor) (hr := by exact rb_xor (by rw [cap_u8]; exact x.toNat_lt) (by rw [cap_u8]; exact y.toNat_lt)); refine k_88 ?_; refine k_93 ?_ (hn := by simp <;> fail) (hlt := by simp; omega); refine k_d ?_; refine awp_seq ?_
  refine awp_le (le_freeze 100 rfl) ?_
  refine awp_le (le_data 12 100 rfl rfl (by simp only [List.length_append, List.length_take, List.length_drop, List.length_map, List.length_cons, List.length_nil]; omega)) ?_
  refine awp_le (le_slot 12 (y := .d (dBytes (b.set k (x ^^^ y)))) (AVal.le_of_eq (by refine Eq.trans (b := AVal.d (.sl 1 (List.take k ([] ++ List.map cByte b) ++ [[D.v (Value.int .u8 ((x ^^^ y).toNat : Nat))]] ++ List.drop (k + 1) ([] ++ List.map cByte b)))) rfl ?_; exact congrArg (fun z => AVal.d (.sl 1 z)) (set_row (by omega))))) ?_
  have hy0 : (y.toNat : Int) = 0 ↔ y = 0 := by
    constructor
    · intro h; apply UInt8.toNat_inj.1; simp; omega
    · rintro rfl; rfl
  have hc2 := unframe_con (b.set k (x ^^^ y)) 0 (by simp; omega)
  by_cases hy : y = 0
  · have hyi := hy0.2 hy
    have e1 : b.set k (x ^^^ y) = b := by
      rw [hy, UInt8.xor_zero]
      apply List.ext_getElem?
      intro j
      rw [List.getElem?_set]
      split
      · rename_i h; subst h; rw [if_pos (by omega), hx]
      · rfl
    rw [e1] at hc2 ⊢
    rw [hw] at hc2
    refine k_r ?_; refine k_0 ?_; refine k_55 (hcon := hc2) ?_ (hle := by refine ⟨(by exact AVal.le_refl _), ?_⟩; refine ⟨(by exact AVal.le_refl _), ?_⟩; exact trivial) (hLi := by (repeat (first | exact trivial | refine ⟨rfl, ?_⟩ | fail)) <;> fail) (hnew := by (repeat (first | exact trivial | refine ⟨rfl, ?_⟩ | fail)) <;> fail) (hdead := by (repeat (first | exact trivial | refine ⟨rfl, ?_⟩ | fail)) <;> fail); refine k_0 ?_; refine k_37 ?_; refine k_37 ?_; refine k_37 ?_; refine k_4 ?_; refine k_4 ?_; refine k_4 ?_; refine k_d ?_; refine awp_seq ?_; refine k_s ?_; refine k_0 ?_; refine k_5 ?_; refine k_d ?_; refine k_ct ?_; refine k_s ?_; refine k_0 ?_; refine k_80 ?_; refine k_0 ?_; refine k_80 ?_; refine k_5 ?_ (hr := by exact rb_eqls); refine k_0 ?_; refine k_3 ?_; refine k_3 ?_; refine k_52 ?_ (hg := by exact ⟨rfl, congrArg ab (by (simp <;> fail))⟩); refine k_22 ?_; refine k_47 ?_; refine k_0 ?_
    refine k_3 ?_; refine k_22 ?_; refine k_47 ?_; refine k_0 ?_; refine k_2 ?_; refine k_10 ?_; refine k_45 ?_; refine k_0 ?_; refine k_55 (hcon := alive_con) ?_ (hle := by exact trivial) (hLi := by (repeat (first | exact trivial | refine ⟨rfl, ?_⟩ | fail)) <;> fail) (hnew := by (repeat (first | exact trivial | refine ⟨rfl, ?_⟩ | fail)) <;> fail) (hdead := by (repeat (first | exact trivial | refine ⟨rfl, ?_⟩ | fail)) <;> fail) (hg := by exact ⟨rfl, rfl⟩); refine k_45 ?_; refine k_4 ?_; refine k_d ?_
    exact awp_ret ⟨_, St.le_refl _, ⟨rfl, trivial⟩, subL_nil _⟩
  · have hyi : ¬ (y.toNat : Int) = 0 := fun h => hy (hy0.1 h)
    have hne : x ≠ x ^^^ y := by
      intro h
      apply hy
      have : x ^^^ x = x ^^^ (x ^^^ y) := congrArg (x ^^^ ·) h
      rw [← UInt8.xor_assoc, UInt8.xor_self, UInt8.zero_xor] at this
      exact this.symm
    rw [hsp k x (x ^^^ y) (by omega) hx hne] at hc2
    generalize b.set k (x ^^^ y) = b' at *
    refine k_r ?_; refine k_0 ?_; refine k_55 (hcon := hc2) ?_ (hle := by refine ⟨(by exact AVal.le_refl _), ?_⟩; refine ⟨(by exact AVal.le_refl _), ?_⟩; exact trivial) (hLi := by (repeat (first | exact trivial | refine ⟨rfl, ?_⟩ | fail)) <;> fail) (hnew := by (repeat (first | exact trivial | refine ⟨rfl, ?_⟩ | fail)) <;> fail) (hdead := by (repeat (first | exact trivial | refine ⟨rfl, ?_⟩ | fail)) <;> fail); refine k_0 ?_; refine k_37 ?_; refine k_37 ?_; refine k_37 ?_; refine k_4 ?_; refine k_4 ?_; refine k_4 ?_; refine k_d ?_; refine awp_seq ?_; refine k_s ?_; refine k_0 ?_; refine k_5 ?_; refine k_d ?_; refine k_cf ?_; refine awp_skip ?_; refine k_s ?_; refine k_0 ?_; refine k_52 ?_; refine k_5 ?_; refine k_0 ?_; refine k_2 ?_; refine k_10 ?_; refine k_45 ?_; refine k_0 ?_; refine k_2 ?_; refine k_10 ?_; refine k_45 ?_; refine k_0 ?_; refine k_2 ?_; refine k_10 ?_; refine k_45 ?_; refine k_0 ?_
    refine k_55 (hcon := alive_con) ?_ (hle := by exact trivial) (hLi := by (repeat (first | exact trivial | refine ⟨rfl, ?_⟩ | fail)) <;> fail) (hnew := by (repeat (first | exact trivial | refine ⟨rfl, ?_⟩ | fail)) <;> fail) (hdead := by (repeat (first | exact trivial | refine ⟨rfl, ?_⟩ | fail)) <;> fail) (hg := by exact ⟨rfl, rfl⟩); refine k_45 ?_; refine k_4 ?_; refine k_d ?_
    exact awp_ret ⟨_, St.le_refl _, ⟨rfl, trivial⟩, subL_nil _⟩
end Go.Fw

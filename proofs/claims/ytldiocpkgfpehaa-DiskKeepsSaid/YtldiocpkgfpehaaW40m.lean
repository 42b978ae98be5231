import Derived.Test.YtldiocpkgfpehaaW40k
namespace Go.Fw
open Go Go.Proofs
set_option linter.unusedVariables false
set_option linter.unusedSimpArgs false
def fillS (x : UInt8) : List UInt8 := List.replicate 64 x
theorem filled_b (x : UInt8) : Con Try.prog 20 [] [au8 x.toNat] [] (.d (dBytes (fillS x))) := by
  have h := filled_con x.toNat
  have e : List.replicate 64 [D.v (.int .u8 x.toNat)] = (fillS x).map cByte := by simp [fillS]
  rw [e] at h
  exact h
theorem filled_one : Con Try.prog 20 [] [au8 1] [] (.d (dBytes (fillS 1))) := filled_b 1
def exA : Disk := ⟨[fillS 0, fillS 0], [], true⟩
def exB : Disk := ⟨[fillS 0, fillS 0], [⟨0, fillS 1⟩], true⟩
def exP : List UInt8 := 1 :: 1 :: List.replicate 62 0
def exC : Disk := ⟨[exP, fillS 0], [], false⟩
def exD : Disk := ⟨[exP, fillS 0], [], true⟩
theorem al1 : Con Try.prog 18 [] [ai 2] [] (aTwo (aDisk exA) 0) := new_con 2
theorem fewA : fewL exA := by decide
theorem fewB : fewL exB := by decide
theorem fewC : fewL exC := by decide
theorem fewD : fewL exD := by decide
theorem vA : validS exA = true := by decide
theorem vB : validS exB = true := by decide
theorem vC : validS exC = true := by decide
theorem vD : validS exD = true := by decide
theorem uA : usableS exA = 0 := by unfold usableS; rw [vA]; rfl
theorem uB : usableS exB = 0 := by unfold usableS; rw [vB]; rfl
theorem uC : usableS exC = 22 := by unfold usableS; rw [vC]; rfl
theorem uD : usableS exD = 0 := by unfold usableS; rw [vD]; rfl
theorem al2 : Con Try.prog 11 [] [aDisk exA, ai 0, .d (dBytes (fillS 1))] [] (aTwo (aDisk exB) 0) := by
  have h := write_con exA 0 (fillS 1) fewA (by decide)
  rw [show writeS exA 0 (fillS 1) = (exB, 0) by unfold writeS; rw [uA]; rfl] at h
  exact h
theorem al3 : Con Try.prog 21 [] [aDisk exB, ai 0] [] (aTwo (.d (dBytes (fillS 1))) 0) := by
  have h := read_con exB 0 fewB
  rw [show readS exB 0 = (fillS 1, 0) by unfold readS; rw [uB]; rfl] at h
  exact h
theorem al4 : Con Try.prog 14 [] [aDisk exB, .d (dInts [2])] [] (aDisk exC) := by
  have h := crash_con exB [2] fewB
  rw [show crashS exB [2] = exC by unfold crashS; rw [vB]; rfl] at h
  exact h
theorem al5 : Con Try.prog 21 [] [aDisk exC, ai 5] [] (aTwo (.d (dBytes [])) 22) := by
  have h := read_con exC 5 fewC
  rw [show readS exC 5 = ([], 22) by unfold readS; rw [uC]; rfl] at h
  exact h
theorem al6 : Con Try.prog 16 [] [aDisk exC] [] (aDisk exD) := by
  have h := power_con exC fewC
  rw [show powerS exC = exD by unfold powerS; rw [vC]; rfl] at h
  exact h
theorem al7 : Con Try.prog 21 [] [aDisk exD, ai 0] [] (aTwo (.d (dBytes exP)) 0) := by
  have h := read_con exD 0 fewD
  rw [show readS exD 0 = (exP, 0) by unfold readS; rw [uD]; rfl] at h
  exact h
theorem al8 : Con Try.prog 16 [] [aDisk exB] [] (aDisk exB) := by
  have h := power_con exB fewB
  rw [show powerS exB = exB by unfold powerS; rw [vB]; rfl] at h
  exact h
theorem al9 : Con Try.prog 19 [] [aDisk exC] [] (ab true) := by
  have h := valid_con exC
  rw [vC] at h
  exact h
theorem exP0 : exP[0]? = some 1 := rfl
theorem exP1 : exP[1]? = some 1 := rfl
theorem exP2 : exP[2]? = some 0 := rfl
set_option maxHeartbeats 8000000 in
theorem alive_con : Con Try.prog 10 [] [] [] (ab true) := by
  refine con_of (xs := [ab true]) Try.func10 rfl Try.ntmps10 rfl rfl rfl (fun E => ?_)
  have q0 := exP0
  have q1 := exP1
  have q2 := exP2
  refine awp_seq ?_
  refine awp_region (by kernel_rfl) ?_
  apply w_assign
  case hg => exact (by exact True.intro)
  case hx => conv => lhs; whnf
  case hd => exact rfl
  refine .done (by exact fun h => Bool.noConfusion h) ?_
  refine awp_seq ?_
  refine awp_region (by kernel_rfl) ?_
  apply w_call (hcon := al1)
  case hxs => exact rfl
  case hys => conv => lhs; whnf
  case hle => (refine ⟨(by exact AVal.le_refl _), ?_⟩; exact trivial)
  case hf => exact rfl
  case hLi => (repeat (first | exact trivial | refine ⟨rfl, ?_⟩ | fail)) <;> fail
  case hin => exact rfl
  case hbox => exact rfl
  case hres => exact rfl
  case hnew => (repeat (first | exact trivial | refine ⟨rfl, ?_⟩ | fail)) <;> fail
  case hdead => (repeat (first | exact trivial | refine ⟨rfl, ?_⟩ | fail)) <;> fail
  case hd => exact rfl
  case hg => exact (by exact True.intro)
  apply w_move
  case hg => exact (by exact True.intro)
  case hx => conv => lhs; whnf
  case hd => exact rfl
  apply w_extract
  case hg => exact (by exact True.intro)
  case hx => exact rfl
  case hy => conv => lhs; whnf
  case hd => exact rfl
  apply w_extract
  case hg => exact (by exact True.intro)
  case hx => exact rfl
  case hy => conv => lhs; whnf
  case hd => exact rfl
  apply w_alloc (γ := 100)
  case hg => exact (by exact True.intro)
  case hz => exact rfl
  case h1 => exact rfl
  case hdead => exact rfl
  case hf => exact rfl
  case hd => exact rfl
  apply w_store
  case hg => exact (by exact True.intro)
  case hx => exact rfl
  case hL => exact rfl
  case hv => conv => lhs; whnf
  case hc => exact rfl
  case ht => exact rfl
  case hb => exact rfl
  apply w_assign
  case hg => exact (by exact True.intro)
  case hx => conv => lhs; whnf
  case hd => exact rfl
  refine .done (by exact fun h => Bool.noConfusion h) ?_
  refine awp_seq ?_
  refine awp_region (by kernel_rfl) ?_
  apply w_load_boxagg
  case hg => exact (by exact True.intro)
  case hx => exact rfl
  case hL => exact rfl
  case hsz => conv => lhs; whnf
  case ht => exact rfl
  case hy => conv => lhs; whnf
  case hlen => exact rfl
  case hd => exact rfl
  apply w_call (hcon := filled_one)
  case hxs => exact rfl
  case hys => conv => lhs; whnf
  case hle => (refine ⟨(by exact AVal.le_refl _), ?_⟩; exact trivial)
  case hf => exact rfl
  case hLi => (repeat (first | exact trivial | refine ⟨rfl, ?_⟩ | fail)) <;> fail
  case hin => exact rfl
  case hbox => exact rfl
  case hres => exact rfl
  case hnew => (repeat (first | exact trivial | refine ⟨rfl, ?_⟩ | fail)) <;> fail
  case hdead => (repeat (first | exact trivial | refine ⟨rfl, ?_⟩ | fail)) <;> fail
  case hd => exact rfl
  case hg => exact (by exact True.intro)
  apply w_call (hcon := al2)
  case hxs => exact rfl
  case hys => conv => lhs; whnf
  case hle => (refine ⟨(by exact AVal.le_refl _), ?_⟩; refine ⟨(by exact AVal.le_refl _), ?_⟩; refine ⟨(by exact AVal.le_refl _), ?_⟩; exact trivial)
  case hf => exact rfl
  case hLi => (repeat (first | exact trivial | refine ⟨rfl, ?_⟩ | fail)) <;> fail
  case hin => exact rfl
  case hbox => exact rfl
  case hres => exact rfl
  case hnew => (repeat (first | exact trivial | refine ⟨rfl, ?_⟩ | fail)) <;> fail
  case hdead => (repeat (first | exact trivial | refine ⟨rfl, ?_⟩ | fail)) <;> fail
  case hd => exact rfl
  case hg => exact (by exact True.intro)
  apply w_move
  case hg => exact (by exact True.intro)
  case hx => conv => lhs; whnf
  case hd => exact rfl
  apply w_extract
  case hg => exact (by exact True.intro)
  case hx => exact rfl
  case hy => conv => lhs; whnf
  case hd => exact rfl
  apply w_extract
  case hg => exact (by exact True.intro)
  case hx => exact rfl
  case hy => conv => lhs; whnf
  case hd => exact rfl
  apply w_store
  case hg => exact (by exact True.intro)
  case hx => exact rfl
  case hL => exact rfl
  case hv => conv => lhs; whnf
  case hc => exact rfl
  case ht => exact rfl
  case hb => exact rfl
  apply w_assign
  case hg => exact (by exact True.intro)
  case hx => conv => lhs; whnf
  case hd => exact rfl
  refine .done (by exact fun _ => rfl) ?_
  refine awp_seq ?_
  refine awp_region (by kernel_rfl) ?_
  apply w_load_boxagg
  case hg => exact (by exact True.intro)
  case hx => exact rfl
  case hL => exact rfl
  case hsz => conv => lhs; whnf
  case ht => exact rfl
  case hy => conv => lhs; whnf
  case hlen => exact rfl
  case hd => exact rfl
  apply w_call (hcon := al3)
  case hxs => exact rfl
  case hys => conv => lhs; whnf
  case hle => (refine ⟨(by exact AVal.le_refl _), ?_⟩; refine ⟨(by exact AVal.le_refl _), ?_⟩; exact trivial)
  case hf => exact rfl
  case hLi => (repeat (first | exact trivial | refine ⟨rfl, ?_⟩ | fail)) <;> fail
  case hin => exact rfl
  case hbox => exact rfl
  case hres => exact rfl
  case hnew => (repeat (first | exact trivial | refine ⟨rfl, ?_⟩ | fail)) <;> fail
  case hdead => (repeat (first | exact trivial | refine ⟨rfl, ?_⟩ | fail)) <;> fail
  case hd => exact rfl
  case hg => exact (by exact True.intro)
  apply w_move
  case hg => exact (by exact True.intro)
  case hx => conv => lhs; whnf
  case hd => exact rfl
  apply w_extract
  case hg => exact (by exact True.intro)
  case hx => exact rfl
  case hy => conv => lhs; whnf
  case hd => exact rfl
  apply w_extract
  case hg => exact (by exact True.intro)
  case hx => exact rfl
  case hy => conv => lhs; whnf
  case hd => exact rfl
  apply w_assign
  case hg => exact (by exact True.intro)
  case hx => conv => lhs; whnf
  case hd => exact rfl
  apply w_assign
  case hg => exact (by exact True.intro)
  case hx => conv => lhs; whnf
  case hd => exact rfl
  refine .done (by exact fun h => Bool.noConfusion h) ?_
  refine awp_seq ?_
  refine awp_region (by kernel_rfl) ?_
  apply w_load_boxagg
  case hg => exact (by exact True.intro)
  case hx => exact rfl
  case hL => exact rfl
  case hsz => conv => lhs; whnf
  case ht => exact rfl
  case hy => conv => lhs; whnf
  case hlen => exact rfl
  case hd => exact rfl
  apply w_lit
  case hg => exact (by exact True.intro)
  case hpl => exact rfl
  case hps => conv => lhs; whnf
  case hz => exact rfl
  case hS => conv => lhs; whnf
  case hT => exact rfl
  case hzl => exact rfl
  case hz1 => exact rfl
  case hsmall => exact rfl
  case hsl => exact rfl
  case hout => conv => lhs; whnf
  case hxs => conv => lhs; whnf
  case hd => exact rfl
  apply w_call (hcon := al4)
  case hxs => exact rfl
  case hys => conv => lhs; whnf
  case hle => (refine ⟨(by exact AVal.le_refl _), ?_⟩; refine ⟨(by exact AVal.le_refl _), ?_⟩; exact trivial)
  case hf => exact rfl
  case hLi => (repeat (first | exact trivial | refine ⟨rfl, ?_⟩ | fail)) <;> fail
  case hin => exact rfl
  case hbox => exact rfl
  case hres => exact rfl
  case hnew => (repeat (first | exact trivial | refine ⟨rfl, ?_⟩ | fail)) <;> fail
  case hdead => (repeat (first | exact trivial | refine ⟨rfl, ?_⟩ | fail)) <;> fail
  case hd => exact rfl
  case hg => exact (by exact True.intro)
  apply w_alloc (γ := 101)
  case hg => exact (by exact True.intro)
  case hz => exact rfl
  case h1 => exact rfl
  case hdead => exact rfl
  case hf => exact rfl
  case hd => exact rfl
  apply w_store
  case hg => exact (by exact True.intro)
  case hx => exact rfl
  case hL => exact rfl
  case hv => conv => lhs; whnf
  case hc => exact rfl
  case ht => exact rfl
  case hb => exact rfl
  refine .done (by exact fun h => Bool.noConfusion h) ?_
  refine awp_seq ?_
  refine awp_region (by kernel_rfl) ?_
  apply w_load_boxagg
  case hg => exact (by exact True.intro)
  case hx => exact rfl
  case hL => exact rfl
  case hsz => conv => lhs; whnf
  case ht => exact rfl
  case hy => conv => lhs; whnf
  case hlen => exact rfl
  case hd => exact rfl
  apply w_call (hcon := al5)
  case hxs => exact rfl
  case hys => conv => lhs; whnf
  case hle => (refine ⟨(by exact AVal.le_refl _), ?_⟩; refine ⟨(by exact AVal.le_refl _), ?_⟩; exact trivial)
  case hf => exact rfl
  case hLi => (repeat (first | exact trivial | refine ⟨rfl, ?_⟩ | fail)) <;> fail
  case hin => exact rfl
  case hbox => exact rfl
  case hres => exact rfl
  case hnew => (repeat (first | exact trivial | refine ⟨rfl, ?_⟩ | fail)) <;> fail
  case hdead => (repeat (first | exact trivial | refine ⟨rfl, ?_⟩ | fail)) <;> fail
  case hd => exact rfl
  case hg => exact (by exact True.intro)
  apply w_move
  case hg => exact (by exact True.intro)
  case hx => conv => lhs; whnf
  case hd => exact rfl
  apply w_extract
  case hg => exact (by exact True.intro)
  case hx => exact rfl
  case hy => conv => lhs; whnf
  case hd => exact rfl
  apply w_extract
  case hg => exact (by exact True.intro)
  case hx => exact rfl
  case hy => conv => lhs; whnf
  case hd => exact rfl
  apply w_assign
  case hg => exact (by exact True.intro)
  case hx => conv => lhs; whnf
  case hd => exact rfl
  apply w_assign
  case hg => exact (by exact True.intro)
  case hx => conv => lhs; whnf
  case hd => exact rfl
  refine .done (by exact fun h => Bool.noConfusion h) ?_
  refine awp_seq ?_
  refine awp_region (by kernel_rfl) ?_
  apply w_load_boxagg
  case hg => exact (by exact True.intro)
  case hx => exact rfl
  case hL => exact rfl
  case hsz => conv => lhs; whnf
  case ht => exact rfl
  case hy => conv => lhs; whnf
  case hlen => exact rfl
  case hd => exact rfl
  apply w_call (hcon := al6)
  case hxs => exact rfl
  case hys => conv => lhs; whnf
  case hle => (refine ⟨(by exact AVal.le_refl _), ?_⟩; exact trivial)
  case hf => exact rfl
  case hLi => (repeat (first | exact trivial | refine ⟨rfl, ?_⟩ | fail)) <;> fail
  case hin => exact rfl
  case hbox => exact rfl
  case hres => exact rfl
  case hnew => (repeat (first | exact trivial | refine ⟨rfl, ?_⟩ | fail)) <;> fail
  case hdead => (repeat (first | exact trivial | refine ⟨rfl, ?_⟩ | fail)) <;> fail
  case hd => exact rfl
  case hg => exact (by exact True.intro)
  apply w_call (hcon := al7)
  case hxs => exact rfl
  case hys => conv => lhs; whnf
  case hle => (refine ⟨(by exact AVal.le_refl _), ?_⟩; refine ⟨(by exact AVal.le_refl _), ?_⟩; exact trivial)
  case hf => exact rfl
  case hLi => (repeat (first | exact trivial | refine ⟨rfl, ?_⟩ | fail)) <;> fail
  case hin => exact rfl
  case hbox => exact rfl
  case hres => exact rfl
  case hnew => (repeat (first | exact trivial | refine ⟨rfl, ?_⟩ | fail)) <;> fail
  case hdead => (repeat (first | exact trivial | refine ⟨rfl, ?_⟩ | fail)) <;> fail
  case hd => exact rfl
  case hg => exact (by exact True.intro)
  apply w_move
  case hg => exact (by exact True.intro)
  case hx => conv => lhs; whnf
  case hd => exact rfl
  apply w_extract
  case hg => exact (by exact True.intro)
  case hx => exact rfl
  case hy => conv => lhs; whnf
  case hd => exact rfl
  apply w_extract
  case hg => exact (by exact True.intro)
  case hx => exact rfl
  case hy => conv => lhs; whnf
  case hd => exact rfl
  apply w_assign
  case hg => exact (by exact True.intro)
  case hx => conv => lhs; whnf
  case hd => exact rfl
  apply w_assign
  case hg => exact (by exact True.intro)
  case hx => conv => lhs; whnf
  case hd => exact rfl
  refine .done (by exact fun h => Bool.noConfusion h) ?_
  refine awp_seq ?_
  refine awp_seq ?_
  refine awp_region (by kernel_rfl) ?_
  apply w_move
  case hg => exact (by exact True.intro)
  case hx => conv => lhs; whnf
  case hd => exact rfl
  apply w_len_data
  case hg => exact (by exact True.intro)
  case hx => exact rfl
  case hT => exact rfl
  case hd => exact rfl
  apply w_bin
  case hg => exact (by exact True.intro)
  case hx => exact rfl
  case hy => exact rfl
  case hr => exact rb_neq
  case h1 => exact rfl
  case hd => exact rfl
  refine .done (by exact fun h => Bool.noConfusion h) ?_
  refine awp_cond_f rfl (by rfl) ?_
  refine awp_skip ?_
  refine awp_seq ?_
  refine awp_region (by kernel_rfl) ?_
  apply w_move
  case hg => exact (by exact True.intro)
  case hx => conv => lhs; whnf
  case hd => exact rfl
  apply w_bin
  case hg => exact (by exact True.intro)
  case hx => exact rfl
  case hy => exact rfl
  case hr => exact rb_eql
  case h1 => exact rfl
  case hd => exact rfl
  apply w_move
  case hg => exact (by exact True.intro)
  case hx => conv => lhs; whnf
  case hd => exact rfl
  apply w_move
  case hg => exact (by exact ⟨rfl, rfl⟩)
  case hx => conv => lhs; whnf
  case hd => exact rfl
  apply w_bin
  case hg => exact (by exact ⟨rfl, rfl⟩)
  case hx => exact rfl
  case hy => exact rfl
  case hr => exact rb_eql
  case h1 => exact rfl
  case hd => exact rfl
  apply w_pick_t
  case hg => exact (by exact True.intro)
  case hc => exact rfl
  case hb => exact (by rfl)
  case hx => conv => lhs; whnf
  case hd => exact rfl
  apply w_move
  case hg => exact (by exact True.intro)
  case hx => conv => lhs; whnf
  case hd => exact rfl
  apply w_move
  case hg => exact (by exact ⟨rfl, rfl⟩)
  case hx => conv => lhs; whnf
  case hd => exact rfl
  apply w_bin
  case hg => exact (by exact ⟨rfl, rfl⟩)
  case hx => exact rfl
  case hy => exact rfl
  case hr => exact rb_eql
  case h1 => exact rfl
  case hd => exact rfl
  apply w_pick_t
  case hg => exact (by exact True.intro)
  case hc => exact rfl
  case hb => exact (by rfl)
  case hx => conv => lhs; whnf
  case hd => exact rfl
  apply w_move
  case hg => exact (by exact True.intro)
  case hx => conv => lhs; whnf
  case hd => exact rfl
  apply w_move
  case hg => exact (by exact ⟨rfl, rfl⟩)
  case hx => conv => lhs; whnf
  case hd => exact rfl
  apply w_bin
  case hg => exact (by exact ⟨rfl, rfl⟩)
  case hx => exact rfl
  case hy => exact rfl
  case hr => exact rb_eql
  case h1 => exact rfl
  case hd => exact rfl
  apply w_pick_t
  case hg => exact (by exact True.intro)
  case hc => exact rfl
  case hb => exact (by rfl)
  case hx => conv => lhs; whnf
  case hd => exact rfl
  apply w_move
  case hg => exact (by exact True.intro)
  case hx => conv => lhs; whnf
  case hd => exact rfl
  apply w_move
  case hg => exact (by exact ⟨rfl, rfl⟩)
  case hx => conv => lhs; whnf
  case hd => exact rfl
  apply w_str
  case hg => exact (by exact ⟨rfl, rfl⟩)
  case hx => exact rfl
  case ht => exact rfl
  case hd => exact rfl
  apply w_call (hcon := filled_one)
  case hxs => exact rfl
  case hys => conv => lhs; whnf
  case hle => (refine ⟨(by exact AVal.le_refl _), ?_⟩; exact trivial)
  case hf => exact rfl
  case hLi => (repeat (first | exact trivial | refine ⟨rfl, ?_⟩ | fail)) <;> fail
  case hin => exact rfl
  case hbox => exact rfl
  case hres => exact rfl
  case hnew => (repeat (first | exact trivial | refine ⟨rfl, ?_⟩ | fail)) <;> fail
  case hdead => (repeat (first | exact trivial | refine ⟨rfl, ?_⟩ | fail)) <;> fail
  case hd => exact rfl
  case hg => exact (by exact ⟨rfl, rfl⟩)
  apply w_str
  case hg => exact (by exact ⟨rfl, rfl⟩)
  case hx => exact rfl
  case ht => exact rfl
  case hd => exact rfl
  apply w_bin
  case hg => exact (by exact ⟨rfl, rfl⟩)
  case hx => exact rfl
  case hy => exact rfl
  case hr => exact rb_eqls
  case h1 => exact rfl
  case hd => exact rfl
  apply w_pick_t
  case hg => exact (by exact True.intro)
  case hc => exact rfl
  case hb => exact (by rfl)
  case hx => conv => lhs; whnf
  case hd => exact rfl
  apply w_move
  case hg => exact (by exact True.intro)
  case hx => conv => lhs; whnf
  case hd => exact rfl
  apply w_move
  case hg => exact (by exact ⟨rfl, rfl⟩)
  case hx => conv => lhs; whnf
  case hd => exact rfl
  apply w_bin
  case hg => exact (by exact ⟨rfl, rfl⟩)
  case hx => exact rfl
  case hy => exact rfl
  case hr => exact rb_eql
  case h1 => exact rfl
  case hd => exact rfl
  apply w_pick_t
  case hg => exact (by exact True.intro)
  case hc => exact rfl
  case hb => exact (by rfl)
  case hx => conv => lhs; whnf
  case hd => exact rfl
  apply w_move
  case hg => exact (by exact True.intro)
  case hx => conv => lhs; whnf
  case hd => exact rfl
  apply w_move
  case hg => exact (by exact ⟨rfl, rfl⟩)
  case hx => conv => lhs; whnf
  case hd => exact rfl
  apply w_index_data
  case hg => exact (by exact ⟨rfl, rfl⟩)
  case hx => exact rfl
  case hi => exact rfl
  case hk => exact rfl
  case hr => exact map_get (by assumption)
  case hT => exact rfl
  case hd => exact rfl
  apply w_load_d
  case hg => exact (by exact ⟨rfl, rfl⟩)
  case hx => exact rfl
  case ht => exact rfl
  case hd => exact rfl
  apply w_bin
  case hg => exact (by exact ⟨rfl, rfl⟩)
  case hx => exact rfl
  case hy => exact rfl
  case hr => exact rb_eql
  case h1 => exact rfl
  case hd => exact rfl
  apply w_pick_t
  case hg => exact (by exact True.intro)
  case hc => exact rfl
  case hb => exact (by rfl)
  case hx => conv => lhs; whnf
  case hd => exact rfl
  apply w_move
  case hg => exact (by exact True.intro)
  case hx => conv => lhs; whnf
  case hd => exact rfl
  apply w_move
  case hg => exact (by exact ⟨rfl, rfl⟩)
  case hx => conv => lhs; whnf
  case hd => exact rfl
  apply w_index_data
  case hg => exact (by exact ⟨rfl, rfl⟩)
  case hx => exact rfl
  case hi => exact rfl
  case hk => exact rfl
  case hr => exact map_get (by assumption)
  case hT => exact rfl
  case hd => exact rfl
  apply w_load_d
  case hg => exact (by exact ⟨rfl, rfl⟩)
  case hx => exact rfl
  case ht => exact rfl
  case hd => exact rfl
  apply w_bin
  case hg => exact (by exact ⟨rfl, rfl⟩)
  case hx => exact rfl
  case hy => exact rfl
  case hr => exact rb_eql
  case h1 => exact rfl
  case hd => exact rfl
  apply w_pick_t
  case hg => exact (by exact True.intro)
  case hc => exact rfl
  case hb => exact (by rfl)
  case hx => conv => lhs; whnf
  case hd => exact rfl
  apply w_move
  case hg => exact (by exact True.intro)
  case hx => conv => lhs; whnf
  case hd => exact rfl
  apply w_move
  case hg => exact (by exact ⟨rfl, rfl⟩)
  case hx => conv => lhs; whnf
  case hd => exact rfl
  apply w_index_data
  case hg => exact (by exact ⟨rfl, rfl⟩)
  case hx => exact rfl
  case hi => exact rfl
  case hk => exact rfl
  case hr => exact map_get (by assumption)
  case hT => exact rfl
  case hd => exact rfl
  apply w_load_d
  case hg => exact (by exact ⟨rfl, rfl⟩)
  case hx => exact rfl
  case ht => exact rfl
  case hd => exact rfl
  apply w_bin
  case hg => exact (by exact ⟨rfl, rfl⟩)
  case hx => exact rfl
  case hy => exact rfl
  case hr => exact rb_eql
  case h1 => exact rfl
  case hd => exact rfl
  apply w_pick_t
  case hg => exact (by exact True.intro)
  case hc => exact rfl
  case hb => exact (by rfl)
  case hx => conv => lhs; whnf
  case hd => exact rfl
  apply w_move
  case hg => exact (by exact True.intro)
  case hx => conv => lhs; whnf
  case hd => exact rfl
  apply w_field_box
  case hg => exact (by exact ⟨rfl, rfl⟩)
  case hx => exact rfl
  case hoff => conv => lhs; whnf
  case hf => exact rfl
  case hd => exact rfl
  apply w_load_box
  case hg => exact (by exact ⟨rfl, rfl⟩)
  case hx => exact rfl
  case hL => exact rfl
  case hy => conv => lhs; whnf
  case ht => exact rfl
  case hd => exact rfl
  apply w_un
  case hg => exact (by exact ⟨rfl, rfl⟩)
  case hx => exact rfl
  case hr => exact ru_not
  case h1 => exact rfl
  case hd => exact rfl
  apply w_pick_t
  case hg => exact (by exact True.intro)
  case hc => exact rfl
  case hb => exact (by rfl)
  case hx => conv => lhs; whnf
  case hd => exact rfl
  apply w_move
  case hg => exact (by exact True.intro)
  case hx => conv => lhs; whnf
  case hd => exact rfl
  apply w_load_boxagg
  case hg => exact (by exact ⟨rfl, rfl⟩)
  case hx => exact rfl
  case hL => exact rfl
  case hsz => conv => lhs; whnf
  case ht => exact rfl
  case hy => conv => lhs; whnf
  case hlen => exact rfl
  case hd => exact rfl
  apply w_call (hcon := al9)
  case hxs => exact rfl
  case hys => conv => lhs; whnf
  case hle => (refine ⟨(by exact AVal.le_refl _), ?_⟩; exact trivial)
  case hf => exact rfl
  case hLi => (repeat (first | exact trivial | refine ⟨rfl, ?_⟩ | fail)) <;> fail
  case hin => exact rfl
  case hbox => exact rfl
  case hres => exact rfl
  case hnew => (repeat (first | exact trivial | refine ⟨rfl, ?_⟩ | fail)) <;> fail
  case hdead => (repeat (first | exact trivial | refine ⟨rfl, ?_⟩ | fail)) <;> fail
  case hd => exact rfl
  case hg => exact (by exact ⟨rfl, rfl⟩)
  apply w_pick_t
  case hg => exact (by exact True.intro)
  case hc => exact rfl
  case hb => exact (by rfl)
  case hx => conv => lhs; whnf
  case hd => exact rfl
  apply w_move
  case hg => exact (by exact True.intro)
  case hx => conv => lhs; whnf
  case hd => exact rfl
  apply w_load_boxagg
  case hg => exact (by exact ⟨rfl, rfl⟩)
  case hx => exact rfl
  case hL => exact rfl
  case hsz => conv => lhs; whnf
  case ht => exact rfl
  case hy => conv => lhs; whnf
  case hlen => exact rfl
  case hd => exact rfl
  apply w_call (hcon := al8)
  case hxs => exact rfl
  case hys => conv => lhs; whnf
  case hle => (refine ⟨(by exact AVal.le_refl _), ?_⟩; exact trivial)
  case hf => exact rfl
  case hLi => (repeat (first | exact trivial | refine ⟨rfl, ?_⟩ | fail)) <;> fail
  case hin => exact rfl
  case hbox => exact rfl
  case hres => exact rfl
  case hnew => (repeat (first | exact trivial | refine ⟨rfl, ?_⟩ | fail)) <;> fail
  case hdead => (repeat (first | exact trivial | refine ⟨rfl, ?_⟩ | fail)) <;> fail
  case hd => exact rfl
  case hg => exact (by exact ⟨rfl, rfl⟩)
  apply w_fieldv
  case hg => exact (by exact ⟨rfl, rfl⟩)
  case hx => exact rfl
  case hoff => conv => lhs; whnf
  case hsz => conv => lhs; whnf
  case hf => exact rfl
  case hy => conv => lhs; whnf
  case hd => exact rfl
  apply w_len_data
  case hg => exact (by exact ⟨rfl, rfl⟩)
  case hx => exact rfl
  case hT => exact rfl
  case hd => exact rfl
  apply w_bin
  case hg => exact (by exact ⟨rfl, rfl⟩)
  case hx => exact rfl
  case hy => exact rfl
  case hr => exact rb_eql
  case h1 => exact rfl
  case hd => exact rfl
  apply w_pick_t
  case hg => exact (by exact True.intro)
  case hc => exact rfl
  case hb => exact (by rfl)
  case hx => conv => lhs; whnf
  case hd => exact rfl
  apply w_assign
  case hg => exact (by exact True.intro)
  case hx => conv => lhs; whnf
  case hd => exact rfl
  refine .done (by exact fun _ => rfl) ?_
  exact awp_ret ⟨_, St.le_refl _, ⟨rfl, trivial⟩, subL_nil _⟩
end Go.Fw

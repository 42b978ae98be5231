import Derived.Test.YtldiocpkgfpehaaW40g
namespace Go.Fw
open Go Go.Proofs
set_option linter.unusedVariables false
set_option linter.unusedSimpArgs false

theorem perform_whole (rows : List (List UInt8)) (pend : List Wr) (hok : okW rows pend) (hl : rows.length ≤ 4096) (hp : pend.length ≤ 4096) : Con Try.prog 38 [(1, .mat 1 (rows.map fun s => s.map cByte))] [.agg [.d (dPend pend)], .own 1 rows.length, .fn 36 []]
    [(1, .mat 1 ((performK rows pend (fun _ => 64) pend.length).map fun s => s.map cByte))] (.own 1 rows.length) := by
  have h := con_swp 0 1 (perform_whole0 rows pend hok hl hp)
  exact h
set_option maxHeartbeats 8000000 in
theorem flush_whole0 (rows : List (List UInt8)) (pend : List Wr) (on : Bool) (hok : okW rows pend) (hl : rows.length ≤ 4096) (hp : pend.length ≤ 4096) : Con Try.prog 33 [(0, .row 2 (pend.map cWr)), (1, .mat 1 (rows.map fun s => s.map cByte))] [.agg [.own 0 pend.length, .own 1 rows.length, ab on], .fn 36 []]
    [(0, .froz 2 (pend.map cWr)), (1, .mat 1 ((performK rows pend (fun _ => 64) pend.length).map fun s => s.map cByte)), (122, .row 2 [])] (.agg [.own 122 0, .own 1 rows.length, ab on]) := by
  refine con_of (xs := [.agg [.own 122 0, .own 1 rows.length, ab on]]) Try.func33 rfl Try.ntmps33 rfl rfl rfl (fun E => ?_)
  refine awp_seq ?_
  refine awp_region (by kernel_rfl) ?_
  apply w_box (γ := 100)
  case hg => exact (by exact True.intro)
  case hx => conv => lhs; whnf
  case hc => exact rfl
  case hdead => exact rfl
  case hf => exact rfl
  case hm => exact rfl
  case hd => exact rfl
  apply w_alloc (γ := 101)
  case hg => exact (by exact True.intro)
  case hz => exact rfl
  case h1 => exact rfl
  case hdead => exact rfl
  case hf => exact rfl
  case hd => exact rfl
  refine .done (by exact fun h => Bool.noConfusion h) ?_
  refine awp_le (le_freeze 0 rfl) ?_
  refine awp_le (le_data_box 100 0 0 (cs := [.own 0 pend.length, .own 1 rows.length, ab on]) (sz := 2) (xs := pend.map cWr) rfl rfl rfl (by simp)) ?_
  refine awp_seq ?_
  refine awp_region (by kernel_rfl) ?_
  apply w_field_box
  case hg => exact (by exact True.intro)
  case hx => exact rfl
  case hoff => conv => lhs; whnf
  case hf => exact rfl
  case hd => exact rfl
  apply w_load_boxagg
  case hg => exact (by exact True.intro)
  case hx => exact rfl
  case hL => exact rfl
  case hsz => conv => lhs; whnf
  case ht => exact rfl
  case hy => conv => lhs; whnf
  case hlen => exact rfl
  case hd => exact rfl
  apply w_field_box
  case hg => exact (by exact True.intro)
  case hx => exact rfl
  case hoff => conv => lhs; whnf
  case hf => exact rfl
  case hd => exact rfl
  apply w_load_box
  case hg => exact (by exact True.intro)
  case hx => exact rfl
  case hL => exact rfl
  case hy => conv => lhs; whnf
  case ht => exact rfl
  case hd => exact rfl
  apply w_move
  case hg => exact (by exact True.intro)
  case hx => conv => lhs; whnf
  case hd => exact rfl
  apply w_call (hcon := perform_whole rows pend hok hl hp)
  case hxs => exact rfl
  case hys => conv => lhs; whnf
  case hle => (refine ⟨(by exact AVal.le_refl _), ?_⟩; refine ⟨(by exact AVal.le_refl _), ?_⟩; refine ⟨(by exact AVal.le_refl _), ?_⟩; exact trivial)
  case hf => exact rfl
  case hLi => (repeat (first | exact trivial | refine ⟨rfl, ?_⟩ | fail)) <;> fail
  case hin => exact rfl
  case hbox => exact rfl
  case hres => exact rfl
  case hnew => (repeat (first | exact trivial | refine ⟨rfl, ?_⟩ | fail)) <;> fail
  case hdead => (repeat (first | exact trivial | refine ⟨rfl, ?_⟩ | fail)) <;> fail
  case hd => exact rfl
  case hg => exact (by exact True.intro)
  apply w_field_box
  case hg => exact (by exact True.intro)
  case hx => exact rfl
  case hoff => conv => lhs; whnf
  case hf => exact rfl
  case hd => exact rfl
  apply w_store
  case hg => exact (by exact True.intro)
  case hx => exact rfl
  case hL => exact rfl
  case hv => conv => lhs; whnf
  case hc => exact rfl
  case ht => exact rfl
  case hb => exact rfl
  refine .done (by exact fun h => Bool.noConfusion h) ?_
  refine awp_seq ?_
  refine awp_region (by kernel_rfl) ?_
  apply w_field_box
  case hg => exact (by exact True.intro)
  case hx => exact rfl
  case hoff => conv => lhs; whnf
  case hf => exact rfl
  case hd => exact rfl
  apply w_field_box
  case hg => exact (by exact True.intro)
  case hx => exact rfl
  case hoff => conv => lhs; whnf
  case hf => exact rfl
  case hd => exact rfl
  apply w_store
  case hg => exact (by exact True.intro)
  case hx => exact rfl
  case hL => exact rfl
  case hv => conv => lhs; whnf
  case hc => exact rfl
  case ht => exact rfl
  case hb => exact rfl
  refine .done (by exact fun h => Bool.noConfusion h) ?_
  refine awp_seq ?_
  refine awp_region (by kernel_rfl) ?_
  apply w_load_boxagg
  case hg => exact (by exact True.intro)
  case hx => exact rfl
  case hL => exact rfl
  case hsz => conv => lhs; whnf
  case ht => exact rfl
  case hy => conv => lhs; whnf
  case hlen => exact rfl
  case hd => exact rfl
  apply w_store
  case hg => exact (by exact True.intro)
  case hx => exact rfl
  case hL => exact rfl
  case hv => conv => lhs; whnf
  case hc => exact rfl
  case ht => exact rfl
  case hb => exact rfl
  refine .done (by exact fun h => Bool.noConfusion h) ?_
  refine awp_le (le_adopt_box 101 0 122 2 (cs := [ani, .own 1 rows.length, ab on]) rfl rfl rfl rfl rfl) ?_
  exact awp_ret ⟨_, St.le_refl _, ⟨⟨101, 0, _, rfl, rfl, .inr ⟨3, _, rfl, rfl, rfl, rfl⟩⟩, trivial⟩, subL_of ⟨rfl, rfl, rfl, trivial⟩⟩

theorem perform_keep (keep : List Int) (rows : List (List UInt8)) (pend : List Wr) (hok : okW rows pend) (hl : rows.length ≤ 4096) (hp : pend.length ≤ 4096) : Con Try.prog 38 [(1, .mat 1 (rows.map fun s => s.map cByte)), (2, .box [.d (dInts keep)])] [.agg [.d (dPend pend)], .own 1 rows.length, .fn 34 [.ptr 2 0]]
    [(1, .mat 1 ((performK rows pend (keepS keep) pend.length).map fun s => s.map cByte)), (2, .box [.d (dInts keep)])] (.own 1 rows.length) := by
  have h := con_swp 0 2 (con_swp 0 1 (perform_keep0 keep rows pend hok hl hp))
  exact h
set_option maxHeartbeats 8000000 in
theorem flush_keep0 (keep : List Int) (rows : List (List UInt8)) (pend : List Wr) (on : Bool) (hok : okW rows pend) (hl : rows.length ≤ 4096) (hp : pend.length ≤ 4096) : Con Try.prog 33 [(0, .row 2 (pend.map cWr)), (1, .mat 1 (rows.map fun s => s.map cByte)), (2, .box [.d (dInts keep)])] [.agg [.own 0 pend.length, .own 1 rows.length, ab on], .fn 34 [.ptr 2 0]]
    [(0, .froz 2 (pend.map cWr)), (1, .mat 1 ((performK rows pend (keepS keep) pend.length).map fun s => s.map cByte)), (122, .row 2 []), (2, .box [.d (dInts keep)])] (.agg [.own 122 0, .own 1 rows.length, ab on]) := by
  refine con_of (xs := [.agg [.own 122 0, .own 1 rows.length, ab on]]) Try.func33 rfl Try.ntmps33 rfl rfl rfl (fun E => ?_)
  refine awp_seq ?_
  refine awp_region (by kernel_rfl) ?_
  apply w_box (γ := 100)
  case hg => exact (by exact True.intro)
  case hx => conv => lhs; whnf
  case hc => exact rfl
  case hdead => exact rfl
  case hf => exact rfl
  case hm => exact rfl
  case hd => exact rfl
  apply w_alloc (γ := 101)
  case hg => exact (by exact True.intro)
  case hz => exact rfl
  case h1 => exact rfl
  case hdead => exact rfl
  case hf => exact rfl
  case hd => exact rfl
  refine .done (by exact fun h => Bool.noConfusion h) ?_
  refine awp_le (le_freeze 0 rfl) ?_
  refine awp_le (le_data_box 100 0 0 (cs := [.own 0 pend.length, .own 1 rows.length, ab on]) (sz := 2) (xs := pend.map cWr) rfl rfl rfl (by simp)) ?_
  refine awp_seq ?_
  refine awp_region (by kernel_rfl) ?_
  apply w_field_box
  case hg => exact (by exact True.intro)
  case hx => exact rfl
  case hoff => conv => lhs; whnf
  case hf => exact rfl
  case hd => exact rfl
  apply w_load_boxagg
  case hg => exact (by exact True.intro)
  case hx => exact rfl
  case hL => exact rfl
  case hsz => conv => lhs; whnf
  case ht => exact rfl
  case hy => conv => lhs; whnf
  case hlen => exact rfl
  case hd => exact rfl
  apply w_field_box
  case hg => exact (by exact True.intro)
  case hx => exact rfl
  case hoff => conv => lhs; whnf
  case hf => exact rfl
  case hd => exact rfl
  apply w_load_box
  case hg => exact (by exact True.intro)
  case hx => exact rfl
  case hL => exact rfl
  case hy => conv => lhs; whnf
  case ht => exact rfl
  case hd => exact rfl
  apply w_move
  case hg => exact (by exact True.intro)
  case hx => conv => lhs; whnf
  case hd => exact rfl
  apply w_call (hcon := perform_keep keep rows pend hok hl hp)
  case hxs => exact rfl
  case hys => conv => lhs; whnf
  case hle => (refine ⟨(by exact AVal.le_refl _), ?_⟩; refine ⟨(by exact AVal.le_refl _), ?_⟩; refine ⟨(by exact AVal.le_refl _), ?_⟩; exact trivial)
  case hf => exact rfl
  case hLi => (repeat (first | exact trivial | refine ⟨rfl, ?_⟩ | fail)) <;> fail
  case hin => exact rfl
  case hbox => exact rfl
  case hres => exact rfl
  case hnew => (repeat (first | exact trivial | refine ⟨rfl, ?_⟩ | fail)) <;> fail
  case hdead => (repeat (first | exact trivial | refine ⟨rfl, ?_⟩ | fail)) <;> fail
  case hd => exact rfl
  case hg => exact (by exact True.intro)
  apply w_field_box
  case hg => exact (by exact True.intro)
  case hx => exact rfl
  case hoff => conv => lhs; whnf
  case hf => exact rfl
  case hd => exact rfl
  apply w_store
  case hg => exact (by exact True.intro)
  case hx => exact rfl
  case hL => exact rfl
  case hv => conv => lhs; whnf
  case hc => exact rfl
  case ht => exact rfl
  case hb => exact rfl
  refine .done (by exact fun h => Bool.noConfusion h) ?_
  refine awp_seq ?_
  refine awp_region (by kernel_rfl) ?_
  apply w_field_box
  case hg => exact (by exact True.intro)
  case hx => exact rfl
  case hoff => conv => lhs; whnf
  case hf => exact rfl
  case hd => exact rfl
  apply w_field_box
  case hg => exact (by exact True.intro)
  case hx => exact rfl
  case hoff => conv => lhs; whnf
  case hf => exact rfl
  case hd => exact rfl
  apply w_store
  case hg => exact (by exact True.intro)
  case hx => exact rfl
  case hL => exact rfl
  case hv => conv => lhs; whnf
  case hc => exact rfl
  case ht => exact rfl
  case hb => exact rfl
  refine .done (by exact fun h => Bool.noConfusion h) ?_
  refine awp_seq ?_
  refine awp_region (by kernel_rfl) ?_
  apply w_load_boxagg
  case hg => exact (by exact True.intro)
  case hx => exact rfl
  case hL => exact rfl
  case hsz => conv => lhs; whnf
  case ht => exact rfl
  case hy => conv => lhs; whnf
  case hlen => exact rfl
  case hd => exact rfl
  apply w_store
  case hg => exact (by exact True.intro)
  case hx => exact rfl
  case hL => exact rfl
  case hv => conv => lhs; whnf
  case hc => exact rfl
  case ht => exact rfl
  case hb => exact rfl
  refine .done (by exact fun h => Bool.noConfusion h) ?_
  refine awp_le (le_adopt_box 101 0 122 2 (cs := [ani, .own 1 rows.length, ab on]) rfl rfl rfl rfl rfl) ?_
  exact awp_ret ⟨_, St.le_refl _, ⟨⟨101, 0, _, rfl, rfl, .inr ⟨3, _, rfl, rfl, rfl, rfl⟩⟩, trivial⟩, subL_of ⟨rfl, rfl, rfl, rfl, trivial⟩⟩
theorem flush_whole (rows : List (List UInt8)) (pend : List Wr) (on : Bool) (hok : okW rows pend) (hl : rows.length ≤ 4096) (hp : pend.length ≤ 4096) : Con Try.prog 33 [(120, .row 2 (pend.map cWr)), (121, .mat 1 (rows.map fun s => s.map cByte))] [.agg [.own 120 pend.length, .own 121 rows.length, ab on], .fn 36 []]
    [(120, .froz 2 (pend.map cWr)), (121, .mat 1 ((performK rows pend (fun _ => 64) pend.length).map fun s => s.map cByte)), (122, .row 2 [])] (.agg [.own 122 0, .own 121 rows.length, ab on]) := by
  have h := con_swp 1 121 (con_swp 0 120 (flush_whole0 rows pend on hok hl hp))
  exact h
theorem flush_keep (keep : List Int) (rows : List (List UInt8)) (pend : List Wr) (on : Bool) (hok : okW rows pend) (hl : rows.length ≤ 4096) (hp : pend.length ≤ 4096) : Con Try.prog 33 [(120, .row 2 (pend.map cWr)), (121, .mat 1 (rows.map fun s => s.map cByte)), (101, .box [.d (dInts keep)])] [.agg [.own 120 pend.length, .own 121 rows.length, ab on], .fn 34 [.ptr 101 0]]
    [(120, .froz 2 (pend.map cWr)), (121, .mat 1 ((performK rows pend (keepS keep) pend.length).map fun s => s.map cByte)), (122, .row 2 []), (101, .box [.d (dInts keep)])] (.agg [.own 122 0, .own 121 rows.length, ab on]) := by
  have h := con_swp 2 101 (con_swp 1 121 (con_swp 0 120 (flush_keep0 keep rows pend on hok hl hp)))
  exact h
theorem disk_con2 (secs : List (List UInt8)) (n : Nat) (hn : secs.length = n) (on : Bool) : Con Try.prog 30 [(122, .row 2 []), (121, .mat 1 (secs.map fun s => s.map cByte))] [.agg [.own 122 0, .own 121 n, ab on]] [(122, .froz 2 []), (121, .froz 1 (secs.map cBytes))] (aDisk ⟨secs, [], on⟩) := by
  subst hn
  have h := con_swp 1 121 (con_swp 0 122 (disk_con0 ⟨secs, [], on⟩))
  exact h
theorem disk_conX (d : Disk) (xs : List (List D)) (n : Nat) (hx : xs = d.pending.map cWr) (hn : n = d.pending.length) : Con Try.prog 30 [(120, .row 2 xs), (121, .mat 1 (d.sectors.map fun s => s.map cByte))] [.agg [.own 120 n, .own 121 d.sectors.length, ab d.on]] [(120, .froz 2 xs), (121, .froz 1 (d.sectors.map cBytes))] (aDisk d) := by
  subst hx hn
  exact disk_con d
end Go.Fw

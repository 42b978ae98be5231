/- The law about reading back returns true at every input. No conditions. -/
import Derived.Test.YtfejbhbfmhkndaaRows
import Derived.Test.YtfejbhbfmhkndaaL05s
import Derived.Test.YtfejbhbfmhkndaaL05p
import Derived.WalkKit
import Derived.ProofKit
import Derived.OpenShut
namespace Go.Proofs.Ytfejbhbfmhkndaa.codecBack
open Go.ChangeShapes Go.WideShapes Go.ChangeAt Go.RowKit Go.Fw
set_option linter.unusedVariables false
set_option linter.unusedSimpArgs false

theorem own : ownKnob Try.prog.godebug = none := by kernel_rfl
theorem full : ∀ t e, t < Try.prog.types.size → Try.prog.underlying t = some (.slice e) → 0 < Try.prog.cellsOf e := slices_full_of Try.prog (by kernel_rfl)
theorem kids : Kids Try.prog (· < Try.prog.types.size) := kids_rows (by kernel_rfl) (by kernel_rfl)

theorem contract (H : Type) (enc : TypeId × Value → H) (W : World) (base : Nat) (args : Array Value) (ds gs : List (DataW H)) (before : List MemPlace)
    (hval : ∀ (j : Nat) t v, Try.f8.params[j]? = some t → args[j]? = some v → Value.okWide Try.prog W .any base t v)
    (hW : DataW.Whole enc Try.prog Try.f8.params.toList Rows.codecBackSpec.vars false W args.toList ds gs before) :
    Calls Try.prog 8 args W fun e W' => ∃ v, e = .returned v ∧ Rows.codecBackSpec.post enc Try.prog Try.f8 false true false false W args v W' := by
  have hW' := hW
  obtain ⟨p, q, hA0, hV, rfl, hfz, hnd⟩ := hW
  have hA : DataW.TrodAll enc Try.prog W 0 (fun _ => true) true Try.f8.params.toList args.toList ds p := hA0
  rw [Try.params8] at hA hval
  obtain ⟨v0, vs0, d0, ds0, p0, q0, hargs, rfl, rfl, h0, r0⟩ := trodAll_cons hA
  obtain ⟨v1, vs1, d1, ds1, p1, q1, rfl, rfl, rfl, h1, r1⟩ := trodAll_cons r0
  obtain ⟨v2, vs2, d2, ds2, p2, q2, rfl, rfl, rfl, h2, r2⟩ := trodAll_cons r1
  obtain ⟨v3, vs3, d3, ds3, p3, q3, rfl, rfl, rfl, h3, r3⟩ := trodAll_cons r2
  obtain ⟨v4, vs4, d4, ds4, p4, q4, rfl, rfl, rfl, h4, r4⟩ := trodAll_cons r3
  obtain ⟨rfl, rfl, rfl⟩ := trodAll_nil r4
  obtain rfl : args = #[v0, v1, v2, v3, v4] := by cases args; simp_all
  obtain ⟨rfl, rfl⟩ := trodVars_none hV
  obtain ⟨x0, px0, s0⟩ := open_n Try.underlying3 (hval 0 3 v0 rfl rfl) h0
  obtain ⟨x1, px1, s1⟩ := open_agg Try.underlying32 (hval 1 32 v1 rfl rfl) h1 opens_val
  rw [← aVal_open] at s1
  obtain ⟨x2, px2, s2⟩ := open_sl Try.underlying22 (hval 2 22 v2 rfl rfl) h2 opens_bytes
  obtain ⟨x3, px3, s3⟩ := open_sl Try.underlying22 (hval 3 22 v3 rfl rfl) h3 opens_bytes
  obtain ⟨x4, px4, s4⟩ := open_sl Try.underlying22 (hval 4 22 v4 rfl rfl) h4 opens_bytes
  refine (calls_of_con (W := W) (args := #[v0, v1, v2, v3, v4]) (codecBack_con x0 (bounds_i64 px0) x1 x2 x3 x4) W.cell? (fun _ _ h => h) ?_).mono ?_
  · exact ⟨s0, s1, s2, s3, s4, trivial⟩
  rintro e W' ⟨v, g', rfl, hv, hk⟩
  have hv' : v = .bool true := by
    simp only [AVal.sat, D.rep] at hv
    exact hv.1
  subst hv'
  exact ⟨_, rfl, post_true hW' rfl rfl rfl rfl rfl Try.underlying4 hk kids full (by decide +kernel)⟩

set_option maxRecDepth 100000 in
theorem lifted (os : Os) (started : os.Started) (H : Type) (enc : TypeId × Value → H) :
    ReturnsInHanded {} Try.checked os 8 .any (ChangeSpec.pre6 enc Try.prog Try.f8 Rows.codecBackSpec Rows.codecBackRow.domain false) (ChangeSpec.post enc Try.prog Try.f8 Rows.codecBackSpec false true false false) := by
  refine returnsInHanded_of_change (C := Try.checked) own started (by kernel_rfl) Try.func8
    (ChangeSpec.witness6 (enc := enc) (C := Try.checked) false ⟨#[], #[.int .i64 0, .agg #[.int .i64 0, .int .i64 0, .int .i64 0, .string ⟨#[]⟩, .slice none 0 0], .slice none 0 0, .slice none 0 0, .slice none 0 0], []⟩ 8 (by kernel_rfl) (by kernel_rfl) (by kernel_rfl) (by kernel_rfl)) ?_
  intro W base args ds gs before hval hW _ _
  exact contract H enc W base args ds gs before hval hW
theorem over : Rows.codecBackRow.holds Try.pinned (OpenSpec.ofChange Rows.codecBackSpec) :=
  OpenClaim.holds_of_wide 8 Try.f8 rfl rfl rfl rfl rfl rfl rfl ⟨rfl, rfl, rfl, rfl, rfl⟩ rfl rfl rfl rfl rfl (by kernel_rfl) Try.func8 (by kernel_rfl)
    (of_decide_eq_true (by kernel_rfl)) (by unfold Func.isWrapper; first | (rw [if_pos (by decide +kernel)]; kernel_rfl) | (rw [if_neg (by decide +kernel)]; exact ⟨rfl, rfl⟩))
    (fun os started H enc _ => lifted os started H enc)
theorem proved : Rows.CodecBackSaid := over
end Go.Proofs.Ytfejbhbfmhkndaa.codecBack

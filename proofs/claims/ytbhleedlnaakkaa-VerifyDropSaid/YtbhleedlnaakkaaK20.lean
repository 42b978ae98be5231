/- VerifyDrop: removing a rule removes exactly its violations. No condition. -/
import Derived.Test.YtbhleedlnaakkaaRows
import Derived.WalkKit
import Derived.ProofKit
import Derived.OpenShut
import Derived.Test.YtbhleedlnaakkaaK19
namespace Go.Proofs.Ytbhleedlnaakkaa.verifyDrop
open Go.ChangeShapes Go.WideShapes Go.ChangeAt Go.RowKit Go.Fw
set_option linter.unusedVariables false
set_option linter.unusedSimpArgs false
theorem own : ownKnob Try.prog.godebug = none := by kernel_rfl
theorem full : ∀ t e, t < Try.prog.types.size → Try.prog.underlying t = some (.slice e) → 0 < Try.prog.cellsOf e := slices_full_of Try.prog (by kernel_rfl)
theorem kids : Kids Try.prog (· < Try.prog.types.size) := kids_rows (by kernel_rfl) (by kernel_rfl)
set_option maxRecDepth 100000 in
theorem contract (H : Type) (enc : TypeId × Value → H) (W : World) (base : Nat) (args : Array Value) (ds gs : List (DataW H)) (before : List MemPlace)
  (hval : ∀ (j : Nat) t v, Try.f3.params[j]? = some t → args[j]? = some v → Value.okWide Try.prog W .any base t v)
  (hW : DataW.Whole enc Try.prog Try.f3.params.toList Rows.verifyDropSpec.vars false W args.toList ds gs before) :
  Calls Try.prog 3 args W fun e W' => ∃ v, e = .returned v ∧ Rows.verifyDropSpec.post enc Try.prog Try.f3 false true false false W args v W' := by
 have hW' := hW
 obtain ⟨p, q, hA0, hV, rfl, hfz, hnd⟩ := hW
 have hA : DataW.TrodAll enc Try.prog W 0 (fun _ => true) true Try.f3.params.toList args.toList ds p := hA0
 rw [Try.params3] at hA hval
 obtain ⟨v0, vs0, d0, ds0, p0, q0, hargs, rfl, rfl, h0, r0⟩ := trodAll_cons hA
 obtain ⟨v1, vs1, d1, ds1, p1, q1, rfl, rfl, rfl, h1, r1⟩ := trodAll_cons r0
 obtain ⟨v2, vs2, d2, ds2, p2, q2, rfl, rfl, rfl, h2, r2⟩ := trodAll_cons r1
 obtain ⟨rfl, rfl, rfl⟩ := trodAll_nil r2
 obtain rfl : args = #[v0, v1, v2] := by cases args; simp_all
 obtain ⟨rfl, rfl⟩ := trodVars_none hV
 obtain ⟨x0, px0, s0⟩ := X7m Try.underlying22 (hval 0 22 v0 rfl rfl) h0 X88
 obtain ⟨x1, s1⟩ := X6u Try.underlying5 (hval 1 5 v1 rfl rfl) h1
 obtain ⟨x2, px2, s2⟩ := X98 Try.underlying26 (hval 2 26 v2 rfl rfl) h2 X5e
 rw [← X8X] at s2
 refine (X53 (W := W) (args := #[v0, v1, v2]) (X7M x0 x1 x2 px2 px0.2) W.cell? (fun _ _ h => h) ?_).mono ?_
 ·exact ⟨s0, s1, s2, trivial⟩
 rintro e W' ⟨v, g', rfl, hv, hk⟩
 have hv' : v = .bool true := by
  simp only [AVal.sat, D.rep] at hv
  exact hv.1
 subst hv'
 exact ⟨_, rfl, X60 hW' rfl rfl rfl rfl rfl Try.underlying4 hk kids full (by decide +kernel)⟩
set_option maxRecDepth 100000 in
theorem lifted (os : Os) (started : os.Started) (H : Type) (enc : TypeId × Value → H) :
  ReturnsInHanded {} Try.checked os 3 .any (ChangeSpec.pre6 enc Try.prog Try.f3 Rows.verifyDropSpec Rows.verifyDropRow.domain false) (ChangeSpec.post enc Try.prog Try.f3 Rows.verifyDropSpec false true false false) := by
 refine returnsInHanded_of_change (C := Try.checked) own started (by kernel_rfl) Try.func3
  (ChangeSpec.witness6 (enc := enc) (C := Try.checked) false ⟨#[], #[.slice none 0 0, .int .u8 0, .agg #[.slice none 0 0, .slice none 0 0, .int .i64 0, .int .i64 0]], []⟩ 8 (by kernel_rfl) (by kernel_rfl) (by kernel_rfl) (by kernel_rfl)) ?_
 intro W base args ds gs before hval hW _ _
 exact contract H enc W base args ds gs before hval hW
theorem over : Rows.verifyDropRow.holds Try.pinned (OpenSpec.ofChange Rows.verifyDropSpec) :=
 OpenClaim.holds_of_wide 3 Try.f3 rfl rfl rfl rfl rfl rfl rfl ⟨rfl, rfl, rfl, rfl, rfl⟩ rfl rfl rfl rfl rfl (by kernel_rfl) Try.func3 (by kernel_rfl)
  (of_decide_eq_true (by kernel_rfl)) (by unfold Func.isWrapper; first | (rw [if_pos (by decide +kernel)]; kernel_rfl) | (rw [if_neg (by decide +kernel)]; exact ⟨rfl, rfl⟩))
  (fun os started H enc _ => lifted os started H enc)
theorem proved : Rows.VerifyDropSaid := over
end Go.Proofs.Ytbhleedlnaakkaa.verifyDrop

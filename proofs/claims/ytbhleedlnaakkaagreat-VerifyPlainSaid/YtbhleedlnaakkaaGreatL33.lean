/- VerifyPlain: a node without labels and properties changes no violations. No condition. -/
import Derived.Test.YtbhleedlnaakkaaGreatRows
import Derived.WalkKit
import Derived.ProofKit
import Derived.OpenShut
import Derived.Test.YtbhleedlnaakkaaGreatL32
namespace Go.Proofs.YtbhleedlnaakkaaGreat.verifyPlain
open Go.ChangeShapes Go.WideShapes Go.ChangeAt Go.RowKit Go.Fw
set_option linter.unusedVariables false
set_option linter.unusedSimpArgs false
theorem own : ownKnob Tryz.prog.godebug = none := by kernel_rfl
theorem full : ∀ t e, t < Tryz.prog.types.size → Tryz.prog.underlying t = some (.slice e) → 0 < Tryz.prog.cellsOf e := slices_full_of Tryz.prog (by kernel_rfl)
theorem kids : Kids Tryz.prog (· < Tryz.prog.types.size) := kids_rows (by kernel_rfl) (by kernel_rfl)
set_option maxRecDepth 100000 in
theorem contract (H : Type) (enc : TypeId × Value → H) (W : World) (base : Nat) (args : Array Value) (ds gs : List (DataW H)) (before : List MemPlace)
  (hval : ∀ (j : Nat) t v, Tryz.f9.params[j]? = some t → args[j]? = some v → Value.okWide Tryz.prog W .any base t v)
  (hW : DataW.Whole enc Tryz.prog Tryz.f9.params.toList Rows.verifyPlainSpec.vars false W args.toList ds gs before) :
  Calls Tryz.prog 9 args W fun e W' => ∃ v, e = .returned v ∧ Rows.verifyPlainSpec.post enc Tryz.prog Tryz.f9 false true false false W args v W' := by
 have hW' := hW
 obtain ⟨p, q, hA0, hV, rfl, hfz, hnd⟩ := hW
 have hA : DataW.TrodAll enc Tryz.prog W 0 (fun _ => true) true Tryz.f9.params.toList args.toList ds p := hA0
 rw [Tryz.params9] at hA hval
 obtain ⟨v0, vs0, d0, ds0, p0, q0, hargs, rfl, rfl, h0, r0⟩ := trodAll_cons hA
 obtain ⟨v1, vs1, d1, ds1, p1, q1, rfl, rfl, rfl, h1, r1⟩ := trodAll_cons r0
 obtain ⟨rfl, rfl, rfl⟩ := trodAll_nil r1
 obtain rfl : args = #[v0, v1] := by cases args; simp_all
 obtain ⟨rfl, rfl⟩ := trodVars_none hV
 obtain ⟨x0, px0, s0⟩ := Xbp Tryz.underlying26 (hval 0 26 v0 rfl rfl) h0 X7q
 obtain ⟨x1, px1, s1⟩ := X4a Tryz.underlying25 (hval 1 25 v1 rfl rfl) h1 X5V
 rw [← X6q] at s1
 refine (X4Y (W := W) (args := #[v0, v1]) (X9A x0 x1 px1 px0.2) W.cell? (fun _ _ h => h) ?_).mono ?_
 ·exact ⟨s0, s1, trivial⟩
 rintro e W' ⟨v, g', rfl, hv, hk⟩
 have hv' : v = .bool true := by
  simp only [AVal.sat, D.rep] at hv
  exact hv.1
 subst hv'
 exact ⟨_, rfl, X3Z hW' rfl rfl rfl rfl rfl Tryz.underlying4 hk kids full (by decide +kernel)⟩
set_option maxRecDepth 100000 in
theorem lifted (os : Os) (started : os.Started) (H : Type) (enc : TypeId × Value → H) :
  ReturnsInHanded {} Tryz.checked os 9 .any (ChangeSpec.pre6 enc Tryz.prog Tryz.f9 Rows.verifyPlainSpec Rows.verifyPlainRow.domain false) (ChangeSpec.post enc Tryz.prog Tryz.f9 Rows.verifyPlainSpec false true false false) := by
 refine returnsInHanded_of_change (C := Tryz.checked) own started (by kernel_rfl) Tryz.func9
  (ChangeSpec.witness6 (enc := enc) (C := Tryz.checked) false ⟨#[], #[.slice none 0 0, .agg #[.slice none 0 0, .slice none 0 0, .int .i64 0, .int .i64 0]], []⟩ 8 (by kernel_rfl) (by kernel_rfl) (by kernel_rfl) (by kernel_rfl)) ?_
 intro W base args ds gs before hval hW _ _
 exact contract H enc W base args ds gs before hval hW
theorem over : Rows.verifyPlainRow.holds Tryz.pinned (OpenSpec.ofChange Rows.verifyPlainSpec) :=
 OpenClaim.holds_of_wide 9 Tryz.f9 rfl rfl rfl rfl rfl rfl rfl ⟨rfl, rfl, rfl, rfl, rfl⟩ rfl rfl rfl rfl rfl (by kernel_rfl) Tryz.func9 (by kernel_rfl)
  (of_decide_eq_true (by kernel_rfl)) (by unfold Func.isWrapper; first | (rw [if_pos (by decide +kernel)]; kernel_rfl) | (rw [if_neg (by decide +kernel)]; exact ⟨rfl, rfl⟩))
  (fun os started H enc _ => lifted os started H enc)
theorem proved : Rows.VerifyPlainSaid := over
end Go.Proofs.YtbhleedlnaakkaaGreat.verifyPlain

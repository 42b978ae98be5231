/- VersionChecks: the closed facts of its row. -/
import Derived.Test.YtonekjkmnhfjmaaGreatDoorRows
import Derived.Test.YtonekjkmnhfjmaaGreatDoorChecked
import Derived.Test.YtonekjkmnhfjmaaGreatDoorCards
import Derived.Test.YtonekjkmnhfjmaaGreatDoorTie
import Derived.WalkKit
import Derived.ProofKit
import Derived.Stop.Joined
import Derived.SevenTiedAt
namespace Go.Proofs.YtonekjkmnhfjmaaGreatDoor.versionChecks
open Go Go.ChangeShapes Go.WideShapes Go.ChangeAt Go.RowKit
set_option linter.unusedVariables false
set_option linter.unusedSimpArgs false
theorem Xi {a b : Bool} (h : a = true) (k : b = true) : (a && b) = true := by rw [h, k]; rfl
theorem j0 : (Rows.versionChecksRow.wf (OpenSpec.ofChange Rows.versionChecksSpec)) = true := by kernel_rfl
theorem j1 : (laidOutB Tryz.prog) = true := by kernel_rfl
theorem j2 : (mapsRowed Tryz.prog) = true := by kernel_rfl
theorem j3 : (Tryz.f3.params.all (Tryz.prog.readableRec ·)) = true := by kernel_rfl
theorem j4 : (namedTie Tryz.prog Rows.versionChecksRow.named Rows.versionChecksSpec.vars) = true := by kernel_rfl
theorem j5 : ((Rows.versionChecksRow.stops == [])) = true := by kernel_rfl
theorem j6 : ((Tryz.prog.stops == [])) = true := by kernel_rfl
theorem j7 : ((Rows.versionChecksRow.knobs == [])) = true := by kernel_rfl
theorem j8 : ((Tryz.prog.stopKnobs == [])) = true := by kernel_rfl
theorem j9 : ((Rows.versionChecksRow.inPlace == Tryz.prog.inPlace 3)) = true := by kernel_rfl
theorem j10 : ((Rows.versionChecksRow.unfollowed == Tryz.prog.unfollowed 3)) = true := by kernel_rfl
theorem j11 : ((Rows.versionChecksRow.recurses == Tryz.prog.recurses 3)) = true := by kernel_rfl
theorem j12 : ((Rows.versionChecksRow.named == Tryz.prog.varsNamed 3)) = true := by kernel_rfl
theorem j13 : ((Rows.versionChecksRow.maps == (Tryz.f3.params.toList ++ Rows.versionChecksSpec.plain.varTypes Tryz.prog).any (Tryz.prog.mapsRec ·))) = true := by kernel_rfl
theorem j14 : ((Rows.versionChecksRow.ifaces == (Tryz.f3.params.toList ++ Rows.versionChecksSpec.plain.varTypes Tryz.prog).any (Tryz.prog.ifacesRec ·))) = true := by kernel_rfl
theorem j15 : ((Rows.versionChecksRow.mapsOut == Tryz.prog.mapsAmong Tryz.f3.resultTypes.toList)) = true := by kernel_rfl
theorem j16 : ((Rows.versionChecksRow.loops == (Tryz.f3.params.toList ++ Rows.versionChecksSpec.plain.varTypes Tryz.prog).any (Tryz.prog.loopsFrom ·))) = true := by kernel_rfl
theorem j17 : ((Rows.versionChecksRow.wideKeys == (Tryz.f3.params.toList ++ Rows.versionChecksSpec.plain.varTypes Tryz.prog ++ Tryz.f3.resultTypes.toList).any (Tryz.prog.wideKeysFrom ·))) = true := by kernel_rfl
theorem j18 : (Rows.versionChecksSpec.vars.all (Tryz.prog.varReadable ·)) = true := by kernel_rfl
theorem j19 : (Tryz.f3.resultTypes.all (fun t => Tryz.prog.readableRec t && decide (t < Tryz.prog.types.size))) = true := by kernel_rfl
theorem j20 : ((Rows.versionChecksRow.ifacesOut == Tryz.f3.resultTypes.toList.any (Tryz.prog.ifacesRec ·))) = true := by kernel_rfl
theorem j21 : ((Rows.versionChecksRow.loopsOut == Tryz.f3.resultTypes.toList.any (Tryz.prog.loopsFrom ·))) = true := by kernel_rfl
theorem j22 : ((Rows.versionChecksRow.plainKeys == Tryz.prog.plainKeys)) = true := by kernel_rfl
theorem j23 : (Rows.versionChecksRow.shortTexts.isNone) = true := by kernel_rfl
theorem j24 : (Tryz.prog.stopsHeard) = true := by kernel_rfl
theorem j25 : (Tryz.prog.mayEnter) = true := by kernel_rfl
theorem j26 : ((Rows.versionChecksRow.lifted == Tryz.prog.liftsFinal)) = true := by kernel_rfl
theorem j27 : ((Tryz.prog.make == some Rows.versionChecksRow.make)) = true := by kernel_rfl
theorem j28 : ((Rows.versionChecksRow.kinds == (if Rows.versionChecksRow.domain.isEmpty then [] else Tryz.f3.params.toList.map fun t => match Tryz.prog.underlying t with | some (.int k) => some k | _ => none))) = true := by kernel_rfl
theorem j29 : ((Rows.versionChecksRow.pinned == Rows.versionChecksRow.pinnedBy)) = true := by kernel_rfl
theorem j30 : ((Rows.versionChecksRow.veiled == (Tryz.f3.params.toList ++ Rows.versionChecksSpec.plain.varTypes Tryz.prog ++ Tryz.f3.resultTypes.toList).any (Tryz.prog.veiledRec ·))) = true := by kernel_rfl
theorem j31 : (Rows.versionChecksRow.veiledFits Tryz.prog Tryz.f3.params.toList (Tryz.f3.params.toList ++ Rows.versionChecksSpec.plain.varTypes Tryz.prog ++ Tryz.f3.resultTypes.toList)) = true := by kernel_rfl
set_option maxRecDepth 100000 in
theorem X0Q : joinedFacts Tryz.prog 3 Tryz.f3 Rows.versionChecksSpec Rows.versionChecksRow = true := by
 unfold joinedFacts
 exact (Xi (Xi (Xi (Xi (Xi (Xi (Xi (Xi (Xi (Xi (Xi (Xi (Xi (Xi (Xi (Xi (Xi (Xi (Xi (Xi (Xi (Xi (Xi (Xi (Xi (Xi (Xi (Xi (Xi (Xi (Xi j0 j1) j2) j3) j4) j5) j6) j7) j8) j9) j10) j11) j12) j13) j14) j15) j16) j17) j18) j19) j20) j21) j22) j23) j24) j25) j26) j27) j28) j29) j30) j31)
set_option maxRecDepth 100000 in
theorem wft : Rows.versionChecksRow.wfByText (OpenSpec.ofChange Rows.versionChecksSpec) = true := by kernel_rfl
set_option maxRecDepth 100000 in
theorem mnt : Tryz.prog.mainIs = some (Rows.versionChecksCard.stood.harness.1, Rows.versionChecksCard.stood.harness.2.toList) := by kernel_rfl
set_option maxRecDepth 100000 in
theorem lkt : true = Tryz.prog.looks [] := by kernel_rfl
set_option maxRecDepth 100000 in
theorem gbt : false = Rows.versionChecksRow.goesBy Tryz.prog := by kernel_rfl
end Go.Proofs.YtonekjkmnhfjmaaGreatDoor.versionChecks

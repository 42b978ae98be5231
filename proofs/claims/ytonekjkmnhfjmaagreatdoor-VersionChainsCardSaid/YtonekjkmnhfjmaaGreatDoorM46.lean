/- VersionChains: the closed facts of its row. -/
import Derived.Test.YtonekjkmnhfjmaaGreatDoorRows
import Derived.Test.YtonekjkmnhfjmaaGreatDoorChecked
import Derived.Test.YtonekjkmnhfjmaaGreatDoorCards
import Derived.Test.YtonekjkmnhfjmaaGreatDoorTie
import Derived.WalkKit
import Derived.ProofKit
import Derived.Stop.Joined
import Derived.SevenTiedAt
namespace Go.Proofs.YtonekjkmnhfjmaaGreatDoor.versionChains
open Go Go.ChangeShapes Go.WideShapes Go.ChangeAt Go.RowKit
set_option linter.unusedVariables false
set_option linter.unusedSimpArgs false
theorem Xi {a b : Bool} (h : a = true) (k : b = true) : (a && b) = true := by rw [h, k]; rfl
theorem j0 : (Rows.versionChainsRow.wf (OpenSpec.ofChange Rows.versionChainsSpec)) = true := by kernel_rfl
theorem j1 : (laidOutB Tryz.prog) = true := by kernel_rfl
theorem j2 : (mapsRowed Tryz.prog) = true := by kernel_rfl
theorem j3 : (Tryz.f7.params.all (Tryz.prog.readableRec ·)) = true := by kernel_rfl
theorem j4 : (namedTie Tryz.prog Rows.versionChainsRow.named Rows.versionChainsSpec.vars) = true := by kernel_rfl
theorem j5 : ((Rows.versionChainsRow.stops == [])) = true := by kernel_rfl
theorem j6 : ((Tryz.prog.stops == [])) = true := by kernel_rfl
theorem j7 : ((Rows.versionChainsRow.knobs == [])) = true := by kernel_rfl
theorem j8 : ((Tryz.prog.stopKnobs == [])) = true := by kernel_rfl
theorem j9 : ((Rows.versionChainsRow.inPlace == Tryz.prog.inPlace 7)) = true := by kernel_rfl
theorem j10 : ((Rows.versionChainsRow.unfollowed == Tryz.prog.unfollowed 7)) = true := by kernel_rfl
theorem j11 : ((Rows.versionChainsRow.recurses == Tryz.prog.recurses 7)) = true := by kernel_rfl
theorem j12 : ((Rows.versionChainsRow.named == Tryz.prog.varsNamed 7)) = true := by kernel_rfl
theorem j13 : ((Rows.versionChainsRow.maps == (Tryz.f7.params.toList ++ Rows.versionChainsSpec.plain.varTypes Tryz.prog).any (Tryz.prog.mapsRec ·))) = true := by kernel_rfl
theorem j14 : ((Rows.versionChainsRow.ifaces == (Tryz.f7.params.toList ++ Rows.versionChainsSpec.plain.varTypes Tryz.prog).any (Tryz.prog.ifacesRec ·))) = true := by kernel_rfl
theorem j15 : ((Rows.versionChainsRow.mapsOut == Tryz.prog.mapsAmong Tryz.f7.resultTypes.toList)) = true := by kernel_rfl
theorem j16 : ((Rows.versionChainsRow.loops == (Tryz.f7.params.toList ++ Rows.versionChainsSpec.plain.varTypes Tryz.prog).any (Tryz.prog.loopsFrom ·))) = true := by kernel_rfl
theorem j17 : ((Rows.versionChainsRow.wideKeys == (Tryz.f7.params.toList ++ Rows.versionChainsSpec.plain.varTypes Tryz.prog ++ Tryz.f7.resultTypes.toList).any (Tryz.prog.wideKeysFrom ·))) = true := by kernel_rfl
theorem j18 : (Rows.versionChainsSpec.vars.all (Tryz.prog.varReadable ·)) = true := by kernel_rfl
theorem j19 : (Tryz.f7.resultTypes.all (fun t => Tryz.prog.readableRec t && decide (t < Tryz.prog.types.size))) = true := by kernel_rfl
theorem j20 : ((Rows.versionChainsRow.ifacesOut == Tryz.f7.resultTypes.toList.any (Tryz.prog.ifacesRec ·))) = true := by kernel_rfl
theorem j21 : ((Rows.versionChainsRow.loopsOut == Tryz.f7.resultTypes.toList.any (Tryz.prog.loopsFrom ·))) = true := by kernel_rfl
theorem j22 : ((Rows.versionChainsRow.plainKeys == Tryz.prog.plainKeys)) = true := by kernel_rfl
theorem j23 : (Rows.versionChainsRow.shortTexts.isNone) = true := by kernel_rfl
theorem j24 : (Tryz.prog.stopsHeard) = true := by kernel_rfl
theorem j25 : (Tryz.prog.mayEnter) = true := by kernel_rfl
theorem j26 : ((Rows.versionChainsRow.lifted == Tryz.prog.liftsFinal)) = true := by kernel_rfl
theorem j27 : ((Tryz.prog.make == some Rows.versionChainsRow.make)) = true := by kernel_rfl
theorem j28 : ((Rows.versionChainsRow.kinds == (if Rows.versionChainsRow.domain.isEmpty then [] else Tryz.f7.params.toList.map fun t => match Tryz.prog.underlying t with | some (.int k) => some k | _ => none))) = true := by kernel_rfl
theorem j29 : ((Rows.versionChainsRow.pinned == Rows.versionChainsRow.pinnedBy)) = true := by kernel_rfl
theorem j30 : ((Rows.versionChainsRow.veiled == (Tryz.f7.params.toList ++ Rows.versionChainsSpec.plain.varTypes Tryz.prog ++ Tryz.f7.resultTypes.toList).any (Tryz.prog.veiledRec ·))) = true := by kernel_rfl
theorem j31 : (Rows.versionChainsRow.veiledFits Tryz.prog Tryz.f7.params.toList (Tryz.f7.params.toList ++ Rows.versionChainsSpec.plain.varTypes Tryz.prog ++ Tryz.f7.resultTypes.toList)) = true := by kernel_rfl
set_option maxRecDepth 100000 in
theorem X0Q : joinedFacts Tryz.prog 7 Tryz.f7 Rows.versionChainsSpec Rows.versionChainsRow = true := by
 unfold joinedFacts
 exact (Xi (Xi (Xi (Xi (Xi (Xi (Xi (Xi (Xi (Xi (Xi (Xi (Xi (Xi (Xi (Xi (Xi (Xi (Xi (Xi (Xi (Xi (Xi (Xi (Xi (Xi (Xi (Xi (Xi (Xi (Xi j0 j1) j2) j3) j4) j5) j6) j7) j8) j9) j10) j11) j12) j13) j14) j15) j16) j17) j18) j19) j20) j21) j22) j23) j24) j25) j26) j27) j28) j29) j30) j31)
set_option maxRecDepth 100000 in
theorem wft : Rows.versionChainsRow.wfByText (OpenSpec.ofChange Rows.versionChainsSpec) = true := by kernel_rfl
set_option maxRecDepth 100000 in
theorem mnt : Tryz.prog.mainIs = some (Rows.versionChainsCard.stood.harness.1, Rows.versionChainsCard.stood.harness.2.toList) := by kernel_rfl
set_option maxRecDepth 100000 in
theorem lkt : true = Tryz.prog.looks [] := by kernel_rfl
set_option maxRecDepth 100000 in
theorem gbt : false = Rows.versionChainsRow.goesBy Tryz.prog := by kernel_rfl
end Go.Proofs.YtonekjkmnhfjmaaGreatDoor.versionChains

/- BackupChains: the closed facts of its row. -/
import Derived.Test.YtlkcofbjniphbaaGreatDoorRows
import Derived.Test.YtlkcofbjniphbaaGreatDoorChecked
import Derived.Test.YtlkcofbjniphbaaGreatDoorCards
import Derived.Test.YtlkcofbjniphbaaGreatDoorTie
import Derived.WalkKit
import Derived.ProofKit
import Derived.Stop.Joined
import Derived.SevenTiedAt
namespace Go.Proofs.YtlkcofbjniphbaaGreatDoor.backupChains
open Go Go.ChangeShapes Go.WideShapes Go.ChangeAt Go.RowKit
set_option linter.unusedVariables false
set_option linter.unusedSimpArgs false
theorem XY {a b:Bool} (h:a=true) (k:b=true):(a&&b)=true:=by rw[h,k];rfl
theorem j0:(Rows.backupChainsUptoRow.wf (OpenSpec.ofChange Rows.backupChainsSpec))=true:=by kernel_rfl
theorem j1:(laidOutB Tryz.prog)=true:=by kernel_rfl
theorem j2:(mapsRowed Tryz.prog)=true:=by kernel_rfl
theorem j3:(Tryz.f5.params.all (Tryz.prog.readableRec ·))=true:=by kernel_rfl
theorem j4:(namedTie Tryz.prog Rows.backupChainsUptoRow.named Rows.backupChainsSpec.vars)=true:=by kernel_rfl
theorem j5:((Rows.backupChainsUptoRow.stops==[]))=true:=by kernel_rfl
theorem j6:((Tryz.prog.stops==[]))=true:=by kernel_rfl
theorem j7:((Rows.backupChainsUptoRow.knobs==[]))=true:=by kernel_rfl
theorem j8:((Tryz.prog.stopKnobs==[]))=true:=by kernel_rfl
theorem j9:((Rows.backupChainsUptoRow.inPlace==Tryz.prog.inPlace 5))=true:=by kernel_rfl
theorem j10:((Rows.backupChainsUptoRow.unfollowed==Tryz.prog.unfollowed 5))=true:=by kernel_rfl
theorem j11:((Rows.backupChainsUptoRow.recurses==Tryz.prog.recurses 5))=true:=by kernel_rfl
theorem j12:((Rows.backupChainsUptoRow.named==Tryz.prog.varsNamed 5))=true:=by kernel_rfl
theorem j13:((Rows.backupChainsUptoRow.maps==(Tryz.f5.params.toList++Rows.backupChainsSpec.plain.varTypes Tryz.prog).any (Tryz.prog.mapsRec ·)))=true:=by kernel_rfl
theorem j14:((Rows.backupChainsUptoRow.ifaces==(Tryz.f5.params.toList++Rows.backupChainsSpec.plain.varTypes Tryz.prog).any (Tryz.prog.ifacesRec ·)))=true:=by kernel_rfl
theorem j15:((Rows.backupChainsUptoRow.mapsOut==Tryz.prog.mapsAmong Tryz.f5.resultTypes.toList))=true:=by kernel_rfl
theorem j16:((Rows.backupChainsUptoRow.loops==(Tryz.f5.params.toList++Rows.backupChainsSpec.plain.varTypes Tryz.prog).any (Tryz.prog.loopsFrom ·)))=true:=by kernel_rfl
theorem j17:((Rows.backupChainsUptoRow.wideKeys==(Tryz.f5.params.toList++Rows.backupChainsSpec.plain.varTypes Tryz.prog++Tryz.f5.resultTypes.toList).any (Tryz.prog.wideKeysFrom ·)))=true:=by kernel_rfl
theorem j18:(Rows.backupChainsSpec.vars.all (Tryz.prog.varReadable ·))=true:=by kernel_rfl
theorem j19:(Tryz.f5.resultTypes.all (fun t=>Tryz.prog.readableRec t&&decide (t<Tryz.prog.types.size)))=true:=by kernel_rfl
theorem j20:((Rows.backupChainsUptoRow.ifacesOut==Tryz.f5.resultTypes.toList.any (Tryz.prog.ifacesRec ·)))=true:=by kernel_rfl
theorem j21:((Rows.backupChainsUptoRow.loopsOut==Tryz.f5.resultTypes.toList.any (Tryz.prog.loopsFrom ·)))=true:=by kernel_rfl
theorem j22:((Rows.backupChainsUptoRow.plainKeys==Tryz.prog.plainKeys))=true:=by kernel_rfl
theorem j23:(Rows.backupChainsUptoRow.shortTexts.isNone)=true:=by kernel_rfl
theorem j24:(Tryz.prog.stopsHeard)=true:=by kernel_rfl
theorem j25:(Tryz.prog.mayEnter)=true:=by kernel_rfl
theorem j26:((Rows.backupChainsUptoRow.lifted==Tryz.prog.liftsFinal))=true:=by kernel_rfl
theorem j27:((Tryz.prog.make==some Rows.backupChainsUptoRow.make))=true:=by kernel_rfl
theorem j28:((Rows.backupChainsUptoRow.kinds==(if Rows.backupChainsUptoRow.domain.isEmpty then [] else Tryz.f5.params.toList.map fun t=>match Tryz.prog.underlying t with|some (.int k)=>some k|_=>none)))=true:=by kernel_rfl
theorem j29:((Rows.backupChainsUptoRow.pinned==Rows.backupChainsUptoRow.pinnedBy))=true:=by kernel_rfl
theorem j30:((Rows.backupChainsUptoRow.veiled==(Tryz.f5.params.toList++Rows.backupChainsSpec.plain.varTypes Tryz.prog++Tryz.f5.resultTypes.toList).any (Tryz.prog.veiledRec ·)))=true:=by kernel_rfl
theorem j31:(Rows.backupChainsUptoRow.veiledFits Tryz.prog Tryz.f5.params.toList (Tryz.f5.params.toList++Rows.backupChainsSpec.plain.varTypes Tryz.prog++Tryz.f5.resultTypes.toList))=true:=by kernel_rfl
set_option maxRecDepth 100000 in
theorem X6L:joinedFacts Tryz.prog 5 Tryz.f5 Rows.backupChainsSpec Rows.backupChainsUptoRow=true:=by
 unfold joinedFacts
 exact(XY (XY (XY (XY (XY (XY (XY (XY (XY (XY (XY (XY (XY (XY (XY (XY (XY (XY (XY (XY (XY (XY (XY (XY (XY (XY (XY (XY (XY (XY (XY j0 j1) j2) j3) j4) j5) j6) j7) j8) j9) j10) j11) j12) j13) j14) j15) j16) j17) j18) j19) j20) j21) j22) j23) j24) j25) j26) j27) j28) j29) j30) j31)
set_option maxRecDepth 100000 in
theorem wft:Rows.backupChainsUptoRow.wfByText (Rows.OpenSpec.upto Rows.backupChainsSpec)=true:=by kernel_rfl
set_option maxRecDepth 100000 in
theorem mnt:Tryz.prog.mainIs=some (Rows.backupChainsUptoCard.stood.harness.1,Rows.backupChainsUptoCard.stood.harness.2.toList):=by kernel_rfl
set_option maxRecDepth 100000 in
theorem lkt:true=Tryz.prog.looks []:=by kernel_rfl
set_option maxRecDepth 100000 in
theorem gbt:false=Rows.backupChainsUptoRow.goesBy Tryz.prog:=by kernel_rfl
end Go.Proofs.YtlkcofbjniphbaaGreatDoor.backupChains

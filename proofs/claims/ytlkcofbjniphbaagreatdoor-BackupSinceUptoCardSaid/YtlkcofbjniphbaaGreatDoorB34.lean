/- BackupSince: the closed facts of its row. -/
import Derived.Test.YtlkcofbjniphbaaGreatDoorRows
import Derived.Test.YtlkcofbjniphbaaGreatDoorChecked
import Derived.Test.YtlkcofbjniphbaaGreatDoorCards
import Derived.Test.YtlkcofbjniphbaaGreatDoorTie
import Derived.WalkKit
import Derived.ProofKit
import Derived.Stop.Joined
import Derived.SevenTiedAt
namespace Go.Proofs.YtlkcofbjniphbaaGreatDoor.backupSince
open Go Go.ChangeShapes Go.WideShapes Go.ChangeAt Go.RowKit
set_option linter.unusedVariables false
set_option linter.unusedSimpArgs false
theorem XY {a b:Bool} (h:a=true) (k:b=true):(a&&b)=true:=by rw[h,k];rfl
theorem j0:(Rows.backupSinceUptoRow.wf (OpenSpec.ofChange Rows.backupSinceSpec))=true:=by kernel_rfl
theorem j1:(laidOutB Tryz.prog)=true:=by kernel_rfl
theorem j2:(mapsRowed Tryz.prog)=true:=by kernel_rfl
theorem j3:(Tryz.f4.params.all (Tryz.prog.readableRec ·))=true:=by kernel_rfl
theorem j4:(namedTie Tryz.prog Rows.backupSinceUptoRow.named Rows.backupSinceSpec.vars)=true:=by kernel_rfl
theorem j5:((Rows.backupSinceUptoRow.stops==[]))=true:=by kernel_rfl
theorem j6:((Tryz.prog.stops==[]))=true:=by kernel_rfl
theorem j7:((Rows.backupSinceUptoRow.knobs==[]))=true:=by kernel_rfl
theorem j8:((Tryz.prog.stopKnobs==[]))=true:=by kernel_rfl
theorem j9:((Rows.backupSinceUptoRow.inPlace==Tryz.prog.inPlace 4))=true:=by kernel_rfl
theorem j10:((Rows.backupSinceUptoRow.unfollowed==Tryz.prog.unfollowed 4))=true:=by kernel_rfl
theorem j11:((Rows.backupSinceUptoRow.recurses==Tryz.prog.recurses 4))=true:=by kernel_rfl
theorem j12:((Rows.backupSinceUptoRow.named==Tryz.prog.varsNamed 4))=true:=by kernel_rfl
theorem j13:((Rows.backupSinceUptoRow.maps==(Tryz.f4.params.toList++Rows.backupSinceSpec.plain.varTypes Tryz.prog).any (Tryz.prog.mapsRec ·)))=true:=by kernel_rfl
theorem j14:((Rows.backupSinceUptoRow.ifaces==(Tryz.f4.params.toList++Rows.backupSinceSpec.plain.varTypes Tryz.prog).any (Tryz.prog.ifacesRec ·)))=true:=by kernel_rfl
theorem j15:((Rows.backupSinceUptoRow.mapsOut==Tryz.prog.mapsAmong Tryz.f4.resultTypes.toList))=true:=by kernel_rfl
theorem j16:((Rows.backupSinceUptoRow.loops==(Tryz.f4.params.toList++Rows.backupSinceSpec.plain.varTypes Tryz.prog).any (Tryz.prog.loopsFrom ·)))=true:=by kernel_rfl
theorem j17:((Rows.backupSinceUptoRow.wideKeys==(Tryz.f4.params.toList++Rows.backupSinceSpec.plain.varTypes Tryz.prog++Tryz.f4.resultTypes.toList).any (Tryz.prog.wideKeysFrom ·)))=true:=by kernel_rfl
theorem j18:(Rows.backupSinceSpec.vars.all (Tryz.prog.varReadable ·))=true:=by kernel_rfl
theorem j19:(Tryz.f4.resultTypes.all (fun t=>Tryz.prog.readableRec t&&decide (t<Tryz.prog.types.size)))=true:=by kernel_rfl
theorem j20:((Rows.backupSinceUptoRow.ifacesOut==Tryz.f4.resultTypes.toList.any (Tryz.prog.ifacesRec ·)))=true:=by kernel_rfl
theorem j21:((Rows.backupSinceUptoRow.loopsOut==Tryz.f4.resultTypes.toList.any (Tryz.prog.loopsFrom ·)))=true:=by kernel_rfl
theorem j22:((Rows.backupSinceUptoRow.plainKeys==Tryz.prog.plainKeys))=true:=by kernel_rfl
theorem j23:(Rows.backupSinceUptoRow.shortTexts.isNone)=true:=by kernel_rfl
theorem j24:(Tryz.prog.stopsHeard)=true:=by kernel_rfl
theorem j25:(Tryz.prog.mayEnter)=true:=by kernel_rfl
theorem j26:((Rows.backupSinceUptoRow.lifted==Tryz.prog.liftsFinal))=true:=by kernel_rfl
theorem j27:((Tryz.prog.make==some Rows.backupSinceUptoRow.make))=true:=by kernel_rfl
theorem j28:((Rows.backupSinceUptoRow.kinds==(if Rows.backupSinceUptoRow.domain.isEmpty then [] else Tryz.f4.params.toList.map fun t=>match Tryz.prog.underlying t with|some (.int k)=>some k|_=>none)))=true:=by kernel_rfl
theorem j29:((Rows.backupSinceUptoRow.pinned==Rows.backupSinceUptoRow.pinnedBy))=true:=by kernel_rfl
theorem j30:((Rows.backupSinceUptoRow.veiled==(Tryz.f4.params.toList++Rows.backupSinceSpec.plain.varTypes Tryz.prog++Tryz.f4.resultTypes.toList).any (Tryz.prog.veiledRec ·)))=true:=by kernel_rfl
theorem j31:(Rows.backupSinceUptoRow.veiledFits Tryz.prog Tryz.f4.params.toList (Tryz.f4.params.toList++Rows.backupSinceSpec.plain.varTypes Tryz.prog++Tryz.f4.resultTypes.toList))=true:=by kernel_rfl
set_option maxRecDepth 100000 in
theorem X6L:joinedFacts Tryz.prog 4 Tryz.f4 Rows.backupSinceSpec Rows.backupSinceUptoRow=true:=by
 unfold joinedFacts
 exact(XY (XY (XY (XY (XY (XY (XY (XY (XY (XY (XY (XY (XY (XY (XY (XY (XY (XY (XY (XY (XY (XY (XY (XY (XY (XY (XY (XY (XY (XY (XY j0 j1) j2) j3) j4) j5) j6) j7) j8) j9) j10) j11) j12) j13) j14) j15) j16) j17) j18) j19) j20) j21) j22) j23) j24) j25) j26) j27) j28) j29) j30) j31)
set_option maxRecDepth 100000 in
theorem wft:Rows.backupSinceUptoRow.wfByText (Rows.OpenSpec.upto Rows.backupSinceSpec)=true:=by kernel_rfl
set_option maxRecDepth 100000 in
theorem mnt:Tryz.prog.mainIs=some (Rows.backupSinceUptoCard.stood.harness.1,Rows.backupSinceUptoCard.stood.harness.2.toList):=by kernel_rfl
set_option maxRecDepth 100000 in
theorem lkt:true=Tryz.prog.looks []:=by kernel_rfl
set_option maxRecDepth 100000 in
theorem gbt:false=Rows.backupSinceUptoRow.goesBy Tryz.prog:=by kernel_rfl
end Go.Proofs.YtlkcofbjniphbaaGreatDoor.backupSince

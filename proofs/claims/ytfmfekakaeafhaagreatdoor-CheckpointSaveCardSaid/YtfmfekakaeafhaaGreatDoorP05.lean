/- CheckpointSave: the closed facts of its row. -/
import Derived.Test.YtfmfekakaeafhaaGreatDoorP01
import Derived.Test.YtfmfekakaeafhaaGreatDoorRows
import Derived.Test.YtfmfekakaeafhaaGreatDoorChecked
import Derived.Test.YtfmfekakaeafhaaGreatDoorCards
import Derived.Test.YtfmfekakaeafhaaGreatDoorTie
import Derived.WalkKit
import Derived.ProofKit
import Derived.Stop.Joined
import Derived.SevenTiedAt
set_option linter.all false
namespace Go.Proofs.YtfmfekakaeafhaaGreatDoor.checkpointSave
open Go Go.ChangeShapes Go.WideShapes Go.ChangeAt Go.RowKit List
def XJ {a b:Bool} (h:a=true) (k:b=true):(a&&b)=true:=by rw[h,k];rfl
theorem j0:(Rows.checkpointSaveRow.wf (OpenSpec.ofChange Rows.checkpointSaveSpec))=true:=by kernel_rfl
theorem j1:(laidOutB Tryz.prog)=true:=by kernel_rfl
theorem j2:(mapsRowed Tryz.prog)=true:=by kernel_rfl
theorem j3:(Tryz.f6.params.all (Tryz.prog.readableRec ·))=true:=by kernel_rfl
theorem j4:(namedTie Tryz.prog Rows.checkpointSaveRow.named Rows.checkpointSaveSpec.vars)=true:=by kernel_rfl
theorem j5:((Rows.checkpointSaveRow.stops==[]))=true:=by kernel_rfl
theorem j6:((Tryz.prog.stops==[]))=true:=by kernel_rfl
theorem j7:((Rows.checkpointSaveRow.knobs==[]))=true:=by kernel_rfl
theorem j8:((Tryz.prog.stopKnobs==[]))=true:=by kernel_rfl
theorem j9:((Rows.checkpointSaveRow.inPlace==Tryz.prog.inPlace 6))=true:=by kernel_rfl
theorem j10:((Rows.checkpointSaveRow.unfollowed==Tryz.prog.unfollowed 6))=true:=by kernel_rfl
theorem j11:((Rows.checkpointSaveRow.recurses==Tryz.prog.recurses 6))=true:=by kernel_rfl
theorem j12:((Rows.checkpointSaveRow.named==Tryz.prog.varsNamed 6))=true:=by kernel_rfl
theorem j13:((Rows.checkpointSaveRow.maps==(Tryz.f6.params.toList++Rows.checkpointSaveSpec.plain.varTypes Tryz.prog).any (Tryz.prog.mapsRec ·)))=true:=by kernel_rfl
theorem j14:((Rows.checkpointSaveRow.ifaces==(Tryz.f6.params.toList++Rows.checkpointSaveSpec.plain.varTypes Tryz.prog).any (Tryz.prog.ifacesRec ·)))=true:=by kernel_rfl
theorem j15:((Rows.checkpointSaveRow.mapsOut==Tryz.prog.mapsAmong Tryz.f6.resultTypes.toList))=true:=by kernel_rfl
theorem j16:((Rows.checkpointSaveRow.loops==(Tryz.f6.params.toList++Rows.checkpointSaveSpec.plain.varTypes Tryz.prog).any (Tryz.prog.loopsFrom ·)))=true:=by kernel_rfl
theorem j17:((Rows.checkpointSaveRow.wideKeys==(Tryz.f6.params.toList++Rows.checkpointSaveSpec.plain.varTypes Tryz.prog++Tryz.f6.resultTypes.toList).any (Tryz.prog.wideKeysFrom ·)))=true:=by kernel_rfl
theorem j18:(Rows.checkpointSaveSpec.vars.all (Tryz.prog.varReadable ·))=true:=by kernel_rfl
theorem j19:(Tryz.f6.resultTypes.all (fun t=>Tryz.prog.readableRec t&&decide (t<Tryz.prog.types.size)))=true:=by kernel_rfl
theorem j20:((Rows.checkpointSaveRow.ifacesOut==Tryz.f6.resultTypes.toList.any (Tryz.prog.ifacesRec ·)))=true:=by kernel_rfl
theorem j21:((Rows.checkpointSaveRow.loopsOut==Tryz.f6.resultTypes.toList.any (Tryz.prog.loopsFrom ·)))=true:=by kernel_rfl
theorem j22:((Rows.checkpointSaveRow.plainKeys==Tryz.prog.plainKeys))=true:=by kernel_rfl
theorem j23:(Rows.checkpointSaveRow.shortTexts.isNone)=true:=by kernel_rfl
theorem j24:(Tryz.prog.stopsHeard)=true:=by kernel_rfl
theorem j25:(Tryz.prog.mayEnter)=true:=by kernel_rfl
theorem j26:((Rows.checkpointSaveRow.lifted==Tryz.prog.liftsFinal))=true:=by kernel_rfl
theorem j27:((Tryz.prog.make==some Rows.checkpointSaveRow.make))=true:=by kernel_rfl
theorem j28:((Rows.checkpointSaveRow.kinds==(if Rows.checkpointSaveRow.domain.isEmpty then [] else Tryz.f6.params.toList.map fun t=>match Tryz.prog.underlying t with|some (.int k)=>some k|_=>none)))=true:=by kernel_rfl
theorem j29:((Rows.checkpointSaveRow.pinned==Rows.checkpointSaveRow.pinnedBy))=true:=by kernel_rfl
theorem j30:((Rows.checkpointSaveRow.veiled==(Tryz.f6.params.toList++Rows.checkpointSaveSpec.plain.varTypes Tryz.prog++Tryz.f6.resultTypes.toList).any (Tryz.prog.veiledRec ·)))=true:=by kernel_rfl
theorem j31:(Rows.checkpointSaveRow.veiledFits Tryz.prog Tryz.f6.params.toList (Tryz.f6.params.toList++Rows.checkpointSaveSpec.plain.varTypes Tryz.prog++Tryz.f6.resultTypes.toList))=true:=by kernel_rfl
set_option maxRecDepth 100000 in
theorem X6X:joinedFacts Tryz.prog 6 Tryz.f6 Rows.checkpointSaveSpec Rows.checkpointSaveRow=true:=by
 unfold joinedFacts;exact(XJ (XJ (XJ (XJ (XJ (XJ (XJ (XJ (XJ (XJ (XJ (XJ (XJ (XJ (XJ (XJ (XJ (XJ (XJ (XJ (XJ (XJ (XJ (XJ (XJ (XJ (XJ (XJ (XJ (XJ (XJ j0 j1) j2) j3) j4) j5) j6) j7) j8) j9) j10) j11) j12) j13) j14) j15) j16) j17) j18) j19) j20) j21) j22) j23) j24) j25) j26) j27) j28) j29) j30) j31)
set_option maxRecDepth 100000 in
theorem wft:Rows.checkpointSaveRow.wfByText (OpenSpec.ofChange Rows.checkpointSaveSpec)=true:=by kernel_rfl
set_option maxRecDepth 100000 in
theorem mnt:Tryz.prog.mainIs=some (Rows.checkpointSaveCard.stood.harness.1,Rows.checkpointSaveCard.stood.harness.2.toList):=by kernel_rfl
set_option maxRecDepth 100000 in
theorem lkt:true=Tryz.prog.looks []:=by kernel_rfl
set_option maxRecDepth 100000 in
theorem gbt:false=Rows.checkpointSaveRow.goesBy Tryz.prog:=by kernel_rfl
end Go.Proofs.YtfmfekakaeafhaaGreatDoor.checkpointSave

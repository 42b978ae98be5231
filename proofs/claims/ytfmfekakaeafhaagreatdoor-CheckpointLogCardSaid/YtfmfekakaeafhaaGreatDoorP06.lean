/- CheckpointLog: the closed facts of its row. -/
import Derived.Test.YtfmfekakaeafhaaGreatDoorP01
import Derived.Test.YtfmfekakaeafhaaGreatDoorRows
import Derived.Test.YtfmfekakaeafhaaGreatDoorChecked
import Derived.Test.YtfmfekakaeafhaaGreatDoorCards
import Derived.Test.YtfmfekakaeafhaaGreatDoorTie
import Derived.WalkKit
import Derived.ProofKit
import Derived.Stop.Joined
import Derived.SevenTiedAt
set_option linter.all false
namespace Go.Proofs.YtfmfekakaeafhaaGreatDoor.checkpointLog
open Go Go.ChangeShapes Go.WideShapes Go.ChangeAt Go.RowKit List
def XJ {a b:Bool} (h:a=true) (k:b=true):(a&&b)=true:=by rw[h,k];rfl
theorem j0:(Rows.checkpointLogRow.wf (OpenSpec.ofChange Rows.checkpointLogSpec))=true:=by kernel_rfl
theorem j1:(laidOutB Tryz.prog)=true:=by kernel_rfl
theorem j2:(mapsRowed Tryz.prog)=true:=by kernel_rfl
theorem j3:(Tryz.f3.params.all (Tryz.prog.readableRec ·))=true:=by kernel_rfl
theorem j4:(namedTie Tryz.prog Rows.checkpointLogRow.named Rows.checkpointLogSpec.vars)=true:=by kernel_rfl
theorem j5:((Rows.checkpointLogRow.stops==[]))=true:=by kernel_rfl
theorem j6:((Tryz.prog.stops==[]))=true:=by kernel_rfl
theorem j7:((Rows.checkpointLogRow.knobs==[]))=true:=by kernel_rfl
theorem j8:((Tryz.prog.stopKnobs==[]))=true:=by kernel_rfl
theorem j9:((Rows.checkpointLogRow.inPlace==Tryz.prog.inPlace 3))=true:=by kernel_rfl
theorem j10:((Rows.checkpointLogRow.unfollowed==Tryz.prog.unfollowed 3))=true:=by kernel_rfl
theorem j11:((Rows.checkpointLogRow.recurses==Tryz.prog.recurses 3))=true:=by kernel_rfl
theorem j12:((Rows.checkpointLogRow.named==Tryz.prog.varsNamed 3))=true:=by kernel_rfl
theorem j13:((Rows.checkpointLogRow.maps==(Tryz.f3.params.toList++Rows.checkpointLogSpec.plain.varTypes Tryz.prog).any (Tryz.prog.mapsRec ·)))=true:=by kernel_rfl
theorem j14:((Rows.checkpointLogRow.ifaces==(Tryz.f3.params.toList++Rows.checkpointLogSpec.plain.varTypes Tryz.prog).any (Tryz.prog.ifacesRec ·)))=true:=by kernel_rfl
theorem j15:((Rows.checkpointLogRow.mapsOut==Tryz.prog.mapsAmong Tryz.f3.resultTypes.toList))=true:=by kernel_rfl
theorem j16:((Rows.checkpointLogRow.loops==(Tryz.f3.params.toList++Rows.checkpointLogSpec.plain.varTypes Tryz.prog).any (Tryz.prog.loopsFrom ·)))=true:=by kernel_rfl
theorem j17:((Rows.checkpointLogRow.wideKeys==(Tryz.f3.params.toList++Rows.checkpointLogSpec.plain.varTypes Tryz.prog++Tryz.f3.resultTypes.toList).any (Tryz.prog.wideKeysFrom ·)))=true:=by kernel_rfl
theorem j18:(Rows.checkpointLogSpec.vars.all (Tryz.prog.varReadable ·))=true:=by kernel_rfl
theorem j19:(Tryz.f3.resultTypes.all (fun t=>Tryz.prog.readableRec t&&decide (t<Tryz.prog.types.size)))=true:=by kernel_rfl
theorem j20:((Rows.checkpointLogRow.ifacesOut==Tryz.f3.resultTypes.toList.any (Tryz.prog.ifacesRec ·)))=true:=by kernel_rfl
theorem j21:((Rows.checkpointLogRow.loopsOut==Tryz.f3.resultTypes.toList.any (Tryz.prog.loopsFrom ·)))=true:=by kernel_rfl
theorem j22:((Rows.checkpointLogRow.plainKeys==Tryz.prog.plainKeys))=true:=by kernel_rfl
theorem j23:(Rows.checkpointLogRow.shortTexts.isNone)=true:=by kernel_rfl
theorem j24:(Tryz.prog.stopsHeard)=true:=by kernel_rfl
theorem j25:(Tryz.prog.mayEnter)=true:=by kernel_rfl
theorem j26:((Rows.checkpointLogRow.lifted==Tryz.prog.liftsFinal))=true:=by kernel_rfl
theorem j27:((Tryz.prog.make==some Rows.checkpointLogRow.make))=true:=by kernel_rfl
theorem j28:((Rows.checkpointLogRow.kinds==(if Rows.checkpointLogRow.domain.isEmpty then [] else Tryz.f3.params.toList.map fun t=>match Tryz.prog.underlying t with|some (.int k)=>some k|_=>none)))=true:=by kernel_rfl
theorem j29:((Rows.checkpointLogRow.pinned==Rows.checkpointLogRow.pinnedBy))=true:=by kernel_rfl
theorem j30:((Rows.checkpointLogRow.veiled==(Tryz.f3.params.toList++Rows.checkpointLogSpec.plain.varTypes Tryz.prog++Tryz.f3.resultTypes.toList).any (Tryz.prog.veiledRec ·)))=true:=by kernel_rfl
theorem j31:(Rows.checkpointLogRow.veiledFits Tryz.prog Tryz.f3.params.toList (Tryz.f3.params.toList++Rows.checkpointLogSpec.plain.varTypes Tryz.prog++Tryz.f3.resultTypes.toList))=true:=by kernel_rfl
set_option maxRecDepth 100000 in
theorem X6X:joinedFacts Tryz.prog 3 Tryz.f3 Rows.checkpointLogSpec Rows.checkpointLogRow=true:=by
 unfold joinedFacts;exact(XJ (XJ (XJ (XJ (XJ (XJ (XJ (XJ (XJ (XJ (XJ (XJ (XJ (XJ (XJ (XJ (XJ (XJ (XJ (XJ (XJ (XJ (XJ (XJ (XJ (XJ (XJ (XJ (XJ (XJ (XJ j0 j1) j2) j3) j4) j5) j6) j7) j8) j9) j10) j11) j12) j13) j14) j15) j16) j17) j18) j19) j20) j21) j22) j23) j24) j25) j26) j27) j28) j29) j30) j31)
set_option maxRecDepth 100000 in
theorem wft:Rows.checkpointLogRow.wfByText (OpenSpec.ofChange Rows.checkpointLogSpec)=true:=by kernel_rfl
set_option maxRecDepth 100000 in
theorem mnt:Tryz.prog.mainIs=some (Rows.checkpointLogCard.stood.harness.1,Rows.checkpointLogCard.stood.harness.2.toList):=by kernel_rfl
set_option maxRecDepth 100000 in
theorem lkt:true=Tryz.prog.looks []:=by kernel_rfl
set_option maxRecDepth 100000 in
theorem gbt:false=Rows.checkpointLogRow.goesBy Tryz.prog:=by kernel_rfl
end Go.Proofs.YtfmfekakaeafhaaGreatDoor.checkpointLog

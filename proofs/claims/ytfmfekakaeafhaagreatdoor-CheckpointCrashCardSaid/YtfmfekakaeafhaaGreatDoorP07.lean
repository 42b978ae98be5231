/- CheckpointCrash: the closed facts of its row. -/
import Derived.Test.YtfmfekakaeafhaaGreatDoorP01
import Derived.Test.YtfmfekakaeafhaaGreatDoorRows
import Derived.Test.YtfmfekakaeafhaaGreatDoorChecked
import Derived.Test.YtfmfekakaeafhaaGreatDoorCards
import Derived.Test.YtfmfekakaeafhaaGreatDoorTie
import Derived.WalkKit
import Derived.ProofKit
import Derived.Stop.Joined
import Derived.SevenTiedAt
set_option linter.all false
namespace Go.Proofs.YtfmfekakaeafhaaGreatDoor.checkpointCrash
open Go Go.ChangeShapes Go.WideShapes Go.ChangeAt Go.RowKit List
def XJ {a b:Bool} (h:a=true) (k:b=true):(a&&b)=true:=by rw[h,k];rfl
theorem j0:(Rows.checkpointCrashRow.wf (OpenSpec.ofChange Rows.checkpointCrashSpec))=true:=by kernel_rfl
theorem j1:(laidOutB Tryz.prog)=true:=by kernel_rfl
theorem j2:(mapsRowed Tryz.prog)=true:=by kernel_rfl
theorem j3:(Tryz.f4.params.all (Tryz.prog.readableRec ·))=true:=by kernel_rfl
theorem j4:(namedTie Tryz.prog Rows.checkpointCrashRow.named Rows.checkpointCrashSpec.vars)=true:=by kernel_rfl
theorem j5:((Rows.checkpointCrashRow.stops==[]))=true:=by kernel_rfl
theorem j6:((Tryz.prog.stops==[]))=true:=by kernel_rfl
theorem j7:((Rows.checkpointCrashRow.knobs==[]))=true:=by kernel_rfl
theorem j8:((Tryz.prog.stopKnobs==[]))=true:=by kernel_rfl
theorem j9:((Rows.checkpointCrashRow.inPlace==Tryz.prog.inPlace 4))=true:=by kernel_rfl
theorem j10:((Rows.checkpointCrashRow.unfollowed==Tryz.prog.unfollowed 4))=true:=by kernel_rfl
theorem j11:((Rows.checkpointCrashRow.recurses==Tryz.prog.recurses 4))=true:=by kernel_rfl
theorem j12:((Rows.checkpointCrashRow.named==Tryz.prog.varsNamed 4))=true:=by kernel_rfl
theorem j13:((Rows.checkpointCrashRow.maps==(Tryz.f4.params.toList++Rows.checkpointCrashSpec.plain.varTypes Tryz.prog).any (Tryz.prog.mapsRec ·)))=true:=by kernel_rfl
theorem j14:((Rows.checkpointCrashRow.ifaces==(Tryz.f4.params.toList++Rows.checkpointCrashSpec.plain.varTypes Tryz.prog).any (Tryz.prog.ifacesRec ·)))=true:=by kernel_rfl
theorem j15:((Rows.checkpointCrashRow.mapsOut==Tryz.prog.mapsAmong Tryz.f4.resultTypes.toList))=true:=by kernel_rfl
theorem j16:((Rows.checkpointCrashRow.loops==(Tryz.f4.params.toList++Rows.checkpointCrashSpec.plain.varTypes Tryz.prog).any (Tryz.prog.loopsFrom ·)))=true:=by kernel_rfl
theorem j17:((Rows.checkpointCrashRow.wideKeys==(Tryz.f4.params.toList++Rows.checkpointCrashSpec.plain.varTypes Tryz.prog++Tryz.f4.resultTypes.toList).any (Tryz.prog.wideKeysFrom ·)))=true:=by kernel_rfl
theorem j18:(Rows.checkpointCrashSpec.vars.all (Tryz.prog.varReadable ·))=true:=by kernel_rfl
theorem j19:(Tryz.f4.resultTypes.all (fun t=>Tryz.prog.readableRec t&&decide (t<Tryz.prog.types.size)))=true:=by kernel_rfl
theorem j20:((Rows.checkpointCrashRow.ifacesOut==Tryz.f4.resultTypes.toList.any (Tryz.prog.ifacesRec ·)))=true:=by kernel_rfl
theorem j21:((Rows.checkpointCrashRow.loopsOut==Tryz.f4.resultTypes.toList.any (Tryz.prog.loopsFrom ·)))=true:=by kernel_rfl
theorem j22:((Rows.checkpointCrashRow.plainKeys==Tryz.prog.plainKeys))=true:=by kernel_rfl
theorem j23:(Rows.checkpointCrashRow.shortTexts.isNone)=true:=by kernel_rfl
theorem j24:(Tryz.prog.stopsHeard)=true:=by kernel_rfl
theorem j25:(Tryz.prog.mayEnter)=true:=by kernel_rfl
theorem j26:((Rows.checkpointCrashRow.lifted==Tryz.prog.liftsFinal))=true:=by kernel_rfl
theorem j27:((Tryz.prog.make==some Rows.checkpointCrashRow.make))=true:=by kernel_rfl
theorem j28:((Rows.checkpointCrashRow.kinds==(if Rows.checkpointCrashRow.domain.isEmpty then [] else Tryz.f4.params.toList.map fun t=>match Tryz.prog.underlying t with|some (.int k)=>some k|_=>none)))=true:=by kernel_rfl
theorem j29:((Rows.checkpointCrashRow.pinned==Rows.checkpointCrashRow.pinnedBy))=true:=by kernel_rfl
theorem j30:((Rows.checkpointCrashRow.veiled==(Tryz.f4.params.toList++Rows.checkpointCrashSpec.plain.varTypes Tryz.prog++Tryz.f4.resultTypes.toList).any (Tryz.prog.veiledRec ·)))=true:=by kernel_rfl
theorem j31:(Rows.checkpointCrashRow.veiledFits Tryz.prog Tryz.f4.params.toList (Tryz.f4.params.toList++Rows.checkpointCrashSpec.plain.varTypes Tryz.prog++Tryz.f4.resultTypes.toList))=true:=by kernel_rfl
set_option maxRecDepth 100000 in
theorem X6X:joinedFacts Tryz.prog 4 Tryz.f4 Rows.checkpointCrashSpec Rows.checkpointCrashRow=true:=by
 unfold joinedFacts;exact(XJ (XJ (XJ (XJ (XJ (XJ (XJ (XJ (XJ (XJ (XJ (XJ (XJ (XJ (XJ (XJ (XJ (XJ (XJ (XJ (XJ (XJ (XJ (XJ (XJ (XJ (XJ (XJ (XJ (XJ (XJ j0 j1) j2) j3) j4) j5) j6) j7) j8) j9) j10) j11) j12) j13) j14) j15) j16) j17) j18) j19) j20) j21) j22) j23) j24) j25) j26) j27) j28) j29) j30) j31)
set_option maxRecDepth 100000 in
theorem wft:Rows.checkpointCrashRow.wfByText (OpenSpec.ofChange Rows.checkpointCrashSpec)=true:=by kernel_rfl
set_option maxRecDepth 100000 in
theorem mnt:Tryz.prog.mainIs=some (Rows.checkpointCrashCard.stood.harness.1,Rows.checkpointCrashCard.stood.harness.2.toList):=by kernel_rfl
set_option maxRecDepth 100000 in
theorem lkt:true=Tryz.prog.looks []:=by kernel_rfl
set_option maxRecDepth 100000 in
theorem gbt:false=Rows.checkpointCrashRow.goesBy Tryz.prog:=by kernel_rfl
end Go.Proofs.YtfmfekakaeafhaaGreatDoor.checkpointCrash

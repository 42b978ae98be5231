/- CheckpointLayout: the closed facts of its row. -/
import Derived.Test.YtpbgjcbkhgfmkaaGreatDoorM01
import Derived.Test.YtpbgjcbkhgfmkaaGreatDoorRows
import Derived.Test.YtpbgjcbkhgfmkaaGreatDoorChecked
import Derived.Test.YtpbgjcbkhgfmkaaGreatDoorCards
import Derived.Test.YtpbgjcbkhgfmkaaGreatDoorTie
import Derived.WalkKit
import Derived.ProofKit
import Derived.Stop.Joined
import Derived.SevenTiedAt
namespace Go.Proofs.YtpbgjcbkhgfmkaaGreatDoor.checkpointLayout
open Go Go.ChangeShapes Go.WideShapes Go.ChangeAt Go.RowKit List
set_option linter.unusedVariables false
set_option linter.unusedSimpArgs false
theorem Xc {a b:Bool} (h:a=true) (k:b=true):(a&&b)=true:=by rw[h,k];rfl
theorem j0:(Rows.checkpointLayoutRow.wf (OpenSpec.ofChange Rows.checkpointLayoutSpec))=true:=by kernel_rfl
theorem j1:(laidOutB Tryz.prog)=true:=by kernel_rfl
theorem j2:(mapsRowed Tryz.prog)=true:=by kernel_rfl
theorem j3:(Tryz.f5.params.all (Tryz.prog.readableRec ·))=true:=by kernel_rfl
theorem j4:(namedTie Tryz.prog Rows.checkpointLayoutRow.named Rows.checkpointLayoutSpec.vars)=true:=by kernel_rfl
theorem j5:((Rows.checkpointLayoutRow.stops==[]))=true:=by kernel_rfl
theorem j6:((Tryz.prog.stops==[]))=true:=by kernel_rfl
theorem j7:((Rows.checkpointLayoutRow.knobs==[]))=true:=by kernel_rfl
theorem j8:((Tryz.prog.stopKnobs==[]))=true:=by kernel_rfl
theorem j9:((Rows.checkpointLayoutRow.inPlace==Tryz.prog.inPlace 5))=true:=by kernel_rfl
theorem j10:((Rows.checkpointLayoutRow.unfollowed==Tryz.prog.unfollowed 5))=true:=by kernel_rfl
theorem j11:((Rows.checkpointLayoutRow.recurses==Tryz.prog.recurses 5))=true:=by kernel_rfl
theorem j12:((Rows.checkpointLayoutRow.named==Tryz.prog.varsNamed 5))=true:=by kernel_rfl
theorem j13:((Rows.checkpointLayoutRow.maps==(Tryz.f5.params.toList++Rows.checkpointLayoutSpec.plain.varTypes Tryz.prog).any (Tryz.prog.mapsRec ·)))=true:=by kernel_rfl
theorem j14:((Rows.checkpointLayoutRow.ifaces==(Tryz.f5.params.toList++Rows.checkpointLayoutSpec.plain.varTypes Tryz.prog).any (Tryz.prog.ifacesRec ·)))=true:=by kernel_rfl
theorem j15:((Rows.checkpointLayoutRow.mapsOut==Tryz.prog.mapsAmong Tryz.f5.resultTypes.toList))=true:=by kernel_rfl
theorem j16:((Rows.checkpointLayoutRow.loops==(Tryz.f5.params.toList++Rows.checkpointLayoutSpec.plain.varTypes Tryz.prog).any (Tryz.prog.loopsFrom ·)))=true:=by kernel_rfl
theorem j17:((Rows.checkpointLayoutRow.wideKeys==(Tryz.f5.params.toList++Rows.checkpointLayoutSpec.plain.varTypes Tryz.prog++Tryz.f5.resultTypes.toList).any (Tryz.prog.wideKeysFrom ·)))=true:=by kernel_rfl
theorem j18:(Rows.checkpointLayoutSpec.vars.all (Tryz.prog.varReadable ·))=true:=by kernel_rfl
theorem j19:(Tryz.f5.resultTypes.all (fun t=>Tryz.prog.readableRec t&&decide (t<Tryz.prog.types.size)))=true:=by kernel_rfl
theorem j20:((Rows.checkpointLayoutRow.ifacesOut==Tryz.f5.resultTypes.toList.any (Tryz.prog.ifacesRec ·)))=true:=by kernel_rfl
theorem j21:((Rows.checkpointLayoutRow.loopsOut==Tryz.f5.resultTypes.toList.any (Tryz.prog.loopsFrom ·)))=true:=by kernel_rfl
theorem j22:((Rows.checkpointLayoutRow.plainKeys==Tryz.prog.plainKeys))=true:=by kernel_rfl
theorem j23:(Rows.checkpointLayoutRow.shortTexts.isNone)=true:=by kernel_rfl
theorem j24:(Tryz.prog.stopsHeard)=true:=by kernel_rfl
theorem j25:(Tryz.prog.mayEnter)=true:=by kernel_rfl
theorem j26:((Rows.checkpointLayoutRow.lifted==Tryz.prog.liftsFinal))=true:=by kernel_rfl
theorem j27:((Tryz.prog.make==some Rows.checkpointLayoutRow.make))=true:=by kernel_rfl
theorem j28:((Rows.checkpointLayoutRow.kinds==(if Rows.checkpointLayoutRow.domain.isEmpty then [] else Tryz.f5.params.toList.map fun t=>match Tryz.prog.underlying t with|some (.int k)=>some k|_=>none)))=true:=by kernel_rfl
theorem j29:((Rows.checkpointLayoutRow.pinned==Rows.checkpointLayoutRow.pinnedBy))=true:=by kernel_rfl
theorem j30:((Rows.checkpointLayoutRow.veiled==(Tryz.f5.params.toList++Rows.checkpointLayoutSpec.plain.varTypes Tryz.prog++Tryz.f5.resultTypes.toList).any (Tryz.prog.veiledRec ·)))=true:=by kernel_rfl
theorem j31:(Rows.checkpointLayoutRow.veiledFits Tryz.prog Tryz.f5.params.toList (Tryz.f5.params.toList++Rows.checkpointLayoutSpec.plain.varTypes Tryz.prog++Tryz.f5.resultTypes.toList))=true:=by kernel_rfl
set_option maxRecDepth 100000 in
theorem X2u:joinedFacts Tryz.prog 5 Tryz.f5 Rows.checkpointLayoutSpec Rows.checkpointLayoutRow=true:=by
 unfold joinedFacts;exact(Xc (Xc (Xc (Xc (Xc (Xc (Xc (Xc (Xc (Xc (Xc (Xc (Xc (Xc (Xc (Xc (Xc (Xc (Xc (Xc (Xc (Xc (Xc (Xc (Xc (Xc (Xc (Xc (Xc (Xc (Xc j0 j1) j2) j3) j4) j5) j6) j7) j8) j9) j10) j11) j12) j13) j14) j15) j16) j17) j18) j19) j20) j21) j22) j23) j24) j25) j26) j27) j28) j29) j30) j31)
set_option maxRecDepth 100000 in
theorem wft:Rows.checkpointLayoutRow.wfByText (OpenSpec.ofChange Rows.checkpointLayoutSpec)=true:=by kernel_rfl
set_option maxRecDepth 100000 in
theorem mnt:Tryz.prog.mainIs=some (Rows.checkpointLayoutCard.stood.harness.1,Rows.checkpointLayoutCard.stood.harness.2.toList):=by kernel_rfl
set_option maxRecDepth 100000 in
theorem lkt:true=Tryz.prog.looks []:=by kernel_rfl
set_option maxRecDepth 100000 in
theorem gbt:false=Rows.checkpointLayoutRow.goesBy Tryz.prog:=by kernel_rfl
end Go.Proofs.YtpbgjcbkhgfmkaaGreatDoor.checkpointLayout

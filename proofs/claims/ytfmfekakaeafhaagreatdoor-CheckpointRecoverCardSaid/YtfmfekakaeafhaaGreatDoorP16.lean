/- CheckpointRecover: the closed facts of its row. -/
import Derived.Test.YtfmfekakaeafhaaGreatDoorP01
import Derived.Test.YtfmfekakaeafhaaGreatDoorRows
import Derived.Test.YtfmfekakaeafhaaGreatDoorChecked
import Derived.Test.YtfmfekakaeafhaaGreatDoorCards
import Derived.Test.YtfmfekakaeafhaaGreatDoorTie
import Derived.WalkKit
import Derived.ProofKit
import Derived.Stop.Joined
import Derived.SevenTiedAt
set_option linter.all false
namespace Go.Proofs.YtfmfekakaeafhaaGreatDoor.checkpointRecover
open Go Go.ChangeShapes Go.WideShapes Go.ChangeAt Go.RowKit List Go.Proofs.Tryz
open YtfmfekakaeafhaaGreatDoor.Rows renaming checkpointRecoverRow->R,checkpointRecoverSpec->S
set_option maxRecDepth 100000
theorem K {p:Prop} (h:p:=by kernel_rfl):p:=h
def XJ {a b:Bool} (h:a=true) (k:b=true):(a&&b)=true:=by rw[h,k];rfl
theorem j0:(R.wf (OpenSpec.ofChange S))=true:=K
theorem j1:(laidOutB prog)=true:=K
theorem j2:(mapsRowed prog)=true:=K
theorem j3:(f5.params.all (prog.readableRec ·))=true:=K
theorem j4:(namedTie prog R.named S.vars)=true:=K
theorem j5:((R.stops==[]))=true:=K
theorem j6:((prog.stops==[]))=true:=K
theorem j7:((R.knobs==[]))=true:=K
theorem j8:((prog.stopKnobs==[]))=true:=K
theorem j9:((R.inPlace==prog.inPlace 5))=true:=K
theorem j10:((R.unfollowed==prog.unfollowed 5))=true:=K
theorem j11:((R.recurses==prog.recurses 5))=true:=K
theorem j12:((R.named==prog.varsNamed 5))=true:=K
theorem j13:((R.maps==(f5.params.toList++S.plain.varTypes prog).any (prog.mapsRec ·)))=true:=K
theorem j14:((R.ifaces==(f5.params.toList++S.plain.varTypes prog).any (prog.ifacesRec ·)))=true:=K
theorem j15:((R.mapsOut==prog.mapsAmong f5.resultTypes.toList))=true:=K
theorem j16:((R.loops==(f5.params.toList++S.plain.varTypes prog).any (prog.loopsFrom ·)))=true:=K
theorem j17:((R.wideKeys==(f5.params.toList++S.plain.varTypes prog++f5.resultTypes.toList).any (prog.wideKeysFrom ·)))=true:=K
theorem j18:(S.vars.all (prog.varReadable ·))=true:=K
theorem j19:(f5.resultTypes.all (fun t=>prog.readableRec t&&decide (t<prog.types.size)))=true:=K
theorem j20:((R.ifacesOut==f5.resultTypes.toList.any (prog.ifacesRec ·)))=true:=K
theorem j21:((R.loopsOut==f5.resultTypes.toList.any (prog.loopsFrom ·)))=true:=K
theorem j22:((R.plainKeys==prog.plainKeys))=true:=K
theorem j23:(R.shortTexts.isNone)=true:=K
theorem j24:(prog.stopsHeard)=true:=K
theorem j25:(prog.mayEnter)=true:=K
theorem j26:((R.lifted==prog.liftsFinal))=true:=K
theorem j27:((prog.make==some R.make))=true:=K
theorem j28:((R.kinds==(if R.domain.isEmpty then [] else f5.params.toList.map fun t=>match prog.underlying t with|some (.int k)=>some k|_=>none)))=true:=K
theorem j29:((R.pinned==R.pinnedBy))=true:=K
theorem j30:((R.veiled==(f5.params.toList++S.plain.varTypes prog++f5.resultTypes.toList).any (prog.veiledRec ·)))=true:=K
theorem j31:(R.veiledFits prog f5.params.toList (f5.params.toList++S.plain.varTypes prog++f5.resultTypes.toList))=true:=K
theorem X6X:joinedFacts prog 5 f5 S R=true:=by
 unfold joinedFacts;exact(XJ (XJ (XJ (XJ (XJ (XJ (XJ (XJ (XJ (XJ (XJ (XJ (XJ (XJ (XJ (XJ (XJ (XJ (XJ (XJ (XJ (XJ (XJ (XJ (XJ (XJ (XJ (XJ (XJ (XJ (XJ j0 j1) j2) j3) j4) j5) j6) j7) j8) j9) j10) j11) j12) j13) j14) j15) j16) j17) j18) j19) j20) j21) j22) j23) j24) j25) j26) j27) j28) j29) j30) j31)
theorem wft:R.wfByText (OpenSpec.ofChange S)=true:=K
theorem mnt:prog.mainIs=some (Rows.checkpointRecoverCard.stood.harness.1,Rows.checkpointRecoverCard.stood.harness.2.toList):=K
theorem lkt:true=prog.looks []:=K
theorem gbt:false=R.goesBy prog:=K
end Go.Proofs.YtfmfekakaeafhaaGreatDoor.checkpointRecover

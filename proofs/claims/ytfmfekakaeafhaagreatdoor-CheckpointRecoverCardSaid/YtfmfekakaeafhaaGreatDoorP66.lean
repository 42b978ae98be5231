/- CheckpointRecover: for every disk the program's Recover is the reference's. No condition. -/
import Derived.Test.YtfmfekakaeafhaaGreatDoorRows
import Derived.Test.YtfmfekakaeafhaaGreatDoorCards
import Derived.Test.YtfmfekakaeafhaaGreatDoorTie
import Derived.WalkKit
import Derived.ProofKit
import Derived.OpenShut
import Derived.LaidMore
import Derived.LaidHandle
import Derived.Stop.Joined
import Derived.SevenTiedAt
import Derived.Test.YtfmfekakaeafhaaGreatDoorP16
import Derived.Test.YtfmfekakaeafhaaGreatDoorP64
set_option linter.all false
namespace Go.Proofs.YtfmfekakaeafhaaGreatDoor.checkpointRecover
open Go.ChangeShapes Go.WideShapes Go.ChangeAt Go.RowKit Go.Fw List Go.Proofs.Tryz
open YtfmfekakaeafhaaGreatDoor.Rows renaming checkpointRecoverSpec->RS
set_option maxRecDepth 100000
theorem own:ownKnob prog.godebug=none:=Oh
def full:∀t e,t<prog.types.size->prog.underlying t=some (.slice e)->0<prog.cellsOf e:=slices_full_of prog Oh
def kids:Kids prog (· <prog.types.size):=kids_rows Oh Oh
theorem contract (H:Type) (enc:TypeId×Value->H) (W:World) (base:Nat) (args:Array Value) (ds gs:List (DataW H)) (before:List MemPlace)
  (hval:∀(j:Nat) t v,f5.params[j]? =some t->args[j]? =some v->Value.okWide prog W .any base t v)
  (hW:DataW.Whole enc prog f5.params.toList RS.vars false W args.toList ds gs before):
  Calls prog 5 args W fun e W'=> ∃v,e= .returned v/\RS.post enc prog f5 false true false false W args v W':=by
 have lz:=hW;obtain⟨p,q,dh,hV,rfl,hfz,gu⟩:=hW;have hA:DataW.TrodAll enc prog W 0 (fun _=>true) true f5.params.toList args.toList ds p:=dh;rw[params5] at hA hval;obtain⟨v0,vs0,d0,ds0,p0,q0,hargs,rfl,rfl,h0,r0⟩:=trodAll_cons hA;obtain⟨rfl,rfl,rfl⟩:=trodAll_nil r0;obtain rfl:args= #[v0]:=Ji
 obtain⟨rfl,rfl⟩:=trodVars_none hV;obtain⟨x0,px0,s0⟩:=X9F underlying25 (hval 0 25 v0 rfl rfl) h0 Xel;rw[<-XgD] at s0;refine(Xd2 (W:=W) (args:= #[v0]) (XuS x0) W.cell? (fun _ _ h=>h) ?_).mono ?_
 ·exact⟨s0,TV⟩
 rintro e W' ⟨v,g',rfl,hv,hk⟩;have gW:v= .bool true:=by
  simp only[AVal.sat,D.rep] at hv;exact hv.1
 subst gW;exact QZe
def door_met (os:Os) (args:Array Value):laidMetH prog [("graphdb/frac.zero",Rows.laid_graphdb_frac_zero)] ((World.doorLaid prog 400 os).forCall (fun _ _=>0) ⟨#[],args,[]⟩).memory:=
 laidMetH_of_parts3 (fuel:=8) (laidMet_of_run' 8 Oh Oh) Oh Oh
theorem lifted (os:Os) (started:os.Started) (H:Type) (enc:TypeId×Value->H):
  ReturnsInHanded {} checked os 5 .any (fun w args=>(RS.pre enc prog f5 [] false w args/\laidMetH prog [("graphdb/frac.zero",Rows.laid_graphdb_frac_zero)] w)/\sizedMet enc prog f5 (OpenSpec.ofChange RS) false w args)
   (RS.post enc prog f5 false true false false):=by
 refine returnsInHanded_of_change_and (C:=checked) (X:=fun w _=>laidMetH prog [("graphdb/frac.zero",Rows.laid_graphdb_frac_zero)] w) (fun _ _ _ hh h=>h.of_heap hh) own started (by kernel_rfl) func5
  (ChangeSpec.witness_shaped (enc:=enc) (C:=checked) (os:=os) (X:=fun w _=>laidMetH prog [("graphdb/frac.zero",Rows.laid_graphdb_frac_zero)] w) false (World.doorLaid prog 400 os) #[.agg #[.slice none 0 0,.slice none 0 0,.bool false]] 8 rfl (World.shaped_of_RefB (by kernel_rfl) (by kernel_rfl)) (by kernel_rfl) (by kernel_rfl) (by kernel_rfl) (door_met os _)) ?_
 intro W base args ds gs before hval hW _ _ hL _;exact Qaf
theorem over:Rows.CheckpointRecoverSaid:=
 OpenClaim.holds_of_wide 5 f5 rfl rfl rfl rfl rfl rfl rfl ⟨rfl,rfl,rfl,rfl,rfl⟩ rfl rfl rfl rfl rfl Oh func5 X6X
  (of_decide_eq_true Oh) Ov
  (fun os started H enc _=>lifted os started H enc)
theorem proved:Rows.CheckpointRecoverCardSaid:=
 Claim7.holds_tied_plain_at .later [] [.data] true _ true
  over (fun _ h=>IV) wft (fun _ h=>IV) checkpointRecover_row_tie rfl ⟨rfl,rfl⟩ mnt rfl
  (fun f fn hf hfn=>by
   obtain rfl:f=5:=Option.some.inj ((show prog.funcNamed "graphdb/graphdblaw43.CheckpointRecover" =some 5 by kernel_rfl).symm.trans hf)|>.symm;obtain rfl:fn=f5:=(Option.some.inj (func5.symm.trans hfn)).symm;exact⟨lkt,fun j t ht=>by
    rw[params5] at ht;have hm:t∈[25]:=O9
    have hall:([25].all fun u=> !prog.wantsStandIn u)=true:=Oh
    exact(show prog.wantsStandIn t=false by simpa using all_eq_true.1 hall t hm)⟩)
  gbt
end Go.Proofs.YtfmfekakaeafhaaGreatDoor.checkpointRecover

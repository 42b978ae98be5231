/- BackupOnto: for every graph, time and sequence of bytes the program applies an incremental backup aZ the reference does. No condition. -/
import Derived.Test.YtlkcofbjniphbaaGreatDoorRows
import Derived.Test.YtlkcofbjniphbaaGreatDoorCards
import Derived.Test.YtlkcofbjniphbaaGreatDoorTie
import Derived.WalkKit
import Derived.ProofKit
import Derived.OpenShut
import Derived.LaidMore
import Derived.LaidHandle
import Derived.Stop.Joined
import Derived.SevenTiedAt
import Derived.Test.YtlkcofbjniphbaaGreatDoorB12
import Derived.Test.YtlkcofbjniphbaaGreatDoorB51
namespace Go.Proofs.YtlkcofbjniphbaaGreatDoor.backupOnto
open Go.ChangeShapes Go.WideShapes Go.ChangeAt Go.RowKit Go.Fw
set_option linter.unusedVariables false
set_option linter.unusedSimpArgs false
theorem own:ownKnob Tryz.prog.godebug=none:=by kernel_rfl
theorem full:∀t e,t<Tryz.prog.types.size→Tryz.prog.underlying t=some (.slice e)→0<Tryz.prog.cellsOf e:=slices_full_of Tryz.prog (by kernel_rfl)
theorem kids:Kids Tryz.prog (· <Tryz.prog.types.size):=kids_rows (by kernel_rfl) (by kernel_rfl)
set_option maxRecDepth 100000 in
theorem contract (H:Type) (enc:TypeId×Value→H) (W:World) (base:Nat) (args:Array Value) (ds gs:List (DataW H)) (before:List MemPlace)
  (hval:∀(j:Nat) t v,Tryz.f3.params[j]? =some t→args[j]? =some v→Value.okWide Tryz.prog W .any base t v)
  (hW:DataW.Whole enc Tryz.prog Tryz.f3.params.toList Rows.backupOntoSpec.vars false W args.toList ds gs before):
  Calls Tryz.prog 3 args W fun e W'=> ∃v,e= .returned v∧Rows.backupOntoSpec.post enc Tryz.prog Tryz.f3 false true false false W args v W':=by
 have hW':=hW
 obtain⟨p,q,hA0,hV,rfl,hfz,hnd⟩:=hW
 have hA:DataW.TrodAll enc Tryz.prog W 0 (fun _=>true) true Tryz.f3.params.toList args.toList ds p:=hA0
 rw[Tryz.params3] at hA hval
 obtain⟨v0,vs0,d0,ds0,p0,q0,hargs,rfl,rfl,h0,r0⟩:=trodAll_cons hA
 obtain⟨v1,vs1,d1,ds1,p1,q1,rfl,rfl,rfl,h1,r1⟩:=trodAll_cons r0
 obtain⟨v2,vs2,d2,ds2,p2,q2,rfl,rfl,rfl,h2,r2⟩:=trodAll_cons r1
 obtain⟨rfl,rfl,rfl⟩:=trodAll_nil r2
 obtain rfl:args= #[v0,v1,v2]:=by cases args;simp_all
 obtain⟨rfl,rfl⟩:=trodVars_none hV
 obtain⟨x0,px0,s0⟩:=Xpt Tryz.underlying25 (hval 0 25 v0 rfl rfl) h0 Xd3
 rw[←Xos] at s0
 obtain⟨x1,px1,s1⟩:=X7J Tryz.underlying3 (hval 1 3 v1 rfl rfl) h1
 obtain⟨x2,px2,s2⟩:=XnW Tryz.underlying26 (hval 2 26 v2 rfl rfl) h2 XqC
 refine(XaU (W:=W) (args:= #[v0,v1,v2]) (XpP x0 x1 x2 px0) W.cell? (fun _ _ h=>h) ?_).mono ?_
 ·exact⟨s0,s1,s2,trivial⟩
 rintro e W' ⟨v,g',rfl,hv,hk⟩
 have hv':v= .bool true:=by
  simp only[AVal.sat,D.rep] at hv
  exact hv.1
 subst hv'
 exact QJi
theorem door_met (os:Os) (args:Array Value):laidMetH Tryz.prog [("graphdb/frac.zero",Rows.laid_graphdb_frac_zero)] ((World.doorLaid Tryz.prog 400 os).forCall (fun _ _=>0) ⟨#[],args,[]⟩).memory:=
 laidMetH_of_parts3 (fuel:=8) (laidMet_of_run' 8 (by kernel_rfl) (by kernel_rfl)) (by kernel_rfl) (by kernel_rfl)
set_option maxRecDepth 100000 in
theorem lifted (os:Os) (started:os.Started) (H:Type) (enc:TypeId×Value→H):
  ReturnsInHanded {} Tryz.checked os 3 .any (fun w args=>(Rows.backupOntoSpec.pre enc Tryz.prog Tryz.f3 [] false w args∧laidMetH Tryz.prog [("graphdb/frac.zero",Rows.laid_graphdb_frac_zero)] w)∧sizedMet enc Tryz.prog Tryz.f3 (OpenSpec.ofChange Rows.backupOntoSpec) false w args)
   (Rows.backupOntoSpec.post enc Tryz.prog Tryz.f3 false true false false):=by
 refine returnsInHanded_of_change_and (C:=Tryz.checked) (X:=fun w _=>laidMetH Tryz.prog [("graphdb/frac.zero",Rows.laid_graphdb_frac_zero)] w) (fun _ _ _ hh h=>h.of_heap hh) own started (by kernel_rfl) Tryz.func3
  (ChangeSpec.witness_shaped (enc:=enc) (C:=Tryz.checked) (os:=os) (X:=fun w _=>laidMetH Tryz.prog [("graphdb/frac.zero",Rows.laid_graphdb_frac_zero)] w) false (World.doorLaid Tryz.prog 400 os) #[.agg #[.slice none 0 0,.slice none 0 0,.int .i64 0,.int .i64 0],.int .i64 0,.slice none 0 0] 8 rfl (World.shaped_of_RefB (by kernel_rfl) (by kernel_rfl)) (by kernel_rfl) (by kernel_rfl) (by kernel_rfl) (door_met os _)) ?_
 intro W base args ds gs before hval hW _ _ hL _
 exact contract H enc W base args ds gs before hval hW
set_option maxRecDepth 100000 in
theorem over:Rows.BackupOntoSaid:=
 OpenClaim.holds_of_wide 3 Tryz.f3 rfl rfl rfl rfl rfl rfl rfl ⟨rfl,rfl,rfl,rfl,rfl⟩ rfl rfl rfl rfl rfl (by kernel_rfl) Tryz.func3 X6L
  (of_decide_eq_true (by kernel_rfl)) (by unfold Func.isWrapper;first|(rw[if_pos (by decide+kernel)];kernel_rfl)|(rw[if_neg (by decide+kernel)];exact⟨rfl,rfl⟩))
  (fun os started H enc _=>lifted os started H enc)
theorem proved:Rows.BackupOntoCardSaid:=
 Claim7.holds_tied_plain_at .later [] [.data] true _ true
  over (fun _ h=>by cases h) wft (fun _ h=>by cases h) backupOnto_row_tie rfl ⟨rfl,rfl⟩ mnt rfl
  (fun f fn hf hfn=>by
   obtain rfl:f=3:=Option.some.inj ((show Tryz.prog.funcNamed "graphdb/graphdblaw53.BackupOnto" =some 3 by kernel_rfl).symm.trans hf)|>.symm
   obtain rfl:fn=Tryz.f3:=(Option.some.inj (Tryz.func3.symm.trans hfn)).symm
   exact⟨lkt,fun j t ht=>by
    rw[Tryz.params3] at ht
    have hm:t∈[25,3,26]:=by simpa using Array.mem_of_getElem? ht
    have hall:([25,3,26].all fun u=> !Tryz.prog.wantsStandIn u)=true:=by kernel_rfl
    exact(show Tryz.prog.wantsStandIn t=false by simpa using List.all_eq_true.1 hall t hm)⟩)
  gbt
end Go.Proofs.YtlkcofbjniphbaaGreatDoor.backupOnto

/- BackupChains: the incremental backup since a time, applied to the graph aZ of it, yields the last graph and the last time; at another time it is rejected. Condition: the arguments are together of bulk at most 1048576. -/
import Derived.Test.YtlkcofbjniphbaaGreatDoorRows
import Derived.Test.YtlkcofbjniphbaaGreatDoorCards
import Derived.Test.YtlkcofbjniphbaaGreatDoorTie
import Derived.WalkKit
import Derived.ProofKit
import Derived.OpenShut
import Derived.LaidMore
import Derived.LaidHandle
import Derived.Stop.Joined
import Derived.SevenTiedAt
import Derived.Deep.DeepHandedRow
import Derived.Test.YtlkcofbjniphbaaGreatDoorB35
import Derived.Test.YtlkcofbjniphbaaGreatDoorB56
namespace Go.Proofs.YtlkcofbjniphbaaGreatDoor.backupChains
open Go.ChangeShapes Go.WideShapes Go.ChangeAt Go.RowKit Go.Fw
set_option linter.unusedVariables false
set_option linter.unusedSimpArgs false
theorem own:ownKnob Tryz.prog.godebug=none:=by kernel_rfl
theorem full:∀t e,t<Tryz.prog.types.size→Tryz.prog.underlying t=some (.slice e)→0<Tryz.prog.cellsOf e:=slices_full_of Tryz.prog (by kernel_rfl)
theorem kids:Kids Tryz.prog (· <Tryz.prog.types.size):=kids_rows (by kernel_rfl) (by kernel_rfl)
set_option maxRecDepth 100000 in
theorem contract (H:Type) (enc:TypeId×Value→H) (W:World) (base:Nat) (args:Array Value) (ds gs:List (DataW H)) (before:List MemPlace)
  (hval:∀(j:Nat) t v,Tryz.f5.params[j]? =some t→args[j]? =some v→Value.okWide Tryz.prog W .any base t v)
  (hW:DataW.Whole enc Tryz.prog Tryz.f5.params.toList Rows.backupChainsSpec.vars false W args.toList ds gs before) (hcond:Rows.uptoSmall H (ds++gs)=true):
  Calls Tryz.prog 5 args W fun e W'=> ∃v,e= .returned v∧Rows.backupChainsSpec.post enc Tryz.prog Tryz.f5 false true false false W args v W':=by
 have hW':=hW
 obtain⟨p,q,hA0,hV,rfl,hfz,hnd⟩:=hW
 have hA:DataW.TrodAll enc Tryz.prog W 0 (fun _=>true) true Tryz.f5.params.toList args.toList ds p:=hA0
 rw[Tryz.params5] at hA hval
 obtain⟨v0,vs0,d0,ds0,p0,q0,hargs,rfl,rfl,h0,r0⟩:=trodAll_cons hA
 obtain⟨v1,vs1,d1,ds1,p1,q1,rfl,rfl,rfl,h1,r1⟩:=trodAll_cons r0
 obtain⟨v2,vs2,d2,ds2,p2,q2,rfl,rfl,rfl,h2,r2⟩:=trodAll_cons r1
 obtain⟨rfl,rfl,rfl⟩:=trodAll_nil r2
 obtain rfl:args= #[v0,v1,v2]:=by cases args;simp_all
 obtain⟨rfl,rfl⟩:=trodVars_none hV
 have hk0:Rows.uptoBulkAll ([d0,d1,d2]++[])≤1048576:=by have h:=hcond;unfold Rows.uptoSmall at h;exact of_decide_eq_true h
 simp only[List.append_nil,Rows.uptoBulkAll] at hk0
 obtain⟨x0,px0,s0⟩:=Xg7 Tryz.underlying36 (hval 0 36 v0 rfl rfl) h0 Xdg
 rw[←XhR] at s0
 obtain⟨x1,px1,s1⟩:=X7J Tryz.underlying3 (hval 1 3 v1 rfl rfl) h1
 obtain⟨x2,px2,s2⟩:=X7J Tryz.underlying3 (hval 2 3 v2 rfl rfl) h2
 refine(XaU (W:=W) (args:= #[v0,v1,v2]) (XqD x0 x1 x2 px0.1 (by omega)) W.cell? (fun _ _ h=>h) ?_).mono ?_
 ·exact⟨s0,s1,s2,trivial⟩
 rintro e W' ⟨v,g',rfl,hv,hk⟩
 have hv':v= .bool true:=by
  simp only[AVal.sat,D.rep] at hv
  exact hv.1
 subst hv'
 exact QJi
theorem door_met (os:Os) (args:Array Value):laidMetH Tryz.prog [("graphdb/frac.zero",Rows.laid_graphdb_frac_zero)] ((World.doorLaid Tryz.prog 400 os).forCall (fun _ _=>0) ⟨#[],args,[]⟩).memory:=
 laidMetH_of_parts3 (fuel:=8) (laidMet_of_run' 8 (by kernel_rfl) (by kernel_rfl)) (by kernel_rfl) (by kernel_rfl)
set_option maxRecDepth 100000 in
theorem lifted (os:Os) (started:os.Started) (H:Type) (enc:TypeId×Value→H) (F:Stop.Interp):
  ReturnsInHanded {} Tryz.checked os 5 .any ((Rows.OpenSpec.upto Rows.backupChainsSpec).preRow enc Tryz.prog Tryz.f5 Rows.backupChainsUptoRow.domain false Rows.backupChainsUptoRow.laid) (((Rows.OpenSpec.upto Rows.backupChainsSpec).at F).post enc Tryz.prog Tryz.f5 false true false false):=by
 have hx:DataW.whole enc Tryz.prog ((World.doorLaid Tryz.prog 400 os).forCall (fun _ _=>0) ⟨#[],#[.agg #[.int .i64 0,.slice none 0 0,.slice none 0 0,.int .i64 0,.int .i64 0,.slice none 0 0],.int .i64 0,.int .i64 0],[]⟩).memory Tryz.f5.params.toList Rows.backupChainsSpec.vars false (#[.agg #[.int .i64 0,.slice none 0 0,.slice none 0 0,.int .i64 0,.int .i64 0,.slice none 0 0],.int .i64 0,.int .i64 0]:Array Value).toList 8=some ([.agg [.lit (.int .i64 0),.agg [.nil,.nil,.lit (.int .i64 0),.lit (.int .i64 0)],.nil],.lit (.int .i64 0),.lit (.int .i64 0)],[],[]):=by kernel_rfl
 refine returnsInHanded_of_row (C:=Tryz.checked) (s:=Rows.OpenSpec.upto Rows.backupChainsSpec) own started (by kernel_rfl) Tryz.func5
  ⟨World.doorLaid Tryz.prog 400 os,fun _ _=>0,⟨#[],#[.agg #[.int .i64 0,.slice none 0 0,.slice none 0 0,.int .i64 0,.int .i64 0,.slice none 0 0],.int .i64 0,.int .i64 0],[]⟩,rfl,World.shaped_of_RefB (by kernel_rfl) (by kernel_rfl),rfl,(Input.okWide_of_okWideB (by kernel_rfl)).2,
   OpenSpec.preRow_of_cond 8 hx (by kernel_rfl) (fun k hk=>by cases hk;kernel_rfl) (by kernel_rfl) (door_met os _),by
   simp only[Assume.holds]
   exact⟨by simp,by simp,fun h=>by simp at h,by simp,by simp⟩⟩ ?_
 intro W base args ds gs before hval hW _ hcond _ hL _ _
 exact contract H enc W base args ds gs before hval hW (hcond _ rfl)
set_option maxRecDepth 100000 in
theorem over:Rows.BackupChainsUptoSaid:=
 OpenClaim.holds_of_cond 5 Tryz.f5 rfl rfl rfl rfl rfl rfl rfl ⟨rfl,rfl,rfl,rfl,rfl⟩ rfl rfl rfl rfl rfl (by kernel_rfl) Tryz.func5 X6L
  (of_decide_eq_true (by kernel_rfl)) (by unfold Func.isWrapper;first|(rw[if_pos (by decide+kernel)];kernel_rfl)|(rw[if_neg (by decide+kernel)];exact⟨rfl,rfl⟩))
  (fun os started H enc _ F=>by rw[OpenClaim.pre_eq_preRow];exact lifted os started H enc F)
theorem proved:Rows.BackupChainsUptoCardSaid:=
 Claim7.holds_tied_plain_at .later [] _ _ _ _
  over (fun _ h=>by cases h) wft (fun _ h=>by cases h) backupChainsUpto_row_tie rfl ⟨rfl,rfl⟩ mnt rfl
  (fun f fn hf hfn=>by
   obtain rfl:f=5:=Option.some.inj ((show Tryz.prog.funcNamed "graphdb/graphdblaw53.BackupChains" =some 5 by kernel_rfl).symm.trans hf)|>.symm
   obtain rfl:fn=Tryz.f5:=(Option.some.inj (Tryz.func5.symm.trans hfn)).symm
   exact⟨lkt,fun j t ht=>by
    rw[Tryz.params5] at ht
    have hm:t∈[36,3,3]:=by simpa using Array.mem_of_getElem? ht
    have hall:([36,3,3].all fun u=> !Tryz.prog.wantsStandIn u)=true:=by kernel_rfl
    exact(show Tryz.prog.wantsStandIn t=false by simpa using List.all_eq_true.1 hall t hm)⟩)
  gbt
end Go.Proofs.YtlkcofbjniphbaaGreatDoor.backupChains

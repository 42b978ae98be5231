/-
  NARROWER THAN 'FOR EVERY INPUT', by the rows' own cells (each row's printed sentence says how): CheckpointLog: loops, laid · CheckpointCrash: loops, laid · CheckpointRecover: laid · CheckpointSave: loops, laid.
  DERIVED. THE GIVEN ROWS OF THIS SEAT. 4 by the template 'for every input the law returns true; each argument reads behind the call as it read before'; 0 by the template 'total and deterministic' (their statements: YtfmfekakaeafhaaGreatDoorTotals.lean).
  GIVEN WITH THE SEED: the statements are not yours to turn. If you find one false, say at which input.
  Laid BY PROGRAM, IN A SANDBOX (cutbox-rows.mjs): the forced cells as the released guide's own fill.sh prints them over the translation e52220963c61d1ea… (all of the seat's roots in one cut). By AI agents, Wed Nov 11 2026. No macro, syntax, notation, axiom, sorry.
-/
import Derived.Test.YtfmfekakaeafhaaGreatDoorChecked
import GoSem.Claim
import GoSem.ClaimJoined
import GoSem.ClaimMapViews
import Derived.JoinedTies
import Derived.KernelRfl
namespace Go.Proofs.YtfmfekakaeafhaaGreatDoor
/- THE CELL 'sum', in the pinned program and in every row, IS THE sha256 OF THE DUMP (.gsa) THAT YtfmfekakaeafhaaGreatDoorProg.lean LOADS. Nothing in Lean hashes anything: it is a label: what it is worth is what the hold of that sum in a sandbox is worth. -/
noncomputable def Tryz.pinned : Pinned := { name := "ytfmfekakaeafhaagreatdoor", sum := "e52220963c61d1eabded5faff3c39f28efa6980cea1d8bf1829683679eb92072", checked := Tryz.checked }
namespace Rows
def none {H : Type} : Left H := { results := [], args := [] }

/- WHAT THE LISTED PACKAGE-LEVEL VARIABLES READ AS WHEN THE CALL BEGINS. Each datum BY PROGRAM (the guide's laid-datum.mjs) off the statement by which the dump's own 'gosem.cut.vars' lays the variable. In a bare row this is a premise. The card (YtfmfekakaeafhaaGreatDoorCards.lean) ties it to the program's text. -/
def laid_graphdb_frac_zero {H : Type} : DataW H := .agg [.lit (.int .i64 0), .lit (.int .i64 1)]

/-- 'graphdblaw43.CheckpointLog': WHATEVER THE INPUT: true; the input reads as it did. -/
def checkpointLogSpec : ChangeSpec := { name := "checkpointLog", fn := fun _ => fun
  | [d1, d2, d3] => { results := [.lit (.bool true)], args := [d1, d2, d3] }
  | _ => none }
def checkpointLogRow : OpenClaim := { program := "ytfmfekakaeafhaagreatdoor", sum := "e52220963c61d1eabded5faff3c39f28efa6980cea1d8bf1829683679eb92072", func := "graphdb/graphdblaw43.CheckpointLog", spec := "checkpointLog", inPlace := ["math/bits.Add64", "math/bits.Sub64", "slices.overlaps[graphdb/api.Node]", "slices.overlaps[string]", "slices.overlaps[graphdb/api.Prop]", "slices.overlaps[graphdb/api.Edge]", "slices.overlaps[graphdb/api.Rule]", "internal/bytealg.IndexByte"], unfollowed := true, recurses := true, named := ["graphdb/frac.zero"], loops := true, apart := false, laid := [("graphdb/frac.zero", laid_graphdb_frac_zero)] }
def CheckpointLogSaid : Prop := checkpointLogRow.holds Tryz.pinned (OpenSpec.ofChange checkpointLogSpec)

/-- ITS FALSE NEIGHBOUR: 'it returns false'. Refute it at one input. -/
def checkpointLogWrong : ChangeSpec := { name := "checkpointLog", fn := fun _ => fun
  | [d1, d2, d3] => { results := [.lit (.bool false)], args := [d1, d2, d3] }
  | _ => none }
def CheckpointLogWrongFalsely : Prop := checkpointLogRow.holds Tryz.pinned (OpenSpec.ofChange checkpointLogWrong)

/-- 'graphdblaw43.CheckpointCrash': WHATEVER THE INPUT: true; the input reads as it did. -/
def checkpointCrashSpec : ChangeSpec := { name := "checkpointCrash", fn := fun _ => fun
  | [d1, d2, d3, d4, d5] => { results := [.lit (.bool true)], args := [d1, d2, d3, d4, d5] }
  | _ => none }
def checkpointCrashRow : OpenClaim := { program := "ytfmfekakaeafhaagreatdoor", sum := "e52220963c61d1eabded5faff3c39f28efa6980cea1d8bf1829683679eb92072", func := "graphdb/graphdblaw43.CheckpointCrash", spec := "checkpointCrash", inPlace := ["math/bits.Add64", "math/bits.Sub64", "slices.overlaps[graphdb/api.Node]", "slices.overlaps[string]", "slices.overlaps[graphdb/api.Prop]", "slices.overlaps[graphdb/api.Edge]", "slices.overlaps[graphdb/api.Rule]", "internal/bytealg.IndexByte"], unfollowed := true, recurses := true, named := ["graphdb/frac.zero"], loops := true, apart := false, laid := [("graphdb/frac.zero", laid_graphdb_frac_zero)] }
def CheckpointCrashSaid : Prop := checkpointCrashRow.holds Tryz.pinned (OpenSpec.ofChange checkpointCrashSpec)

/-- ITS FALSE NEIGHBOUR: 'it returns false'. Refute it at one input. -/
def checkpointCrashWrong : ChangeSpec := { name := "checkpointCrash", fn := fun _ => fun
  | [d1, d2, d3, d4, d5] => { results := [.lit (.bool false)], args := [d1, d2, d3, d4, d5] }
  | _ => none }
def CheckpointCrashWrongFalsely : Prop := checkpointCrashRow.holds Tryz.pinned (OpenSpec.ofChange checkpointCrashWrong)

/-- 'graphdblaw43.CheckpointRecover': WHATEVER THE INPUT: true; the input reads as it did. -/
def checkpointRecoverSpec : ChangeSpec := { name := "checkpointRecover", fn := fun _ => fun
  | [d] => { results := [.lit (.bool true)], args := [d] }
  | _ => none }
def checkpointRecoverRow : OpenClaim := { program := "ytfmfekakaeafhaagreatdoor", sum := "e52220963c61d1eabded5faff3c39f28efa6980cea1d8bf1829683679eb92072", func := "graphdb/graphdblaw43.CheckpointRecover", spec := "checkpointRecover", inPlace := ["math/bits.Add64", "math/bits.Sub64", "slices.overlaps[graphdb/api.Node]", "slices.overlaps[string]", "slices.overlaps[graphdb/api.Prop]", "slices.overlaps[graphdb/api.Edge]", "slices.overlaps[graphdb/api.Rule]", "internal/bytealg.IndexByte"], unfollowed := true, recurses := true, named := ["graphdb/frac.zero"], apart := false, laid := [("graphdb/frac.zero", laid_graphdb_frac_zero)] }
def CheckpointRecoverSaid : Prop := checkpointRecoverRow.holds Tryz.pinned (OpenSpec.ofChange checkpointRecoverSpec)

/-- ITS FALSE NEIGHBOUR: 'it returns false'. Refute it at one input. -/
def checkpointRecoverWrong : ChangeSpec := { name := "checkpointRecover", fn := fun _ => fun
  | [d] => { results := [.lit (.bool false)], args := [d] }
  | _ => none }
def CheckpointRecoverWrongFalsely : Prop := checkpointRecoverRow.holds Tryz.pinned (OpenSpec.ofChange checkpointRecoverWrong)

/-- 'graphdblaw43.CheckpointSave': WHATEVER THE INPUT: true; the input reads as it did. -/
def checkpointSaveSpec : ChangeSpec := { name := "checkpointSave", fn := fun _ => fun
  | [d1, d2] => { results := [.lit (.bool true)], args := [d1, d2] }
  | _ => none }
def checkpointSaveRow : OpenClaim := { program := "ytfmfekakaeafhaagreatdoor", sum := "e52220963c61d1eabded5faff3c39f28efa6980cea1d8bf1829683679eb92072", func := "graphdb/graphdblaw43.CheckpointSave", spec := "checkpointSave", inPlace := ["math/bits.Add64", "math/bits.Sub64", "slices.overlaps[graphdb/api.Node]", "slices.overlaps[string]", "slices.overlaps[graphdb/api.Prop]", "slices.overlaps[graphdb/api.Edge]", "slices.overlaps[graphdb/api.Rule]", "internal/bytealg.IndexByte"], unfollowed := true, recurses := true, named := ["graphdb/frac.zero"], loops := true, apart := false, laid := [("graphdb/frac.zero", laid_graphdb_frac_zero)] }
def CheckpointSaveSaid : Prop := checkpointSaveRow.holds Tryz.pinned (OpenSpec.ofChange checkpointSaveSpec)

/-- ITS FALSE NEIGHBOUR: 'it returns false'. Refute it at one input. -/
def checkpointSaveWrong : ChangeSpec := { name := "checkpointSave", fn := fun _ => fun
  | [d1, d2] => { results := [.lit (.bool false)], args := [d1, d2] }
  | _ => none }
def CheckpointSaveWrongFalsely : Prop := checkpointSaveRow.holds Tryz.pinned (OpenSpec.ofChange checkpointSaveWrong)

/- THE SECOND FORM. 'bulk': how many values and letters a reading holds, each counted each time it is reached (what is shared counts as often as it is met; a slice's spare places count too). A statement '..UptoSaid' is the law's where the arguments, and the package variables that the reading takes, are together of bulk at most 1048576: NARROWER than '..Said'. Prove '..Said' where nothing that the law and all that it calls make is longer than what came in: it says more and counts as full. Else prove '..UptoSaid'. A law counts once. -/
mutual
def uptoBulk {H : Type} : DataW H → Nat
  | .lit (.string bytes) => bytes.length + 1
  | .lit _ => 1
  | .nil => 1
  | .ptr d => uptoBulk d + 1
  | .slice elems spare => uptoBulkAll elems + uptoBulkAll spare + 1
  | .agg parts => uptoBulkAll parts + 1
  | .iface _ d => uptoBulk d + 1
  | .map entries => uptoBulkEntries entries + 1
  | .held _ => 1
def uptoBulkAll {H : Type} : List (DataW H) → Nat
  | [] => 0
  | d :: r => uptoBulk d + uptoBulkAll r
def uptoBulkEntries {H : Type} : List (Lit × DataW H) → Nat
  | [] => 0
  | x :: r => uptoBulkEntry x + uptoBulkEntries r
def uptoBulkEntry {H : Type} : Lit × DataW H → Nat
  | (.string bytes, d) => bytes.length + uptoBulk d + 1
  | (_, d) => uptoBulk d + 1
 end
def uptoSmall : (H : Type) → List (DataW H) → Bool := fun _ ds => decide (uptoBulkAll ds ≤ 1048576)
def OpenSpec.upto (s : _root_.Go.ChangeSpec) : _root_.Go.OpenSpec := { _root_.Go.OpenSpec.ofChange s with cond := some uptoSmall }

/-- 'graphdblaw43.CheckpointLog', WHERE WHAT IT READS IS OF BULK AT MOST 1048576: true; the input reads as it did. -/
def checkpointLogUptoRow : OpenClaim := { program := "ytfmfekakaeafhaagreatdoor", sum := "e52220963c61d1eabded5faff3c39f28efa6980cea1d8bf1829683679eb92072", func := "graphdb/graphdblaw43.CheckpointLog", spec := "checkpointLog", inPlace := ["math/bits.Add64", "math/bits.Sub64", "slices.overlaps[graphdb/api.Node]", "slices.overlaps[string]", "slices.overlaps[graphdb/api.Prop]", "slices.overlaps[graphdb/api.Edge]", "slices.overlaps[graphdb/api.Rule]", "internal/bytealg.IndexByte"], unfollowed := true, recurses := true, named := ["graphdb/frac.zero"], loops := true, apart := false, laid := [("graphdb/frac.zero", laid_graphdb_frac_zero)], narrowed := true }
def CheckpointLogUptoSaid : Prop := checkpointLogUptoRow.holds Tryz.pinned (OpenSpec.upto checkpointLogSpec)

/-- 'graphdblaw43.CheckpointCrash', WHERE WHAT IT READS IS OF BULK AT MOST 1048576: true; the input reads as it did. -/
def checkpointCrashUptoRow : OpenClaim := { program := "ytfmfekakaeafhaagreatdoor", sum := "e52220963c61d1eabded5faff3c39f28efa6980cea1d8bf1829683679eb92072", func := "graphdb/graphdblaw43.CheckpointCrash", spec := "checkpointCrash", inPlace := ["math/bits.Add64", "math/bits.Sub64", "slices.overlaps[graphdb/api.Node]", "slices.overlaps[string]", "slices.overlaps[graphdb/api.Prop]", "slices.overlaps[graphdb/api.Edge]", "slices.overlaps[graphdb/api.Rule]", "internal/bytealg.IndexByte"], unfollowed := true, recurses := true, named := ["graphdb/frac.zero"], loops := true, apart := false, laid := [("graphdb/frac.zero", laid_graphdb_frac_zero)], narrowed := true }
def CheckpointCrashUptoSaid : Prop := checkpointCrashUptoRow.holds Tryz.pinned (OpenSpec.upto checkpointCrashSpec)

/-- 'graphdblaw43.CheckpointRecover', WHERE WHAT IT READS IS OF BULK AT MOST 1048576: true; the input reads as it did. -/
def checkpointRecoverUptoRow : OpenClaim := { program := "ytfmfekakaeafhaagreatdoor", sum := "e52220963c61d1eabded5faff3c39f28efa6980cea1d8bf1829683679eb92072", func := "graphdb/graphdblaw43.CheckpointRecover", spec := "checkpointRecover", inPlace := ["math/bits.Add64", "math/bits.Sub64", "slices.overlaps[graphdb/api.Node]", "slices.overlaps[string]", "slices.overlaps[graphdb/api.Prop]", "slices.overlaps[graphdb/api.Edge]", "slices.overlaps[graphdb/api.Rule]", "internal/bytealg.IndexByte"], unfollowed := true, recurses := true, named := ["graphdb/frac.zero"], apart := false, laid := [("graphdb/frac.zero", laid_graphdb_frac_zero)], narrowed := true }
def CheckpointRecoverUptoSaid : Prop := checkpointRecoverUptoRow.holds Tryz.pinned (OpenSpec.upto checkpointRecoverSpec)

/-- 'graphdblaw43.CheckpointSave', WHERE WHAT IT READS IS OF BULK AT MOST 1048576: true; the input reads as it did. -/
def checkpointSaveUptoRow : OpenClaim := { program := "ytfmfekakaeafhaagreatdoor", sum := "e52220963c61d1eabded5faff3c39f28efa6980cea1d8bf1829683679eb92072", func := "graphdb/graphdblaw43.CheckpointSave", spec := "checkpointSave", inPlace := ["math/bits.Add64", "math/bits.Sub64", "slices.overlaps[graphdb/api.Node]", "slices.overlaps[string]", "slices.overlaps[graphdb/api.Prop]", "slices.overlaps[graphdb/api.Edge]", "slices.overlaps[graphdb/api.Rule]", "internal/bytealg.IndexByte"], unfollowed := true, recurses := true, named := ["graphdb/frac.zero"], loops := true, apart := false, laid := [("graphdb/frac.zero", laid_graphdb_frac_zero)], narrowed := true }
def CheckpointSaveUptoSaid : Prop := checkpointSaveUptoRow.holds Tryz.pinned (OpenSpec.upto checkpointSaveSpec)

end Rows
end Go.Proofs.YtfmfekakaeafhaaGreatDoor

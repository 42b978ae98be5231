/-
  NARROWER THAN 'FOR EVERY INPUT', by the rows' own cells (each row's printed sentence says how): BackupOnto: loops, laid · BackupSince: loops, laid · BackupChains: loops, laid.
  DERIVED. THE GIVEN ROWS OF THIS SEAT. 3 by the template 'for every input the law returns true; each argument reads behind the call as it read before'; 0 by the template 'total and deterministic' (their statements: YtlkcofbjniphbaaGreatDoorTotals.lean).
  GIVEN WITH THE SEED: the statements are not yours to turn. If you find one false, say at which input.
  Laid BY PROGRAM, IN A SANDBOX (cutbox-rows.mjs): the forced cells as the released guide's own fill.sh prints them over the translation 500e48da33bbd904… (all of the seat's roots in one cut). By AI agents, Wed Nov 11 2026. No macro, syntax, notation, axiom, sorry.
-/
import Derived.Test.YtlkcofbjniphbaaGreatDoorChecked
import GoSem.Claim
import GoSem.ClaimJoined
import GoSem.ClaimMapViews
import Derived.JoinedTies
import Derived.KernelRfl
namespace Go.Proofs.YtlkcofbjniphbaaGreatDoor
/- THE CELL 'sum', in the pinned program and in every row, IS THE sha256 OF THE DUMP (.gsa) THAT YtlkcofbjniphbaaGreatDoorProg.lean LOADS. Nothing in Lean hashes anything: it is a label: what it is worth is what the hold of that sum in a sandbox is worth. -/
noncomputable def Tryz.pinned : Pinned := { name := "ytlkcofbjniphbaagreatdoor", sum := "500e48da33bbd904c8b898710951c3edd81edc871d5d0b8e685a5e6c6a034166", checked := Tryz.checked }
namespace Rows
def none {H : Type} : Left H := { results := [], args := [] }

/- WHAT THE LISTED PACKAGE-LEVEL VARIABLES READ AS WHEN THE CALL BEGINS. Each datum BY PROGRAM (the guide's laid-datum.mjs) off the statement by which the dump's own 'gosem.cut.vars' lays the variable. In a bare row this is a premise. The card (YtlkcofbjniphbaaGreatDoorCards.lean) ties it to the program's text. -/
def laid_graphdb_frac_zero {H : Type} : DataW H := .agg [.lit (.int .i64 0), .lit (.int .i64 1)]

/-- 'graphdblaw53.BackupOnto': WHATEVER THE INPUT: true; the input reads as it did. -/
def backupOntoSpec : ChangeSpec := { name := "backupOnto", fn := fun _ => fun
  | [d1, d2, d3] => { results := [.lit (.bool true)], args := [d1, d2, d3] }
  | _ => none }
def backupOntoRow : OpenClaim := { program := "ytlkcofbjniphbaagreatdoor", sum := "500e48da33bbd904c8b898710951c3edd81edc871d5d0b8e685a5e6c6a034166", func := "graphdb/graphdblaw53.BackupOnto", spec := "backupOnto", inPlace := ["math/bits.Add64", "math/bits.Sub64", "slices.overlaps[graphdb/api.Node]", "slices.overlaps[string]", "slices.overlaps[graphdb/api.Prop]", "slices.overlaps[graphdb/api.Edge]"], unfollowed := true, recurses := true, named := ["graphdb/frac.zero"], loops := true, apart := false, laid := [("graphdb/frac.zero", laid_graphdb_frac_zero)] }
def BackupOntoSaid : Prop := backupOntoRow.holds Tryz.pinned (OpenSpec.ofChange backupOntoSpec)

/-- ITS FALSE NEIGHBOUR: 'it returns false'. Refute it at one input. -/
def backupOntoWrong : ChangeSpec := { name := "backupOnto", fn := fun _ => fun
  | [d1, d2, d3] => { results := [.lit (.bool false)], args := [d1, d2, d3] }
  | _ => none }
def BackupOntoWrongFalsely : Prop := backupOntoRow.holds Tryz.pinned (OpenSpec.ofChange backupOntoWrong)

/-- 'graphdblaw53.BackupSince': WHATEVER THE INPUT: true; the input reads as it did. -/
def backupSinceSpec : ChangeSpec := { name := "backupSince", fn := fun _ => fun
  | [d1, d2] => { results := [.lit (.bool true)], args := [d1, d2] }
  | _ => none }
def backupSinceRow : OpenClaim := { program := "ytlkcofbjniphbaagreatdoor", sum := "500e48da33bbd904c8b898710951c3edd81edc871d5d0b8e685a5e6c6a034166", func := "graphdb/graphdblaw53.BackupSince", spec := "backupSince", inPlace := ["math/bits.Add64", "math/bits.Sub64", "slices.overlaps[graphdb/api.Node]", "slices.overlaps[string]", "slices.overlaps[graphdb/api.Prop]", "slices.overlaps[graphdb/api.Edge]"], unfollowed := true, recurses := true, named := ["graphdb/frac.zero"], loops := true, apart := false, laid := [("graphdb/frac.zero", laid_graphdb_frac_zero)] }
def BackupSinceSaid : Prop := backupSinceRow.holds Tryz.pinned (OpenSpec.ofChange backupSinceSpec)

/-- ITS FALSE NEIGHBOUR: 'it returns false'. Refute it at one input. -/
def backupSinceWrong : ChangeSpec := { name := "backupSince", fn := fun _ => fun
  | [d1, d2] => { results := [.lit (.bool false)], args := [d1, d2] }
  | _ => none }
def BackupSinceWrongFalsely : Prop := backupSinceRow.holds Tryz.pinned (OpenSpec.ofChange backupSinceWrong)

/-- 'graphdblaw53.BackupChains': WHATEVER THE INPUT: true; the input reads as it did. -/
def backupChainsSpec : ChangeSpec := { name := "backupChains", fn := fun _ => fun
  | [d1, d2, d3] => { results := [.lit (.bool true)], args := [d1, d2, d3] }
  | _ => none }
def backupChainsRow : OpenClaim := { program := "ytlkcofbjniphbaagreatdoor", sum := "500e48da33bbd904c8b898710951c3edd81edc871d5d0b8e685a5e6c6a034166", func := "graphdb/graphdblaw53.BackupChains", spec := "backupChains", inPlace := ["math/bits.Add64", "math/bits.Sub64", "slices.overlaps[graphdb/api.Node]", "slices.overlaps[string]", "slices.overlaps[graphdb/api.Prop]", "slices.overlaps[graphdb/api.Edge]"], unfollowed := true, recurses := true, named := ["graphdb/frac.zero"], loops := true, apart := false, laid := [("graphdb/frac.zero", laid_graphdb_frac_zero)] }
def BackupChainsSaid : Prop := backupChainsRow.holds Tryz.pinned (OpenSpec.ofChange backupChainsSpec)

/-- ITS FALSE NEIGHBOUR: 'it returns false'. Refute it at one input. -/
def backupChainsWrong : ChangeSpec := { name := "backupChains", fn := fun _ => fun
  | [d1, d2, d3] => { results := [.lit (.bool false)], args := [d1, d2, d3] }
  | _ => none }
def BackupChainsWrongFalsely : Prop := backupChainsRow.holds Tryz.pinned (OpenSpec.ofChange backupChainsWrong)

/- THE SECOND FORM. 'bulk': how many values and letters a reading holds, each counted each time it is reached (what is shared counts as often as it is met; a slice's spare places count too). A statement '..UptoSaid' is the law's where the arguments, and the package variables that the reading takes, are together of bulk at most 1048576: NARROWER than '..Said'. Prove '..Said' where nothing that the law and all that it calls make is longer than what came in: it says more and counts as full. Else prove '..UptoSaid'. A law counts once. -/
mutual
def uptoBulk {H : Type} : DataW H → Nat
  | .lit (.string bytes) => bytes.length + 1
  | .lit _ => 1
  | .nil => 1
  | .ptr d => uptoBulk d + 1
  | .slice elems spare => uptoBulkAll elems + uptoBulkAll spare + 1
  | .agg parts => uptoBulkAll parts + 1
  | .iface _ d => uptoBulk d + 1
  | .map entries => uptoBulkEntries entries + 1
  | .held _ => 1
def uptoBulkAll {H : Type} : List (DataW H) → Nat
  | [] => 0
  | d :: r => uptoBulk d + uptoBulkAll r
def uptoBulkEntries {H : Type} : List (Lit × DataW H) → Nat
  | [] => 0
  | x :: r => uptoBulkEntry x + uptoBulkEntries r
def uptoBulkEntry {H : Type} : Lit × DataW H → Nat
  | (.string bytes, d) => bytes.length + uptoBulk d + 1
  | (_, d) => uptoBulk d + 1
 end
def uptoSmall : (H : Type) → List (DataW H) → Bool := fun _ ds => decide (uptoBulkAll ds ≤ 1048576)
def OpenSpec.upto (s : _root_.Go.ChangeSpec) : _root_.Go.OpenSpec := { _root_.Go.OpenSpec.ofChange s with cond := some uptoSmall }

/-- 'graphdblaw53.BackupOnto', WHERE WHAT IT READS IS OF BULK AT MOST 1048576: true; the input reads as it did. -/
def backupOntoUptoRow : OpenClaim := { program := "ytlkcofbjniphbaagreatdoor", sum := "500e48da33bbd904c8b898710951c3edd81edc871d5d0b8e685a5e6c6a034166", func := "graphdb/graphdblaw53.BackupOnto", spec := "backupOnto", inPlace := ["math/bits.Add64", "math/bits.Sub64", "slices.overlaps[graphdb/api.Node]", "slices.overlaps[string]", "slices.overlaps[graphdb/api.Prop]", "slices.overlaps[graphdb/api.Edge]"], unfollowed := true, recurses := true, named := ["graphdb/frac.zero"], loops := true, apart := false, laid := [("graphdb/frac.zero", laid_graphdb_frac_zero)], narrowed := true }
def BackupOntoUptoSaid : Prop := backupOntoUptoRow.holds Tryz.pinned (OpenSpec.upto backupOntoSpec)

/-- 'graphdblaw53.BackupSince', WHERE WHAT IT READS IS OF BULK AT MOST 1048576: true; the input reads as it did. -/
def backupSinceUptoRow : OpenClaim := { program := "ytlkcofbjniphbaagreatdoor", sum := "500e48da33bbd904c8b898710951c3edd81edc871d5d0b8e685a5e6c6a034166", func := "graphdb/graphdblaw53.BackupSince", spec := "backupSince", inPlace := ["math/bits.Add64", "math/bits.Sub64", "slices.overlaps[graphdb/api.Node]", "slices.overlaps[string]", "slices.overlaps[graphdb/api.Prop]", "slices.overlaps[graphdb/api.Edge]"], unfollowed := true, recurses := true, named := ["graphdb/frac.zero"], loops := true, apart := false, laid := [("graphdb/frac.zero", laid_graphdb_frac_zero)], narrowed := true }
def BackupSinceUptoSaid : Prop := backupSinceUptoRow.holds Tryz.pinned (OpenSpec.upto backupSinceSpec)

/-- 'graphdblaw53.BackupChains', WHERE WHAT IT READS IS OF BULK AT MOST 1048576: true; the input reads as it did. -/
def backupChainsUptoRow : OpenClaim := { program := "ytlkcofbjniphbaagreatdoor", sum := "500e48da33bbd904c8b898710951c3edd81edc871d5d0b8e685a5e6c6a034166", func := "graphdb/graphdblaw53.BackupChains", spec := "backupChains", inPlace := ["math/bits.Add64", "math/bits.Sub64", "slices.overlaps[graphdb/api.Node]", "slices.overlaps[string]", "slices.overlaps[graphdb/api.Prop]", "slices.overlaps[graphdb/api.Edge]"], unfollowed := true, recurses := true, named := ["graphdb/frac.zero"], loops := true, apart := false, laid := [("graphdb/frac.zero", laid_graphdb_frac_zero)], narrowed := true }
def BackupChainsUptoSaid : Prop := backupChainsUptoRow.holds Tryz.pinned (OpenSpec.upto backupChainsSpec)

end Rows
end Go.Proofs.YtlkcofbjniphbaaGreatDoor

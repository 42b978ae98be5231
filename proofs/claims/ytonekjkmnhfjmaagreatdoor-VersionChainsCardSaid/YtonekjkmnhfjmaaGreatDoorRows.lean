/-
  NARROWER THAN 'FOR EVERY INPUT', by the rows' own cells (each row's printed sentence says how): VersionChecks: loops, laid · VersionPrunes: loops, laid · VersionCommits: loops, laid · VersionMoves: loops, laid · VersionChains: loops, laid · VerifyAfter: loops, laid · BackupOnto: loops, laid · BackupSince: loops, laid · BackupChains: loops, laid.
  DERIVED. THE GIVEN ROWS OF THIS SEAT. 9 by the template 'for every input the law returns true; each argument reads behind the call as it read before'; 0 by the template 'total and deterministic' (their statements: YtonekjkmnhfjmaaGreatDoorTotals.lean).
  GIVEN WITH THE SEED: the statements are not yours to turn. If you find one false, say at which input.
  Laid BY PROGRAM, IN A SANDBOX (cutbox-rows.mjs): the forced cells as the released guide's own fill.sh prints them over the translation 5777906b4c782fbd… (all of the seat's roots in one cut). By AI agents, Wed Nov 11 2026. No macro, syntax, notation, axiom, sorry.
-/
import Derived.Test.YtonekjkmnhfjmaaGreatDoorChecked
import GoSem.Claim
import GoSem.ClaimJoined
import GoSem.ClaimMapViews
import Derived.JoinedTies
import Derived.KernelRfl
namespace Go.Proofs.YtonekjkmnhfjmaaGreatDoor
/- THE CELL 'sum', in the pinned program and in every row, IS THE sha256 OF THE DUMP (.gsa) THAT YtonekjkmnhfjmaaGreatDoorProg.lean LOADS. Nothing in Lean hashes anything: it is a label: what it is worth is what the hold of that sum in a sandbox is worth. -/
noncomputable def Tryz.pinned : Pinned := { name := "ytonekjkmnhfjmaagreatdoor", sum := "5777906b4c782fbdaf17ce83f849f1f2756dffe4b967433c98eddc354b91608b", checked := Tryz.checked }
namespace Rows
def none {H : Type} : Left H := { results := [], args := [] }

/- WHAT THE LISTED PACKAGE-LEVEL VARIABLES READ AS WHEN THE CALL BEGINS. Each datum BY PROGRAM (the guide's laid-datum.mjs) off the statement by which the dump's own 'gosem.cut.vars' lays the variable. In a bare row this is a premise. The card (YtonekjkmnhfjmaaGreatDoorCards.lean) ties it to the program's text. -/
def laid_graphdb_frac_zero {H : Type} : DataW H := .agg [.lit (.int .i64 0), .lit (.int .i64 1)]

/-- 'graphdblaw44.VersionChecks': WHATEVER THE INPUT: true; the input reads as it did. -/
def versionChecksSpec : ChangeSpec := { name := "versionChecks", fn := fun _ => fun
  | [d1, d2] => { results := [.lit (.bool true)], args := [d1, d2] }
  | _ => none }
def versionChecksRow : OpenClaim := { program := "ytonekjkmnhfjmaagreatdoor", sum := "5777906b4c782fbdaf17ce83f849f1f2756dffe4b967433c98eddc354b91608b", func := "graphdb/graphdblaw44.VersionChecks", spec := "versionChecks", inPlace := ["math/bits.Add64", "math/bits.Sub64", "slices.overlaps[graphdb/api.Node]", "slices.overlaps[string]", "slices.overlaps[graphdb/api.Prop]", "slices.overlaps[graphdb/api.Edge]"], unfollowed := true, recurses := true, named := ["graphdb/frac.zero"], loops := true, apart := false, laid := [("graphdb/frac.zero", laid_graphdb_frac_zero)] }
def VersionChecksSaid : Prop := versionChecksRow.holds Tryz.pinned (OpenSpec.ofChange versionChecksSpec)

/-- ITS FALSE NEIGHBOUR: 'it returns false'. Refute it at one input. -/
def versionChecksWrong : ChangeSpec := { name := "versionChecks", fn := fun _ => fun
  | [d1, d2] => { results := [.lit (.bool false)], args := [d1, d2] }
  | _ => none }
def VersionChecksWrongFalsely : Prop := versionChecksRow.holds Tryz.pinned (OpenSpec.ofChange versionChecksWrong)

/-- 'graphdblaw44.VersionPrunes': WHATEVER THE INPUT: true; the input reads as it did. -/
def versionPrunesSpec : ChangeSpec := { name := "versionPrunes", fn := fun _ => fun
  | [d1, d2, d3] => { results := [.lit (.bool true)], args := [d1, d2, d3] }
  | _ => none }
def versionPrunesRow : OpenClaim := { program := "ytonekjkmnhfjmaagreatdoor", sum := "5777906b4c782fbdaf17ce83f849f1f2756dffe4b967433c98eddc354b91608b", func := "graphdb/graphdblaw44.VersionPrunes", spec := "versionPrunes", inPlace := ["math/bits.Add64", "math/bits.Sub64", "slices.overlaps[graphdb/api.Node]", "slices.overlaps[string]", "slices.overlaps[graphdb/api.Prop]", "slices.overlaps[graphdb/api.Edge]"], unfollowed := true, recurses := true, named := ["graphdb/frac.zero"], loops := true, apart := false, laid := [("graphdb/frac.zero", laid_graphdb_frac_zero)] }
def VersionPrunesSaid : Prop := versionPrunesRow.holds Tryz.pinned (OpenSpec.ofChange versionPrunesSpec)

/-- ITS FALSE NEIGHBOUR: 'it returns false'. Refute it at one input. -/
def versionPrunesWrong : ChangeSpec := { name := "versionPrunes", fn := fun _ => fun
  | [d1, d2, d3] => { results := [.lit (.bool false)], args := [d1, d2, d3] }
  | _ => none }
def VersionPrunesWrongFalsely : Prop := versionPrunesRow.holds Tryz.pinned (OpenSpec.ofChange versionPrunesWrong)

/-- 'graphdblaw44.VersionCommits': WHATEVER THE INPUT: true; the input reads as it did. -/
def versionCommitsSpec : ChangeSpec := { name := "versionCommits", fn := fun _ => fun
  | [d1, d2, d3] => { results := [.lit (.bool true)], args := [d1, d2, d3] }
  | _ => none }
def versionCommitsRow : OpenClaim := { program := "ytonekjkmnhfjmaagreatdoor", sum := "5777906b4c782fbdaf17ce83f849f1f2756dffe4b967433c98eddc354b91608b", func := "graphdb/graphdblaw44.VersionCommits", spec := "versionCommits", inPlace := ["math/bits.Add64", "math/bits.Sub64", "slices.overlaps[graphdb/api.Node]", "slices.overlaps[string]", "slices.overlaps[graphdb/api.Prop]", "slices.overlaps[graphdb/api.Edge]"], unfollowed := true, recurses := true, named := ["graphdb/frac.zero"], loops := true, apart := false, laid := [("graphdb/frac.zero", laid_graphdb_frac_zero)] }
def VersionCommitsSaid : Prop := versionCommitsRow.holds Tryz.pinned (OpenSpec.ofChange versionCommitsSpec)

/-- ITS FALSE NEIGHBOUR: 'it returns false'. Refute it at one input. -/
def versionCommitsWrong : ChangeSpec := { name := "versionCommits", fn := fun _ => fun
  | [d1, d2, d3] => { results := [.lit (.bool false)], args := [d1, d2, d3] }
  | _ => none }
def VersionCommitsWrongFalsely : Prop := versionCommitsRow.holds Tryz.pinned (OpenSpec.ofChange versionCommitsWrong)

/-- 'graphdblaw44.VersionMoves': WHATEVER THE INPUT: true; the input reads as it did. -/
def versionMovesSpec : ChangeSpec := { name := "versionMoves", fn := fun _ => fun
  | [d1, d2, d3] => { results := [.lit (.bool true)], args := [d1, d2, d3] }
  | _ => none }
def versionMovesRow : OpenClaim := { program := "ytonekjkmnhfjmaagreatdoor", sum := "5777906b4c782fbdaf17ce83f849f1f2756dffe4b967433c98eddc354b91608b", func := "graphdb/graphdblaw44.VersionMoves", spec := "versionMoves", inPlace := ["math/bits.Add64", "math/bits.Sub64", "slices.overlaps[graphdb/api.Node]", "slices.overlaps[string]", "slices.overlaps[graphdb/api.Prop]", "slices.overlaps[graphdb/api.Edge]"], unfollowed := true, recurses := true, named := ["graphdb/frac.zero"], loops := true, apart := false, laid := [("graphdb/frac.zero", laid_graphdb_frac_zero)] }
def VersionMovesSaid : Prop := versionMovesRow.holds Tryz.pinned (OpenSpec.ofChange versionMovesSpec)

/-- ITS FALSE NEIGHBOUR: 'it returns false'. Refute it at one input. -/
def versionMovesWrong : ChangeSpec := { name := "versionMoves", fn := fun _ => fun
  | [d1, d2, d3] => { results := [.lit (.bool false)], args := [d1, d2, d3] }
  | _ => none }
def VersionMovesWrongFalsely : Prop := versionMovesRow.holds Tryz.pinned (OpenSpec.ofChange versionMovesWrong)

/-- 'graphdblaw44.VersionChains': WHATEVER THE INPUT: true; the input reads as it did. -/
def versionChainsSpec : ChangeSpec := { name := "versionChains", fn := fun _ => fun
  | [d1, d2] => { results := [.lit (.bool true)], args := [d1, d2] }
  | _ => none }
def versionChainsRow : OpenClaim := { program := "ytonekjkmnhfjmaagreatdoor", sum := "5777906b4c782fbdaf17ce83f849f1f2756dffe4b967433c98eddc354b91608b", func := "graphdb/graphdblaw44.VersionChains", spec := "versionChains", inPlace := ["math/bits.Add64", "math/bits.Sub64", "slices.overlaps[graphdb/api.Node]", "slices.overlaps[string]", "slices.overlaps[graphdb/api.Prop]", "slices.overlaps[graphdb/api.Edge]"], unfollowed := true, recurses := true, named := ["graphdb/frac.zero"], loops := true, apart := false, laid := [("graphdb/frac.zero", laid_graphdb_frac_zero)] }
def VersionChainsSaid : Prop := versionChainsRow.holds Tryz.pinned (OpenSpec.ofChange versionChainsSpec)

/-- ITS FALSE NEIGHBOUR: 'it returns false'. Refute it at one input. -/
def versionChainsWrong : ChangeSpec := { name := "versionChains", fn := fun _ => fun
  | [d1, d2] => { results := [.lit (.bool false)], args := [d1, d2] }
  | _ => none }
def VersionChainsWrongFalsely : Prop := versionChainsRow.holds Tryz.pinned (OpenSpec.ofChange versionChainsWrong)

/-- 'graphdblaw10.VerifyAfter': WHATEVER THE INPUT: true; the input reads as it did. -/
def verifyAfterSpec : ChangeSpec := { name := "verifyAfter", fn := fun _ => fun
  | [d1, d2, d3] => { results := [.lit (.bool true)], args := [d1, d2, d3] }
  | _ => none }
def verifyAfterRow : OpenClaim := { program := "ytonekjkmnhfjmaagreatdoor", sum := "5777906b4c782fbdaf17ce83f849f1f2756dffe4b967433c98eddc354b91608b", func := "graphdb/graphdblaw10.VerifyAfter", spec := "verifyAfter", inPlace := ["math/bits.Add64", "math/bits.Sub64", "slices.overlaps[graphdb/api.Node]", "slices.overlaps[string]", "slices.overlaps[graphdb/api.Prop]", "slices.overlaps[graphdb/api.Edge]"], unfollowed := true, recurses := true, named := ["graphdb/frac.zero"], loops := true, apart := false, laid := [("graphdb/frac.zero", laid_graphdb_frac_zero)] }
def VerifyAfterSaid : Prop := verifyAfterRow.holds Tryz.pinned (OpenSpec.ofChange verifyAfterSpec)

/-- ITS FALSE NEIGHBOUR: 'it returns false'. Refute it at one input. -/
def verifyAfterWrong : ChangeSpec := { name := "verifyAfter", fn := fun _ => fun
  | [d1, d2, d3] => { results := [.lit (.bool false)], args := [d1, d2, d3] }
  | _ => none }
def VerifyAfterWrongFalsely : Prop := verifyAfterRow.holds Tryz.pinned (OpenSpec.ofChange verifyAfterWrong)

/-- 'graphdblaw53.BackupOnto': WHATEVER THE INPUT: true; the input reads as it did. -/
def backupOntoSpec : ChangeSpec := { name := "backupOnto", fn := fun _ => fun
  | [d1, d2, d3] => { results := [.lit (.bool true)], args := [d1, d2, d3] }
  | _ => none }
def backupOntoRow : OpenClaim := { program := "ytonekjkmnhfjmaagreatdoor", sum := "5777906b4c782fbdaf17ce83f849f1f2756dffe4b967433c98eddc354b91608b", func := "graphdb/graphdblaw53.BackupOnto", spec := "backupOnto", inPlace := ["math/bits.Add64", "math/bits.Sub64", "slices.overlaps[graphdb/api.Node]", "slices.overlaps[string]", "slices.overlaps[graphdb/api.Prop]", "slices.overlaps[graphdb/api.Edge]"], unfollowed := true, recurses := true, named := ["graphdb/frac.zero"], loops := true, apart := false, laid := [("graphdb/frac.zero", laid_graphdb_frac_zero)] }
def BackupOntoSaid : Prop := backupOntoRow.holds Tryz.pinned (OpenSpec.ofChange backupOntoSpec)

/-- ITS FALSE NEIGHBOUR: 'it returns false'. Refute it at one input. -/
def backupOntoWrong : ChangeSpec := { name := "backupOnto", fn := fun _ => fun
  | [d1, d2, d3] => { results := [.lit (.bool false)], args := [d1, d2, d3] }
  | _ => none }
def BackupOntoWrongFalsely : Prop := backupOntoRow.holds Tryz.pinned (OpenSpec.ofChange backupOntoWrong)

/-- 'graphdblaw53.BackupSince': WHATEVER THE INPUT: true; the input reads as it did. -/
def backupSinceSpec : ChangeSpec := { name := "backupSince", fn := fun _ => fun
  | [d1, d2] => { results := [.lit (.bool true)], args := [d1, d2] }
  | _ => none }
def backupSinceRow : OpenClaim := { program := "ytonekjkmnhfjmaagreatdoor", sum := "5777906b4c782fbdaf17ce83f849f1f2756dffe4b967433c98eddc354b91608b", func := "graphdb/graphdblaw53.BackupSince", spec := "backupSince", inPlace := ["math/bits.Add64", "math/bits.Sub64", "slices.overlaps[graphdb/api.Node]", "slices.overlaps[string]", "slices.overlaps[graphdb/api.Prop]", "slices.overlaps[graphdb/api.Edge]"], unfollowed := true, recurses := true, named := ["graphdb/frac.zero"], loops := true, apart := false, laid := [("graphdb/frac.zero", laid_graphdb_frac_zero)] }
def BackupSinceSaid : Prop := backupSinceRow.holds Tryz.pinned (OpenSpec.ofChange backupSinceSpec)

/-- ITS FALSE NEIGHBOUR: 'it returns false'. Refute it at one input. -/
def backupSinceWrong : ChangeSpec := { name := "backupSince", fn := fun _ => fun
  | [d1, d2] => { results := [.lit (.bool false)], args := [d1, d2] }
  | _ => none }
def BackupSinceWrongFalsely : Prop := backupSinceRow.holds Tryz.pinned (OpenSpec.ofChange backupSinceWrong)

/-- 'graphdblaw53.BackupChains': WHATEVER THE INPUT: true; the input reads as it did. -/
def backupChainsSpec : ChangeSpec := { name := "backupChains", fn := fun _ => fun
  | [d1, d2, d3] => { results := [.lit (.bool true)], args := [d1, d2, d3] }
  | _ => none }
def backupChainsRow : OpenClaim := { program := "ytonekjkmnhfjmaagreatdoor", sum := "5777906b4c782fbdaf17ce83f849f1f2756dffe4b967433c98eddc354b91608b", func := "graphdb/graphdblaw53.BackupChains", spec := "backupChains", inPlace := ["math/bits.Add64", "math/bits.Sub64", "slices.overlaps[graphdb/api.Node]", "slices.overlaps[string]", "slices.overlaps[graphdb/api.Prop]", "slices.overlaps[graphdb/api.Edge]"], unfollowed := true, recurses := true, named := ["graphdb/frac.zero"], loops := true, apart := false, laid := [("graphdb/frac.zero", laid_graphdb_frac_zero)] }
def BackupChainsSaid : Prop := backupChainsRow.holds Tryz.pinned (OpenSpec.ofChange backupChainsSpec)

/-- ITS FALSE NEIGHBOUR: 'it returns false'. Refute it at one input. -/
def backupChainsWrong : ChangeSpec := { name := "backupChains", fn := fun _ => fun
  | [d1, d2, d3] => { results := [.lit (.bool false)], args := [d1, d2, d3] }
  | _ => none }
def BackupChainsWrongFalsely : Prop := backupChainsRow.holds Tryz.pinned (OpenSpec.ofChange backupChainsWrong)

/- THE SECOND FORM. 'bulk': how many values and letters a reading holds, each counted each time it is reached (what is shared counts as often as it is met; a slice's spare places count too). A statement '..UptoSaid' is the law's where the arguments, and the package variables that the reading takes, are together of bulk at most 1048576: NARROWER than '..Said'. Prove '..Said' where nothing that the law and all that it calls make is longer than what came in: it says more and counts as full. Else prove '..UptoSaid'. A law counts once. -/
mutual
def uptoBulk {H : Type} : DataW H → Nat
  | .lit (.string bytes) => bytes.length + 1
  | .lit _ => 1
  | .nil => 1
  | .ptr d => uptoBulk d + 1
  | .slice elems spare => uptoBulkAll elems + uptoBulkAll spare + 1
  | .agg parts => uptoBulkAll parts + 1
  | .iface _ d => uptoBulk d + 1
  | .map entries => uptoBulkEntries entries + 1
  | .held _ => 1
def uptoBulkAll {H : Type} : List (DataW H) → Nat
  | [] => 0
  | d :: r => uptoBulk d + uptoBulkAll r
def uptoBulkEntries {H : Type} : List (Lit × DataW H) → Nat
  | [] => 0
  | x :: r => uptoBulkEntry x + uptoBulkEntries r
def uptoBulkEntry {H : Type} : Lit × DataW H → Nat
  | (.string bytes, d) => bytes.length + uptoBulk d + 1
  | (_, d) => uptoBulk d + 1
 end
def uptoSmall : (H : Type) → List (DataW H) → Bool := fun _ ds => decide (uptoBulkAll ds ≤ 1048576)
def OpenSpec.upto (s : _root_.Go.ChangeSpec) : _root_.Go.OpenSpec := { _root_.Go.OpenSpec.ofChange s with cond := some uptoSmall }

/-- 'graphdblaw44.VersionChecks', WHERE WHAT IT READS IS OF BULK AT MOST 1048576: true; the input reads as it did. -/
def versionChecksUptoRow : OpenClaim := { program := "ytonekjkmnhfjmaagreatdoor", sum := "5777906b4c782fbdaf17ce83f849f1f2756dffe4b967433c98eddc354b91608b", func := "graphdb/graphdblaw44.VersionChecks", spec := "versionChecks", inPlace := ["math/bits.Add64", "math/bits.Sub64", "slices.overlaps[graphdb/api.Node]", "slices.overlaps[string]", "slices.overlaps[graphdb/api.Prop]", "slices.overlaps[graphdb/api.Edge]"], unfollowed := true, recurses := true, named := ["graphdb/frac.zero"], loops := true, apart := false, laid := [("graphdb/frac.zero", laid_graphdb_frac_zero)], narrowed := true }
def VersionChecksUptoSaid : Prop := versionChecksUptoRow.holds Tryz.pinned (OpenSpec.upto versionChecksSpec)

/-- 'graphdblaw44.VersionPrunes', WHERE WHAT IT READS IS OF BULK AT MOST 1048576: true; the input reads as it did. -/
def versionPrunesUptoRow : OpenClaim := { program := "ytonekjkmnhfjmaagreatdoor", sum := "5777906b4c782fbdaf17ce83f849f1f2756dffe4b967433c98eddc354b91608b", func := "graphdb/graphdblaw44.VersionPrunes", spec := "versionPrunes", inPlace := ["math/bits.Add64", "math/bits.Sub64", "slices.overlaps[graphdb/api.Node]", "slices.overlaps[string]", "slices.overlaps[graphdb/api.Prop]", "slices.overlaps[graphdb/api.Edge]"], unfollowed := true, recurses := true, named := ["graphdb/frac.zero"], loops := true, apart := false, laid := [("graphdb/frac.zero", laid_graphdb_frac_zero)], narrowed := true }
def VersionPrunesUptoSaid : Prop := versionPrunesUptoRow.holds Tryz.pinned (OpenSpec.upto versionPrunesSpec)

/-- 'graphdblaw44.VersionCommits', WHERE WHAT IT READS IS OF BULK AT MOST 1048576: true; the input reads as it did. -/
def versionCommitsUptoRow : OpenClaim := { program := "ytonekjkmnhfjmaagreatdoor", sum := "5777906b4c782fbdaf17ce83f849f1f2756dffe4b967433c98eddc354b91608b", func := "graphdb/graphdblaw44.VersionCommits", spec := "versionCommits", inPlace := ["math/bits.Add64", "math/bits.Sub64", "slices.overlaps[graphdb/api.Node]", "slices.overlaps[string]", "slices.overlaps[graphdb/api.Prop]", "slices.overlaps[graphdb/api.Edge]"], unfollowed := true, recurses := true, named := ["graphdb/frac.zero"], loops := true, apart := false, laid := [("graphdb/frac.zero", laid_graphdb_frac_zero)], narrowed := true }
def VersionCommitsUptoSaid : Prop := versionCommitsUptoRow.holds Tryz.pinned (OpenSpec.upto versionCommitsSpec)

/-- 'graphdblaw44.VersionMoves', WHERE WHAT IT READS IS OF BULK AT MOST 1048576: true; the input reads as it did. -/
def versionMovesUptoRow : OpenClaim := { program := "ytonekjkmnhfjmaagreatdoor", sum := "5777906b4c782fbdaf17ce83f849f1f2756dffe4b967433c98eddc354b91608b", func := "graphdb/graphdblaw44.VersionMoves", spec := "versionMoves", inPlace := ["math/bits.Add64", "math/bits.Sub64", "slices.overlaps[graphdb/api.Node]", "slices.overlaps[string]", "slices.overlaps[graphdb/api.Prop]", "slices.overlaps[graphdb/api.Edge]"], unfollowed := true, recurses := true, named := ["graphdb/frac.zero"], loops := true, apart := false, laid := [("graphdb/frac.zero", laid_graphdb_frac_zero)], narrowed := true }
def VersionMovesUptoSaid : Prop := versionMovesUptoRow.holds Tryz.pinned (OpenSpec.upto versionMovesSpec)

/-- 'graphdblaw44.VersionChains', WHERE WHAT IT READS IS OF BULK AT MOST 1048576: true; the input reads as it did. -/
def versionChainsUptoRow : OpenClaim := { program := "ytonekjkmnhfjmaagreatdoor", sum := "5777906b4c782fbdaf17ce83f849f1f2756dffe4b967433c98eddc354b91608b", func := "graphdb/graphdblaw44.VersionChains", spec := "versionChains", inPlace := ["math/bits.Add64", "math/bits.Sub64", "slices.overlaps[graphdb/api.Node]", "slices.overlaps[string]", "slices.overlaps[graphdb/api.Prop]", "slices.overlaps[graphdb/api.Edge]"], unfollowed := true, recurses := true, named := ["graphdb/frac.zero"], loops := true, apart := false, laid := [("graphdb/frac.zero", laid_graphdb_frac_zero)], narrowed := true }
def VersionChainsUptoSaid : Prop := versionChainsUptoRow.holds Tryz.pinned (OpenSpec.upto versionChainsSpec)

/-- 'graphdblaw10.VerifyAfter', WHERE WHAT IT READS IS OF BULK AT MOST 1048576: true; the input reads as it did. -/
def verifyAfterUptoRow : OpenClaim := { program := "ytonekjkmnhfjmaagreatdoor", sum := "5777906b4c782fbdaf17ce83f849f1f2756dffe4b967433c98eddc354b91608b", func := "graphdb/graphdblaw10.VerifyAfter", spec := "verifyAfter", inPlace := ["math/bits.Add64", "math/bits.Sub64", "slices.overlaps[graphdb/api.Node]", "slices.overlaps[string]", "slices.overlaps[graphdb/api.Prop]", "slices.overlaps[graphdb/api.Edge]"], unfollowed := true, recurses := true, named := ["graphdb/frac.zero"], loops := true, apart := false, laid := [("graphdb/frac.zero", laid_graphdb_frac_zero)], narrowed := true }
def VerifyAfterUptoSaid : Prop := verifyAfterUptoRow.holds Tryz.pinned (OpenSpec.upto verifyAfterSpec)

/-- 'graphdblaw53.BackupOnto', WHERE WHAT IT READS IS OF BULK AT MOST 1048576: true; the input reads as it did. -/
def backupOntoUptoRow : OpenClaim := { program := "ytonekjkmnhfjmaagreatdoor", sum := "5777906b4c782fbdaf17ce83f849f1f2756dffe4b967433c98eddc354b91608b", func := "graphdb/graphdblaw53.BackupOnto", spec := "backupOnto", inPlace := ["math/bits.Add64", "math/bits.Sub64", "slices.overlaps[graphdb/api.Node]", "slices.overlaps[string]", "slices.overlaps[graphdb/api.Prop]", "slices.overlaps[graphdb/api.Edge]"], unfollowed := true, recurses := true, named := ["graphdb/frac.zero"], loops := true, apart := false, laid := [("graphdb/frac.zero", laid_graphdb_frac_zero)], narrowed := true }
def BackupOntoUptoSaid : Prop := backupOntoUptoRow.holds Tryz.pinned (OpenSpec.upto backupOntoSpec)

/-- 'graphdblaw53.BackupSince', WHERE WHAT IT READS IS OF BULK AT MOST 1048576: true; the input reads as it did. -/
def backupSinceUptoRow : OpenClaim := { program := "ytonekjkmnhfjmaagreatdoor", sum := "5777906b4c782fbdaf17ce83f849f1f2756dffe4b967433c98eddc354b91608b", func := "graphdb/graphdblaw53.BackupSince", spec := "backupSince", inPlace := ["math/bits.Add64", "math/bits.Sub64", "slices.overlaps[graphdb/api.Node]", "slices.overlaps[string]", "slices.overlaps[graphdb/api.Prop]", "slices.overlaps[graphdb/api.Edge]"], unfollowed := true, recurses := true, named := ["graphdb/frac.zero"], loops := true, apart := false, laid := [("graphdb/frac.zero", laid_graphdb_frac_zero)], narrowed := true }
def BackupSinceUptoSaid : Prop := backupSinceUptoRow.holds Tryz.pinned (OpenSpec.upto backupSinceSpec)

/-- 'graphdblaw53.BackupChains', WHERE WHAT IT READS IS OF BULK AT MOST 1048576: true; the input reads as it did. -/
def backupChainsUptoRow : OpenClaim := { program := "ytonekjkmnhfjmaagreatdoor", sum := "5777906b4c782fbdaf17ce83f849f1f2756dffe4b967433c98eddc354b91608b", func := "graphdb/graphdblaw53.BackupChains", spec := "backupChains", inPlace := ["math/bits.Add64", "math/bits.Sub64", "slices.overlaps[graphdb/api.Node]", "slices.overlaps[string]", "slices.overlaps[graphdb/api.Prop]", "slices.overlaps[graphdb/api.Edge]"], unfollowed := true, recurses := true, named := ["graphdb/frac.zero"], loops := true, apart := false, laid := [("graphdb/frac.zero", laid_graphdb_frac_zero)], narrowed := true }
def BackupChainsUptoSaid : Prop := backupChainsUptoRow.holds Tryz.pinned (OpenSpec.upto backupChainsSpec)

end Rows
end Go.Proofs.YtonekjkmnhfjmaaGreatDoor

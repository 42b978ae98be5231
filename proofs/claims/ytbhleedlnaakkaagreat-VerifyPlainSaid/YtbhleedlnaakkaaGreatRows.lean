/-
  NARROWER THAN 'FOR EVERY INPUT', by the rows' own cells (each row's printed sentence says how): BackupDumps: loops · BackupBack: loops · BackupTorn: loops · VerifyOf: loops · VerifyAll: loops · VerifyPlain: loops · VerifyPairs: loops.
  DERIVED. THE GIVEN ROWS OF THIS SEAT. 8 by the template 'for every input the law returns true; each argument reads behind the call as it read before'; 0 by the template 'total and deterministic' (their statements: YtbhleedlnaakkaaGreatTotals.lean).
  GIVEN WITH THE SEED: the statements are not yours to turn. If you find one false, say at which input.
  Laid BY PROGRAM, IN A SANDBOX (cutbox-rows.mjs): the forced cells as the released guide's own fill.sh prints them over the translation 19f67488c64d0622… (all of the seat's roots in one cut). By AI agents, Wed Nov 11 2026. No macro, syntax, notation, axiom, sorry.
-/
import Derived.Test.YtbhleedlnaakkaaGreatChecked
import GoSem.Claim
import GoSem.ClaimJoined
import GoSem.ClaimMapViews
import Derived.JoinedTies
import Derived.KernelRfl
namespace Go.Proofs.YtbhleedlnaakkaaGreat
/- THE CELL 'sum', in the pinned program and in every row, IS THE sha256 OF THE DUMP (.gsa) THAT YtbhleedlnaakkaaGreatProg.lean LOADS. Nothing in Lean hashes anything: it is a label: what it is worth is what the hold of that sum in a sandbox is worth. -/
noncomputable def Tryz.pinned : Pinned := { name := "ytbhleedlnaakkaagreat", sum := "19f67488c64d062233a25a66e2987193043994be6bb755140cf5226adf47baef", checked := Tryz.checked }
namespace Rows
def none {H : Type} : Left H := { results := [], args := [] }

/-- 'graphdblaw53.BackupDumps': WHATEVER THE INPUT: true; the input reads as it did. -/
def backupDumpsSpec : ChangeSpec := { name := "backupDumps", fn := fun _ => fun
  | [d1, d2] => { results := [.lit (.bool true)], args := [d1, d2] }
  | _ => none }
def backupDumpsRow : OpenClaim := { program := "ytbhleedlnaakkaagreat", sum := "19f67488c64d062233a25a66e2987193043994be6bb755140cf5226adf47baef", func := "graphdb/graphdblaw53.BackupDumps", spec := "backupDumps", unfollowed := true, recurses := true, loops := true, apart := false }
def BackupDumpsSaid : Prop := backupDumpsRow.holds Tryz.pinned (OpenSpec.ofChange backupDumpsSpec)

/-- ITS FALSE NEIGHBOUR: 'it returns false'. Refute it at one input. -/
def backupDumpsWrong : ChangeSpec := { name := "backupDumps", fn := fun _ => fun
  | [d1, d2] => { results := [.lit (.bool false)], args := [d1, d2] }
  | _ => none }
def BackupDumpsWrongFalsely : Prop := backupDumpsRow.holds Tryz.pinned (OpenSpec.ofChange backupDumpsWrong)

/-- 'graphdblaw53.BackupRestores': WHATEVER THE INPUT: true; the input reads as it did. -/
def backupRestoresSpec : ChangeSpec := { name := "backupRestores", fn := fun _ => fun
  | [d] => { results := [.lit (.bool true)], args := [d] }
  | _ => none }
def backupRestoresRow : OpenClaim := { program := "ytbhleedlnaakkaagreat", sum := "19f67488c64d062233a25a66e2987193043994be6bb755140cf5226adf47baef", func := "graphdb/graphdblaw53.BackupRestores", spec := "backupRestores", unfollowed := true, recurses := true, apart := false }
def BackupRestoresSaid : Prop := backupRestoresRow.holds Tryz.pinned (OpenSpec.ofChange backupRestoresSpec)

/-- ITS FALSE NEIGHBOUR: 'it returns false'. Refute it at one input. -/
def backupRestoresWrong : ChangeSpec := { name := "backupRestores", fn := fun _ => fun
  | [d] => { results := [.lit (.bool false)], args := [d] }
  | _ => none }
def BackupRestoresWrongFalsely : Prop := backupRestoresRow.holds Tryz.pinned (OpenSpec.ofChange backupRestoresWrong)

/-- 'graphdblaw53.BackupBack': WHATEVER THE INPUT: true; the input reads as it did. -/
def backupBackSpec : ChangeSpec := { name := "backupBack", fn := fun _ => fun
  | [d1, d2, d3] => { results := [.lit (.bool true)], args := [d1, d2, d3] }
  | _ => none }
def backupBackRow : OpenClaim := { program := "ytbhleedlnaakkaagreat", sum := "19f67488c64d062233a25a66e2987193043994be6bb755140cf5226adf47baef", func := "graphdb/graphdblaw53.BackupBack", spec := "backupBack", unfollowed := true, recurses := true, loops := true, apart := false }
def BackupBackSaid : Prop := backupBackRow.holds Tryz.pinned (OpenSpec.ofChange backupBackSpec)

/-- ITS FALSE NEIGHBOUR: 'it returns false'. Refute it at one input. -/
def backupBackWrong : ChangeSpec := { name := "backupBack", fn := fun _ => fun
  | [d1, d2, d3] => { results := [.lit (.bool false)], args := [d1, d2, d3] }
  | _ => none }
def BackupBackWrongFalsely : Prop := backupBackRow.holds Tryz.pinned (OpenSpec.ofChange backupBackWrong)

/-- 'graphdblaw53.BackupTorn': WHATEVER THE INPUT: true; the input reads as it did. -/
def backupTornSpec : ChangeSpec := { name := "backupTorn", fn := fun _ => fun
  | [d1, d2, d3] => { results := [.lit (.bool true)], args := [d1, d2, d3] }
  | _ => none }
def backupTornRow : OpenClaim := { program := "ytbhleedlnaakkaagreat", sum := "19f67488c64d062233a25a66e2987193043994be6bb755140cf5226adf47baef", func := "graphdb/graphdblaw53.BackupTorn", spec := "backupTorn", unfollowed := true, recurses := true, loops := true, apart := false }
def BackupTornSaid : Prop := backupTornRow.holds Tryz.pinned (OpenSpec.ofChange backupTornSpec)

/-- ITS FALSE NEIGHBOUR: 'it returns false'. Refute it at one input. -/
def backupTornWrong : ChangeSpec := { name := "backupTorn", fn := fun _ => fun
  | [d1, d2, d3] => { results := [.lit (.bool false)], args := [d1, d2, d3] }
  | _ => none }
def BackupTornWrongFalsely : Prop := backupTornRow.holds Tryz.pinned (OpenSpec.ofChange backupTornWrong)

/-- 'graphdblaw10.VerifyOf': WHATEVER THE INPUT: true; the input reads as it did. -/
def verifyOfSpec : ChangeSpec := { name := "verifyOf", fn := fun _ => fun
  | [d1, d2] => { results := [.lit (.bool true)], args := [d1, d2] }
  | _ => none }
def verifyOfRow : OpenClaim := { program := "ytbhleedlnaakkaagreat", sum := "19f67488c64d062233a25a66e2987193043994be6bb755140cf5226adf47baef", func := "graphdb/graphdblaw10.VerifyOf", spec := "verifyOf", unfollowed := true, recurses := true, loops := true, apart := false }
def VerifyOfSaid : Prop := verifyOfRow.holds Tryz.pinned (OpenSpec.ofChange verifyOfSpec)

/-- ITS FALSE NEIGHBOUR: 'it returns false'. Refute it at one input. -/
def verifyOfWrong : ChangeSpec := { name := "verifyOf", fn := fun _ => fun
  | [d1, d2] => { results := [.lit (.bool false)], args := [d1, d2] }
  | _ => none }
def VerifyOfWrongFalsely : Prop := verifyOfRow.holds Tryz.pinned (OpenSpec.ofChange verifyOfWrong)

/-- 'graphdblaw10.VerifyAll': WHATEVER THE INPUT: true; the input reads as it did. -/
def verifyAllSpec : ChangeSpec := { name := "verifyAll", fn := fun _ => fun
  | [d1, d2] => { results := [.lit (.bool true)], args := [d1, d2] }
  | _ => none }
def verifyAllRow : OpenClaim := { program := "ytbhleedlnaakkaagreat", sum := "19f67488c64d062233a25a66e2987193043994be6bb755140cf5226adf47baef", func := "graphdb/graphdblaw10.VerifyAll", spec := "verifyAll", unfollowed := true, recurses := true, loops := true, apart := false }
def VerifyAllSaid : Prop := verifyAllRow.holds Tryz.pinned (OpenSpec.ofChange verifyAllSpec)

/-- ITS FALSE NEIGHBOUR: 'it returns false'. Refute it at one input. -/
def verifyAllWrong : ChangeSpec := { name := "verifyAll", fn := fun _ => fun
  | [d1, d2] => { results := [.lit (.bool false)], args := [d1, d2] }
  | _ => none }
def VerifyAllWrongFalsely : Prop := verifyAllRow.holds Tryz.pinned (OpenSpec.ofChange verifyAllWrong)

/-- 'graphdblaw10.VerifyPlain': WHATEVER THE INPUT: true; the input reads as it did. -/
def verifyPlainSpec : ChangeSpec := { name := "verifyPlain", fn := fun _ => fun
  | [d1, d2] => { results := [.lit (.bool true)], args := [d1, d2] }
  | _ => none }
def verifyPlainRow : OpenClaim := { program := "ytbhleedlnaakkaagreat", sum := "19f67488c64d062233a25a66e2987193043994be6bb755140cf5226adf47baef", func := "graphdb/graphdblaw10.VerifyPlain", spec := "verifyPlain", unfollowed := true, recurses := true, loops := true, apart := false }
def VerifyPlainSaid : Prop := verifyPlainRow.holds Tryz.pinned (OpenSpec.ofChange verifyPlainSpec)

/-- ITS FALSE NEIGHBOUR: 'it returns false'. Refute it at one input. -/
def verifyPlainWrong : ChangeSpec := { name := "verifyPlain", fn := fun _ => fun
  | [d1, d2] => { results := [.lit (.bool false)], args := [d1, d2] }
  | _ => none }
def VerifyPlainWrongFalsely : Prop := verifyPlainRow.holds Tryz.pinned (OpenSpec.ofChange verifyPlainWrong)

/-- 'graphdblaw10.VerifyPairs': WHATEVER THE INPUT: true; the input reads as it did. -/
def verifyPairsSpec : ChangeSpec := { name := "verifyPairs", fn := fun _ => fun
  | [d1, d2, d3] => { results := [.lit (.bool true)], args := [d1, d2, d3] }
  | _ => none }
def verifyPairsRow : OpenClaim := { program := "ytbhleedlnaakkaagreat", sum := "19f67488c64d062233a25a66e2987193043994be6bb755140cf5226adf47baef", func := "graphdb/graphdblaw10.VerifyPairs", spec := "verifyPairs", unfollowed := true, recurses := true, loops := true, apart := false }
def VerifyPairsSaid : Prop := verifyPairsRow.holds Tryz.pinned (OpenSpec.ofChange verifyPairsSpec)

/-- ITS FALSE NEIGHBOUR: 'it returns false'. Refute it at one input. -/
def verifyPairsWrong : ChangeSpec := { name := "verifyPairs", fn := fun _ => fun
  | [d1, d2, d3] => { results := [.lit (.bool false)], args := [d1, d2, d3] }
  | _ => none }
def VerifyPairsWrongFalsely : Prop := verifyPairsRow.holds Tryz.pinned (OpenSpec.ofChange verifyPairsWrong)

/- THE SECOND FORM. 'bulk': how many values and letters a reading holds, each counted each time it is reached (what is shared counts as often as it is met; a slice's spare places count too). A statement '..UptoSaid' is the law's where the arguments, and the package variables that the reading takes, are together of bulk at most 1048576: NARROWER than '..Said'. Prove '..Said' where nothing that the law and all that it calls make is longer than what came in: it says more and counts as full. Else prove '..UptoSaid'. A law counts once. -/
mutual
def uptoBulk {H : Type} : DataW H → Nat
  | .lit (.string bytes) => bytes.length + 1
  | .lit _ => 1
  | .nil => 1
  | .ptr d => uptoBulk d + 1
  | .slice elems spare => uptoBulkAll elems + uptoBulkAll spare + 1
  | .agg parts => uptoBulkAll parts + 1
  | .iface _ d => uptoBulk d + 1
  | .map entries => uptoBulkEntries entries + 1
  | .held _ => 1
def uptoBulkAll {H : Type} : List (DataW H) → Nat
  | [] => 0
  | d :: r => uptoBulk d + uptoBulkAll r
def uptoBulkEntries {H : Type} : List (Lit × DataW H) → Nat
  | [] => 0
  | x :: r => uptoBulkEntry x + uptoBulkEntries r
def uptoBulkEntry {H : Type} : Lit × DataW H → Nat
  | (.string bytes, d) => bytes.length + uptoBulk d + 1
  | (_, d) => uptoBulk d + 1
 end
def uptoSmall : (H : Type) → List (DataW H) → Bool := fun _ ds => decide (uptoBulkAll ds ≤ 1048576)
def OpenSpec.upto (s : _root_.Go.ChangeSpec) : _root_.Go.OpenSpec := { _root_.Go.OpenSpec.ofChange s with cond := some uptoSmall }

/-- 'graphdblaw53.BackupDumps', WHERE WHAT IT READS IS OF BULK AT MOST 1048576: true; the input reads as it did. -/
def backupDumpsUptoRow : OpenClaim := { program := "ytbhleedlnaakkaagreat", sum := "19f67488c64d062233a25a66e2987193043994be6bb755140cf5226adf47baef", func := "graphdb/graphdblaw53.BackupDumps", spec := "backupDumps", unfollowed := true, recurses := true, loops := true, apart := false, narrowed := true }
def BackupDumpsUptoSaid : Prop := backupDumpsUptoRow.holds Tryz.pinned (OpenSpec.upto backupDumpsSpec)

/-- 'graphdblaw53.BackupRestores', WHERE WHAT IT READS IS OF BULK AT MOST 1048576: true; the input reads as it did. -/
def backupRestoresUptoRow : OpenClaim := { program := "ytbhleedlnaakkaagreat", sum := "19f67488c64d062233a25a66e2987193043994be6bb755140cf5226adf47baef", func := "graphdb/graphdblaw53.BackupRestores", spec := "backupRestores", unfollowed := true, recurses := true, apart := false, narrowed := true }
def BackupRestoresUptoSaid : Prop := backupRestoresUptoRow.holds Tryz.pinned (OpenSpec.upto backupRestoresSpec)

/-- 'graphdblaw53.BackupBack', WHERE WHAT IT READS IS OF BULK AT MOST 1048576: true; the input reads as it did. -/
def backupBackUptoRow : OpenClaim := { program := "ytbhleedlnaakkaagreat", sum := "19f67488c64d062233a25a66e2987193043994be6bb755140cf5226adf47baef", func := "graphdb/graphdblaw53.BackupBack", spec := "backupBack", unfollowed := true, recurses := true, loops := true, apart := false, narrowed := true }
def BackupBackUptoSaid : Prop := backupBackUptoRow.holds Tryz.pinned (OpenSpec.upto backupBackSpec)

/-- 'graphdblaw53.BackupTorn', WHERE WHAT IT READS IS OF BULK AT MOST 1048576: true; the input reads as it did. -/
def backupTornUptoRow : OpenClaim := { program := "ytbhleedlnaakkaagreat", sum := "19f67488c64d062233a25a66e2987193043994be6bb755140cf5226adf47baef", func := "graphdb/graphdblaw53.BackupTorn", spec := "backupTorn", unfollowed := true, recurses := true, loops := true, apart := false, narrowed := true }
def BackupTornUptoSaid : Prop := backupTornUptoRow.holds Tryz.pinned (OpenSpec.upto backupTornSpec)

/-- 'graphdblaw10.VerifyOf', WHERE WHAT IT READS IS OF BULK AT MOST 1048576: true; the input reads as it did. -/
def verifyOfUptoRow : OpenClaim := { program := "ytbhleedlnaakkaagreat", sum := "19f67488c64d062233a25a66e2987193043994be6bb755140cf5226adf47baef", func := "graphdb/graphdblaw10.VerifyOf", spec := "verifyOf", unfollowed := true, recurses := true, loops := true, apart := false, narrowed := true }
def VerifyOfUptoSaid : Prop := verifyOfUptoRow.holds Tryz.pinned (OpenSpec.upto verifyOfSpec)

/-- 'graphdblaw10.VerifyAll', WHERE WHAT IT READS IS OF BULK AT MOST 1048576: true; the input reads as it did. -/
def verifyAllUptoRow : OpenClaim := { program := "ytbhleedlnaakkaagreat", sum := "19f67488c64d062233a25a66e2987193043994be6bb755140cf5226adf47baef", func := "graphdb/graphdblaw10.VerifyAll", spec := "verifyAll", unfollowed := true, recurses := true, loops := true, apart := false, narrowed := true }
def VerifyAllUptoSaid : Prop := verifyAllUptoRow.holds Tryz.pinned (OpenSpec.upto verifyAllSpec)

/-- 'graphdblaw10.VerifyPlain', WHERE WHAT IT READS IS OF BULK AT MOST 1048576: true; the input reads as it did. -/
def verifyPlainUptoRow : OpenClaim := { program := "ytbhleedlnaakkaagreat", sum := "19f67488c64d062233a25a66e2987193043994be6bb755140cf5226adf47baef", func := "graphdb/graphdblaw10.VerifyPlain", spec := "verifyPlain", unfollowed := true, recurses := true, loops := true, apart := false, narrowed := true }
def VerifyPlainUptoSaid : Prop := verifyPlainUptoRow.holds Tryz.pinned (OpenSpec.upto verifyPlainSpec)

/-- 'graphdblaw10.VerifyPairs', WHERE WHAT IT READS IS OF BULK AT MOST 1048576: true; the input reads as it did. -/
def verifyPairsUptoRow : OpenClaim := { program := "ytbhleedlnaakkaagreat", sum := "19f67488c64d062233a25a66e2987193043994be6bb755140cf5226adf47baef", func := "graphdb/graphdblaw10.VerifyPairs", spec := "verifyPairs", unfollowed := true, recurses := true, loops := true, apart := false, narrowed := true }
def VerifyPairsUptoSaid : Prop := verifyPairsUptoRow.holds Tryz.pinned (OpenSpec.upto verifyPairsSpec)

end Rows
end Go.Proofs.YtbhleedlnaakkaaGreat

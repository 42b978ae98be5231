/-
  NARROWER THAN 'FOR EVERY INPUT', by the rows' own cells (each row's printed sentence says how): WalFormats: loops, laid · WalAppends: loops, laid · WalScans: loops, laid · WalBack: loops, laid · WalRoom: loops, laid · WalCrash: loops, laid.
  DERIVED. THE GIVEN ROWS OF THIS SEAT. 6 by the template 'for every input the law returns true; each argument reads behind the call as it read before'; 0 by the template 'total and deterministic' (their statements: YtpfldfkhgplcgaaGreatDoorTotals.lean).
  GIVEN WITH THE SEED: the statements are not yours to turn. If you find one false, say at which input.
  Laid BY PROGRAM, IN A SANDBOX (cutbox-rows.mjs): the forced cells as the released guide's own fill.sh prints them over the translation 7b3c090dbe4de548… (all of the seat's roots in one cut). By AI agents, Wed Nov 11 2026. No macro, syntax, notation, axiom, sorry.
-/
import Derived.Test.YtpfldfkhgplcgaaGreatDoorChecked
import GoSem.Claim
import GoSem.ClaimJoined
import GoSem.ClaimMapViews
import Derived.JoinedTies
import Derived.KernelRfl
namespace Go.Proofs.YtpfldfkhgplcgaaGreatDoor
/- THE CELL 'sum', in the pinned program and in every row, IS THE sha256 OF THE DUMP (.gsa) THAT YtpfldfkhgplcgaaGreatDoorProg.lean LOADS. Nothing in Lean hashes anything: it is a label: what it is worth is what the hold of that sum in a sandbox is worth. -/
noncomputable def Tryz.pinned : Pinned := { name := "ytpfldfkhgplcgaagreatdoor", sum := "7b3c090dbe4de548941e9d4f53870e6bfa4591e771e3b6361cf458db5bbf3d19", checked := Tryz.checked }
namespace Rows
def none {H : Type} : Left H := { results := [], args := [] }

/- WHAT THE LISTED PACKAGE-LEVEL VARIABLES READ AS WHEN THE CALL BEGINS. Each datum BY PROGRAM (the guide's laid-datum.mjs) off the statement by which the dump's own 'gosem.cut.vars' lays the variable. In a bare row this is a premise. The card (YtpfldfkhgplcgaaGreatDoorCards.lean) ties it to the program's text. -/
def laid_graphdb_frac_zero {H : Type} : DataW H := .agg [.lit (.int .i64 0), .lit (.int .i64 1)]

/-- 'graphdblaw42.WalFormats': WHATEVER THE INPUT: true; the input reads as it did. -/
def walFormatsSpec : ChangeSpec := { name := "walFormats", fn := fun _ => fun
  | [d1, d2] => { results := [.lit (.bool true)], args := [d1, d2] }
  | _ => none }
def walFormatsRow : OpenClaim := { program := "ytpfldfkhgplcgaagreatdoor", sum := "7b3c090dbe4de548941e9d4f53870e6bfa4591e771e3b6361cf458db5bbf3d19", func := "graphdb/graphdblaw42.WalFormats", spec := "walFormats", inPlace := ["internal/bytealg.IndexByte", "math/bits.Add64", "math/bits.Sub64"], unfollowed := true, recurses := true, named := ["graphdb/frac.zero"], loops := true, apart := false, laid := [("graphdb/frac.zero", laid_graphdb_frac_zero)] }
def WalFormatsSaid : Prop := walFormatsRow.holds Tryz.pinned (OpenSpec.ofChange walFormatsSpec)

/-- ITS FALSE NEIGHBOUR: 'it returns false'. Refute it at one input. -/
def walFormatsWrong : ChangeSpec := { name := "walFormats", fn := fun _ => fun
  | [d1, d2] => { results := [.lit (.bool false)], args := [d1, d2] }
  | _ => none }
def WalFormatsWrongFalsely : Prop := walFormatsRow.holds Tryz.pinned (OpenSpec.ofChange walFormatsWrong)

/-- 'graphdblaw42.WalAppends': WHATEVER THE INPUT: true; the input reads as it did. -/
def walAppendsSpec : ChangeSpec := { name := "walAppends", fn := fun _ => fun
  | [d1, d2] => { results := [.lit (.bool true)], args := [d1, d2] }
  | _ => none }
def walAppendsRow : OpenClaim := { program := "ytpfldfkhgplcgaagreatdoor", sum := "7b3c090dbe4de548941e9d4f53870e6bfa4591e771e3b6361cf458db5bbf3d19", func := "graphdb/graphdblaw42.WalAppends", spec := "walAppends", inPlace := ["internal/bytealg.IndexByte", "math/bits.Add64", "math/bits.Sub64"], unfollowed := true, recurses := true, named := ["graphdb/frac.zero"], loops := true, apart := false, laid := [("graphdb/frac.zero", laid_graphdb_frac_zero)] }
def WalAppendsSaid : Prop := walAppendsRow.holds Tryz.pinned (OpenSpec.ofChange walAppendsSpec)

/-- ITS FALSE NEIGHBOUR: 'it returns false'. Refute it at one input. -/
def walAppendsWrong : ChangeSpec := { name := "walAppends", fn := fun _ => fun
  | [d1, d2] => { results := [.lit (.bool false)], args := [d1, d2] }
  | _ => none }
def WalAppendsWrongFalsely : Prop := walAppendsRow.holds Tryz.pinned (OpenSpec.ofChange walAppendsWrong)

/-- 'graphdblaw42.WalScans': WHATEVER THE INPUT: true; the input reads as it did. -/
def walScansSpec : ChangeSpec := { name := "walScans", fn := fun _ => fun
  | [d1, d2] => { results := [.lit (.bool true)], args := [d1, d2] }
  | _ => none }
def walScansRow : OpenClaim := { program := "ytpfldfkhgplcgaagreatdoor", sum := "7b3c090dbe4de548941e9d4f53870e6bfa4591e771e3b6361cf458db5bbf3d19", func := "graphdb/graphdblaw42.WalScans", spec := "walScans", inPlace := ["internal/bytealg.IndexByte", "math/bits.Add64", "math/bits.Sub64"], unfollowed := true, recurses := true, named := ["graphdb/frac.zero"], loops := true, apart := false, laid := [("graphdb/frac.zero", laid_graphdb_frac_zero)] }
def WalScansSaid : Prop := walScansRow.holds Tryz.pinned (OpenSpec.ofChange walScansSpec)

/-- ITS FALSE NEIGHBOUR: 'it returns false'. Refute it at one input. -/
def walScansWrong : ChangeSpec := { name := "walScans", fn := fun _ => fun
  | [d1, d2] => { results := [.lit (.bool false)], args := [d1, d2] }
  | _ => none }
def WalScansWrongFalsely : Prop := walScansRow.holds Tryz.pinned (OpenSpec.ofChange walScansWrong)

/-- 'graphdblaw42.WalBack': WHATEVER THE INPUT: true; the input reads as it did. -/
def walBackSpec : ChangeSpec := { name := "walBack", fn := fun _ => fun
  | [d] => { results := [.lit (.bool true)], args := [d] }
  | _ => none }
def walBackRow : OpenClaim := { program := "ytpfldfkhgplcgaagreatdoor", sum := "7b3c090dbe4de548941e9d4f53870e6bfa4591e771e3b6361cf458db5bbf3d19", func := "graphdb/graphdblaw42.WalBack", spec := "walBack", inPlace := ["internal/bytealg.IndexByte", "math/bits.Add64", "math/bits.Sub64"], unfollowed := true, recurses := true, named := ["graphdb/frac.zero"], loops := true, apart := false, laid := [("graphdb/frac.zero", laid_graphdb_frac_zero)] }
def WalBackSaid : Prop := walBackRow.holds Tryz.pinned (OpenSpec.ofChange walBackSpec)

/-- ITS FALSE NEIGHBOUR: 'it returns false'. Refute it at one input. -/
def walBackWrong : ChangeSpec := { name := "walBack", fn := fun _ => fun
  | [d] => { results := [.lit (.bool false)], args := [d] }
  | _ => none }
def WalBackWrongFalsely : Prop := walBackRow.holds Tryz.pinned (OpenSpec.ofChange walBackWrong)

/-- 'graphdblaw42.WalRoom': WHATEVER THE INPUT: true; the input reads as it did. -/
def walRoomSpec : ChangeSpec := { name := "walRoom", fn := fun _ => fun
  | [d] => { results := [.lit (.bool true)], args := [d] }
  | _ => none }
def walRoomRow : OpenClaim := { program := "ytpfldfkhgplcgaagreatdoor", sum := "7b3c090dbe4de548941e9d4f53870e6bfa4591e771e3b6361cf458db5bbf3d19", func := "graphdb/graphdblaw42.WalRoom", spec := "walRoom", inPlace := ["internal/bytealg.IndexByte", "math/bits.Add64", "math/bits.Sub64"], unfollowed := true, recurses := true, named := ["graphdb/frac.zero"], loops := true, apart := false, laid := [("graphdb/frac.zero", laid_graphdb_frac_zero)] }
def WalRoomSaid : Prop := walRoomRow.holds Tryz.pinned (OpenSpec.ofChange walRoomSpec)

/-- ITS FALSE NEIGHBOUR: 'it returns false'. Refute it at one input. -/
def walRoomWrong : ChangeSpec := { name := "walRoom", fn := fun _ => fun
  | [d] => { results := [.lit (.bool false)], args := [d] }
  | _ => none }
def WalRoomWrongFalsely : Prop := walRoomRow.holds Tryz.pinned (OpenSpec.ofChange walRoomWrong)

/-- 'graphdblaw42.WalCrash': WHATEVER THE INPUT: true; the input reads as it did. -/
def walCrashSpec : ChangeSpec := { name := "walCrash", fn := fun _ => fun
  | [d] => { results := [.lit (.bool true)], args := [d] }
  | _ => none }
def walCrashRow : OpenClaim := { program := "ytpfldfkhgplcgaagreatdoor", sum := "7b3c090dbe4de548941e9d4f53870e6bfa4591e771e3b6361cf458db5bbf3d19", func := "graphdb/graphdblaw42.WalCrash", spec := "walCrash", inPlace := ["internal/bytealg.IndexByte", "math/bits.Add64", "math/bits.Sub64"], unfollowed := true, recurses := true, named := ["graphdb/frac.zero"], loops := true, apart := false, laid := [("graphdb/frac.zero", laid_graphdb_frac_zero)] }
def WalCrashSaid : Prop := walCrashRow.holds Tryz.pinned (OpenSpec.ofChange walCrashSpec)

/-- ITS FALSE NEIGHBOUR: 'it returns false'. Refute it at one input. -/
def walCrashWrong : ChangeSpec := { name := "walCrash", fn := fun _ => fun
  | [d] => { results := [.lit (.bool false)], args := [d] }
  | _ => none }
def WalCrashWrongFalsely : Prop := walCrashRow.holds Tryz.pinned (OpenSpec.ofChange walCrashWrong)

/- THE SECOND FORM. 'bulk': how many values and letters a reading holds, each counted each time it is reached (what is shared counts as often as it is met; a slice's spare places count too). A statement '..UptoSaid' is the law's where the arguments, and the package variables that the reading takes, are together of bulk at most 1048576: NARROWER than '..Said'. Prove '..Said' where nothing that the law and all that it calls make is longer than what came in: it says more and counts as full. Else prove '..UptoSaid'. A law counts once. -/
mutual
def uptoBulk {H : Type} : DataW H → Nat
  | .lit (.string bytes) => bytes.length + 1
  | .lit _ => 1
  | .nil => 1
  | .ptr d => uptoBulk d + 1
  | .slice elems spare => uptoBulkAll elems + uptoBulkAll spare + 1
  | .agg parts => uptoBulkAll parts + 1
  | .iface _ d => uptoBulk d + 1
  | .map entries => uptoBulkEntries entries + 1
  | .held _ => 1
def uptoBulkAll {H : Type} : List (DataW H) → Nat
  | [] => 0
  | d :: r => uptoBulk d + uptoBulkAll r
def uptoBulkEntries {H : Type} : List (Lit × DataW H) → Nat
  | [] => 0
  | x :: r => uptoBulkEntry x + uptoBulkEntries r
def uptoBulkEntry {H : Type} : Lit × DataW H → Nat
  | (.string bytes, d) => bytes.length + uptoBulk d + 1
  | (_, d) => uptoBulk d + 1
 end
def uptoSmall : (H : Type) → List (DataW H) → Bool := fun _ ds => decide (uptoBulkAll ds ≤ 1048576)
def OpenSpec.upto (s : _root_.Go.ChangeSpec) : _root_.Go.OpenSpec := { _root_.Go.OpenSpec.ofChange s with cond := some uptoSmall }

/-- 'graphdblaw42.WalFormats', WHERE WHAT IT READS IS OF BULK AT MOST 1048576: true; the input reads as it did. -/
def walFormatsUptoRow : OpenClaim := { program := "ytpfldfkhgplcgaagreatdoor", sum := "7b3c090dbe4de548941e9d4f53870e6bfa4591e771e3b6361cf458db5bbf3d19", func := "graphdb/graphdblaw42.WalFormats", spec := "walFormats", inPlace := ["internal/bytealg.IndexByte", "math/bits.Add64", "math/bits.Sub64"], unfollowed := true, recurses := true, named := ["graphdb/frac.zero"], loops := true, apart := false, laid := [("graphdb/frac.zero", laid_graphdb_frac_zero)], narrowed := true }
def WalFormatsUptoSaid : Prop := walFormatsUptoRow.holds Tryz.pinned (OpenSpec.upto walFormatsSpec)

/-- 'graphdblaw42.WalAppends', WHERE WHAT IT READS IS OF BULK AT MOST 1048576: true; the input reads as it did. -/
def walAppendsUptoRow : OpenClaim := { program := "ytpfldfkhgplcgaagreatdoor", sum := "7b3c090dbe4de548941e9d4f53870e6bfa4591e771e3b6361cf458db5bbf3d19", func := "graphdb/graphdblaw42.WalAppends", spec := "walAppends", inPlace := ["internal/bytealg.IndexByte", "math/bits.Add64", "math/bits.Sub64"], unfollowed := true, recurses := true, named := ["graphdb/frac.zero"], loops := true, apart := false, laid := [("graphdb/frac.zero", laid_graphdb_frac_zero)], narrowed := true }
def WalAppendsUptoSaid : Prop := walAppendsUptoRow.holds Tryz.pinned (OpenSpec.upto walAppendsSpec)

/-- 'graphdblaw42.WalScans', WHERE WHAT IT READS IS OF BULK AT MOST 1048576: true; the input reads as it did. -/
def walScansUptoRow : OpenClaim := { program := "ytpfldfkhgplcgaagreatdoor", sum := "7b3c090dbe4de548941e9d4f53870e6bfa4591e771e3b6361cf458db5bbf3d19", func := "graphdb/graphdblaw42.WalScans", spec := "walScans", inPlace := ["internal/bytealg.IndexByte", "math/bits.Add64", "math/bits.Sub64"], unfollowed := true, recurses := true, named := ["graphdb/frac.zero"], loops := true, apart := false, laid := [("graphdb/frac.zero", laid_graphdb_frac_zero)], narrowed := true }
def WalScansUptoSaid : Prop := walScansUptoRow.holds Tryz.pinned (OpenSpec.upto walScansSpec)

/-- 'graphdblaw42.WalBack', WHERE WHAT IT READS IS OF BULK AT MOST 1048576: true; the input reads as it did. -/
def walBackUptoRow : OpenClaim := { program := "ytpfldfkhgplcgaagreatdoor", sum := "7b3c090dbe4de548941e9d4f53870e6bfa4591e771e3b6361cf458db5bbf3d19", func := "graphdb/graphdblaw42.WalBack", spec := "walBack", inPlace := ["internal/bytealg.IndexByte", "math/bits.Add64", "math/bits.Sub64"], unfollowed := true, recurses := true, named := ["graphdb/frac.zero"], loops := true, apart := false, laid := [("graphdb/frac.zero", laid_graphdb_frac_zero)], narrowed := true }
def WalBackUptoSaid : Prop := walBackUptoRow.holds Tryz.pinned (OpenSpec.upto walBackSpec)

/-- 'graphdblaw42.WalRoom', WHERE WHAT IT READS IS OF BULK AT MOST 1048576: true; the input reads as it did. -/
def walRoomUptoRow : OpenClaim := { program := "ytpfldfkhgplcgaagreatdoor", sum := "7b3c090dbe4de548941e9d4f53870e6bfa4591e771e3b6361cf458db5bbf3d19", func := "graphdb/graphdblaw42.WalRoom", spec := "walRoom", inPlace := ["internal/bytealg.IndexByte", "math/bits.Add64", "math/bits.Sub64"], unfollowed := true, recurses := true, named := ["graphdb/frac.zero"], loops := true, apart := false, laid := [("graphdb/frac.zero", laid_graphdb_frac_zero)], narrowed := true }
def WalRoomUptoSaid : Prop := walRoomUptoRow.holds Tryz.pinned (OpenSpec.upto walRoomSpec)

/-- 'graphdblaw42.WalCrash', WHERE WHAT IT READS IS OF BULK AT MOST 1048576: true; the input reads as it did. -/
def walCrashUptoRow : OpenClaim := { program := "ytpfldfkhgplcgaagreatdoor", sum := "7b3c090dbe4de548941e9d4f53870e6bfa4591e771e3b6361cf458db5bbf3d19", func := "graphdb/graphdblaw42.WalCrash", spec := "walCrash", inPlace := ["internal/bytealg.IndexByte", "math/bits.Add64", "math/bits.Sub64"], unfollowed := true, recurses := true, named := ["graphdb/frac.zero"], loops := true, apart := false, laid := [("graphdb/frac.zero", laid_graphdb_frac_zero)], narrowed := true }
def WalCrashUptoSaid : Prop := walCrashUptoRow.holds Tryz.pinned (OpenSpec.upto walCrashSpec)

end Rows
end Go.Proofs.YtpfldfkhgplcgaaGreatDoor

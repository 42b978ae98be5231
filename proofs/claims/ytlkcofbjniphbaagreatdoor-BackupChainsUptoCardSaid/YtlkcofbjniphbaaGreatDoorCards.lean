/-
  DERIVED. GIVEN WITH THE SEED: THE CARDS: each row of YtlkcofbjniphbaaGreatDoorRows.lean that lists a variable, with what it lists TIED to the program's text (the seventh form; the later family's looks); each row that meets fmt, with fmt's text TOLD by the authors' own Lean function (tested against real Go, not proved from fmt's source: count such statements apart). THE CARD IS WHAT COUNTS. Prove the row's statement (the work); the ties are given (YtlkcofbjniphbaaGreatDoorTie.lean); close each card by the builder's one call (the guide's Derived/Test/ToyasCard.lean, 'card_holds'). Laid BY PROGRAM, IN A SANDBOX (cutbox-door.mjs). By AI agents, Wed Nov 11 2026. No macro, syntax, notation, axiom, sorry.
-/
import Derived.Test.YtlkcofbjniphbaaGreatDoorRows
import GoSem.ClaimSeven
namespace Go.Proofs.YtlkcofbjniphbaaGreatDoor
namespace Rows

/-- THE TIED CARD OF 'graphdblaw53.BackupOnto'. -/
def backupOntoCard : Claim7 := { stood := { row := backupOntoRow, standIns := [], harness := (true, "bc16f5c78774eba6004e4b2ebb07933fd80c28bf50f1d68a98b44b817b79422b"), looks := true }, kinds := [], alts := [], laidByText := true, laidKinds := [.data], laidTests := true, laidLooks := .later }
def BackupOntoCardSaid : Prop := Claim7.holds Tryz.pinned (.plain (OpenSpec.ofChange backupOntoSpec)) backupOntoCard

/-- THE TIED CARD OF 'graphdblaw53.BackupSince'. -/
def backupSinceCard : Claim7 := { stood := { row := backupSinceRow, standIns := [], harness := (true, "bc16f5c78774eba6004e4b2ebb07933fd80c28bf50f1d68a98b44b817b79422b"), looks := true }, kinds := [], alts := [], laidByText := true, laidKinds := [.data], laidTests := true, laidLooks := .later }
def BackupSinceCardSaid : Prop := Claim7.holds Tryz.pinned (.plain (OpenSpec.ofChange backupSinceSpec)) backupSinceCard

/-- THE TIED CARD OF 'graphdblaw53.BackupChains'. -/
def backupChainsCard : Claim7 := { stood := { row := backupChainsRow, standIns := [], harness := (true, "bc16f5c78774eba6004e4b2ebb07933fd80c28bf50f1d68a98b44b817b79422b"), looks := true }, kinds := [], alts := [], laidByText := true, laidKinds := [.data], laidTests := true, laidLooks := .later }
def BackupChainsCardSaid : Prop := Claim7.holds Tryz.pinned (.plain (OpenSpec.ofChange backupChainsSpec)) backupChainsCard

/-- THE SECOND FORM's CARD OF 'graphdblaw53.BackupOnto'. -/
def backupOntoUptoCard : Claim7 := { stood := { row := backupOntoUptoRow, standIns := [], harness := (true, "bc16f5c78774eba6004e4b2ebb07933fd80c28bf50f1d68a98b44b817b79422b"), looks := true }, kinds := [], alts := [], laidByText := true, laidKinds := [.data], laidTests := true, laidLooks := .later }
def BackupOntoUptoCardSaid : Prop := Claim7.holds Tryz.pinned (.plain (OpenSpec.upto backupOntoSpec)) backupOntoUptoCard

/-- THE SECOND FORM's CARD OF 'graphdblaw53.BackupSince'. -/
def backupSinceUptoCard : Claim7 := { stood := { row := backupSinceUptoRow, standIns := [], harness := (true, "bc16f5c78774eba6004e4b2ebb07933fd80c28bf50f1d68a98b44b817b79422b"), looks := true }, kinds := [], alts := [], laidByText := true, laidKinds := [.data], laidTests := true, laidLooks := .later }
def BackupSinceUptoCardSaid : Prop := Claim7.holds Tryz.pinned (.plain (OpenSpec.upto backupSinceSpec)) backupSinceUptoCard

/-- THE SECOND FORM's CARD OF 'graphdblaw53.BackupChains'. -/
def backupChainsUptoCard : Claim7 := { stood := { row := backupChainsUptoRow, standIns := [], harness := (true, "bc16f5c78774eba6004e4b2ebb07933fd80c28bf50f1d68a98b44b817b79422b"), looks := true }, kinds := [], alts := [], laidByText := true, laidKinds := [.data], laidTests := true, laidLooks := .later }
def BackupChainsUptoCardSaid : Prop := Claim7.holds Tryz.pinned (.plain (OpenSpec.upto backupChainsSpec)) backupChainsUptoCard
end Rows
end Go.Proofs.YtlkcofbjniphbaaGreatDoor

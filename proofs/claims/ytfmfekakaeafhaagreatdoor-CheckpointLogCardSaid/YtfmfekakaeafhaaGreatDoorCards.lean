/-
  DERIVED. GIVEN WITH THE SEED: THE CARDS: each row of YtfmfekakaeafhaaGreatDoorRows.lean that lists a variable, with what it lists TIED to the program's text (the seventh form; the later family's looks); each row that meets fmt, with fmt's text TOLD by the authors' own Lean function (tested against real Go, not proved from fmt's source: count such statements apart). THE CARD IS WHAT COUNTS. Prove the row's statement (the work); the ties are given (YtfmfekakaeafhaaGreatDoorTie.lean); close each card by the builder's one call (the guide's Derived/Test/ToyasCard.lean, 'card_holds'). Laid BY PROGRAM, IN A SANDBOX (cutbox-door.mjs). By AI agents, Wed Nov 11 2026. No macro, syntax, notation, axiom, sorry.
-/
import Derived.Test.YtfmfekakaeafhaaGreatDoorRows
import GoSem.ClaimSeven
namespace Go.Proofs.YtfmfekakaeafhaaGreatDoor
namespace Rows

/-- THE TIED CARD OF 'graphdblaw43.CheckpointLog'. -/
def checkpointLogCard : Claim7 := { stood := { row := checkpointLogRow, standIns := [], harness := (true, "b7f2102e1a29d140d1d3e70a3c817692438ab905cd986b89fc0e640022afd9b1"), looks := true }, kinds := [], alts := [], laidByText := true, laidKinds := [.data], laidTests := true, laidLooks := .later }
def CheckpointLogCardSaid : Prop := Claim7.holds Tryz.pinned (.plain (OpenSpec.ofChange checkpointLogSpec)) checkpointLogCard

/-- THE TIED CARD OF 'graphdblaw43.CheckpointCrash'. -/
def checkpointCrashCard : Claim7 := { stood := { row := checkpointCrashRow, standIns := [], harness := (true, "b7f2102e1a29d140d1d3e70a3c817692438ab905cd986b89fc0e640022afd9b1"), looks := true }, kinds := [], alts := [], laidByText := true, laidKinds := [.data], laidTests := true, laidLooks := .later }
def CheckpointCrashCardSaid : Prop := Claim7.holds Tryz.pinned (.plain (OpenSpec.ofChange checkpointCrashSpec)) checkpointCrashCard

/-- THE TIED CARD OF 'graphdblaw43.CheckpointRecover'. -/
def checkpointRecoverCard : Claim7 := { stood := { row := checkpointRecoverRow, standIns := [], harness := (true, "b7f2102e1a29d140d1d3e70a3c817692438ab905cd986b89fc0e640022afd9b1"), looks := true }, kinds := [], alts := [], laidByText := true, laidKinds := [.data], laidTests := true, laidLooks := .later }
def CheckpointRecoverCardSaid : Prop := Claim7.holds Tryz.pinned (.plain (OpenSpec.ofChange checkpointRecoverSpec)) checkpointRecoverCard

/-- THE TIED CARD OF 'graphdblaw43.CheckpointSave'. -/
def checkpointSaveCard : Claim7 := { stood := { row := checkpointSaveRow, standIns := [], harness := (true, "b7f2102e1a29d140d1d3e70a3c817692438ab905cd986b89fc0e640022afd9b1"), looks := true }, kinds := [], alts := [], laidByText := true, laidKinds := [.data], laidTests := true, laidLooks := .later }
def CheckpointSaveCardSaid : Prop := Claim7.holds Tryz.pinned (.plain (OpenSpec.ofChange checkpointSaveSpec)) checkpointSaveCard

/-- THE SECOND FORM's CARD OF 'graphdblaw43.CheckpointLog'. -/
def checkpointLogUptoCard : Claim7 := { stood := { row := checkpointLogUptoRow, standIns := [], harness := (true, "b7f2102e1a29d140d1d3e70a3c817692438ab905cd986b89fc0e640022afd9b1"), looks := true }, kinds := [], alts := [], laidByText := true, laidKinds := [.data], laidTests := true, laidLooks := .later }
def CheckpointLogUptoCardSaid : Prop := Claim7.holds Tryz.pinned (.plain (OpenSpec.upto checkpointLogSpec)) checkpointLogUptoCard

/-- THE SECOND FORM's CARD OF 'graphdblaw43.CheckpointCrash'. -/
def checkpointCrashUptoCard : Claim7 := { stood := { row := checkpointCrashUptoRow, standIns := [], harness := (true, "b7f2102e1a29d140d1d3e70a3c817692438ab905cd986b89fc0e640022afd9b1"), looks := true }, kinds := [], alts := [], laidByText := true, laidKinds := [.data], laidTests := true, laidLooks := .later }
def CheckpointCrashUptoCardSaid : Prop := Claim7.holds Tryz.pinned (.plain (OpenSpec.upto checkpointCrashSpec)) checkpointCrashUptoCard

/-- THE SECOND FORM's CARD OF 'graphdblaw43.CheckpointRecover'. -/
def checkpointRecoverUptoCard : Claim7 := { stood := { row := checkpointRecoverUptoRow, standIns := [], harness := (true, "b7f2102e1a29d140d1d3e70a3c817692438ab905cd986b89fc0e640022afd9b1"), looks := true }, kinds := [], alts := [], laidByText := true, laidKinds := [.data], laidTests := true, laidLooks := .later }
def CheckpointRecoverUptoCardSaid : Prop := Claim7.holds Tryz.pinned (.plain (OpenSpec.upto checkpointRecoverSpec)) checkpointRecoverUptoCard

/-- THE SECOND FORM's CARD OF 'graphdblaw43.CheckpointSave'. -/
def checkpointSaveUptoCard : Claim7 := { stood := { row := checkpointSaveUptoRow, standIns := [], harness := (true, "b7f2102e1a29d140d1d3e70a3c817692438ab905cd986b89fc0e640022afd9b1"), looks := true }, kinds := [], alts := [], laidByText := true, laidKinds := [.data], laidTests := true, laidLooks := .later }
def CheckpointSaveUptoCardSaid : Prop := Claim7.holds Tryz.pinned (.plain (OpenSpec.upto checkpointSaveSpec)) checkpointSaveUptoCard
end Rows
end Go.Proofs.YtfmfekakaeafhaaGreatDoor

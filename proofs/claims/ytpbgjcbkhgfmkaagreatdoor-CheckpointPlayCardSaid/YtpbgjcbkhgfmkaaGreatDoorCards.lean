/-
  DERIVED. GIVEN WITH THE SEED: THE CARDS: each row of YtpbgjcbkhgfmkaaGreatDoorRows.lean that lists a variable, with what it lists TIED to the program's text (the seventh form; the later family's looks); each row that meets fmt, with fmt's text TOLD by the authors' own Lean function (tested against real Go, not proved from fmt's source: count such statements apart). THE CARD IS WHAT COUNTS. Prove the row's statement (the work); the ties are given (YtpbgjcbkhgfmkaaGreatDoorTie.lean); close each card by the builder's one call (the guide's Derived/Test/ToyasCard.lean, 'card_holds'). Laid BY PROGRAM, IN A SANDBOX (cutbox-door.mjs). By AI agents, Wed Nov 11 2026. No macro, syntax, notation, axiom, sorry.
-/
import Derived.Test.YtpbgjcbkhgfmkaaGreatDoorRows
import GoSem.ClaimSeven
namespace Go.Proofs.YtpbgjcbkhgfmkaaGreatDoor
namespace Rows

/-- THE TIED CARD OF 'graphdblaw43.CheckpointLog'. -/
def checkpointLogCard : Claim7 := { stood := { row := checkpointLogRow, standIns := [], harness := (true, "523bdf8639a68e229c94fbfdaa2400de4aeef23c31dd8661b802d5fb61f04651"), looks := true }, kinds := [], alts := [], laidByText := true, laidKinds := [.data], laidTests := true, laidLooks := .later }
def CheckpointLogCardSaid : Prop := Claim7.holds Tryz.pinned (.plain (OpenSpec.ofChange checkpointLogSpec)) checkpointLogCard

/-- THE TIED CARD OF 'graphdblaw43.CheckpointCrash'. -/
def checkpointCrashCard : Claim7 := { stood := { row := checkpointCrashRow, standIns := [], harness := (true, "523bdf8639a68e229c94fbfdaa2400de4aeef23c31dd8661b802d5fb61f04651"), looks := true }, kinds := [], alts := [], laidByText := true, laidKinds := [.data], laidTests := true, laidLooks := .later }
def CheckpointCrashCardSaid : Prop := Claim7.holds Tryz.pinned (.plain (OpenSpec.ofChange checkpointCrashSpec)) checkpointCrashCard

/-- THE TIED CARD OF 'graphdblaw43.CheckpointLayout'. -/
def checkpointLayoutCard : Claim7 := { stood := { row := checkpointLayoutRow, standIns := [], harness := (true, "523bdf8639a68e229c94fbfdaa2400de4aeef23c31dd8661b802d5fb61f04651"), looks := true }, kinds := [], alts := [], laidByText := true, laidKinds := [.data], laidTests := true, laidLooks := .later }
def CheckpointLayoutCardSaid : Prop := Claim7.holds Tryz.pinned (.plain (OpenSpec.ofChange checkpointLayoutSpec)) checkpointLayoutCard

/-- THE TIED CARD OF 'graphdblaw43.CheckpointPlay'. -/
def checkpointPlayCard : Claim7 := { stood := { row := checkpointPlayRow, standIns := [], harness := (true, "523bdf8639a68e229c94fbfdaa2400de4aeef23c31dd8661b802d5fb61f04651"), looks := true }, kinds := [], alts := [], laidByText := true, laidKinds := [.data], laidTests := true, laidLooks := .later }
def CheckpointPlayCardSaid : Prop := Claim7.holds Tryz.pinned (.plain (OpenSpec.ofChange checkpointPlaySpec)) checkpointPlayCard

/-- THE TIED CARD OF 'graphdblaw43.CheckpointRecover'. -/
def checkpointRecoverCard : Claim7 := { stood := { row := checkpointRecoverRow, standIns := [], harness := (true, "523bdf8639a68e229c94fbfdaa2400de4aeef23c31dd8661b802d5fb61f04651"), looks := true }, kinds := [], alts := [], laidByText := true, laidKinds := [.data], laidTests := true, laidLooks := .later }
def CheckpointRecoverCardSaid : Prop := Claim7.holds Tryz.pinned (.plain (OpenSpec.ofChange checkpointRecoverSpec)) checkpointRecoverCard

/-- THE TIED CARD OF 'graphdblaw43.CheckpointBack'. -/
def checkpointBackCard : Claim7 := { stood := { row := checkpointBackRow, standIns := [], harness := (true, "523bdf8639a68e229c94fbfdaa2400de4aeef23c31dd8661b802d5fb61f04651"), looks := true }, kinds := [], alts := [], laidByText := true, laidKinds := [.data], laidTests := true, laidLooks := .later }
def CheckpointBackCardSaid : Prop := Claim7.holds Tryz.pinned (.plain (OpenSpec.ofChange checkpointBackSpec)) checkpointBackCard

/-- THE TIED CARD OF 'graphdblaw43.CheckpointClean'. -/
def checkpointCleanCard : Claim7 := { stood := { row := checkpointCleanRow, standIns := [], harness := (true, "523bdf8639a68e229c94fbfdaa2400de4aeef23c31dd8661b802d5fb61f04651"), looks := true }, kinds := [], alts := [], laidByText := true, laidKinds := [.data], laidTests := true, laidLooks := .later }
def CheckpointCleanCardSaid : Prop := Claim7.holds Tryz.pinned (.plain (OpenSpec.ofChange checkpointCleanSpec)) checkpointCleanCard

/-- THE TIED CARD OF 'graphdblaw43.CheckpointAgain'. -/
def checkpointAgainCard : Claim7 := { stood := { row := checkpointAgainRow, standIns := [], harness := (true, "523bdf8639a68e229c94fbfdaa2400de4aeef23c31dd8661b802d5fb61f04651"), looks := true }, kinds := [], alts := [], laidByText := true, laidKinds := [.data], laidTests := true, laidLooks := .later }
def CheckpointAgainCardSaid : Prop := Claim7.holds Tryz.pinned (.plain (OpenSpec.ofChange checkpointAgainSpec)) checkpointAgainCard

/-- THE TIED CARD OF 'graphdblaw43.CheckpointSave'. -/
def checkpointSaveCard : Claim7 := { stood := { row := checkpointSaveRow, standIns := [], harness := (true, "523bdf8639a68e229c94fbfdaa2400de4aeef23c31dd8661b802d5fb61f04651"), looks := true }, kinds := [], alts := [], laidByText := true, laidKinds := [.data], laidTests := true, laidLooks := .later }
def CheckpointSaveCardSaid : Prop := Claim7.holds Tryz.pinned (.plain (OpenSpec.ofChange checkpointSaveSpec)) checkpointSaveCard

/-- THE TIED CARD OF 'graphdblaw43.CheckpointTear'. -/
def checkpointTearCard : Claim7 := { stood := { row := checkpointTearRow, standIns := [], harness := (true, "523bdf8639a68e229c94fbfdaa2400de4aeef23c31dd8661b802d5fb61f04651"), looks := true }, kinds := [], alts := [], laidByText := true, laidKinds := [.data], laidTests := true, laidLooks := .later }
def CheckpointTearCardSaid : Prop := Claim7.holds Tryz.pinned (.plain (OpenSpec.ofChange checkpointTearSpec)) checkpointTearCard

/-- THE SECOND FORM's CARD OF 'graphdblaw43.CheckpointLog'. -/
def checkpointLogUptoCard : Claim7 := { stood := { row := checkpointLogUptoRow, standIns := [], harness := (true, "523bdf8639a68e229c94fbfdaa2400de4aeef23c31dd8661b802d5fb61f04651"), looks := true }, kinds := [], alts := [], laidByText := true, laidKinds := [.data], laidTests := true, laidLooks := .later }
def CheckpointLogUptoCardSaid : Prop := Claim7.holds Tryz.pinned (.plain (OpenSpec.upto checkpointLogSpec)) checkpointLogUptoCard

/-- THE SECOND FORM's CARD OF 'graphdblaw43.CheckpointCrash'. -/
def checkpointCrashUptoCard : Claim7 := { stood := { row := checkpointCrashUptoRow, standIns := [], harness := (true, "523bdf8639a68e229c94fbfdaa2400de4aeef23c31dd8661b802d5fb61f04651"), looks := true }, kinds := [], alts := [], laidByText := true, laidKinds := [.data], laidTests := true, laidLooks := .later }
def CheckpointCrashUptoCardSaid : Prop := Claim7.holds Tryz.pinned (.plain (OpenSpec.upto checkpointCrashSpec)) checkpointCrashUptoCard

/-- THE SECOND FORM's CARD OF 'graphdblaw43.CheckpointLayout'. -/
def checkpointLayoutUptoCard : Claim7 := { stood := { row := checkpointLayoutUptoRow, standIns := [], harness := (true, "523bdf8639a68e229c94fbfdaa2400de4aeef23c31dd8661b802d5fb61f04651"), looks := true }, kinds := [], alts := [], laidByText := true, laidKinds := [.data], laidTests := true, laidLooks := .later }
def CheckpointLayoutUptoCardSaid : Prop := Claim7.holds Tryz.pinned (.plain (OpenSpec.upto checkpointLayoutSpec)) checkpointLayoutUptoCard

/-- THE SECOND FORM's CARD OF 'graphdblaw43.CheckpointPlay'. -/
def checkpointPlayUptoCard : Claim7 := { stood := { row := checkpointPlayUptoRow, standIns := [], harness := (true, "523bdf8639a68e229c94fbfdaa2400de4aeef23c31dd8661b802d5fb61f04651"), looks := true }, kinds := [], alts := [], laidByText := true, laidKinds := [.data], laidTests := true, laidLooks := .later }
def CheckpointPlayUptoCardSaid : Prop := Claim7.holds Tryz.pinned (.plain (OpenSpec.upto checkpointPlaySpec)) checkpointPlayUptoCard

/-- THE SECOND FORM's CARD OF 'graphdblaw43.CheckpointRecover'. -/
def checkpointRecoverUptoCard : Claim7 := { stood := { row := checkpointRecoverUptoRow, standIns := [], harness := (true, "523bdf8639a68e229c94fbfdaa2400de4aeef23c31dd8661b802d5fb61f04651"), looks := true }, kinds := [], alts := [], laidByText := true, laidKinds := [.data], laidTests := true, laidLooks := .later }
def CheckpointRecoverUptoCardSaid : Prop := Claim7.holds Tryz.pinned (.plain (OpenSpec.upto checkpointRecoverSpec)) checkpointRecoverUptoCard

/-- THE SECOND FORM's CARD OF 'graphdblaw43.CheckpointBack'. -/
def checkpointBackUptoCard : Claim7 := { stood := { row := checkpointBackUptoRow, standIns := [], harness := (true, "523bdf8639a68e229c94fbfdaa2400de4aeef23c31dd8661b802d5fb61f04651"), looks := true }, kinds := [], alts := [], laidByText := true, laidKinds := [.data], laidTests := true, laidLooks := .later }
def CheckpointBackUptoCardSaid : Prop := Claim7.holds Tryz.pinned (.plain (OpenSpec.upto checkpointBackSpec)) checkpointBackUptoCard

/-- THE SECOND FORM's CARD OF 'graphdblaw43.CheckpointClean'. -/
def checkpointCleanUptoCard : Claim7 := { stood := { row := checkpointCleanUptoRow, standIns := [], harness := (true, "523bdf8639a68e229c94fbfdaa2400de4aeef23c31dd8661b802d5fb61f04651"), looks := true }, kinds := [], alts := [], laidByText := true, laidKinds := [.data], laidTests := true, laidLooks := .later }
def CheckpointCleanUptoCardSaid : Prop := Claim7.holds Tryz.pinned (.plain (OpenSpec.upto checkpointCleanSpec)) checkpointCleanUptoCard

/-- THE SECOND FORM's CARD OF 'graphdblaw43.CheckpointAgain'. -/
def checkpointAgainUptoCard : Claim7 := { stood := { row := checkpointAgainUptoRow, standIns := [], harness := (true, "523bdf8639a68e229c94fbfdaa2400de4aeef23c31dd8661b802d5fb61f04651"), looks := true }, kinds := [], alts := [], laidByText := true, laidKinds := [.data], laidTests := true, laidLooks := .later }
def CheckpointAgainUptoCardSaid : Prop := Claim7.holds Tryz.pinned (.plain (OpenSpec.upto checkpointAgainSpec)) checkpointAgainUptoCard

/-- THE SECOND FORM's CARD OF 'graphdblaw43.CheckpointSave'. -/
def checkpointSaveUptoCard : Claim7 := { stood := { row := checkpointSaveUptoRow, standIns := [], harness := (true, "523bdf8639a68e229c94fbfdaa2400de4aeef23c31dd8661b802d5fb61f04651"), looks := true }, kinds := [], alts := [], laidByText := true, laidKinds := [.data], laidTests := true, laidLooks := .later }
def CheckpointSaveUptoCardSaid : Prop := Claim7.holds Tryz.pinned (.plain (OpenSpec.upto checkpointSaveSpec)) checkpointSaveUptoCard

/-- THE SECOND FORM's CARD OF 'graphdblaw43.CheckpointTear'. -/
def checkpointTearUptoCard : Claim7 := { stood := { row := checkpointTearUptoRow, standIns := [], harness := (true, "523bdf8639a68e229c94fbfdaa2400de4aeef23c31dd8661b802d5fb61f04651"), looks := true }, kinds := [], alts := [], laidByText := true, laidKinds := [.data], laidTests := true, laidLooks := .later }
def CheckpointTearUptoCardSaid : Prop := Claim7.holds Tryz.pinned (.plain (OpenSpec.upto checkpointTearSpec)) checkpointTearUptoCard
end Rows
end Go.Proofs.YtpbgjcbkhgfmkaaGreatDoor

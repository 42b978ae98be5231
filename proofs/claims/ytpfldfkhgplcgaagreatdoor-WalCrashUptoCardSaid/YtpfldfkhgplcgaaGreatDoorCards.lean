/-
  DERIVED. GIVEN WITH THE SEED: THE CARDS: each row of YtpfldfkhgplcgaaGreatDoorRows.lean that lists a variable, with what it lists TIED to the program's text (the seventh form; the later family's looks); each row that meets fmt, with fmt's text TOLD by the authors' own Lean function (tested against real Go, not proved from fmt's source: count such statements apart). THE CARD IS WHAT COUNTS. Prove the row's statement (the work); the ties are given (YtpfldfkhgplcgaaGreatDoorTie.lean); close each card by the builder's one call (the guide's Derived/Test/ToyasCard.lean, 'card_holds'). Laid BY PROGRAM, IN A SANDBOX (cutbox-door.mjs). By AI agents, Wed Nov 11 2026. No macro, syntax, notation, axiom, sorry.
-/
import Derived.Test.YtpfldfkhgplcgaaGreatDoorRows
import GoSem.ClaimSeven
namespace Go.Proofs.YtpfldfkhgplcgaaGreatDoor
namespace Rows

/-- THE TIED CARD OF 'graphdblaw42.WalFormats'. -/
def walFormatsCard : Claim7 := { stood := { row := walFormatsRow, standIns := [], harness := (true, "698ca76fbf87e5c194a1d0b9c8fe57ea32eab36121bc8f157be10f6b35d2b371"), looks := false }, kinds := [], alts := [], laidByText := true, laidKinds := [.data], laidTests := true, laidLooks := .later }
def WalFormatsCardSaid : Prop := Claim7.holds Tryz.pinned (.plain (OpenSpec.ofChange walFormatsSpec)) walFormatsCard

/-- THE TIED CARD OF 'graphdblaw42.WalAppends'. -/
def walAppendsCard : Claim7 := { stood := { row := walAppendsRow, standIns := [], harness := (true, "698ca76fbf87e5c194a1d0b9c8fe57ea32eab36121bc8f157be10f6b35d2b371"), looks := false }, kinds := [], alts := [], laidByText := true, laidKinds := [.data], laidTests := true, laidLooks := .later }
def WalAppendsCardSaid : Prop := Claim7.holds Tryz.pinned (.plain (OpenSpec.ofChange walAppendsSpec)) walAppendsCard

/-- THE TIED CARD OF 'graphdblaw42.WalScans'. -/
def walScansCard : Claim7 := { stood := { row := walScansRow, standIns := [], harness := (true, "698ca76fbf87e5c194a1d0b9c8fe57ea32eab36121bc8f157be10f6b35d2b371"), looks := false }, kinds := [], alts := [], laidByText := true, laidKinds := [.data], laidTests := true, laidLooks := .later }
def WalScansCardSaid : Prop := Claim7.holds Tryz.pinned (.plain (OpenSpec.ofChange walScansSpec)) walScansCard

/-- THE TIED CARD OF 'graphdblaw42.WalBack'. -/
def walBackCard : Claim7 := { stood := { row := walBackRow, standIns := [], harness := (true, "698ca76fbf87e5c194a1d0b9c8fe57ea32eab36121bc8f157be10f6b35d2b371"), looks := false }, kinds := [], alts := [], laidByText := true, laidKinds := [.data], laidTests := true, laidLooks := .later }
def WalBackCardSaid : Prop := Claim7.holds Tryz.pinned (.plain (OpenSpec.ofChange walBackSpec)) walBackCard

/-- THE TIED CARD OF 'graphdblaw42.WalRoom'. -/
def walRoomCard : Claim7 := { stood := { row := walRoomRow, standIns := [], harness := (true, "698ca76fbf87e5c194a1d0b9c8fe57ea32eab36121bc8f157be10f6b35d2b371"), looks := false }, kinds := [], alts := [], laidByText := true, laidKinds := [.data], laidTests := true, laidLooks := .later }
def WalRoomCardSaid : Prop := Claim7.holds Tryz.pinned (.plain (OpenSpec.ofChange walRoomSpec)) walRoomCard

/-- THE TIED CARD OF 'graphdblaw42.WalCrash'. -/
def walCrashCard : Claim7 := { stood := { row := walCrashRow, standIns := [], harness := (true, "698ca76fbf87e5c194a1d0b9c8fe57ea32eab36121bc8f157be10f6b35d2b371"), looks := false }, kinds := [], alts := [], laidByText := true, laidKinds := [.data], laidTests := true, laidLooks := .later }
def WalCrashCardSaid : Prop := Claim7.holds Tryz.pinned (.plain (OpenSpec.ofChange walCrashSpec)) walCrashCard

/-- THE SECOND FORM's CARD OF 'graphdblaw42.WalFormats'. -/
def walFormatsUptoCard : Claim7 := { stood := { row := walFormatsUptoRow, standIns := [], harness := (true, "698ca76fbf87e5c194a1d0b9c8fe57ea32eab36121bc8f157be10f6b35d2b371"), looks := false }, kinds := [], alts := [], laidByText := true, laidKinds := [.data], laidTests := true, laidLooks := .later }
def WalFormatsUptoCardSaid : Prop := Claim7.holds Tryz.pinned (.plain (OpenSpec.upto walFormatsSpec)) walFormatsUptoCard

/-- THE SECOND FORM's CARD OF 'graphdblaw42.WalAppends'. -/
def walAppendsUptoCard : Claim7 := { stood := { row := walAppendsUptoRow, standIns := [], harness := (true, "698ca76fbf87e5c194a1d0b9c8fe57ea32eab36121bc8f157be10f6b35d2b371"), looks := false }, kinds := [], alts := [], laidByText := true, laidKinds := [.data], laidTests := true, laidLooks := .later }
def WalAppendsUptoCardSaid : Prop := Claim7.holds Tryz.pinned (.plain (OpenSpec.upto walAppendsSpec)) walAppendsUptoCard

/-- THE SECOND FORM's CARD OF 'graphdblaw42.WalScans'. -/
def walScansUptoCard : Claim7 := { stood := { row := walScansUptoRow, standIns := [], harness := (true, "698ca76fbf87e5c194a1d0b9c8fe57ea32eab36121bc8f157be10f6b35d2b371"), looks := false }, kinds := [], alts := [], laidByText := true, laidKinds := [.data], laidTests := true, laidLooks := .later }
def WalScansUptoCardSaid : Prop := Claim7.holds Tryz.pinned (.plain (OpenSpec.upto walScansSpec)) walScansUptoCard

/-- THE SECOND FORM's CARD OF 'graphdblaw42.WalBack'. -/
def walBackUptoCard : Claim7 := { stood := { row := walBackUptoRow, standIns := [], harness := (true, "698ca76fbf87e5c194a1d0b9c8fe57ea32eab36121bc8f157be10f6b35d2b371"), looks := false }, kinds := [], alts := [], laidByText := true, laidKinds := [.data], laidTests := true, laidLooks := .later }
def WalBackUptoCardSaid : Prop := Claim7.holds Tryz.pinned (.plain (OpenSpec.upto walBackSpec)) walBackUptoCard

/-- THE SECOND FORM's CARD OF 'graphdblaw42.WalRoom'. -/
def walRoomUptoCard : Claim7 := { stood := { row := walRoomUptoRow, standIns := [], harness := (true, "698ca76fbf87e5c194a1d0b9c8fe57ea32eab36121bc8f157be10f6b35d2b371"), looks := false }, kinds := [], alts := [], laidByText := true, laidKinds := [.data], laidTests := true, laidLooks := .later }
def WalRoomUptoCardSaid : Prop := Claim7.holds Tryz.pinned (.plain (OpenSpec.upto walRoomSpec)) walRoomUptoCard

/-- THE SECOND FORM's CARD OF 'graphdblaw42.WalCrash'. -/
def walCrashUptoCard : Claim7 := { stood := { row := walCrashUptoRow, standIns := [], harness := (true, "698ca76fbf87e5c194a1d0b9c8fe57ea32eab36121bc8f157be10f6b35d2b371"), looks := false }, kinds := [], alts := [], laidByText := true, laidKinds := [.data], laidTests := true, laidLooks := .later }
def WalCrashUptoCardSaid : Prop := Claim7.holds Tryz.pinned (.plain (OpenSpec.upto walCrashSpec)) walCrashUptoCard
end Rows
end Go.Proofs.YtpfldfkhgplcgaaGreatDoor

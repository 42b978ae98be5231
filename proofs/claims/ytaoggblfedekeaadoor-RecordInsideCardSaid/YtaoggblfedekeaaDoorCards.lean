/-
  DERIVED. GIVEN WITH THE SEED: THE CARDS: each row of YtaoggblfedekeaaDoorRows.lean that lists a variable, with what it lists TIED to the program's text (the seventh form; the later family's looks); each row that meets fmt, with fmt's text TOLD by the authors' own Lean function (tested against real Go, not proved from fmt's source: count such statements apart). THE CARD IS WHAT COUNTS. Prove the row's statement (the work); the ties are given (YtaoggblfedekeaaDoorTie.lean); close each card by the builder's one call (the guide's Derived/Test/ToyasCard.lean, 'card_holds'). Laid BY PROGRAM, IN A SANDBOX (cutbox-door.mjs). By AI agents, Wed Nov 11 2026. No macro, syntax, notation, axiom, sorry.
-/
import Derived.Test.YtaoggblfedekeaaDoorRows
import GoSem.ClaimSeven
namespace Go.Proofs.YtaoggblfedekeaaDoor
namespace Rows

/-- THE TIED CARD OF 'graphdblaw41.RecordOnly'. -/
def recordOnlyCard : Claim7 := { stood := { row := recordOnlyRow, standIns := [], harness := (true, "936392cf1f9814d8d0ed1a26a9796420de56f967ac4acf7467f3ab1dfd43a480"), looks := false }, kinds := [], alts := [], laidByText := true, laidKinds := [.data], laidTests := true, laidLooks := .later }
def RecordOnlyCardSaid : Prop := Claim7.holds Tryd.pinned (.plain (OpenSpec.ofChange recordOnlySpec)) recordOnlyCard

/-- THE TIED CARD OF 'graphdblaw41.RecordInside'. -/
def recordInsideCard : Claim7 := { stood := { row := recordInsideRow, standIns := [], harness := (true, "936392cf1f9814d8d0ed1a26a9796420de56f967ac4acf7467f3ab1dfd43a480"), looks := false }, kinds := [], alts := [], laidByText := true, laidKinds := [.data], laidTests := true, laidLooks := .later }
def RecordInsideCardSaid : Prop := Claim7.holds Tryd.pinned (.plain (OpenSpec.ofChange recordInsideSpec)) recordInsideCard

/-- THE SECOND FORM's CARD OF 'graphdblaw41.RecordOnly'. -/
def recordOnlyUptoCard : Claim7 := { stood := { row := recordOnlyUptoRow, standIns := [], harness := (true, "936392cf1f9814d8d0ed1a26a9796420de56f967ac4acf7467f3ab1dfd43a480"), looks := false }, kinds := [], alts := [], laidByText := true, laidKinds := [.data], laidTests := true, laidLooks := .later }
def RecordOnlyUptoCardSaid : Prop := Claim7.holds Tryd.pinned (.plain (OpenSpec.upto recordOnlySpec)) recordOnlyUptoCard

/-- THE SECOND FORM's CARD OF 'graphdblaw41.RecordInside'. -/
def recordInsideUptoCard : Claim7 := { stood := { row := recordInsideUptoRow, standIns := [], harness := (true, "936392cf1f9814d8d0ed1a26a9796420de56f967ac4acf7467f3ab1dfd43a480"), looks := false }, kinds := [], alts := [], laidByText := true, laidKinds := [.data], laidTests := true, laidLooks := .later }
def RecordInsideUptoCardSaid : Prop := Claim7.holds Tryd.pinned (.plain (OpenSpec.upto recordInsideSpec)) recordInsideUptoCard
end Rows
end Go.Proofs.YtaoggblfedekeaaDoor

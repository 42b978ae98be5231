/-
  DERIVED. GIVEN WITH THE SEED: THE CARDS: each row of YtonekjkmnhfjmaaGreatDoorRows.lean that lists a variable, with what it lists TIED to the program's text (the seventh form; the later family's looks); each row that meets fmt, with fmt's text TOLD by the authors' own Lean function (tested against real Go, not proved from fmt's source: count such statements apart). THE CARD IS WHAT COUNTS. Prove the row's statement (the work); the ties are given (YtonekjkmnhfjmaaGreatDoorTie.lean); close each card by the builder's one call (the guide's Derived/Test/ToyasCard.lean, 'card_holds'). Laid BY PROGRAM, IN A SANDBOX (cutbox-door.mjs). By AI agents, Wed Nov 11 2026. No macro, syntax, notation, axiom, sorry.
-/
import Derived.Test.YtonekjkmnhfjmaaGreatDoorRows
import GoSem.ClaimSeven
namespace Go.Proofs.YtonekjkmnhfjmaaGreatDoor
namespace Rows

/-- THE TIED CARD OF 'graphdblaw44.VersionChecks'. -/
def versionChecksCard : Claim7 := { stood := { row := versionChecksRow, standIns := [], harness := (true, "ebc1ece64db3817e5f08981e19b5884a2777b9abd390dfe3bfee4e78366b0eba"), looks := true }, kinds := [], alts := [], laidByText := true, laidKinds := [.data], laidTests := true, laidLooks := .later }
def VersionChecksCardSaid : Prop := Claim7.holds Tryz.pinned (.plain (OpenSpec.ofChange versionChecksSpec)) versionChecksCard

/-- THE TIED CARD OF 'graphdblaw44.VersionPrunes'. -/
def versionPrunesCard : Claim7 := { stood := { row := versionPrunesRow, standIns := [], harness := (true, "ebc1ece64db3817e5f08981e19b5884a2777b9abd390dfe3bfee4e78366b0eba"), looks := true }, kinds := [], alts := [], laidByText := true, laidKinds := [.data], laidTests := true, laidLooks := .later }
def VersionPrunesCardSaid : Prop := Claim7.holds Tryz.pinned (.plain (OpenSpec.ofChange versionPrunesSpec)) versionPrunesCard

/-- THE TIED CARD OF 'graphdblaw44.VersionCommits'. -/
def versionCommitsCard : Claim7 := { stood := { row := versionCommitsRow, standIns := [], harness := (true, "ebc1ece64db3817e5f08981e19b5884a2777b9abd390dfe3bfee4e78366b0eba"), looks := true }, kinds := [], alts := [], laidByText := true, laidKinds := [.data], laidTests := true, laidLooks := .later }
def VersionCommitsCardSaid : Prop := Claim7.holds Tryz.pinned (.plain (OpenSpec.ofChange versionCommitsSpec)) versionCommitsCard

/-- THE TIED CARD OF 'graphdblaw44.VersionMoves'. -/
def versionMovesCard : Claim7 := { stood := { row := versionMovesRow, standIns := [], harness := (true, "ebc1ece64db3817e5f08981e19b5884a2777b9abd390dfe3bfee4e78366b0eba"), looks := true }, kinds := [], alts := [], laidByText := true, laidKinds := [.data], laidTests := true, laidLooks := .later }
def VersionMovesCardSaid : Prop := Claim7.holds Tryz.pinned (.plain (OpenSpec.ofChange versionMovesSpec)) versionMovesCard

/-- THE TIED CARD OF 'graphdblaw44.VersionChains'. -/
def versionChainsCard : Claim7 := { stood := { row := versionChainsRow, standIns := [], harness := (true, "ebc1ece64db3817e5f08981e19b5884a2777b9abd390dfe3bfee4e78366b0eba"), looks := true }, kinds := [], alts := [], laidByText := true, laidKinds := [.data], laidTests := true, laidLooks := .later }
def VersionChainsCardSaid : Prop := Claim7.holds Tryz.pinned (.plain (OpenSpec.ofChange versionChainsSpec)) versionChainsCard

/-- THE TIED CARD OF 'graphdblaw10.VerifyAfter'. -/
def verifyAfterCard : Claim7 := { stood := { row := verifyAfterRow, standIns := [], harness := (true, "ebc1ece64db3817e5f08981e19b5884a2777b9abd390dfe3bfee4e78366b0eba"), looks := true }, kinds := [], alts := [], laidByText := true, laidKinds := [.data], laidTests := true, laidLooks := .later }
def VerifyAfterCardSaid : Prop := Claim7.holds Tryz.pinned (.plain (OpenSpec.ofChange verifyAfterSpec)) verifyAfterCard

/-- THE TIED CARD OF 'graphdblaw53.BackupOnto'. -/
def backupOntoCard : Claim7 := { stood := { row := backupOntoRow, standIns := [], harness := (true, "ebc1ece64db3817e5f08981e19b5884a2777b9abd390dfe3bfee4e78366b0eba"), looks := true }, kinds := [], alts := [], laidByText := true, laidKinds := [.data], laidTests := true, laidLooks := .later }
def BackupOntoCardSaid : Prop := Claim7.holds Tryz.pinned (.plain (OpenSpec.ofChange backupOntoSpec)) backupOntoCard

/-- THE TIED CARD OF 'graphdblaw53.BackupSince'. -/
def backupSinceCard : Claim7 := { stood := { row := backupSinceRow, standIns := [], harness := (true, "ebc1ece64db3817e5f08981e19b5884a2777b9abd390dfe3bfee4e78366b0eba"), looks := true }, kinds := [], alts := [], laidByText := true, laidKinds := [.data], laidTests := true, laidLooks := .later }
def BackupSinceCardSaid : Prop := Claim7.holds Tryz.pinned (.plain (OpenSpec.ofChange backupSinceSpec)) backupSinceCard

/-- THE TIED CARD OF 'graphdblaw53.BackupChains'. -/
def backupChainsCard : Claim7 := { stood := { row := backupChainsRow, standIns := [], harness := (true, "ebc1ece64db3817e5f08981e19b5884a2777b9abd390dfe3bfee4e78366b0eba"), looks := true }, kinds := [], alts := [], laidByText := true, laidKinds := [.data], laidTests := true, laidLooks := .later }
def BackupChainsCardSaid : Prop := Claim7.holds Tryz.pinned (.plain (OpenSpec.ofChange backupChainsSpec)) backupChainsCard

/-- THE SECOND FORM's CARD OF 'graphdblaw44.VersionChecks'. -/
def versionChecksUptoCard : Claim7 := { stood := { row := versionChecksUptoRow, standIns := [], harness := (true, "ebc1ece64db3817e5f08981e19b5884a2777b9abd390dfe3bfee4e78366b0eba"), looks := true }, kinds := [], alts := [], laidByText := true, laidKinds := [.data], laidTests := true, laidLooks := .later }
def VersionChecksUptoCardSaid : Prop := Claim7.holds Tryz.pinned (.plain (OpenSpec.upto versionChecksSpec)) versionChecksUptoCard

/-- THE SECOND FORM's CARD OF 'graphdblaw44.VersionPrunes'. -/
def versionPrunesUptoCard : Claim7 := { stood := { row := versionPrunesUptoRow, standIns := [], harness := (true, "ebc1ece64db3817e5f08981e19b5884a2777b9abd390dfe3bfee4e78366b0eba"), looks := true }, kinds := [], alts := [], laidByText := true, laidKinds := [.data], laidTests := true, laidLooks := .later }
def VersionPrunesUptoCardSaid : Prop := Claim7.holds Tryz.pinned (.plain (OpenSpec.upto versionPrunesSpec)) versionPrunesUptoCard

/-- THE SECOND FORM's CARD OF 'graphdblaw44.VersionCommits'. -/
def versionCommitsUptoCard : Claim7 := { stood := { row := versionCommitsUptoRow, standIns := [], harness := (true, "ebc1ece64db3817e5f08981e19b5884a2777b9abd390dfe3bfee4e78366b0eba"), looks := true }, kinds := [], alts := [], laidByText := true, laidKinds := [.data], laidTests := true, laidLooks := .later }
def VersionCommitsUptoCardSaid : Prop := Claim7.holds Tryz.pinned (.plain (OpenSpec.upto versionCommitsSpec)) versionCommitsUptoCard

/-- THE SECOND FORM's CARD OF 'graphdblaw44.VersionMoves'. -/
def versionMovesUptoCard : Claim7 := { stood := { row := versionMovesUptoRow, standIns := [], harness := (true, "ebc1ece64db3817e5f08981e19b5884a2777b9abd390dfe3bfee4e78366b0eba"), looks := true }, kinds := [], alts := [], laidByText := true, laidKinds := [.data], laidTests := true, laidLooks := .later }
def VersionMovesUptoCardSaid : Prop := Claim7.holds Tryz.pinned (.plain (OpenSpec.upto versionMovesSpec)) versionMovesUptoCard

/-- THE SECOND FORM's CARD OF 'graphdblaw44.VersionChains'. -/
def versionChainsUptoCard : Claim7 := { stood := { row := versionChainsUptoRow, standIns := [], harness := (true, "ebc1ece64db3817e5f08981e19b5884a2777b9abd390dfe3bfee4e78366b0eba"), looks := true }, kinds := [], alts := [], laidByText := true, laidKinds := [.data], laidTests := true, laidLooks := .later }
def VersionChainsUptoCardSaid : Prop := Claim7.holds Tryz.pinned (.plain (OpenSpec.upto versionChainsSpec)) versionChainsUptoCard

/-- THE SECOND FORM's CARD OF 'graphdblaw10.VerifyAfter'. -/
def verifyAfterUptoCard : Claim7 := { stood := { row := verifyAfterUptoRow, standIns := [], harness := (true, "ebc1ece64db3817e5f08981e19b5884a2777b9abd390dfe3bfee4e78366b0eba"), looks := true }, kinds := [], alts := [], laidByText := true, laidKinds := [.data], laidTests := true, laidLooks := .later }
def VerifyAfterUptoCardSaid : Prop := Claim7.holds Tryz.pinned (.plain (OpenSpec.upto verifyAfterSpec)) verifyAfterUptoCard

/-- THE SECOND FORM's CARD OF 'graphdblaw53.BackupOnto'. -/
def backupOntoUptoCard : Claim7 := { stood := { row := backupOntoUptoRow, standIns := [], harness := (true, "ebc1ece64db3817e5f08981e19b5884a2777b9abd390dfe3bfee4e78366b0eba"), looks := true }, kinds := [], alts := [], laidByText := true, laidKinds := [.data], laidTests := true, laidLooks := .later }
def BackupOntoUptoCardSaid : Prop := Claim7.holds Tryz.pinned (.plain (OpenSpec.upto backupOntoSpec)) backupOntoUptoCard

/-- THE SECOND FORM's CARD OF 'graphdblaw53.BackupSince'. -/
def backupSinceUptoCard : Claim7 := { stood := { row := backupSinceUptoRow, standIns := [], harness := (true, "ebc1ece64db3817e5f08981e19b5884a2777b9abd390dfe3bfee4e78366b0eba"), looks := true }, kinds := [], alts := [], laidByText := true, laidKinds := [.data], laidTests := true, laidLooks := .later }
def BackupSinceUptoCardSaid : Prop := Claim7.holds Tryz.pinned (.plain (OpenSpec.upto backupSinceSpec)) backupSinceUptoCard

/-- THE SECOND FORM's CARD OF 'graphdblaw53.BackupChains'. -/
def backupChainsUptoCard : Claim7 := { stood := { row := backupChainsUptoRow, standIns := [], harness := (true, "ebc1ece64db3817e5f08981e19b5884a2777b9abd390dfe3bfee4e78366b0eba"), looks := true }, kinds := [], alts := [], laidByText := true, laidKinds := [.data], laidTests := true, laidLooks := .later }
def BackupChainsUptoCardSaid : Prop := Claim7.holds Tryz.pinned (.plain (OpenSpec.upto backupChainsSpec)) backupChainsUptoCard
end Rows
end Go.Proofs.YtonekjkmnhfjmaaGreatDoor

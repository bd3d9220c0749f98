/-
  DERIVED. GIVEN WITH THE SEED: THE CARDS: each row of YtpkdgmcfojjfjaaGreatDoorRows.lean that lists a variable, with what it lists TIED to the program's text (the seventh form; the later family's looks); each row that meets fmt, with fmt's text TOLD by the authors' own Lean function (tested against real Go, not proved from fmt's source: count such statements apart). THE CARD IS WHAT COUNTS. Prove the row's statement (the work); the ties are given (YtpkdgmcfojjfjaaGreatDoorTie.lean); close each card by the builder's one call (the guide's Derived/Test/ToyasCard.lean, 'card_holds'). Laid BY PROGRAM, IN A SANDBOX (cutbox-door.mjs). By AI agents, Wed Nov 11 2026. No macro, syntax, notation, axiom, sorry.
-/
import Derived.Test.YtpkdgmcfojjfjaaGreatDoorRows
import GoSem.ClaimSeven
namespace Go.Proofs.YtpkdgmcfojjfjaaGreatDoor
namespace Rows

/-- THE TIED CARD OF 'tocsinlaw10.ExprWhole'. -/
def exprWholeCard : Claim7 := { stood := { row := exprWholeRow, standIns := [], harness := (true, "fde039e8609e075c077b02e71ea27212d217c09f785cf624176f93ecc920fa71"), looks := true }, kinds := [], alts := [], laidByText := true, laidKinds := [.data, .data, .data, .data, .sentinel, .sentinel, .pinned], laidTests := true, laidLooks := .later }
def ExprWholeCardSaid : Prop := Claim7.holds Tryz.pinned (.plain (OpenSpec.ofChange exprWholeSpec)) exprWholeCard

/-- THE TIED CARD OF 'tocsinlaw10.ExprRound'. -/
def exprRoundCard : Claim7 := { stood := { row := exprRoundRow, standIns := [], harness := (true, "fde039e8609e075c077b02e71ea27212d217c09f785cf624176f93ecc920fa71"), looks := true }, kinds := [], alts := [], laidByText := true, laidKinds := [.data, .data, .data, .data, .sentinel, .sentinel, .pinned], laidTests := true, laidLooks := .later }
def ExprRoundCardSaid : Prop := Claim7.holds Tryz.pinned (.plain (OpenSpec.ofChange exprRoundSpec)) exprRoundCard

/-- THE TIED CARD OF 'tocsinlaw10.ExprPairs'. -/
def exprPairsCard : Claim7 := { stood := { row := exprPairsRow, standIns := [], harness := (true, "fde039e8609e075c077b02e71ea27212d217c09f785cf624176f93ecc920fa71"), looks := true }, kinds := [], alts := [], laidByText := true, laidKinds := [.data, .data, .data, .data, .sentinel, .sentinel, .pinned], laidTests := true, laidLooks := .later }
def ExprPairsCardSaid : Prop := Claim7.holds Tryz.pinned (.plain (OpenSpec.ofChange exprPairsSpec)) exprPairsCard

/-- THE TIED CARD OF 'tocsinlaw10.ExprBack'. -/
def exprBackCard : Claim7 := { stood := { row := exprBackRow, standIns := [], harness := (true, "fde039e8609e075c077b02e71ea27212d217c09f785cf624176f93ecc920fa71"), looks := true }, kinds := [], alts := [], laidByText := true, laidKinds := [.data, .data, .data, .data, .sentinel, .sentinel, .pinned], laidTests := true, laidLooks := .later }
def ExprBackCardSaid : Prop := Claim7.holds Tryz.pinned (.plain (OpenSpec.ofChange exprBackSpec)) exprBackCard

/-- THE TIED CARD OF 'tocsinlaw14.FingerSame'. -/
def fingerSameCard : Claim7 := { stood := { row := fingerSameRow, standIns := [], harness := (true, "fde039e8609e075c077b02e71ea27212d217c09f785cf624176f93ecc920fa71"), looks := true }, kinds := [], alts := [], laidByText := true, laidKinds := [.data, .data, .data, .data, .sentinel, .sentinel, .pinned], laidTests := true, laidLooks := .later }
def FingerSameCardSaid : Prop := Claim7.holds Tryz.pinned (.plain (OpenSpec.ofChange fingerSameSpec)) fingerSameCard

/-- THE TIED CARD OF 'tocsinlaw14.FingerUnlike'. -/
def fingerUnlikeCard : Claim7 := { stood := { row := fingerUnlikeRow, standIns := [], harness := (true, "fde039e8609e075c077b02e71ea27212d217c09f785cf624176f93ecc920fa71"), looks := true }, kinds := [], alts := [], laidByText := true, laidKinds := [.data, .data, .data, .data, .sentinel, .sentinel, .pinned], laidTests := true, laidLooks := .later }
def FingerUnlikeCardSaid : Prop := Claim7.holds Tryz.pinned (.plain (OpenSpec.ofChange fingerUnlikeSpec)) fingerUnlikeCard

/-- THE TIED CARD OF 'tocsinlaw14.FingerText'. -/
def fingerTextCard : Claim7 := { stood := { row := fingerTextRow, standIns := [], harness := (true, "fde039e8609e075c077b02e71ea27212d217c09f785cf624176f93ecc920fa71"), looks := true }, kinds := [], alts := [], laidByText := true, laidKinds := [.data, .data, .data, .data, .sentinel, .sentinel, .pinned], laidTests := true, laidLooks := .later }
def FingerTextCardSaid : Prop := Claim7.holds Tryz.pinned (.plain (OpenSpec.ofChange fingerTextSpec)) fingerTextCard

/-- THE TIED CARD OF 'tocsinlaw14.FingerTwo'. -/
def fingerTwoCard : Claim7 := { stood := { row := fingerTwoRow, standIns := [], harness := (true, "fde039e8609e075c077b02e71ea27212d217c09f785cf624176f93ecc920fa71"), looks := true }, kinds := [], alts := [], laidByText := true, laidKinds := [.data, .data, .data, .data, .sentinel, .sentinel, .pinned], laidTests := true, laidLooks := .later }
def FingerTwoCardSaid : Prop := Claim7.holds Tryz.pinned (.plain (OpenSpec.ofChange fingerTwoSpec)) fingerTwoCard

/-- THE TIED CARD OF 'tocsinlaw10.ExprPrints'. -/
def exprPrintsCard : Claim7 := { stood := { row := exprPrintsRow, standIns := [], harness := (true, "fde039e8609e075c077b02e71ea27212d217c09f785cf624176f93ecc920fa71"), looks := true }, kinds := [], alts := [], laidByText := true, laidKinds := [.data, .data, .data, .data, .pinned], laidTests := true, laidLooks := .later }
def ExprPrintsCardSaid : Prop := Claim7.holds Tryz.pinned (.plain (OpenSpec.ofChange exprPrintsSpec)) exprPrintsCard

/-- THE TIED CARD OF 'tocsinlaw14.FingerAll'. -/
def fingerAllCard : Claim7 := { stood := { row := fingerAllRow, standIns := [], harness := (true, "fde039e8609e075c077b02e71ea27212d217c09f785cf624176f93ecc920fa71"), looks := true }, kinds := [], alts := [], laidByText := true, laidKinds := [.data, .data, .data, .data, .pinned], laidTests := true, laidLooks := .later }
def FingerAllCardSaid : Prop := Claim7.holds Tryz.pinned (.plain (OpenSpec.ofChange fingerAllSpec)) fingerAllCard

/-- THE TIED CARD OF 'tocsinlaw10.ExprFrom'. -/
def exprFromCard : Claim7 := { stood := { row := exprFromRow, standIns := [], harness := (true, "fde039e8609e075c077b02e71ea27212d217c09f785cf624176f93ecc920fa71"), looks := true }, kinds := [], alts := [], laidByText := true, laidKinds := [.data, .data, .data, .sentinel, .sentinel], laidTests := true, laidLooks := .later }
def ExprFromCardSaid : Prop := Claim7.holds Tryz.pinned (.plain (OpenSpec.ofChange exprFromSpec)) exprFromCard

/-- THE TIED CARD OF 'tocsinlaw10.ExprReads'. -/
def exprReadsCard : Claim7 := { stood := { row := exprReadsRow, standIns := [], harness := (true, "fde039e8609e075c077b02e71ea27212d217c09f785cf624176f93ecc920fa71"), looks := true }, kinds := [], alts := [], laidByText := true, laidKinds := [.data, .data, .data, .sentinel, .sentinel], laidTests := true, laidLooks := .later }
def ExprReadsCardSaid : Prop := Claim7.holds Tryz.pinned (.plain (OpenSpec.ofChange exprReadsSpec)) exprReadsCard

/-- THE SECOND FORM's CARD OF 'tocsinlaw10.ExprWhole'. -/
def exprWholeUptoCard : Claim7 := { stood := { row := exprWholeUptoRow, standIns := [], harness := (true, "fde039e8609e075c077b02e71ea27212d217c09f785cf624176f93ecc920fa71"), looks := true }, kinds := [], alts := [], laidByText := true, laidKinds := [.data, .data, .data, .data, .sentinel, .sentinel, .pinned], laidTests := true, laidLooks := .later }
def ExprWholeUptoCardSaid : Prop := Claim7.holds Tryz.pinned (.plain (OpenSpec.upto exprWholeSpec)) exprWholeUptoCard

/-- THE SECOND FORM's CARD OF 'tocsinlaw10.ExprRound'. -/
def exprRoundUptoCard : Claim7 := { stood := { row := exprRoundUptoRow, standIns := [], harness := (true, "fde039e8609e075c077b02e71ea27212d217c09f785cf624176f93ecc920fa71"), looks := true }, kinds := [], alts := [], laidByText := true, laidKinds := [.data, .data, .data, .data, .sentinel, .sentinel, .pinned], laidTests := true, laidLooks := .later }
def ExprRoundUptoCardSaid : Prop := Claim7.holds Tryz.pinned (.plain (OpenSpec.upto exprRoundSpec)) exprRoundUptoCard

/-- THE SECOND FORM's CARD OF 'tocsinlaw10.ExprPairs'. -/
def exprPairsUptoCard : Claim7 := { stood := { row := exprPairsUptoRow, standIns := [], harness := (true, "fde039e8609e075c077b02e71ea27212d217c09f785cf624176f93ecc920fa71"), looks := true }, kinds := [], alts := [], laidByText := true, laidKinds := [.data, .data, .data, .data, .sentinel, .sentinel, .pinned], laidTests := true, laidLooks := .later }
def ExprPairsUptoCardSaid : Prop := Claim7.holds Tryz.pinned (.plain (OpenSpec.upto exprPairsSpec)) exprPairsUptoCard

/-- THE SECOND FORM's CARD OF 'tocsinlaw10.ExprBack'. -/
def exprBackUptoCard : Claim7 := { stood := { row := exprBackUptoRow, standIns := [], harness := (true, "fde039e8609e075c077b02e71ea27212d217c09f785cf624176f93ecc920fa71"), looks := true }, kinds := [], alts := [], laidByText := true, laidKinds := [.data, .data, .data, .data, .sentinel, .sentinel, .pinned], laidTests := true, laidLooks := .later }
def ExprBackUptoCardSaid : Prop := Claim7.holds Tryz.pinned (.plain (OpenSpec.upto exprBackSpec)) exprBackUptoCard

/-- THE SECOND FORM's CARD OF 'tocsinlaw14.FingerSame'. -/
def fingerSameUptoCard : Claim7 := { stood := { row := fingerSameUptoRow, standIns := [], harness := (true, "fde039e8609e075c077b02e71ea27212d217c09f785cf624176f93ecc920fa71"), looks := true }, kinds := [], alts := [], laidByText := true, laidKinds := [.data, .data, .data, .data, .sentinel, .sentinel, .pinned], laidTests := true, laidLooks := .later }
def FingerSameUptoCardSaid : Prop := Claim7.holds Tryz.pinned (.plain (OpenSpec.upto fingerSameSpec)) fingerSameUptoCard

/-- THE SECOND FORM's CARD OF 'tocsinlaw14.FingerUnlike'. -/
def fingerUnlikeUptoCard : Claim7 := { stood := { row := fingerUnlikeUptoRow, standIns := [], harness := (true, "fde039e8609e075c077b02e71ea27212d217c09f785cf624176f93ecc920fa71"), looks := true }, kinds := [], alts := [], laidByText := true, laidKinds := [.data, .data, .data, .data, .sentinel, .sentinel, .pinned], laidTests := true, laidLooks := .later }
def FingerUnlikeUptoCardSaid : Prop := Claim7.holds Tryz.pinned (.plain (OpenSpec.upto fingerUnlikeSpec)) fingerUnlikeUptoCard

/-- THE SECOND FORM's CARD OF 'tocsinlaw14.FingerText'. -/
def fingerTextUptoCard : Claim7 := { stood := { row := fingerTextUptoRow, standIns := [], harness := (true, "fde039e8609e075c077b02e71ea27212d217c09f785cf624176f93ecc920fa71"), looks := true }, kinds := [], alts := [], laidByText := true, laidKinds := [.data, .data, .data, .data, .sentinel, .sentinel, .pinned], laidTests := true, laidLooks := .later }
def FingerTextUptoCardSaid : Prop := Claim7.holds Tryz.pinned (.plain (OpenSpec.upto fingerTextSpec)) fingerTextUptoCard

/-- THE SECOND FORM's CARD OF 'tocsinlaw14.FingerTwo'. -/
def fingerTwoUptoCard : Claim7 := { stood := { row := fingerTwoUptoRow, standIns := [], harness := (true, "fde039e8609e075c077b02e71ea27212d217c09f785cf624176f93ecc920fa71"), looks := true }, kinds := [], alts := [], laidByText := true, laidKinds := [.data, .data, .data, .data, .sentinel, .sentinel, .pinned], laidTests := true, laidLooks := .later }
def FingerTwoUptoCardSaid : Prop := Claim7.holds Tryz.pinned (.plain (OpenSpec.upto fingerTwoSpec)) fingerTwoUptoCard

/-- THE SECOND FORM's CARD OF 'tocsinlaw10.ExprPrints'. -/
def exprPrintsUptoCard : Claim7 := { stood := { row := exprPrintsUptoRow, standIns := [], harness := (true, "fde039e8609e075c077b02e71ea27212d217c09f785cf624176f93ecc920fa71"), looks := true }, kinds := [], alts := [], laidByText := true, laidKinds := [.data, .data, .data, .data, .pinned], laidTests := true, laidLooks := .later }
def ExprPrintsUptoCardSaid : Prop := Claim7.holds Tryz.pinned (.plain (OpenSpec.upto exprPrintsSpec)) exprPrintsUptoCard

/-- THE SECOND FORM's CARD OF 'tocsinlaw14.FingerAll'. -/
def fingerAllUptoCard : Claim7 := { stood := { row := fingerAllUptoRow, standIns := [], harness := (true, "fde039e8609e075c077b02e71ea27212d217c09f785cf624176f93ecc920fa71"), looks := true }, kinds := [], alts := [], laidByText := true, laidKinds := [.data, .data, .data, .data, .pinned], laidTests := true, laidLooks := .later }
def FingerAllUptoCardSaid : Prop := Claim7.holds Tryz.pinned (.plain (OpenSpec.upto fingerAllSpec)) fingerAllUptoCard

/-- THE SECOND FORM's CARD OF 'tocsinlaw10.ExprFrom'. -/
def exprFromUptoCard : Claim7 := { stood := { row := exprFromUptoRow, standIns := [], harness := (true, "fde039e8609e075c077b02e71ea27212d217c09f785cf624176f93ecc920fa71"), looks := true }, kinds := [], alts := [], laidByText := true, laidKinds := [.data, .data, .data, .sentinel, .sentinel], laidTests := true, laidLooks := .later }
def ExprFromUptoCardSaid : Prop := Claim7.holds Tryz.pinned (.plain (OpenSpec.upto exprFromSpec)) exprFromUptoCard

/-- THE SECOND FORM's CARD OF 'tocsinlaw10.ExprReads'. -/
def exprReadsUptoCard : Claim7 := { stood := { row := exprReadsUptoRow, standIns := [], harness := (true, "fde039e8609e075c077b02e71ea27212d217c09f785cf624176f93ecc920fa71"), looks := true }, kinds := [], alts := [], laidByText := true, laidKinds := [.data, .data, .data, .sentinel, .sentinel], laidTests := true, laidLooks := .later }
def ExprReadsUptoCardSaid : Prop := Claim7.holds Tryz.pinned (.plain (OpenSpec.upto exprReadsSpec)) exprReadsUptoCard
end Rows
end Go.Proofs.YtpkdgmcfojjfjaaGreatDoor

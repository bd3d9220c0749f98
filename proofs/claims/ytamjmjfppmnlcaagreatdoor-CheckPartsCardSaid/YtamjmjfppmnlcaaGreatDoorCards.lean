/-
  DERIVED. GIVEN WITH THE SEED: THE CARDS: each row of YtamjmjfppmnlcaaGreatDoorRows.lean that lists a variable, with what it lists TIED to the program's text (the seventh form; the later family's looks); each row that meets fmt, with fmt's text TOLD by the authors' own Lean function (tested against real Go, not proved from fmt's source: count such statements apart). THE CARD IS WHAT COUNTS. Prove the row's statement (the work); the ties are given (YtamjmjfppmnlcaaGreatDoorTie.lean); close each card by the builder's one call (the guide's Derived/Test/ToyasCard.lean, 'card_holds'). Laid BY PROGRAM, IN A SANDBOX (cutbox-door.mjs). By AI agents, Wed Nov 11 2026. No macro, syntax, notation, axiom, sorry.
-/
import Derived.Test.YtamjmjfppmnlcaaGreatDoorRows
import GoSem.ClaimSeven
namespace Go.Proofs.YtamjmjfppmnlcaaGreatDoor
namespace Rows

/-- THE TIED CARD OF 'tocsinlaw11.CheckParts'. -/
def checkPartsCard : Claim7 := { stood := { row := checkPartsRow, standIns := [], harness := (true, "9d4ad357cf0155aab3fe8e39d8e1a9f257b9929ab867b31b0d23ebafad23d1ba"), looks := true }, kinds := [], alts := [], laidByText := true, laidKinds := [.data, .data, .data, .sentinel, .sentinel], laidTests := true, laidLooks := .later }
def CheckPartsCardSaid : Prop := Claim7.holds Tryz.pinned (.plain (OpenSpec.ofChange checkPartsSpec)) checkPartsCard

/-- THE TIED CARD OF 'tocsinlaw11.CheckTwice'. -/
def checkTwiceCard : Claim7 := { stood := { row := checkTwiceRow, standIns := [], harness := (true, "9d4ad357cf0155aab3fe8e39d8e1a9f257b9929ab867b31b0d23ebafad23d1ba"), looks := true }, kinds := [], alts := [], laidByText := true, laidKinds := [.data, .data, .data, .sentinel, .sentinel], laidTests := true, laidLooks := .later }
def CheckTwiceCardSaid : Prop := Claim7.holds Tryz.pinned (.plain (OpenSpec.ofChange checkTwiceSpec)) checkTwiceCard

/-- THE TIED CARD OF 'tocsinlaw14.FingerSame'. -/
def fingerSameCard : Claim7 := { stood := { row := fingerSameRow, standIns := [], harness := (true, "9d4ad357cf0155aab3fe8e39d8e1a9f257b9929ab867b31b0d23ebafad23d1ba"), looks := true }, kinds := [], alts := [], laidByText := true, laidKinds := [.data, .data, .data, .data, .sentinel, .sentinel, .pinned], laidTests := true, laidLooks := .later }
def FingerSameCardSaid : Prop := Claim7.holds Tryz.pinned (.plain (OpenSpec.ofChange fingerSameSpec)) fingerSameCard

/-- THE TIED CARD OF 'tocsinlaw14.FingerUnlike'. -/
def fingerUnlikeCard : Claim7 := { stood := { row := fingerUnlikeRow, standIns := [], harness := (true, "9d4ad357cf0155aab3fe8e39d8e1a9f257b9929ab867b31b0d23ebafad23d1ba"), looks := true }, kinds := [], alts := [], laidByText := true, laidKinds := [.data, .data, .data, .data, .sentinel, .sentinel, .pinned], laidTests := true, laidLooks := .later }
def FingerUnlikeCardSaid : Prop := Claim7.holds Tryz.pinned (.plain (OpenSpec.ofChange fingerUnlikeSpec)) fingerUnlikeCard

/-- THE TIED CARD OF 'tocsinlaw14.FingerText'. -/
def fingerTextCard : Claim7 := { stood := { row := fingerTextRow, standIns := [], harness := (true, "9d4ad357cf0155aab3fe8e39d8e1a9f257b9929ab867b31b0d23ebafad23d1ba"), looks := true }, kinds := [], alts := [], laidByText := true, laidKinds := [.data, .data, .data, .data, .sentinel, .sentinel, .pinned], laidTests := true, laidLooks := .later }
def FingerTextCardSaid : Prop := Claim7.holds Tryz.pinned (.plain (OpenSpec.ofChange fingerTextSpec)) fingerTextCard

/-- THE TIED CARD OF 'tocsinlaw14.FingerTwo'. -/
def fingerTwoCard : Claim7 := { stood := { row := fingerTwoRow, standIns := [], harness := (true, "9d4ad357cf0155aab3fe8e39d8e1a9f257b9929ab867b31b0d23ebafad23d1ba"), looks := true }, kinds := [], alts := [], laidByText := true, laidKinds := [.data, .data, .data, .data, .sentinel, .sentinel, .pinned], laidTests := true, laidLooks := .later }
def FingerTwoCardSaid : Prop := Claim7.holds Tryz.pinned (.plain (OpenSpec.ofChange fingerTwoSpec)) fingerTwoCard

/-- THE SECOND FORM's CARD OF 'tocsinlaw11.CheckParts'. -/
def checkPartsUptoCard : Claim7 := { stood := { row := checkPartsUptoRow, standIns := [], harness := (true, "9d4ad357cf0155aab3fe8e39d8e1a9f257b9929ab867b31b0d23ebafad23d1ba"), looks := true }, kinds := [], alts := [], laidByText := true, laidKinds := [.data, .data, .data, .sentinel, .sentinel], laidTests := true, laidLooks := .later }
def CheckPartsUptoCardSaid : Prop := Claim7.holds Tryz.pinned (.plain (OpenSpec.upto checkPartsSpec)) checkPartsUptoCard

/-- THE SECOND FORM's CARD OF 'tocsinlaw11.CheckTwice'. -/
def checkTwiceUptoCard : Claim7 := { stood := { row := checkTwiceUptoRow, standIns := [], harness := (true, "9d4ad357cf0155aab3fe8e39d8e1a9f257b9929ab867b31b0d23ebafad23d1ba"), looks := true }, kinds := [], alts := [], laidByText := true, laidKinds := [.data, .data, .data, .sentinel, .sentinel], laidTests := true, laidLooks := .later }
def CheckTwiceUptoCardSaid : Prop := Claim7.holds Tryz.pinned (.plain (OpenSpec.upto checkTwiceSpec)) checkTwiceUptoCard

/-- THE SECOND FORM's CARD OF 'tocsinlaw14.FingerSame'. -/
def fingerSameUptoCard : Claim7 := { stood := { row := fingerSameUptoRow, standIns := [], harness := (true, "9d4ad357cf0155aab3fe8e39d8e1a9f257b9929ab867b31b0d23ebafad23d1ba"), looks := true }, kinds := [], alts := [], laidByText := true, laidKinds := [.data, .data, .data, .data, .sentinel, .sentinel, .pinned], laidTests := true, laidLooks := .later }
def FingerSameUptoCardSaid : Prop := Claim7.holds Tryz.pinned (.plain (OpenSpec.upto fingerSameSpec)) fingerSameUptoCard

/-- THE SECOND FORM's CARD OF 'tocsinlaw14.FingerUnlike'. -/
def fingerUnlikeUptoCard : Claim7 := { stood := { row := fingerUnlikeUptoRow, standIns := [], harness := (true, "9d4ad357cf0155aab3fe8e39d8e1a9f257b9929ab867b31b0d23ebafad23d1ba"), looks := true }, kinds := [], alts := [], laidByText := true, laidKinds := [.data, .data, .data, .data, .sentinel, .sentinel, .pinned], laidTests := true, laidLooks := .later }
def FingerUnlikeUptoCardSaid : Prop := Claim7.holds Tryz.pinned (.plain (OpenSpec.upto fingerUnlikeSpec)) fingerUnlikeUptoCard

/-- THE SECOND FORM's CARD OF 'tocsinlaw14.FingerText'. -/
def fingerTextUptoCard : Claim7 := { stood := { row := fingerTextUptoRow, standIns := [], harness := (true, "9d4ad357cf0155aab3fe8e39d8e1a9f257b9929ab867b31b0d23ebafad23d1ba"), looks := true }, kinds := [], alts := [], laidByText := true, laidKinds := [.data, .data, .data, .data, .sentinel, .sentinel, .pinned], laidTests := true, laidLooks := .later }
def FingerTextUptoCardSaid : Prop := Claim7.holds Tryz.pinned (.plain (OpenSpec.upto fingerTextSpec)) fingerTextUptoCard

/-- THE SECOND FORM's CARD OF 'tocsinlaw14.FingerTwo'. -/
def fingerTwoUptoCard : Claim7 := { stood := { row := fingerTwoUptoRow, standIns := [], harness := (true, "9d4ad357cf0155aab3fe8e39d8e1a9f257b9929ab867b31b0d23ebafad23d1ba"), looks := true }, kinds := [], alts := [], laidByText := true, laidKinds := [.data, .data, .data, .data, .sentinel, .sentinel, .pinned], laidTests := true, laidLooks := .later }
def FingerTwoUptoCardSaid : Prop := Claim7.holds Tryz.pinned (.plain (OpenSpec.upto fingerTwoSpec)) fingerTwoUptoCard
end Rows
end Go.Proofs.YtamjmjfppmnlcaaGreatDoor

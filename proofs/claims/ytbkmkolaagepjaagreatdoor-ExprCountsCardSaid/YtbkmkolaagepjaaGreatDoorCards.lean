/-
  DERIVED. GIVEN WITH THE SEED: THE CARDS: each row of YtbkmkolaagepjaaGreatDoorRows.lean that lists a variable, with what it lists TIED to the program's text (the seventh form; the later family's looks); each row that meets fmt, with fmt's text TOLD by the authors' own Lean function (tested against real Go, not proved from fmt's source: count such statements apart). THE CARD IS WHAT COUNTS. Prove the row's statement (the work); the ties are given (YtbkmkolaagepjaaGreatDoorTie.lean); close each card by the builder's one call (the guide's Derived/Test/ToyasCard.lean, 'card_holds'). Laid BY PROGRAM, IN A SANDBOX (cutbox-door.mjs). By AI agents, Wed Nov 11 2026. No macro, syntax, notation, axiom, sorry.
-/
import Derived.Test.YtbkmkolaagepjaaGreatDoorRows
import GoSem.ClaimSeven
namespace Go.Proofs.YtbkmkolaagepjaaGreatDoor
namespace Rows

/-- THE TIED CARD OF 'tocsinlaw10.ExprWhole'. -/
def exprWholeCard : Claim7 := { stood := { row := exprWholeRow, standIns := [], harness := (true, "835127bd9a3781ec729651f9db63f07315c9e2e8d065f7be212c22ab11bea1c5"), looks := true }, kinds := [], alts := [], laidByText := true, laidKinds := [.data, .data, .data, .data, .sentinel, .sentinel, .pinned], laidTests := true, laidLooks := .later }
def ExprWholeCardSaid : Prop := Claim7.holds Tryz.pinned (.plain (OpenSpec.ofChange exprWholeSpec)) exprWholeCard

/-- THE TIED CARD OF 'tocsinlaw10.ExprCounts'. -/
def exprCountsCard : Claim7 := { stood := { row := exprCountsRow, standIns := [], harness := (true, "835127bd9a3781ec729651f9db63f07315c9e2e8d065f7be212c22ab11bea1c5"), looks := true }, kinds := [], alts := [], laidByText := true, laidKinds := [.data, .data, .data, .data, .sentinel, .sentinel, .pinned], laidTests := true, laidLooks := .later }
def ExprCountsCardSaid : Prop := Claim7.holds Tryz.pinned (.plain (OpenSpec.ofChange exprCountsSpec)) exprCountsCard

/-- THE TIED CARD OF 'tocsinlaw10.ExprBegins'. -/
def exprBeginsCard : Claim7 := { stood := { row := exprBeginsRow, standIns := [], harness := (true, "835127bd9a3781ec729651f9db63f07315c9e2e8d065f7be212c22ab11bea1c5"), looks := true }, kinds := [], alts := [], laidByText := true, laidKinds := [.data, .data, .data, .data, .sentinel, .sentinel, .pinned], laidTests := true, laidLooks := .later }
def ExprBeginsCardSaid : Prop := Claim7.holds Tryz.pinned (.plain (OpenSpec.ofChange exprBeginsSpec)) exprBeginsCard

/-- THE TIED CARD OF 'tocsinlaw10.ExprRound'. -/
def exprRoundCard : Claim7 := { stood := { row := exprRoundRow, standIns := [], harness := (true, "835127bd9a3781ec729651f9db63f07315c9e2e8d065f7be212c22ab11bea1c5"), looks := true }, kinds := [], alts := [], laidByText := true, laidKinds := [.data, .data, .data, .data, .sentinel, .sentinel, .pinned], laidTests := true, laidLooks := .later }
def ExprRoundCardSaid : Prop := Claim7.holds Tryz.pinned (.plain (OpenSpec.ofChange exprRoundSpec)) exprRoundCard

/-- THE TIED CARD OF 'tocsinlaw10.ExprPairs'. -/
def exprPairsCard : Claim7 := { stood := { row := exprPairsRow, standIns := [], harness := (true, "835127bd9a3781ec729651f9db63f07315c9e2e8d065f7be212c22ab11bea1c5"), looks := true }, kinds := [], alts := [], laidByText := true, laidKinds := [.data, .data, .data, .data, .sentinel, .sentinel, .pinned], laidTests := true, laidLooks := .later }
def ExprPairsCardSaid : Prop := Claim7.holds Tryz.pinned (.plain (OpenSpec.ofChange exprPairsSpec)) exprPairsCard

/-- THE TIED CARD OF 'tocsinlaw10.ExprBack'. -/
def exprBackCard : Claim7 := { stood := { row := exprBackRow, standIns := [], harness := (true, "835127bd9a3781ec729651f9db63f07315c9e2e8d065f7be212c22ab11bea1c5"), looks := true }, kinds := [], alts := [], laidByText := true, laidKinds := [.data, .data, .data, .data, .sentinel, .sentinel, .pinned], laidTests := true, laidLooks := .later }
def ExprBackCardSaid : Prop := Claim7.holds Tryz.pinned (.plain (OpenSpec.ofChange exprBackSpec)) exprBackCard

/-- THE SECOND FORM's CARD OF 'tocsinlaw10.ExprWhole'. -/
def exprWholeUptoCard : Claim7 := { stood := { row := exprWholeUptoRow, standIns := [], harness := (true, "835127bd9a3781ec729651f9db63f07315c9e2e8d065f7be212c22ab11bea1c5"), looks := true }, kinds := [], alts := [], laidByText := true, laidKinds := [.data, .data, .data, .data, .sentinel, .sentinel, .pinned], laidTests := true, laidLooks := .later }
def ExprWholeUptoCardSaid : Prop := Claim7.holds Tryz.pinned (.plain (OpenSpec.upto exprWholeSpec)) exprWholeUptoCard

/-- THE SECOND FORM's CARD OF 'tocsinlaw10.ExprCounts'. -/
def exprCountsUptoCard : Claim7 := { stood := { row := exprCountsUptoRow, standIns := [], harness := (true, "835127bd9a3781ec729651f9db63f07315c9e2e8d065f7be212c22ab11bea1c5"), looks := true }, kinds := [], alts := [], laidByText := true, laidKinds := [.data, .data, .data, .data, .sentinel, .sentinel, .pinned], laidTests := true, laidLooks := .later }
def ExprCountsUptoCardSaid : Prop := Claim7.holds Tryz.pinned (.plain (OpenSpec.upto exprCountsSpec)) exprCountsUptoCard

/-- THE SECOND FORM's CARD OF 'tocsinlaw10.ExprBegins'. -/
def exprBeginsUptoCard : Claim7 := { stood := { row := exprBeginsUptoRow, standIns := [], harness := (true, "835127bd9a3781ec729651f9db63f07315c9e2e8d065f7be212c22ab11bea1c5"), looks := true }, kinds := [], alts := [], laidByText := true, laidKinds := [.data, .data, .data, .data, .sentinel, .sentinel, .pinned], laidTests := true, laidLooks := .later }
def ExprBeginsUptoCardSaid : Prop := Claim7.holds Tryz.pinned (.plain (OpenSpec.upto exprBeginsSpec)) exprBeginsUptoCard

/-- THE SECOND FORM's CARD OF 'tocsinlaw10.ExprRound'. -/
def exprRoundUptoCard : Claim7 := { stood := { row := exprRoundUptoRow, standIns := [], harness := (true, "835127bd9a3781ec729651f9db63f07315c9e2e8d065f7be212c22ab11bea1c5"), looks := true }, kinds := [], alts := [], laidByText := true, laidKinds := [.data, .data, .data, .data, .sentinel, .sentinel, .pinned], laidTests := true, laidLooks := .later }
def ExprRoundUptoCardSaid : Prop := Claim7.holds Tryz.pinned (.plain (OpenSpec.upto exprRoundSpec)) exprRoundUptoCard

/-- THE SECOND FORM's CARD OF 'tocsinlaw10.ExprPairs'. -/
def exprPairsUptoCard : Claim7 := { stood := { row := exprPairsUptoRow, standIns := [], harness := (true, "835127bd9a3781ec729651f9db63f07315c9e2e8d065f7be212c22ab11bea1c5"), looks := true }, kinds := [], alts := [], laidByText := true, laidKinds := [.data, .data, .data, .data, .sentinel, .sentinel, .pinned], laidTests := true, laidLooks := .later }
def ExprPairsUptoCardSaid : Prop := Claim7.holds Tryz.pinned (.plain (OpenSpec.upto exprPairsSpec)) exprPairsUptoCard

/-- THE SECOND FORM's CARD OF 'tocsinlaw10.ExprBack'. -/
def exprBackUptoCard : Claim7 := { stood := { row := exprBackUptoRow, standIns := [], harness := (true, "835127bd9a3781ec729651f9db63f07315c9e2e8d065f7be212c22ab11bea1c5"), looks := true }, kinds := [], alts := [], laidByText := true, laidKinds := [.data, .data, .data, .data, .sentinel, .sentinel, .pinned], laidTests := true, laidLooks := .later }
def ExprBackUptoCardSaid : Prop := Claim7.holds Tryz.pinned (.plain (OpenSpec.upto exprBackSpec)) exprBackUptoCard
end Rows
end Go.Proofs.YtbkmkolaagepjaaGreatDoor

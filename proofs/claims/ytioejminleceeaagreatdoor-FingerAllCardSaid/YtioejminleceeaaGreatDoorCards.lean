/-
  DERIVED. GIVEN WITH THE SEED: THE CARDS: each row of YtioejminleceeaaGreatDoorRows.lean that lists a variable, with what it lists TIED to the program's text (the seventh form; the later family's looks); each row that meets fmt, with fmt's text TOLD by the authors' own Lean function (tested against real Go, not proved from fmt's source: count such statements apart). THE CARD IS WHAT COUNTS. Prove the row's statement (the work); the ties are given (YtioejminleceeaaGreatDoorTie.lean); close each card by the builder's one call (the guide's Derived/Test/ToyasCard.lean, 'card_holds'). Laid BY PROGRAM, IN A SANDBOX (cutbox-door.mjs). By AI agents, Wed Nov 11 2026. No macro, syntax, notation, axiom, sorry.
-/
import Derived.Test.YtioejminleceeaaGreatDoorRows
import GoSem.ClaimSeven
namespace Go.Proofs.YtioejminleceeaaGreatDoor
namespace Rows

/-- THE TIED CARD OF 'tocsinlaw14.FingerAll'. -/
def fingerAllCard : Claim7 := { stood := { row := fingerAllRow, standIns := [], harness := (true, "1c1a1fcedf2ef0769b5c3c20c839841ae72e9a54dff47876d94506825f2298f8"), looks := false }, kinds := [], alts := [], laidByText := true, laidKinds := [.data, .data, .data, .data, .pinned], laidTests := true, laidLooks := .later }
def FingerAllCardSaid : Prop := Claim7.holds Tryz.pinned (.plain (OpenSpec.ofChange fingerAllSpec)) fingerAllCard

/-- THE SECOND FORM's CARD OF 'tocsinlaw14.FingerAll'. -/
def fingerAllUptoCard : Claim7 := { stood := { row := fingerAllUptoRow, standIns := [], harness := (true, "1c1a1fcedf2ef0769b5c3c20c839841ae72e9a54dff47876d94506825f2298f8"), looks := false }, kinds := [], alts := [], laidByText := true, laidKinds := [.data, .data, .data, .data, .pinned], laidTests := true, laidLooks := .later }
def FingerAllUptoCardSaid : Prop := Claim7.holds Tryz.pinned (.plain (OpenSpec.upto fingerAllSpec)) fingerAllUptoCard
end Rows
end Go.Proofs.YtioejminleceeaaGreatDoor

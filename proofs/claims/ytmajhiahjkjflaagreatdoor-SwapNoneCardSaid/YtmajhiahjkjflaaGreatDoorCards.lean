/-
  DERIVED. GIVEN WITH THE SEED: THE CARDS: each row of YtmajhiahjkjflaaGreatDoorRows.lean that lists a variable, with what it lists TIED to the program's text (the seventh form; the later family's looks); each row that meets fmt, with fmt's text TOLD by the authors' own Lean function (tested against real Go, not proved from fmt's source: count such statements apart). THE CARD IS WHAT COUNTS. Prove the row's statement (the work); the ties are given (YtmajhiahjkjflaaGreatDoorTie.lean); close each card by the builder's one call (the guide's Derived/Test/ToyasCard.lean, 'card_holds'). Laid BY PROGRAM, IN A SANDBOX (cutbox-door.mjs). By AI agents, Wed Nov 11 2026. No macro, syntax, notation, axiom, sorry.
-/
import Derived.Test.YtmajhiahjkjflaaGreatDoorRows
import GoSem.ClaimSeven
namespace Go.Proofs.YtmajhiahjkjflaaGreatDoor
namespace Rows

/-- THE TIED CARD OF 'tocsinlaw27.SwapNone'. -/
def swapNoneCard : Claim7 := { stood := { row := swapNoneRow, standIns := [], harness := (true, "4d076318f26114c22674fd157f3a5a52baa09206506f6f6ae76f7fd32a7d7f28"), looks := true }, kinds := [], alts := [], laidByText := true, laidKinds := [.data, .data, .data, .data, .sentinel, .sentinel, .pinned], laidTests := true, laidLooks := .later }
def SwapNoneCardSaid : Prop := Claim7.holds Tryz.pinned (.plain (OpenSpec.ofChange swapNoneSpec)) swapNoneCard

/-- THE TIED CARD OF 'tocsinlaw27.SwapNext'. -/
def swapNextCard : Claim7 := { stood := { row := swapNextRow, standIns := [], harness := (true, "4d076318f26114c22674fd157f3a5a52baa09206506f6f6ae76f7fd32a7d7f28"), looks := true }, kinds := [], alts := [], laidByText := true, laidKinds := [.data, .data, .data, .data, .sentinel, .sentinel, .pinned], laidTests := true, laidLooks := .later }
def SwapNextCardSaid : Prop := Claim7.holds Tryz.pinned (.plain (OpenSpec.ofChange swapNextSpec)) swapNextCard

/-- THE SECOND FORM's CARD OF 'tocsinlaw27.SwapNone'. -/
def swapNoneUptoCard : Claim7 := { stood := { row := swapNoneUptoRow, standIns := [], harness := (true, "4d076318f26114c22674fd157f3a5a52baa09206506f6f6ae76f7fd32a7d7f28"), looks := true }, kinds := [], alts := [], laidByText := true, laidKinds := [.data, .data, .data, .data, .sentinel, .sentinel, .pinned], laidTests := true, laidLooks := .later }
def SwapNoneUptoCardSaid : Prop := Claim7.holds Tryz.pinned (.plain (OpenSpec.upto swapNoneSpec)) swapNoneUptoCard

/-- THE SECOND FORM's CARD OF 'tocsinlaw27.SwapNext'. -/
def swapNextUptoCard : Claim7 := { stood := { row := swapNextUptoRow, standIns := [], harness := (true, "4d076318f26114c22674fd157f3a5a52baa09206506f6f6ae76f7fd32a7d7f28"), looks := true }, kinds := [], alts := [], laidByText := true, laidKinds := [.data, .data, .data, .data, .sentinel, .sentinel, .pinned], laidTests := true, laidLooks := .later }
def SwapNextUptoCardSaid : Prop := Claim7.holds Tryz.pinned (.plain (OpenSpec.upto swapNextSpec)) swapNextUptoCard
end Rows
end Go.Proofs.YtmajhiahjkjflaaGreatDoor

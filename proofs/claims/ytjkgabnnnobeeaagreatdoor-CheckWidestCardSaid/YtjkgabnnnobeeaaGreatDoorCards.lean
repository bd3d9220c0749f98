/-
  DERIVED. GIVEN WITH THE SEED: THE CARDS: each row of YtjkgabnnnobeeaaGreatDoorRows.lean that lists a variable, with what it lists TIED to the program's text (the seventh form; the later family's looks); each row that meets fmt, with fmt's text TOLD by the authors' own Lean function (tested against real Go, not proved from fmt's source: count such statements apart). THE CARD IS WHAT COUNTS. Prove the row's statement (the work); the ties are given (YtjkgabnnnobeeaaGreatDoorTie.lean); close each card by the builder's one call (the guide's Derived/Test/ToyasCard.lean, 'card_holds'). Laid BY PROGRAM, IN A SANDBOX (cutbox-door.mjs). By AI agents, Wed Nov 11 2026. No macro, syntax, notation, axiom, sorry.
-/
import Derived.Test.YtjkgabnnnobeeaaGreatDoorRows
import GoSem.ClaimSeven
namespace Go.Proofs.YtjkgabnnnobeeaaGreatDoor
namespace Rows

/-- THE TIED CARD OF 'tocsinlaw11.CheckVoid'. -/
def checkVoidCard : Claim7 := { stood := { row := checkVoidRow, standIns := [], harness := (true, "a7251ee3788b831bef5292d1ab95aaa6ef3e5e61cf96a6585bad48ad7de0f339"), looks := true }, kinds := [], alts := [], laidByText := true, laidKinds := [.data, .data, .data, .sentinel, .sentinel], laidTests := true, laidLooks := .later }
def CheckVoidCardSaid : Prop := Claim7.holds Tryz.pinned (.plain (OpenSpec.ofChange checkVoidSpec)) checkVoidCard

/-- THE TIED CARD OF 'tocsinlaw11.CheckTimes'. -/
def checkTimesCard : Claim7 := { stood := { row := checkTimesRow, standIns := [], harness := (true, "a7251ee3788b831bef5292d1ab95aaa6ef3e5e61cf96a6585bad48ad7de0f339"), looks := true }, kinds := [], alts := [], laidByText := true, laidKinds := [.data, .data, .data, .sentinel, .sentinel], laidTests := true, laidLooks := .later }
def CheckTimesCardSaid : Prop := Claim7.holds Tryz.pinned (.plain (OpenSpec.ofChange checkTimesSpec)) checkTimesCard

/-- THE TIED CARD OF 'tocsinlaw11.CheckBounds'. -/
def checkBoundsCard : Claim7 := { stood := { row := checkBoundsRow, standIns := [], harness := (true, "a7251ee3788b831bef5292d1ab95aaa6ef3e5e61cf96a6585bad48ad7de0f339"), looks := true }, kinds := [], alts := [], laidByText := true, laidKinds := [.data, .data, .data, .sentinel, .sentinel], laidTests := true, laidLooks := .later }
def CheckBoundsCardSaid : Prop := Claim7.holds Tryz.pinned (.plain (OpenSpec.ofChange checkBoundsSpec)) checkBoundsCard

/-- THE TIED CARD OF 'tocsinlaw11.CheckWidest'. -/
def checkWidestCard : Claim7 := { stood := { row := checkWidestRow, standIns := [], harness := (true, "a7251ee3788b831bef5292d1ab95aaa6ef3e5e61cf96a6585bad48ad7de0f339"), looks := true }, kinds := [], alts := [], laidByText := true, laidKinds := [.data, .data, .data, .sentinel, .sentinel], laidTests := true, laidLooks := .later }
def CheckWidestCardSaid : Prop := Claim7.holds Tryz.pinned (.plain (OpenSpec.ofChange checkWidestSpec)) checkWidestCard

/-- THE TIED CARD OF 'tocsinlaw27.SwapNext'. -/
def swapNextCard : Claim7 := { stood := { row := swapNextRow, standIns := [], harness := (true, "a7251ee3788b831bef5292d1ab95aaa6ef3e5e61cf96a6585bad48ad7de0f339"), looks := true }, kinds := [], alts := [], laidByText := true, laidKinds := [.data, .data, .data, .data, .sentinel, .sentinel, .pinned], laidTests := true, laidLooks := .later }
def SwapNextCardSaid : Prop := Claim7.holds Tryz.pinned (.plain (OpenSpec.ofChange swapNextSpec)) swapNextCard

/-- THE TIED CARD OF 'tocsinlaw27.SwapNone'. -/
def swapNoneCard : Claim7 := { stood := { row := swapNoneRow, standIns := [], harness := (true, "a7251ee3788b831bef5292d1ab95aaa6ef3e5e61cf96a6585bad48ad7de0f339"), looks := true }, kinds := [], alts := [], laidByText := true, laidKinds := [.data, .data, .data, .data, .sentinel, .sentinel, .pinned], laidTests := true, laidLooks := .later }
def SwapNoneCardSaid : Prop := Claim7.holds Tryz.pinned (.plain (OpenSpec.ofChange swapNoneSpec)) swapNoneCard

/-- THE SECOND FORM's CARD OF 'tocsinlaw11.CheckVoid'. -/
def checkVoidUptoCard : Claim7 := { stood := { row := checkVoidUptoRow, standIns := [], harness := (true, "a7251ee3788b831bef5292d1ab95aaa6ef3e5e61cf96a6585bad48ad7de0f339"), looks := true }, kinds := [], alts := [], laidByText := true, laidKinds := [.data, .data, .data, .sentinel, .sentinel], laidTests := true, laidLooks := .later }
def CheckVoidUptoCardSaid : Prop := Claim7.holds Tryz.pinned (.plain (OpenSpec.upto checkVoidSpec)) checkVoidUptoCard

/-- THE SECOND FORM's CARD OF 'tocsinlaw11.CheckTimes'. -/
def checkTimesUptoCard : Claim7 := { stood := { row := checkTimesUptoRow, standIns := [], harness := (true, "a7251ee3788b831bef5292d1ab95aaa6ef3e5e61cf96a6585bad48ad7de0f339"), looks := true }, kinds := [], alts := [], laidByText := true, laidKinds := [.data, .data, .data, .sentinel, .sentinel], laidTests := true, laidLooks := .later }
def CheckTimesUptoCardSaid : Prop := Claim7.holds Tryz.pinned (.plain (OpenSpec.upto checkTimesSpec)) checkTimesUptoCard

/-- THE SECOND FORM's CARD OF 'tocsinlaw11.CheckBounds'. -/
def checkBoundsUptoCard : Claim7 := { stood := { row := checkBoundsUptoRow, standIns := [], harness := (true, "a7251ee3788b831bef5292d1ab95aaa6ef3e5e61cf96a6585bad48ad7de0f339"), looks := true }, kinds := [], alts := [], laidByText := true, laidKinds := [.data, .data, .data, .sentinel, .sentinel], laidTests := true, laidLooks := .later }
def CheckBoundsUptoCardSaid : Prop := Claim7.holds Tryz.pinned (.plain (OpenSpec.upto checkBoundsSpec)) checkBoundsUptoCard

/-- THE SECOND FORM's CARD OF 'tocsinlaw11.CheckWidest'. -/
def checkWidestUptoCard : Claim7 := { stood := { row := checkWidestUptoRow, standIns := [], harness := (true, "a7251ee3788b831bef5292d1ab95aaa6ef3e5e61cf96a6585bad48ad7de0f339"), looks := true }, kinds := [], alts := [], laidByText := true, laidKinds := [.data, .data, .data, .sentinel, .sentinel], laidTests := true, laidLooks := .later }
def CheckWidestUptoCardSaid : Prop := Claim7.holds Tryz.pinned (.plain (OpenSpec.upto checkWidestSpec)) checkWidestUptoCard

/-- THE SECOND FORM's CARD OF 'tocsinlaw27.SwapNext'. -/
def swapNextUptoCard : Claim7 := { stood := { row := swapNextUptoRow, standIns := [], harness := (true, "a7251ee3788b831bef5292d1ab95aaa6ef3e5e61cf96a6585bad48ad7de0f339"), looks := true }, kinds := [], alts := [], laidByText := true, laidKinds := [.data, .data, .data, .data, .sentinel, .sentinel, .pinned], laidTests := true, laidLooks := .later }
def SwapNextUptoCardSaid : Prop := Claim7.holds Tryz.pinned (.plain (OpenSpec.upto swapNextSpec)) swapNextUptoCard

/-- THE SECOND FORM's CARD OF 'tocsinlaw27.SwapNone'. -/
def swapNoneUptoCard : Claim7 := { stood := { row := swapNoneUptoRow, standIns := [], harness := (true, "a7251ee3788b831bef5292d1ab95aaa6ef3e5e61cf96a6585bad48ad7de0f339"), looks := true }, kinds := [], alts := [], laidByText := true, laidKinds := [.data, .data, .data, .data, .sentinel, .sentinel, .pinned], laidTests := true, laidLooks := .later }
def SwapNoneUptoCardSaid : Prop := Claim7.holds Tryz.pinned (.plain (OpenSpec.upto swapNoneSpec)) swapNoneUptoCard
end Rows
end Go.Proofs.YtjkgabnnnobeeaaGreatDoor

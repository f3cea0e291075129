/-
  DERIVED. GIVEN WITH THE SEED: THE CARDS: each row of YtebidhanmfkhdaaGreatDoorRows.lean that lists a variable, with what it lists TIED to the program's text (the seventh form; the later family's looks); each row that meets fmt, with fmt's text TOLD by the authors' own Lean function (tested against real Go, not proved from fmt's source: count such statements apart). THE CARD IS WHAT COUNTS. Prove the row's statement (the work); the ties are given (YtebidhanmfkhdaaGreatDoorTie.lean); close each card by the builder's one call (the guide's Derived/Test/ToyasCard.lean, 'card_holds'). Laid BY PROGRAM, IN A SANDBOX (cutbox-door.mjs). By AI agents, Wed Nov 11 2026. No macro, syntax, notation, axiom, sorry.
-/
import Derived.Test.YtebidhanmfkhdaaGreatDoorRows
import GoSem.ClaimSeven
namespace Go.Proofs.YtebidhanmfkhdaaGreatDoor
namespace Rows

/-- THE TIED CARD OF 'palinglaw25.CutCovers'. -/
def cutCoversCard : Claim7 := { stood := { row := cutCoversRow, standIns := [], harness := (true, "28f1cb1f7035a4ef5e562e3f9117190629786b8cec89b0e53c7178984faa4088"), looks := true }, kinds := [], alts := [], laidByText := true, laidKinds := [.data, .pinned], laidTests := true, laidLooks := .later }
def CutCoversCardSaid : Prop := Claim7.holds Tryz.pinned (.plain (OpenSpec.ofChange cutCoversSpec)) cutCoversCard

/-- THE TIED CARD OF 'palinglaw25.CutRaw'. -/
def cutRawCard : Claim7 := { stood := { row := cutRawRow, standIns := [], harness := (true, "28f1cb1f7035a4ef5e562e3f9117190629786b8cec89b0e53c7178984faa4088"), looks := true }, kinds := [], alts := [], laidByText := true, laidKinds := [.data, .pinned], laidTests := true, laidLooks := .later }
def CutRawCardSaid : Prop := Claim7.holds Tryz.pinned (.plain (OpenSpec.ofChange cutRawSpec)) cutRawCard

/-- THE SECOND FORM's CARD OF 'palinglaw25.CutCovers'. -/
def cutCoversUptoCard : Claim7 := { stood := { row := cutCoversUptoRow, standIns := [], harness := (true, "28f1cb1f7035a4ef5e562e3f9117190629786b8cec89b0e53c7178984faa4088"), looks := true }, kinds := [], alts := [], laidByText := true, laidKinds := [.data, .pinned], laidTests := true, laidLooks := .later }
def CutCoversUptoCardSaid : Prop := Claim7.holds Tryz.pinned (.plain (OpenSpec.upto cutCoversSpec)) cutCoversUptoCard

/-- THE SECOND FORM's CARD OF 'palinglaw25.CutRaw'. -/
def cutRawUptoCard : Claim7 := { stood := { row := cutRawUptoRow, standIns := [], harness := (true, "28f1cb1f7035a4ef5e562e3f9117190629786b8cec89b0e53c7178984faa4088"), looks := true }, kinds := [], alts := [], laidByText := true, laidKinds := [.data, .pinned], laidTests := true, laidLooks := .later }
def CutRawUptoCardSaid : Prop := Claim7.holds Tryz.pinned (.plain (OpenSpec.upto cutRawSpec)) cutRawUptoCard
end Rows
end Go.Proofs.YtebidhanmfkhdaaGreatDoor

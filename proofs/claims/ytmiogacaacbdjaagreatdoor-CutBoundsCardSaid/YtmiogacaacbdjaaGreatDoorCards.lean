/-
  DERIVED. GIVEN WITH THE SEED: THE CARDS: each row of YtmiogacaacbdjaaGreatDoorRows.lean that lists a variable, with what it lists TIED to the program's text (the seventh form; the later family's looks); each row that meets fmt, with fmt's text TOLD by the authors' own Lean function (tested against real Go, not proved from fmt's source: count such statements apart). THE CARD IS WHAT COUNTS. Prove the row's statement (the work); the ties are given (YtmiogacaacbdjaaGreatDoorTie.lean); close each card by the builder's one call (the guide's Derived/Test/ToyasCard.lean, 'card_holds'). Laid BY PROGRAM, IN A SANDBOX (cutbox-door.mjs). By AI agents, Wed Nov 11 2026. No macro, syntax, notation, axiom, sorry.
-/
import Derived.Test.YtmiogacaacbdjaaGreatDoorRows
import GoSem.ClaimSeven
namespace Go.Proofs.YtmiogacaacbdjaaGreatDoor
namespace Rows

/-- THE TIED CARD OF 'palinglaw25.CutBounds'. -/
def cutBoundsCard : Claim7 := { stood := { row := cutBoundsRow, standIns := [], harness := (true, "8fdd0d37c9df2c512fb2902c251ef4a246d1848174855aa1ec56e7af520b8938"), looks := true }, kinds := [], alts := [], laidByText := true, laidKinds := [.data, .pinned], laidTests := true, laidLooks := .later }
def CutBoundsCardSaid : Prop := Claim7.holds Tryz.pinned (.plain (OpenSpec.ofChange cutBoundsSpec)) cutBoundsCard

/-- THE TIED CARD OF 'palinglaw25.CutNeeds'. -/
def cutNeedsCard : Claim7 := { stood := { row := cutNeedsRow, standIns := [], harness := (true, "8fdd0d37c9df2c512fb2902c251ef4a246d1848174855aa1ec56e7af520b8938"), looks := true }, kinds := [], alts := [], laidByText := true, laidKinds := [.data, .pinned], laidTests := true, laidLooks := .later }
def CutNeedsCardSaid : Prop := Claim7.holds Tryz.pinned (.plain (OpenSpec.ofChange cutNeedsSpec)) cutNeedsCard

/-- THE SECOND FORM's CARD OF 'palinglaw25.CutBounds'. -/
def cutBoundsUptoCard : Claim7 := { stood := { row := cutBoundsUptoRow, standIns := [], harness := (true, "8fdd0d37c9df2c512fb2902c251ef4a246d1848174855aa1ec56e7af520b8938"), looks := true }, kinds := [], alts := [], laidByText := true, laidKinds := [.data, .pinned], laidTests := true, laidLooks := .later }
def CutBoundsUptoCardSaid : Prop := Claim7.holds Tryz.pinned (.plain (OpenSpec.upto cutBoundsSpec)) cutBoundsUptoCard

/-- THE SECOND FORM's CARD OF 'palinglaw25.CutNeeds'. -/
def cutNeedsUptoCard : Claim7 := { stood := { row := cutNeedsUptoRow, standIns := [], harness := (true, "8fdd0d37c9df2c512fb2902c251ef4a246d1848174855aa1ec56e7af520b8938"), looks := true }, kinds := [], alts := [], laidByText := true, laidKinds := [.data, .pinned], laidTests := true, laidLooks := .later }
def CutNeedsUptoCardSaid : Prop := Claim7.holds Tryz.pinned (.plain (OpenSpec.upto cutNeedsSpec)) cutNeedsUptoCard
end Rows
end Go.Proofs.YtmiogacaacbdjaaGreatDoor

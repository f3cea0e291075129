/-
  DERIVED. GIVEN WITH THE SEED: THE CARDS: each row of YtcenlplmgifibaaGreatDoorRows.lean that lists a variable, with what it lists TIED to the program's text (the seventh form; the later family's looks); each row that meets fmt, with fmt's text TOLD by the authors' own Lean function (tested against real Go, not proved from fmt's source: count such statements apart). THE CARD IS WHAT COUNTS. Prove the row's statement (the work); the ties are given (YtcenlplmgifibaaGreatDoorTie.lean); close each card by the builder's one call (the guide's Derived/Test/ToyasCard.lean, 'card_holds'). Laid BY PROGRAM, IN A SANDBOX (cutbox-door.mjs). By AI agents, Wed Nov 11 2026. No macro, syntax, notation, axiom, sorry.
-/
import Derived.Test.YtcenlplmgifibaaGreatDoorRows
import GoSem.ClaimSeven
namespace Go.Proofs.YtcenlplmgifibaaGreatDoor
namespace Rows

/-- THE TIED CARD OF 'palinglaw25.CutTells'. -/
def cutTellsCard : Claim7 := { stood := { row := cutTellsRow, standIns := [], harness := (true, "c09630bd05c521fc32f6b54f3d1a8dd6be3262fc35f8971571073329316aa3c9"), looks := true }, kinds := [], alts := [], laidByText := true, laidKinds := [.data, .pinned], laidTests := true, laidLooks := .later }
def CutTellsCardSaid : Prop := Claim7.holds Tryz.pinned (.plain (OpenSpec.ofChange cutTellsSpec)) cutTellsCard

/-- THE SECOND FORM's CARD OF 'palinglaw25.CutTells'. -/
def cutTellsUptoCard : Claim7 := { stood := { row := cutTellsUptoRow, standIns := [], harness := (true, "c09630bd05c521fc32f6b54f3d1a8dd6be3262fc35f8971571073329316aa3c9"), looks := true }, kinds := [], alts := [], laidByText := true, laidKinds := [.data, .pinned], laidTests := true, laidLooks := .later }
def CutTellsUptoCardSaid : Prop := Claim7.holds Tryz.pinned (.plain (OpenSpec.upto cutTellsSpec)) cutTellsUptoCard
end Rows
end Go.Proofs.YtcenlplmgifibaaGreatDoor

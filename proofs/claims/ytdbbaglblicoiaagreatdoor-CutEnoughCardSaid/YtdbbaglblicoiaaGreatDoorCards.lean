/-
  DERIVED. GIVEN WITH THE SEED: THE CARDS: each row of YtdbbaglblicoiaaGreatDoorRows.lean that lists a variable, with what it lists TIED to the program's text (the seventh form; the later family's looks); each row that meets fmt, with fmt's text TOLD by the authors' own Lean function (tested against real Go, not proved from fmt's source: count such statements apart). THE CARD IS WHAT COUNTS. Prove the row's statement (the work); the ties are given (YtdbbaglblicoiaaGreatDoorTie.lean); close each card by the builder's one call (the guide's Derived/Test/ToyasCard.lean, 'card_holds'). Laid BY PROGRAM, IN A SANDBOX (cutbox-door.mjs). By AI agents, Wed Nov 11 2026. No macro, syntax, notation, axiom, sorry.
-/
import Derived.Test.YtdbbaglblicoiaaGreatDoorRows
import GoSem.ClaimSeven
namespace Go.Proofs.YtdbbaglblicoiaaGreatDoor
namespace Rows

/-- THE TIED CARD OF 'palinglaw25.CutPrunes'. -/
def cutPrunesCard : Claim7 := { stood := { row := cutPrunesRow, standIns := [], harness := (true, "0d74db7a8bd7ebb1e823bc3106687b60f342b85a9578792fc1657128e8fc0ab5"), looks := true }, kinds := [], alts := [], laidByText := true, laidKinds := [.data, .pinned], laidTests := true, laidLooks := .later }
def CutPrunesCardSaid : Prop := Claim7.holds Tryz.pinned (.plain (OpenSpec.ofChange cutPrunesSpec)) cutPrunesCard

/-- THE TIED CARD OF 'palinglaw25.CutEnough'. -/
def cutEnoughCard : Claim7 := { stood := { row := cutEnoughRow, standIns := [], harness := (true, "0d74db7a8bd7ebb1e823bc3106687b60f342b85a9578792fc1657128e8fc0ab5"), looks := true }, kinds := [], alts := [], laidByText := true, laidKinds := [.data, .pinned], laidTests := true, laidLooks := .later }
def CutEnoughCardSaid : Prop := Claim7.holds Tryz.pinned (.plain (OpenSpec.ofChange cutEnoughSpec)) cutEnoughCard

/-- THE SECOND FORM's CARD OF 'palinglaw25.CutPrunes'. -/
def cutPrunesUptoCard : Claim7 := { stood := { row := cutPrunesUptoRow, standIns := [], harness := (true, "0d74db7a8bd7ebb1e823bc3106687b60f342b85a9578792fc1657128e8fc0ab5"), looks := true }, kinds := [], alts := [], laidByText := true, laidKinds := [.data, .pinned], laidTests := true, laidLooks := .later }
def CutPrunesUptoCardSaid : Prop := Claim7.holds Tryz.pinned (.plain (OpenSpec.upto cutPrunesSpec)) cutPrunesUptoCard

/-- THE SECOND FORM's CARD OF 'palinglaw25.CutEnough'. -/
def cutEnoughUptoCard : Claim7 := { stood := { row := cutEnoughUptoRow, standIns := [], harness := (true, "0d74db7a8bd7ebb1e823bc3106687b60f342b85a9578792fc1657128e8fc0ab5"), looks := true }, kinds := [], alts := [], laidByText := true, laidKinds := [.data, .pinned], laidTests := true, laidLooks := .later }
def CutEnoughUptoCardSaid : Prop := Claim7.holds Tryz.pinned (.plain (OpenSpec.upto cutEnoughSpec)) cutEnoughUptoCard
end Rows
end Go.Proofs.YtdbbaglblicoiaaGreatDoor

/-
  DERIVED. GIVEN WITH THE SEED: THE CARDS: each row of YtcojpeeoodchoaaGreatDoorRows.lean that lists a variable, with what it lists TIED to the program's text (the seventh form; the later family's looks); each row that meets fmt, with fmt's text TOLD by the authors' own Lean function (tested against real Go, not proved from fmt's source: count such statements apart). THE CARD IS WHAT COUNTS. Prove the row's statement (the work); the ties are given (YtcojpeeoodchoaaGreatDoorTie.lean); close each card by the builder's one call (the guide's Derived/Test/ToyasCard.lean, 'card_holds'). Laid BY PROGRAM, IN A SANDBOX (cutbox-door.mjs). By AI agents, Wed Nov 11 2026. No macro, syntax, notation, axiom, sorry.
-/
import Derived.Test.YtcojpeeoodchoaaGreatDoorRows
import GoSem.ClaimSeven
namespace Go.Proofs.YtcojpeeoodchoaaGreatDoor
namespace Rows

/-- THE TIED CARD OF 'palinglaw21.RoadFences'. -/
def roadFencesCard : Claim7 := { stood := { row := roadFencesRow, standIns := [], harness := (true, "29797bf19452f3fc491100eb0947b5d1f3fe68a48bd247441f8627943fca33f7"), looks := true }, kinds := [], alts := [], laidByText := true, laidKinds := [.data, .pinned], laidTests := true, laidLooks := .later }
def RoadFencesCardSaid : Prop := Claim7.holds Tryz.pinned (.plain (OpenSpec.ofChange roadFencesSpec)) roadFencesCard

/-- THE SECOND FORM's CARD OF 'palinglaw21.RoadFences'. -/
def roadFencesUptoCard : Claim7 := { stood := { row := roadFencesUptoRow, standIns := [], harness := (true, "29797bf19452f3fc491100eb0947b5d1f3fe68a48bd247441f8627943fca33f7"), looks := true }, kinds := [], alts := [], laidByText := true, laidKinds := [.data, .pinned], laidTests := true, laidLooks := .later }
def RoadFencesUptoCardSaid : Prop := Claim7.holds Tryz.pinned (.plain (OpenSpec.upto roadFencesSpec)) roadFencesUptoCard
end Rows
end Go.Proofs.YtcojpeeoodchoaaGreatDoor

/-
  DERIVED. GIVEN WITH THE SEED: THE CARDS: each row of YtdpoelielnbhkaaDoorRows.lean that lists a variable, with what it lists TIED to the program's text (the seventh form; the later family's looks); each row that meets fmt, with fmt's text TOLD by the authors' own Lean function (tested against real Go, not proved from fmt's source: count such statements apart). THE CARD IS WHAT COUNTS. Prove the row's statement (the work); the ties are given (YtdpoelielnbhkaaDoorTie.lean); close each card by the builder's one call (the guide's Derived/Test/ToyasCard.lean, 'card_holds'). Laid BY PROGRAM, IN A SANDBOX (cutbox-door.mjs). By AI agents, Wed Nov 11 2026. No macro, syntax, notation, axiom, sorry.
-/
import Derived.Test.YtdpoelielnbhkaaDoorRows
import GoSem.ClaimSeven
namespace Go.Proofs.YtdpoelielnbhkaaDoor
namespace Rows

/-- THE TIED CARD OF 'palinglaw21.RoadOpen'. -/
def roadOpenCard : Claim7 := { stood := { row := roadOpenRow, standIns := [], harness := (true, "96cfb6f306b6dc9ac6d75419f4f017e47a89f4cd90e4f9dbfd10b01b95fbed27"), looks := true }, kinds := [], alts := [], laidByText := true, laidKinds := [.data, .pinned], laidTests := true, laidLooks := .later }
def RoadOpenCardSaid : Prop := Claim7.holds Tryd.pinned (.plain (OpenSpec.ofChange roadOpenSpec)) roadOpenCard

/-- THE SECOND FORM's CARD OF 'palinglaw21.RoadOpen'. -/
def roadOpenUptoCard : Claim7 := { stood := { row := roadOpenUptoRow, standIns := [], harness := (true, "96cfb6f306b6dc9ac6d75419f4f017e47a89f4cd90e4f9dbfd10b01b95fbed27"), looks := true }, kinds := [], alts := [], laidByText := true, laidKinds := [.data, .pinned], laidTests := true, laidLooks := .later }
def RoadOpenUptoCardSaid : Prop := Claim7.holds Tryd.pinned (.plain (OpenSpec.upto roadOpenSpec)) roadOpenUptoCard
end Rows
end Go.Proofs.YtdpoelielnbhkaaDoor

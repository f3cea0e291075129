/-
  DERIVED. GIVEN WITH THE SEED: THE CARDS: each row of YtcojpeeoodchoaaDoorRows.lean that lists a variable, with what it lists TIED to the program's text (the seventh form; the later family's looks); each row that meets fmt, with fmt's text TOLD by the authors' own Lean function (tested against real Go, not proved from fmt's source: count such statements apart). THE CARD IS WHAT COUNTS. Prove the row's statement (the work); the ties are given (YtcojpeeoodchoaaDoorTie.lean); close each card by the builder's one call (the guide's Derived/Test/ToyasCard.lean, 'card_holds'). Laid BY PROGRAM, IN A SANDBOX (cutbox-door.mjs). By AI agents, Wed Nov 11 2026. No macro, syntax, notation, axiom, sorry.
-/
import Derived.Test.YtcojpeeoodchoaaDoorRows
import GoSem.ClaimSeven
namespace Go.Proofs.YtcojpeeoodchoaaDoor
namespace Rows

/-- THE TIED CARD OF 'palinglaw21.RoadMade'. -/
def roadMadeCard : Claim7 := { stood := { row := roadMadeRow, standIns := [], harness := (true, "1c9edf4401a1e9483774a7fbb541626bde940ee095824318d2b7ffad13a71c75"), looks := true }, kinds := [], alts := [], laidByText := true, laidKinds := [.data, .pinned], laidTests := true, laidLooks := .later }
def RoadMadeCardSaid : Prop := Claim7.holds Tryd.pinned (.plain (OpenSpec.ofChange roadMadeSpec)) roadMadeCard

/-- THE TIED CARD OF 'palinglaw21.RoadFewer'. -/
def roadFewerCard : Claim7 := { stood := { row := roadFewerRow, standIns := [], harness := (true, "1c9edf4401a1e9483774a7fbb541626bde940ee095824318d2b7ffad13a71c75"), looks := true }, kinds := [], alts := [], laidByText := true, laidKinds := [.data, .pinned], laidTests := true, laidLooks := .later }
def RoadFewerCardSaid : Prop := Claim7.holds Tryd.pinned (.plain (OpenSpec.ofChange roadFewerSpec)) roadFewerCard

/-- THE TIED CARD OF 'palinglaw21.RoadOpen'. -/
def roadOpenCard : Claim7 := { stood := { row := roadOpenRow, standIns := [], harness := (true, "1c9edf4401a1e9483774a7fbb541626bde940ee095824318d2b7ffad13a71c75"), looks := true }, kinds := [], alts := [], laidByText := true, laidKinds := [.data, .pinned], laidTests := true, laidLooks := .later }
def RoadOpenCardSaid : Prop := Claim7.holds Tryd.pinned (.plain (OpenSpec.ofChange roadOpenSpec)) roadOpenCard

/-- THE SECOND FORM's CARD OF 'palinglaw21.RoadMade'. -/
def roadMadeUptoCard : Claim7 := { stood := { row := roadMadeUptoRow, standIns := [], harness := (true, "1c9edf4401a1e9483774a7fbb541626bde940ee095824318d2b7ffad13a71c75"), looks := true }, kinds := [], alts := [], laidByText := true, laidKinds := [.data, .pinned], laidTests := true, laidLooks := .later }
def RoadMadeUptoCardSaid : Prop := Claim7.holds Tryd.pinned (.plain (OpenSpec.upto roadMadeSpec)) roadMadeUptoCard

/-- THE SECOND FORM's CARD OF 'palinglaw21.RoadFewer'. -/
def roadFewerUptoCard : Claim7 := { stood := { row := roadFewerUptoRow, standIns := [], harness := (true, "1c9edf4401a1e9483774a7fbb541626bde940ee095824318d2b7ffad13a71c75"), looks := true }, kinds := [], alts := [], laidByText := true, laidKinds := [.data, .pinned], laidTests := true, laidLooks := .later }
def RoadFewerUptoCardSaid : Prop := Claim7.holds Tryd.pinned (.plain (OpenSpec.upto roadFewerSpec)) roadFewerUptoCard

/-- THE SECOND FORM's CARD OF 'palinglaw21.RoadOpen'. -/
def roadOpenUptoCard : Claim7 := { stood := { row := roadOpenUptoRow, standIns := [], harness := (true, "1c9edf4401a1e9483774a7fbb541626bde940ee095824318d2b7ffad13a71c75"), looks := true }, kinds := [], alts := [], laidByText := true, laidKinds := [.data, .pinned], laidTests := true, laidLooks := .later }
def RoadOpenUptoCardSaid : Prop := Claim7.holds Tryd.pinned (.plain (OpenSpec.upto roadOpenSpec)) roadOpenUptoCard
end Rows
end Go.Proofs.YtcojpeeoodchoaaDoor

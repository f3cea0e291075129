/-
  DERIVED. GIVEN WITH THE SEED: THE CARDS: each row of YtebfmdhfhicmlaaDoorRows.lean that lists a variable, with what it lists TIED to the program's text (the seventh form; the later family's looks); each row that meets fmt, with fmt's text TOLD by the authors' own Lean function (tested against real Go, not proved from fmt's source: count such statements apart). THE CARD IS WHAT COUNTS. Prove the row's statement (the work); the ties are given (YtebfmdhfhicmlaaDoorTie.lean); close each card by the builder's one call (the guide's Derived/Test/ToyasCard.lean, 'card_holds'). Laid BY PROGRAM, IN A SANDBOX (cutbox-door.mjs). By AI agents, Wed Nov 11 2026. No macro, syntax, notation, axiom, sorry.
-/
import Derived.Test.YtebfmdhfhicmlaaDoorRows
import GoSem.ClaimSeven
namespace Go.Proofs.YtebfmdhfhicmlaaDoor
namespace Rows

/-- THE TIED CARD OF 'palinglaw20.FlowTells'. -/
def flowTellsCard : Claim7 := { stood := { row := flowTellsRow, standIns := [], harness := (true, "513b36eced640807cd758f144c61b9c85f44b2c2b6fb60a764fec1dfaec3c66c"), looks := true }, kinds := [], alts := [], laidByText := true, laidKinds := [.data, .pinned], laidTests := true, laidLooks := .later }
def FlowTellsCardSaid : Prop := Claim7.holds Tryd.pinned (.plain (OpenSpec.ofChange flowTellsSpec)) flowTellsCard

/-- THE TIED CARD OF 'palinglaw20.FlowMade'. -/
def flowMadeCard : Claim7 := { stood := { row := flowMadeRow, standIns := [], harness := (true, "513b36eced640807cd758f144c61b9c85f44b2c2b6fb60a764fec1dfaec3c66c"), looks := true }, kinds := [], alts := [], laidByText := true, laidKinds := [.data, .pinned], laidTests := true, laidLooks := .later }
def FlowMadeCardSaid : Prop := Claim7.holds Tryd.pinned (.plain (OpenSpec.ofChange flowMadeSpec)) flowMadeCard

/-- THE TIED CARD OF 'palinglaw20.FlowJoins'. -/
def flowJoinsCard : Claim7 := { stood := { row := flowJoinsRow, standIns := [], harness := (true, "513b36eced640807cd758f144c61b9c85f44b2c2b6fb60a764fec1dfaec3c66c"), looks := true }, kinds := [], alts := [], laidByText := true, laidKinds := [.data, .pinned], laidTests := true, laidLooks := .later }
def FlowJoinsCardSaid : Prop := Claim7.holds Tryd.pinned (.plain (OpenSpec.ofChange flowJoinsSpec)) flowJoinsCard

/-- THE TIED CARD OF 'palinglaw20.FlowRow'. -/
def flowRowCard : Claim7 := { stood := { row := flowRowRow, standIns := [], harness := (true, "513b36eced640807cd758f144c61b9c85f44b2c2b6fb60a764fec1dfaec3c66c"), looks := true }, kinds := [], alts := [], laidByText := true, laidKinds := [.data, .pinned], laidTests := true, laidLooks := .later }
def FlowRowCardSaid : Prop := Claim7.holds Tryd.pinned (.plain (OpenSpec.ofChange flowRowSpec)) flowRowCard

/-- THE TIED CARD OF 'palinglaw21.RoadTells'. -/
def roadTellsCard : Claim7 := { stood := { row := roadTellsRow, standIns := [], harness := (true, "513b36eced640807cd758f144c61b9c85f44b2c2b6fb60a764fec1dfaec3c66c"), looks := true }, kinds := [], alts := [], laidByText := true, laidKinds := [.data, .pinned], laidTests := true, laidLooks := .later }
def RoadTellsCardSaid : Prop := Claim7.holds Tryd.pinned (.plain (OpenSpec.ofChange roadTellsSpec)) roadTellsCard

/-- THE TIED CARD OF 'palinglaw21.RoadMade'. -/
def roadMadeCard : Claim7 := { stood := { row := roadMadeRow, standIns := [], harness := (true, "513b36eced640807cd758f144c61b9c85f44b2c2b6fb60a764fec1dfaec3c66c"), looks := true }, kinds := [], alts := [], laidByText := true, laidKinds := [.data, .pinned], laidTests := true, laidLooks := .later }
def RoadMadeCardSaid : Prop := Claim7.holds Tryd.pinned (.plain (OpenSpec.ofChange roadMadeSpec)) roadMadeCard

/-- THE TIED CARD OF 'palinglaw21.RoadFewer'. -/
def roadFewerCard : Claim7 := { stood := { row := roadFewerRow, standIns := [], harness := (true, "513b36eced640807cd758f144c61b9c85f44b2c2b6fb60a764fec1dfaec3c66c"), looks := true }, kinds := [], alts := [], laidByText := true, laidKinds := [.data, .pinned], laidTests := true, laidLooks := .later }
def RoadFewerCardSaid : Prop := Claim7.holds Tryd.pinned (.plain (OpenSpec.ofChange roadFewerSpec)) roadFewerCard

/-- THE TIED CARD OF 'palinglaw21.RoadOpen'. -/
def roadOpenCard : Claim7 := { stood := { row := roadOpenRow, standIns := [], harness := (true, "513b36eced640807cd758f144c61b9c85f44b2c2b6fb60a764fec1dfaec3c66c"), looks := true }, kinds := [], alts := [], laidByText := true, laidKinds := [.data, .pinned], laidTests := true, laidLooks := .later }
def RoadOpenCardSaid : Prop := Claim7.holds Tryd.pinned (.plain (OpenSpec.ofChange roadOpenSpec)) roadOpenCard

/-- THE SECOND FORM's CARD OF 'palinglaw20.FlowTells'. -/
def flowTellsUptoCard : Claim7 := { stood := { row := flowTellsUptoRow, standIns := [], harness := (true, "513b36eced640807cd758f144c61b9c85f44b2c2b6fb60a764fec1dfaec3c66c"), looks := true }, kinds := [], alts := [], laidByText := true, laidKinds := [.data, .pinned], laidTests := true, laidLooks := .later }
def FlowTellsUptoCardSaid : Prop := Claim7.holds Tryd.pinned (.plain (OpenSpec.upto flowTellsSpec)) flowTellsUptoCard

/-- THE SECOND FORM's CARD OF 'palinglaw20.FlowMade'. -/
def flowMadeUptoCard : Claim7 := { stood := { row := flowMadeUptoRow, standIns := [], harness := (true, "513b36eced640807cd758f144c61b9c85f44b2c2b6fb60a764fec1dfaec3c66c"), looks := true }, kinds := [], alts := [], laidByText := true, laidKinds := [.data, .pinned], laidTests := true, laidLooks := .later }
def FlowMadeUptoCardSaid : Prop := Claim7.holds Tryd.pinned (.plain (OpenSpec.upto flowMadeSpec)) flowMadeUptoCard

/-- THE SECOND FORM's CARD OF 'palinglaw20.FlowJoins'. -/
def flowJoinsUptoCard : Claim7 := { stood := { row := flowJoinsUptoRow, standIns := [], harness := (true, "513b36eced640807cd758f144c61b9c85f44b2c2b6fb60a764fec1dfaec3c66c"), looks := true }, kinds := [], alts := [], laidByText := true, laidKinds := [.data, .pinned], laidTests := true, laidLooks := .later }
def FlowJoinsUptoCardSaid : Prop := Claim7.holds Tryd.pinned (.plain (OpenSpec.upto flowJoinsSpec)) flowJoinsUptoCard

/-- THE SECOND FORM's CARD OF 'palinglaw20.FlowRow'. -/
def flowRowUptoCard : Claim7 := { stood := { row := flowRowUptoRow, standIns := [], harness := (true, "513b36eced640807cd758f144c61b9c85f44b2c2b6fb60a764fec1dfaec3c66c"), looks := true }, kinds := [], alts := [], laidByText := true, laidKinds := [.data, .pinned], laidTests := true, laidLooks := .later }
def FlowRowUptoCardSaid : Prop := Claim7.holds Tryd.pinned (.plain (OpenSpec.upto flowRowSpec)) flowRowUptoCard

/-- THE SECOND FORM's CARD OF 'palinglaw21.RoadTells'. -/
def roadTellsUptoCard : Claim7 := { stood := { row := roadTellsUptoRow, standIns := [], harness := (true, "513b36eced640807cd758f144c61b9c85f44b2c2b6fb60a764fec1dfaec3c66c"), looks := true }, kinds := [], alts := [], laidByText := true, laidKinds := [.data, .pinned], laidTests := true, laidLooks := .later }
def RoadTellsUptoCardSaid : Prop := Claim7.holds Tryd.pinned (.plain (OpenSpec.upto roadTellsSpec)) roadTellsUptoCard

/-- THE SECOND FORM's CARD OF 'palinglaw21.RoadMade'. -/
def roadMadeUptoCard : Claim7 := { stood := { row := roadMadeUptoRow, standIns := [], harness := (true, "513b36eced640807cd758f144c61b9c85f44b2c2b6fb60a764fec1dfaec3c66c"), looks := true }, kinds := [], alts := [], laidByText := true, laidKinds := [.data, .pinned], laidTests := true, laidLooks := .later }
def RoadMadeUptoCardSaid : Prop := Claim7.holds Tryd.pinned (.plain (OpenSpec.upto roadMadeSpec)) roadMadeUptoCard

/-- THE SECOND FORM's CARD OF 'palinglaw21.RoadFewer'. -/
def roadFewerUptoCard : Claim7 := { stood := { row := roadFewerUptoRow, standIns := [], harness := (true, "513b36eced640807cd758f144c61b9c85f44b2c2b6fb60a764fec1dfaec3c66c"), looks := true }, kinds := [], alts := [], laidByText := true, laidKinds := [.data, .pinned], laidTests := true, laidLooks := .later }
def RoadFewerUptoCardSaid : Prop := Claim7.holds Tryd.pinned (.plain (OpenSpec.upto roadFewerSpec)) roadFewerUptoCard

/-- THE SECOND FORM's CARD OF 'palinglaw21.RoadOpen'. -/
def roadOpenUptoCard : Claim7 := { stood := { row := roadOpenUptoRow, standIns := [], harness := (true, "513b36eced640807cd758f144c61b9c85f44b2c2b6fb60a764fec1dfaec3c66c"), looks := true }, kinds := [], alts := [], laidByText := true, laidKinds := [.data, .pinned], laidTests := true, laidLooks := .later }
def RoadOpenUptoCardSaid : Prop := Claim7.holds Tryd.pinned (.plain (OpenSpec.upto roadOpenSpec)) roadOpenUptoCard
end Rows
end Go.Proofs.YtebfmdhfhicmlaaDoor

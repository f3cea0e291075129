/-
  DERIVED. GIVEN WITH THE SEED: THE CARDS: each row of YtlppmbooakcmaaaDoorRows.lean that lists a variable, with what it lists TIED to the program's text (the seventh form; the later family's looks); each row that meets fmt, with fmt's text TOLD by the authors' own Lean function (tested against real Go, not proved from fmt's source: count such statements apart). THE CARD IS WHAT COUNTS. Prove the row's statement (the work); the ties are given (YtlppmbooakcmaaaDoorTie.lean); close each card by the builder's one call (the guide's Derived/Test/ToyasCard.lean, 'card_holds'). Laid BY PROGRAM, IN A SANDBOX (cutbox-door.mjs). By AI agents, Wed Nov 11 2026. No macro, syntax, notation, axiom, sorry.
-/
import Derived.Test.YtlppmbooakcmaaaDoorRows
import GoSem.ClaimSeven
namespace Go.Proofs.YtlppmbooakcmaaaDoor
namespace Rows

/-- THE TIED CARD OF 'palinglaw22.TouchTells'. -/
def touchTellsCard : Claim7 := { stood := { row := touchTellsRow, standIns := [], harness := (true, "2fe7d2c22e2b5d4840a95fee8f6a7cfd0a1b1d6c57719226baf64185aa40acc7"), looks := true }, kinds := [], alts := [], laidByText := true, laidKinds := [.data, .pinned], laidTests := true, laidLooks := .later }
def TouchTellsCardSaid : Prop := Claim7.holds Tryd.pinned (.plain (OpenSpec.ofChange touchTellsSpec)) touchTellsCard

/-- THE TIED CARD OF 'palinglaw22.TouchMade'. -/
def touchMadeCard : Claim7 := { stood := { row := touchMadeRow, standIns := [], harness := (true, "2fe7d2c22e2b5d4840a95fee8f6a7cfd0a1b1d6c57719226baf64185aa40acc7"), looks := true }, kinds := [], alts := [], laidByText := true, laidKinds := [.data, .pinned], laidTests := true, laidLooks := .later }
def TouchMadeCardSaid : Prop := Claim7.holds Tryd.pinned (.plain (OpenSpec.ofChange touchMadeSpec)) touchMadeCard

/-- THE TIED CARD OF 'palinglaw22.TouchCounts'. -/
def touchCountsCard : Claim7 := { stood := { row := touchCountsRow, standIns := [], harness := (true, "2fe7d2c22e2b5d4840a95fee8f6a7cfd0a1b1d6c57719226baf64185aa40acc7"), looks := true }, kinds := [], alts := [], laidByText := true, laidKinds := [.data, .pinned], laidTests := true, laidLooks := .later }
def TouchCountsCardSaid : Prop := Claim7.holds Tryd.pinned (.plain (OpenSpec.ofChange touchCountsSpec)) touchCountsCard

/-- THE TIED CARD OF 'palinglaw22.TouchLocked'. -/
def touchLockedCard : Claim7 := { stood := { row := touchLockedRow, standIns := [], harness := (true, "2fe7d2c22e2b5d4840a95fee8f6a7cfd0a1b1d6c57719226baf64185aa40acc7"), looks := true }, kinds := [], alts := [], laidByText := true, laidKinds := [.data, .pinned], laidTests := true, laidLooks := .later }
def TouchLockedCardSaid : Prop := Claim7.holds Tryd.pinned (.plain (OpenSpec.ofChange touchLockedSpec)) touchLockedCard

/-- THE TIED CARD OF 'palinglaw11.CellsTell'. -/
def cellsTellCard : Claim7 := { stood := { row := cellsTellRow, standIns := [], harness := (true, "2fe7d2c22e2b5d4840a95fee8f6a7cfd0a1b1d6c57719226baf64185aa40acc7"), looks := true }, kinds := [], alts := [], laidByText := true, laidKinds := [.data, .pinned], laidTests := true, laidLooks := .later }
def CellsTellCardSaid : Prop := Claim7.holds Tryd.pinned (.plain (OpenSpec.ofChange cellsTellSpec)) cellsTellCard

/-- THE TIED CARD OF 'palinglaw11.CellsMade'. -/
def cellsMadeCard : Claim7 := { stood := { row := cellsMadeRow, standIns := [], harness := (true, "2fe7d2c22e2b5d4840a95fee8f6a7cfd0a1b1d6c57719226baf64185aa40acc7"), looks := true }, kinds := [], alts := [], laidByText := true, laidKinds := [.data, .pinned], laidTests := true, laidLooks := .later }
def CellsMadeCardSaid : Prop := Claim7.holds Tryd.pinned (.plain (OpenSpec.ofChange cellsMadeSpec)) cellsMadeCard

/-- THE TIED CARD OF 'palinglaw11.CellsBack'. -/
def cellsBackCard : Claim7 := { stood := { row := cellsBackRow, standIns := [], harness := (true, "2fe7d2c22e2b5d4840a95fee8f6a7cfd0a1b1d6c57719226baf64185aa40acc7"), looks := true }, kinds := [], alts := [], laidByText := true, laidKinds := [.data, .pinned], laidTests := true, laidLooks := .later }
def CellsBackCardSaid : Prop := Claim7.holds Tryd.pinned (.plain (OpenSpec.ofChange cellsBackSpec)) cellsBackCard

/-- THE TIED CARD OF 'palinglaw11.CellsBounds'. -/
def cellsBoundsCard : Claim7 := { stood := { row := cellsBoundsRow, standIns := [], harness := (true, "2fe7d2c22e2b5d4840a95fee8f6a7cfd0a1b1d6c57719226baf64185aa40acc7"), looks := true }, kinds := [], alts := [], laidByText := true, laidKinds := [.data, .pinned], laidTests := true, laidLooks := .later }
def CellsBoundsCardSaid : Prop := Claim7.holds Tryd.pinned (.plain (OpenSpec.ofChange cellsBoundsSpec)) cellsBoundsCard

/-- THE SECOND FORM's CARD OF 'palinglaw22.TouchTells'. -/
def touchTellsUptoCard : Claim7 := { stood := { row := touchTellsUptoRow, standIns := [], harness := (true, "2fe7d2c22e2b5d4840a95fee8f6a7cfd0a1b1d6c57719226baf64185aa40acc7"), looks := true }, kinds := [], alts := [], laidByText := true, laidKinds := [.data, .pinned], laidTests := true, laidLooks := .later }
def TouchTellsUptoCardSaid : Prop := Claim7.holds Tryd.pinned (.plain (OpenSpec.upto touchTellsSpec)) touchTellsUptoCard

/-- THE SECOND FORM's CARD OF 'palinglaw22.TouchMade'. -/
def touchMadeUptoCard : Claim7 := { stood := { row := touchMadeUptoRow, standIns := [], harness := (true, "2fe7d2c22e2b5d4840a95fee8f6a7cfd0a1b1d6c57719226baf64185aa40acc7"), looks := true }, kinds := [], alts := [], laidByText := true, laidKinds := [.data, .pinned], laidTests := true, laidLooks := .later }
def TouchMadeUptoCardSaid : Prop := Claim7.holds Tryd.pinned (.plain (OpenSpec.upto touchMadeSpec)) touchMadeUptoCard

/-- THE SECOND FORM's CARD OF 'palinglaw22.TouchCounts'. -/
def touchCountsUptoCard : Claim7 := { stood := { row := touchCountsUptoRow, standIns := [], harness := (true, "2fe7d2c22e2b5d4840a95fee8f6a7cfd0a1b1d6c57719226baf64185aa40acc7"), looks := true }, kinds := [], alts := [], laidByText := true, laidKinds := [.data, .pinned], laidTests := true, laidLooks := .later }
def TouchCountsUptoCardSaid : Prop := Claim7.holds Tryd.pinned (.plain (OpenSpec.upto touchCountsSpec)) touchCountsUptoCard

/-- THE SECOND FORM's CARD OF 'palinglaw22.TouchLocked'. -/
def touchLockedUptoCard : Claim7 := { stood := { row := touchLockedUptoRow, standIns := [], harness := (true, "2fe7d2c22e2b5d4840a95fee8f6a7cfd0a1b1d6c57719226baf64185aa40acc7"), looks := true }, kinds := [], alts := [], laidByText := true, laidKinds := [.data, .pinned], laidTests := true, laidLooks := .later }
def TouchLockedUptoCardSaid : Prop := Claim7.holds Tryd.pinned (.plain (OpenSpec.upto touchLockedSpec)) touchLockedUptoCard

/-- THE SECOND FORM's CARD OF 'palinglaw11.CellsTell'. -/
def cellsTellUptoCard : Claim7 := { stood := { row := cellsTellUptoRow, standIns := [], harness := (true, "2fe7d2c22e2b5d4840a95fee8f6a7cfd0a1b1d6c57719226baf64185aa40acc7"), looks := true }, kinds := [], alts := [], laidByText := true, laidKinds := [.data, .pinned], laidTests := true, laidLooks := .later }
def CellsTellUptoCardSaid : Prop := Claim7.holds Tryd.pinned (.plain (OpenSpec.upto cellsTellSpec)) cellsTellUptoCard

/-- THE SECOND FORM's CARD OF 'palinglaw11.CellsMade'. -/
def cellsMadeUptoCard : Claim7 := { stood := { row := cellsMadeUptoRow, standIns := [], harness := (true, "2fe7d2c22e2b5d4840a95fee8f6a7cfd0a1b1d6c57719226baf64185aa40acc7"), looks := true }, kinds := [], alts := [], laidByText := true, laidKinds := [.data, .pinned], laidTests := true, laidLooks := .later }
def CellsMadeUptoCardSaid : Prop := Claim7.holds Tryd.pinned (.plain (OpenSpec.upto cellsMadeSpec)) cellsMadeUptoCard

/-- THE SECOND FORM's CARD OF 'palinglaw11.CellsBack'. -/
def cellsBackUptoCard : Claim7 := { stood := { row := cellsBackUptoRow, standIns := [], harness := (true, "2fe7d2c22e2b5d4840a95fee8f6a7cfd0a1b1d6c57719226baf64185aa40acc7"), looks := true }, kinds := [], alts := [], laidByText := true, laidKinds := [.data, .pinned], laidTests := true, laidLooks := .later }
def CellsBackUptoCardSaid : Prop := Claim7.holds Tryd.pinned (.plain (OpenSpec.upto cellsBackSpec)) cellsBackUptoCard

/-- THE SECOND FORM's CARD OF 'palinglaw11.CellsBounds'. -/
def cellsBoundsUptoCard : Claim7 := { stood := { row := cellsBoundsUptoRow, standIns := [], harness := (true, "2fe7d2c22e2b5d4840a95fee8f6a7cfd0a1b1d6c57719226baf64185aa40acc7"), looks := true }, kinds := [], alts := [], laidByText := true, laidKinds := [.data, .pinned], laidTests := true, laidLooks := .later }
def CellsBoundsUptoCardSaid : Prop := Claim7.holds Tryd.pinned (.plain (OpenSpec.upto cellsBoundsSpec)) cellsBoundsUptoCard
end Rows
end Go.Proofs.YtlppmbooakcmaaaDoor

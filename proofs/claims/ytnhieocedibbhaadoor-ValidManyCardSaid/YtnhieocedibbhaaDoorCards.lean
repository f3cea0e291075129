/-
  DERIVED. GIVEN WITH THE SEED: THE CARDS: each row of YtnhieocedibbhaaDoorRows.lean that lists a variable, with what it lists TIED to the program's text (the seventh form; the later family's looks); each row that meets fmt, with fmt's text TOLD by the authors' own Lean function (tested against real Go, not proved from fmt's source: count such statements apart). THE CARD IS WHAT COUNTS. Prove the row's statement (the work); the ties are given (YtnhieocedibbhaaDoorTie.lean); close each card by the builder's one call (the guide's Derived/Test/ToyasCard.lean, 'card_holds'). Laid BY PROGRAM, IN A SANDBOX (cutbox-door.mjs). By AI agents, Wed Nov 11 2026. No macro, syntax, notation, axiom, sorry.
-/
import Derived.Test.YtnhieocedibbhaaDoorRows
import GoSem.ClaimSeven
namespace Go.Proofs.YtnhieocedibbhaaDoor
namespace Rows

/-- THE TIED CARD OF 'palinglaw7.InsTells'. -/
def insTellsCard : Claim7 := { stood := { row := insTellsRow, standIns := [], harness := (true, "be17b68720580c41819543397acc6fb529ef7de8102964e2aa4b5c34fed210b4"), looks := true }, kinds := [], alts := [], laidByText := true, laidKinds := [.data, .pinned], laidTests := true, laidLooks := .later }
def InsTellsCardSaid : Prop := Claim7.holds Tryd.pinned (.plain (OpenSpec.ofChange insTellsSpec)) insTellsCard

/-- THE TIED CARD OF 'palinglaw7.InsMakes'. -/
def insMakesCard : Claim7 := { stood := { row := insMakesRow, standIns := [], harness := (true, "be17b68720580c41819543397acc6fb529ef7de8102964e2aa4b5c34fed210b4"), looks := true }, kinds := [], alts := [], laidByText := true, laidKinds := [.data, .pinned], laidTests := true, laidLooks := .later }
def InsMakesCardSaid : Prop := Claim7.holds Tryd.pinned (.plain (OpenSpec.ofChange insMakesSpec)) insMakesCard

/-- THE TIED CARD OF 'palinglaw7.InsForms'. -/
def insFormsCard : Claim7 := { stood := { row := insFormsRow, standIns := [], harness := (true, "be17b68720580c41819543397acc6fb529ef7de8102964e2aa4b5c34fed210b4"), looks := true }, kinds := [], alts := [], laidByText := true, laidKinds := [.data, .pinned], laidTests := true, laidLooks := .later }
def InsFormsCardSaid : Prop := Claim7.holds Tryd.pinned (.plain (OpenSpec.ofChange insFormsSpec)) insFormsCard

/-- THE TIED CARD OF 'palinglaw7.InsReckons'. -/
def insReckonsCard : Claim7 := { stood := { row := insReckonsRow, standIns := [], harness := (true, "be17b68720580c41819543397acc6fb529ef7de8102964e2aa4b5c34fed210b4"), looks := true }, kinds := [], alts := [], laidByText := true, laidKinds := [.data, .pinned], laidTests := true, laidLooks := .later }
def InsReckonsCardSaid : Prop := Claim7.holds Tryd.pinned (.plain (OpenSpec.ofChange insReckonsSpec)) insReckonsCard

/-- THE TIED CARD OF 'palinglaw7.InsSame'. -/
def insSameCard : Claim7 := { stood := { row := insSameRow, standIns := [], harness := (true, "be17b68720580c41819543397acc6fb529ef7de8102964e2aa4b5c34fed210b4"), looks := true }, kinds := [], alts := [], laidByText := true, laidKinds := [.data, .pinned], laidTests := true, laidLooks := .later }
def InsSameCardSaid : Prop := Claim7.holds Tryd.pinned (.plain (OpenSpec.ofChange insSameSpec)) insSameCard

/-- THE TIED CARD OF 'palinglaw8.ValidTells'. -/
def validTellsCard : Claim7 := { stood := { row := validTellsRow, standIns := [], harness := (true, "be17b68720580c41819543397acc6fb529ef7de8102964e2aa4b5c34fed210b4"), looks := true }, kinds := [], alts := [], laidByText := true, laidKinds := [.data, .pinned], laidTests := true, laidLooks := .later }
def ValidTellsCardSaid : Prop := Claim7.holds Tryd.pinned (.plain (OpenSpec.ofChange validTellsSpec)) validTellsCard

/-- THE TIED CARD OF 'palinglaw8.ValidBent'. -/
def validBentCard : Claim7 := { stood := { row := validBentRow, standIns := [], harness := (true, "be17b68720580c41819543397acc6fb529ef7de8102964e2aa4b5c34fed210b4"), looks := true }, kinds := [], alts := [], laidByText := true, laidKinds := [.data, .pinned], laidTests := true, laidLooks := .later }
def ValidBentCardSaid : Prop := Claim7.holds Tryd.pinned (.plain (OpenSpec.ofChange validBentSpec)) validBentCard

/-- THE TIED CARD OF 'palinglaw8.ValidMany'. -/
def validManyCard : Claim7 := { stood := { row := validManyRow, standIns := [], harness := (true, "be17b68720580c41819543397acc6fb529ef7de8102964e2aa4b5c34fed210b4"), looks := true }, kinds := [], alts := [], laidByText := true, laidKinds := [.data, .pinned], laidTests := true, laidLooks := .later }
def ValidManyCardSaid : Prop := Claim7.holds Tryd.pinned (.plain (OpenSpec.ofChange validManySpec)) validManyCard

/-- THE TIED CARD OF 'palinglaw8.ValidLong'. -/
def validLongCard : Claim7 := { stood := { row := validLongRow, standIns := [], harness := (true, "be17b68720580c41819543397acc6fb529ef7de8102964e2aa4b5c34fed210b4"), looks := true }, kinds := [], alts := [], laidByText := true, laidKinds := [.data, .pinned], laidTests := true, laidLooks := .later }
def ValidLongCardSaid : Prop := Claim7.holds Tryd.pinned (.plain (OpenSpec.ofChange validLongSpec)) validLongCard

/-- THE TIED CARD OF 'palinglaw8.ValidFinds'. -/
def validFindsCard : Claim7 := { stood := { row := validFindsRow, standIns := [], harness := (true, "be17b68720580c41819543397acc6fb529ef7de8102964e2aa4b5c34fed210b4"), looks := true }, kinds := [], alts := [], laidByText := true, laidKinds := [.data, .pinned], laidTests := true, laidLooks := .later }
def ValidFindsCardSaid : Prop := Claim7.holds Tryd.pinned (.plain (OpenSpec.ofChange validFindsSpec)) validFindsCard

/-- THE TIED CARD OF 'palinglaw8.ValidCopies'. -/
def validCopiesCard : Claim7 := { stood := { row := validCopiesRow, standIns := [], harness := (true, "be17b68720580c41819543397acc6fb529ef7de8102964e2aa4b5c34fed210b4"), looks := true }, kinds := [], alts := [], laidByText := true, laidKinds := [.data, .pinned], laidTests := true, laidLooks := .later }
def ValidCopiesCardSaid : Prop := Claim7.holds Tryd.pinned (.plain (OpenSpec.ofChange validCopiesSpec)) validCopiesCard

/-- THE SECOND FORM's CARD OF 'palinglaw7.InsTells'. -/
def insTellsUptoCard : Claim7 := { stood := { row := insTellsUptoRow, standIns := [], harness := (true, "be17b68720580c41819543397acc6fb529ef7de8102964e2aa4b5c34fed210b4"), looks := true }, kinds := [], alts := [], laidByText := true, laidKinds := [.data, .pinned], laidTests := true, laidLooks := .later }
def InsTellsUptoCardSaid : Prop := Claim7.holds Tryd.pinned (.plain (OpenSpec.upto insTellsSpec)) insTellsUptoCard

/-- THE SECOND FORM's CARD OF 'palinglaw7.InsMakes'. -/
def insMakesUptoCard : Claim7 := { stood := { row := insMakesUptoRow, standIns := [], harness := (true, "be17b68720580c41819543397acc6fb529ef7de8102964e2aa4b5c34fed210b4"), looks := true }, kinds := [], alts := [], laidByText := true, laidKinds := [.data, .pinned], laidTests := true, laidLooks := .later }
def InsMakesUptoCardSaid : Prop := Claim7.holds Tryd.pinned (.plain (OpenSpec.upto insMakesSpec)) insMakesUptoCard

/-- THE SECOND FORM's CARD OF 'palinglaw7.InsForms'. -/
def insFormsUptoCard : Claim7 := { stood := { row := insFormsUptoRow, standIns := [], harness := (true, "be17b68720580c41819543397acc6fb529ef7de8102964e2aa4b5c34fed210b4"), looks := true }, kinds := [], alts := [], laidByText := true, laidKinds := [.data, .pinned], laidTests := true, laidLooks := .later }
def InsFormsUptoCardSaid : Prop := Claim7.holds Tryd.pinned (.plain (OpenSpec.upto insFormsSpec)) insFormsUptoCard

/-- THE SECOND FORM's CARD OF 'palinglaw7.InsReckons'. -/
def insReckonsUptoCard : Claim7 := { stood := { row := insReckonsUptoRow, standIns := [], harness := (true, "be17b68720580c41819543397acc6fb529ef7de8102964e2aa4b5c34fed210b4"), looks := true }, kinds := [], alts := [], laidByText := true, laidKinds := [.data, .pinned], laidTests := true, laidLooks := .later }
def InsReckonsUptoCardSaid : Prop := Claim7.holds Tryd.pinned (.plain (OpenSpec.upto insReckonsSpec)) insReckonsUptoCard

/-- THE SECOND FORM's CARD OF 'palinglaw7.InsSame'. -/
def insSameUptoCard : Claim7 := { stood := { row := insSameUptoRow, standIns := [], harness := (true, "be17b68720580c41819543397acc6fb529ef7de8102964e2aa4b5c34fed210b4"), looks := true }, kinds := [], alts := [], laidByText := true, laidKinds := [.data, .pinned], laidTests := true, laidLooks := .later }
def InsSameUptoCardSaid : Prop := Claim7.holds Tryd.pinned (.plain (OpenSpec.upto insSameSpec)) insSameUptoCard

/-- THE SECOND FORM's CARD OF 'palinglaw8.ValidTells'. -/
def validTellsUptoCard : Claim7 := { stood := { row := validTellsUptoRow, standIns := [], harness := (true, "be17b68720580c41819543397acc6fb529ef7de8102964e2aa4b5c34fed210b4"), looks := true }, kinds := [], alts := [], laidByText := true, laidKinds := [.data, .pinned], laidTests := true, laidLooks := .later }
def ValidTellsUptoCardSaid : Prop := Claim7.holds Tryd.pinned (.plain (OpenSpec.upto validTellsSpec)) validTellsUptoCard

/-- THE SECOND FORM's CARD OF 'palinglaw8.ValidBent'. -/
def validBentUptoCard : Claim7 := { stood := { row := validBentUptoRow, standIns := [], harness := (true, "be17b68720580c41819543397acc6fb529ef7de8102964e2aa4b5c34fed210b4"), looks := true }, kinds := [], alts := [], laidByText := true, laidKinds := [.data, .pinned], laidTests := true, laidLooks := .later }
def ValidBentUptoCardSaid : Prop := Claim7.holds Tryd.pinned (.plain (OpenSpec.upto validBentSpec)) validBentUptoCard

/-- THE SECOND FORM's CARD OF 'palinglaw8.ValidMany'. -/
def validManyUptoCard : Claim7 := { stood := { row := validManyUptoRow, standIns := [], harness := (true, "be17b68720580c41819543397acc6fb529ef7de8102964e2aa4b5c34fed210b4"), looks := true }, kinds := [], alts := [], laidByText := true, laidKinds := [.data, .pinned], laidTests := true, laidLooks := .later }
def ValidManyUptoCardSaid : Prop := Claim7.holds Tryd.pinned (.plain (OpenSpec.upto validManySpec)) validManyUptoCard

/-- THE SECOND FORM's CARD OF 'palinglaw8.ValidLong'. -/
def validLongUptoCard : Claim7 := { stood := { row := validLongUptoRow, standIns := [], harness := (true, "be17b68720580c41819543397acc6fb529ef7de8102964e2aa4b5c34fed210b4"), looks := true }, kinds := [], alts := [], laidByText := true, laidKinds := [.data, .pinned], laidTests := true, laidLooks := .later }
def ValidLongUptoCardSaid : Prop := Claim7.holds Tryd.pinned (.plain (OpenSpec.upto validLongSpec)) validLongUptoCard

/-- THE SECOND FORM's CARD OF 'palinglaw8.ValidFinds'. -/
def validFindsUptoCard : Claim7 := { stood := { row := validFindsUptoRow, standIns := [], harness := (true, "be17b68720580c41819543397acc6fb529ef7de8102964e2aa4b5c34fed210b4"), looks := true }, kinds := [], alts := [], laidByText := true, laidKinds := [.data, .pinned], laidTests := true, laidLooks := .later }
def ValidFindsUptoCardSaid : Prop := Claim7.holds Tryd.pinned (.plain (OpenSpec.upto validFindsSpec)) validFindsUptoCard

/-- THE SECOND FORM's CARD OF 'palinglaw8.ValidCopies'. -/
def validCopiesUptoCard : Claim7 := { stood := { row := validCopiesUptoRow, standIns := [], harness := (true, "be17b68720580c41819543397acc6fb529ef7de8102964e2aa4b5c34fed210b4"), looks := true }, kinds := [], alts := [], laidByText := true, laidKinds := [.data, .pinned], laidTests := true, laidLooks := .later }
def ValidCopiesUptoCardSaid : Prop := Claim7.holds Tryd.pinned (.plain (OpenSpec.upto validCopiesSpec)) validCopiesUptoCard
end Rows
end Go.Proofs.YtnhieocedibbhaaDoor

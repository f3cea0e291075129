/-
  DERIVED. GIVEN WITH THE SEED: THE CARDS: each row of YtijcpdnlofpccaaDoorRows.lean that lists a variable, with what it lists TIED to the program's text (the seventh form; the later family's looks); each row that meets fmt, with fmt's text TOLD by the authors' own Lean function (tested against real Go, not proved from fmt's source: count such statements apart). THE CARD IS WHAT COUNTS. Prove the row's statement (the work); the ties are given (YtijcpdnlofpccaaDoorTie.lean); close each card by the builder's one call (the guide's Derived/Test/ToyasCard.lean, 'card_holds'). Laid BY PROGRAM, IN A SANDBOX (cutbox-door.mjs). By AI agents, Wed Nov 11 2026. No macro, syntax, notation, axiom, sorry.
-/
import Derived.Test.YtijcpdnlofpccaaDoorRows
import GoSem.ClaimSeven
namespace Go.Proofs.YtijcpdnlofpccaaDoor
namespace Rows

/-- THE TIED CARD OF 'palinglaw26.WeaveTells'. -/
def weaveTellsCard : Claim7 := { stood := { row := weaveTellsRow, standIns := [], harness := (true, "4aefa827d97db01698d10f8eb7ea297ddc43b7438fc9fb8090699702e0943be5"), looks := true }, kinds := [], alts := [], laidByText := true, laidKinds := [.data, .pinned], laidTests := true, laidLooks := .later }
def WeaveTellsCardSaid : Prop := Claim7.holds Tryd.pinned (.plain (OpenSpec.ofChange weaveTellsSpec)) weaveTellsCard

/-- THE TIED CARD OF 'palinglaw26.WeavePlaces'. -/
def weavePlacesCard : Claim7 := { stood := { row := weavePlacesRow, standIns := [], harness := (true, "4aefa827d97db01698d10f8eb7ea297ddc43b7438fc9fb8090699702e0943be5"), looks := true }, kinds := [], alts := [], laidByText := true, laidKinds := [.data, .pinned], laidTests := true, laidLooks := .later }
def WeavePlacesCardSaid : Prop := Claim7.holds Tryd.pinned (.plain (OpenSpec.ofChange weavePlacesSpec)) weavePlacesCard

/-- THE TIED CARD OF 'palinglaw26.WeaveMap'. -/
def weaveMapCard : Claim7 := { stood := { row := weaveMapRow, standIns := [], harness := (true, "4aefa827d97db01698d10f8eb7ea297ddc43b7438fc9fb8090699702e0943be5"), looks := true }, kinds := [], alts := [], laidByText := true, laidKinds := [.data, .pinned], laidTests := true, laidLooks := .later }
def WeaveMapCardSaid : Prop := Claim7.holds Tryd.pinned (.plain (OpenSpec.ofChange weaveMapSpec)) weaveMapCard

/-- THE TIED CARD OF 'palinglaw26.WeaveState'. -/
def weaveStateCard : Claim7 := { stood := { row := weaveStateRow, standIns := [], harness := (true, "4aefa827d97db01698d10f8eb7ea297ddc43b7438fc9fb8090699702e0943be5"), looks := true }, kinds := [], alts := [], laidByText := true, laidKinds := [.data, .pinned], laidTests := true, laidLooks := .later }
def WeaveStateCardSaid : Prop := Claim7.holds Tryd.pinned (.plain (OpenSpec.ofChange weaveStateSpec)) weaveStateCard

/-- THE TIED CARD OF 'palinglaw26.WeaveOut'. -/
def weaveOutCard : Claim7 := { stood := { row := weaveOutRow, standIns := [], harness := (true, "4aefa827d97db01698d10f8eb7ea297ddc43b7438fc9fb8090699702e0943be5"), looks := true }, kinds := [], alts := [], laidByText := true, laidKinds := [.data, .pinned], laidTests := true, laidLooks := .later }
def WeaveOutCardSaid : Prop := Claim7.holds Tryd.pinned (.plain (OpenSpec.ofChange weaveOutSpec)) weaveOutCard

/-- THE TIED CARD OF 'palinglaw26.WeaveRound'. -/
def weaveRoundCard : Claim7 := { stood := { row := weaveRoundRow, standIns := [], harness := (true, "4aefa827d97db01698d10f8eb7ea297ddc43b7438fc9fb8090699702e0943be5"), looks := true }, kinds := [], alts := [], laidByText := true, laidKinds := [.data, .pinned], laidTests := true, laidLooks := .later }
def WeaveRoundCardSaid : Prop := Claim7.holds Tryd.pinned (.plain (OpenSpec.ofChange weaveRoundSpec)) weaveRoundCard

/-- THE TIED CARD OF 'palinglaw26.WeaveRaw'. -/
def weaveRawCard : Claim7 := { stood := { row := weaveRawRow, standIns := [], harness := (true, "4aefa827d97db01698d10f8eb7ea297ddc43b7438fc9fb8090699702e0943be5"), looks := true }, kinds := [], alts := [], laidByText := true, laidKinds := [.data, .pinned], laidTests := true, laidLooks := .later }
def WeaveRawCardSaid : Prop := Claim7.holds Tryd.pinned (.plain (OpenSpec.ofChange weaveRawSpec)) weaveRawCard

/-- THE SECOND FORM's CARD OF 'palinglaw26.WeaveTells'. -/
def weaveTellsUptoCard : Claim7 := { stood := { row := weaveTellsUptoRow, standIns := [], harness := (true, "4aefa827d97db01698d10f8eb7ea297ddc43b7438fc9fb8090699702e0943be5"), looks := true }, kinds := [], alts := [], laidByText := true, laidKinds := [.data, .pinned], laidTests := true, laidLooks := .later }
def WeaveTellsUptoCardSaid : Prop := Claim7.holds Tryd.pinned (.plain (OpenSpec.upto weaveTellsSpec)) weaveTellsUptoCard

/-- THE SECOND FORM's CARD OF 'palinglaw26.WeavePlaces'. -/
def weavePlacesUptoCard : Claim7 := { stood := { row := weavePlacesUptoRow, standIns := [], harness := (true, "4aefa827d97db01698d10f8eb7ea297ddc43b7438fc9fb8090699702e0943be5"), looks := true }, kinds := [], alts := [], laidByText := true, laidKinds := [.data, .pinned], laidTests := true, laidLooks := .later }
def WeavePlacesUptoCardSaid : Prop := Claim7.holds Tryd.pinned (.plain (OpenSpec.upto weavePlacesSpec)) weavePlacesUptoCard

/-- THE SECOND FORM's CARD OF 'palinglaw26.WeaveMap'. -/
def weaveMapUptoCard : Claim7 := { stood := { row := weaveMapUptoRow, standIns := [], harness := (true, "4aefa827d97db01698d10f8eb7ea297ddc43b7438fc9fb8090699702e0943be5"), looks := true }, kinds := [], alts := [], laidByText := true, laidKinds := [.data, .pinned], laidTests := true, laidLooks := .later }
def WeaveMapUptoCardSaid : Prop := Claim7.holds Tryd.pinned (.plain (OpenSpec.upto weaveMapSpec)) weaveMapUptoCard

/-- THE SECOND FORM's CARD OF 'palinglaw26.WeaveState'. -/
def weaveStateUptoCard : Claim7 := { stood := { row := weaveStateUptoRow, standIns := [], harness := (true, "4aefa827d97db01698d10f8eb7ea297ddc43b7438fc9fb8090699702e0943be5"), looks := true }, kinds := [], alts := [], laidByText := true, laidKinds := [.data, .pinned], laidTests := true, laidLooks := .later }
def WeaveStateUptoCardSaid : Prop := Claim7.holds Tryd.pinned (.plain (OpenSpec.upto weaveStateSpec)) weaveStateUptoCard

/-- THE SECOND FORM's CARD OF 'palinglaw26.WeaveOut'. -/
def weaveOutUptoCard : Claim7 := { stood := { row := weaveOutUptoRow, standIns := [], harness := (true, "4aefa827d97db01698d10f8eb7ea297ddc43b7438fc9fb8090699702e0943be5"), looks := true }, kinds := [], alts := [], laidByText := true, laidKinds := [.data, .pinned], laidTests := true, laidLooks := .later }
def WeaveOutUptoCardSaid : Prop := Claim7.holds Tryd.pinned (.plain (OpenSpec.upto weaveOutSpec)) weaveOutUptoCard

/-- THE SECOND FORM's CARD OF 'palinglaw26.WeaveRound'. -/
def weaveRoundUptoCard : Claim7 := { stood := { row := weaveRoundUptoRow, standIns := [], harness := (true, "4aefa827d97db01698d10f8eb7ea297ddc43b7438fc9fb8090699702e0943be5"), looks := true }, kinds := [], alts := [], laidByText := true, laidKinds := [.data, .pinned], laidTests := true, laidLooks := .later }
def WeaveRoundUptoCardSaid : Prop := Claim7.holds Tryd.pinned (.plain (OpenSpec.upto weaveRoundSpec)) weaveRoundUptoCard

/-- THE SECOND FORM's CARD OF 'palinglaw26.WeaveRaw'. -/
def weaveRawUptoCard : Claim7 := { stood := { row := weaveRawUptoRow, standIns := [], harness := (true, "4aefa827d97db01698d10f8eb7ea297ddc43b7438fc9fb8090699702e0943be5"), looks := true }, kinds := [], alts := [], laidByText := true, laidKinds := [.data, .pinned], laidTests := true, laidLooks := .later }
def WeaveRawUptoCardSaid : Prop := Claim7.holds Tryd.pinned (.plain (OpenSpec.upto weaveRawSpec)) weaveRawUptoCard
end Rows
end Go.Proofs.YtijcpdnlofpccaaDoor

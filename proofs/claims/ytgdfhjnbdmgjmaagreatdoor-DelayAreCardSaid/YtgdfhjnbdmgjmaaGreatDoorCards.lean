/-
  DERIVED. GIVEN WITH THE SEED: THE CARDS: each row of YtgdfhjnbdmgjmaaGreatDoorRows.lean that lists a variable, with what it lists TIED to the program's text (the seventh form; the later family's looks); each row that meets fmt, with fmt's text TOLD by the authors' own Lean function (tested against real Go, not proved from fmt's source: count such statements apart). THE CARD IS WHAT COUNTS. Prove the row's statement (the work); the ties are given (YtgdfhjnbdmgjmaaGreatDoorTie.lean); close each card by the builder's one call (the guide's Derived/Test/ToyasCard.lean, 'card_holds'). Laid BY PROGRAM, IN A SANDBOX (cutbox-door.mjs). By AI agents, Wed Nov 11 2026. No macro, syntax, notation, axiom, sorry.
-/
import Derived.Test.YtgdfhjnbdmgjmaaGreatDoorRows
import GoSem.ClaimSeven
namespace Go.Proofs.YtgdfhjnbdmgjmaaGreatDoor
namespace Rows

/-- THE TIED CARD OF 'palinglaw23.ClashPairs'. -/
def clashPairsCard : Claim7 := { stood := { row := clashPairsRow, standIns := [], harness := (true, "3edcfccf2c7ffba5cf95afe484a2bbe7d9205211e7b11b64babb805fa483168e"), looks := true }, kinds := [], alts := [], laidByText := true, laidKinds := [.data, .pinned], laidTests := true, laidLooks := .later }
def ClashPairsCardSaid : Prop := Claim7.holds Tryz.pinned (.plain (OpenSpec.ofChange clashPairsSpec)) clashPairsCard

/-- THE TIED CARD OF 'palinglaw23.ClashBack'. -/
def clashBackCard : Claim7 := { stood := { row := clashBackRow, standIns := [], harness := (true, "3edcfccf2c7ffba5cf95afe484a2bbe7d9205211e7b11b64babb805fa483168e"), looks := true }, kinds := [], alts := [], laidByText := true, laidKinds := [.data, .pinned], laidTests := true, laidLooks := .later }
def ClashBackCardSaid : Prop := Claim7.holds Tryz.pinned (.plain (OpenSpec.ofChange clashBackSpec)) clashBackCard

/-- THE TIED CARD OF 'palinglaw23.ClashRaw'. -/
def clashRawCard : Claim7 := { stood := { row := clashRawRow, standIns := [], harness := (true, "3edcfccf2c7ffba5cf95afe484a2bbe7d9205211e7b11b64babb805fa483168e"), looks := true }, kinds := [], alts := [], laidByText := true, laidKinds := [.data, .pinned], laidTests := true, laidLooks := .later }
def ClashRawCardSaid : Prop := Claim7.holds Tryz.pinned (.plain (OpenSpec.ofChange clashRawSpec)) clashRawCard

/-- THE TIED CARD OF 'palinglaw23.ClashTwo'. -/
def clashTwoCard : Claim7 := { stood := { row := clashTwoRow, standIns := [], harness := (true, "3edcfccf2c7ffba5cf95afe484a2bbe7d9205211e7b11b64babb805fa483168e"), looks := true }, kinds := [], alts := [], laidByText := true, laidKinds := [.data, .pinned], laidTests := true, laidLooks := .later }
def ClashTwoCardSaid : Prop := Claim7.holds Tryz.pinned (.plain (OpenSpec.ofChange clashTwoSpec)) clashTwoCard

/-- THE TIED CARD OF 'palinglaw24.DelayTells'. -/
def delayTellsCard : Claim7 := { stood := { row := delayTellsRow, standIns := [], harness := (true, "3edcfccf2c7ffba5cf95afe484a2bbe7d9205211e7b11b64babb805fa483168e"), looks := true }, kinds := [], alts := [], laidByText := true, laidKinds := [.data, .pinned], laidTests := true, laidLooks := .later }
def DelayTellsCardSaid : Prop := Claim7.holds Tryz.pinned (.plain (OpenSpec.ofChange delayTellsSpec)) delayTellsCard

/-- THE TIED CARD OF 'palinglaw24.DelayRaw'. -/
def delayRawCard : Claim7 := { stood := { row := delayRawRow, standIns := [], harness := (true, "3edcfccf2c7ffba5cf95afe484a2bbe7d9205211e7b11b64babb805fa483168e"), looks := true }, kinds := [], alts := [], laidByText := true, laidKinds := [.data, .pinned], laidTests := true, laidLooks := .later }
def DelayRawCardSaid : Prop := Claim7.holds Tryz.pinned (.plain (OpenSpec.ofChange delayRawSpec)) delayRawCard

/-- THE TIED CARD OF 'palinglaw24.DelayAre'. -/
def delayAreCard : Claim7 := { stood := { row := delayAreRow, standIns := [], harness := (true, "3edcfccf2c7ffba5cf95afe484a2bbe7d9205211e7b11b64babb805fa483168e"), looks := true }, kinds := [], alts := [], laidByText := true, laidKinds := [.data, .pinned], laidTests := true, laidLooks := .later }
def DelayAreCardSaid : Prop := Claim7.holds Tryz.pinned (.plain (OpenSpec.ofChange delayAreSpec)) delayAreCard

/-- THE TIED CARD OF 'palinglaw24.DelayLocked'. -/
def delayLockedCard : Claim7 := { stood := { row := delayLockedRow, standIns := [], harness := (true, "3edcfccf2c7ffba5cf95afe484a2bbe7d9205211e7b11b64babb805fa483168e"), looks := true }, kinds := [], alts := [], laidByText := true, laidKinds := [.data, .pinned], laidTests := true, laidLooks := .later }
def DelayLockedCardSaid : Prop := Claim7.holds Tryz.pinned (.plain (OpenSpec.ofChange delayLockedSpec)) delayLockedCard

/-- THE SECOND FORM's CARD OF 'palinglaw23.ClashPairs'. -/
def clashPairsUptoCard : Claim7 := { stood := { row := clashPairsUptoRow, standIns := [], harness := (true, "3edcfccf2c7ffba5cf95afe484a2bbe7d9205211e7b11b64babb805fa483168e"), looks := true }, kinds := [], alts := [], laidByText := true, laidKinds := [.data, .pinned], laidTests := true, laidLooks := .later }
def ClashPairsUptoCardSaid : Prop := Claim7.holds Tryz.pinned (.plain (OpenSpec.upto clashPairsSpec)) clashPairsUptoCard

/-- THE SECOND FORM's CARD OF 'palinglaw23.ClashBack'. -/
def clashBackUptoCard : Claim7 := { stood := { row := clashBackUptoRow, standIns := [], harness := (true, "3edcfccf2c7ffba5cf95afe484a2bbe7d9205211e7b11b64babb805fa483168e"), looks := true }, kinds := [], alts := [], laidByText := true, laidKinds := [.data, .pinned], laidTests := true, laidLooks := .later }
def ClashBackUptoCardSaid : Prop := Claim7.holds Tryz.pinned (.plain (OpenSpec.upto clashBackSpec)) clashBackUptoCard

/-- THE SECOND FORM's CARD OF 'palinglaw23.ClashRaw'. -/
def clashRawUptoCard : Claim7 := { stood := { row := clashRawUptoRow, standIns := [], harness := (true, "3edcfccf2c7ffba5cf95afe484a2bbe7d9205211e7b11b64babb805fa483168e"), looks := true }, kinds := [], alts := [], laidByText := true, laidKinds := [.data, .pinned], laidTests := true, laidLooks := .later }
def ClashRawUptoCardSaid : Prop := Claim7.holds Tryz.pinned (.plain (OpenSpec.upto clashRawSpec)) clashRawUptoCard

/-- THE SECOND FORM's CARD OF 'palinglaw23.ClashTwo'. -/
def clashTwoUptoCard : Claim7 := { stood := { row := clashTwoUptoRow, standIns := [], harness := (true, "3edcfccf2c7ffba5cf95afe484a2bbe7d9205211e7b11b64babb805fa483168e"), looks := true }, kinds := [], alts := [], laidByText := true, laidKinds := [.data, .pinned], laidTests := true, laidLooks := .later }
def ClashTwoUptoCardSaid : Prop := Claim7.holds Tryz.pinned (.plain (OpenSpec.upto clashTwoSpec)) clashTwoUptoCard

/-- THE SECOND FORM's CARD OF 'palinglaw24.DelayTells'. -/
def delayTellsUptoCard : Claim7 := { stood := { row := delayTellsUptoRow, standIns := [], harness := (true, "3edcfccf2c7ffba5cf95afe484a2bbe7d9205211e7b11b64babb805fa483168e"), looks := true }, kinds := [], alts := [], laidByText := true, laidKinds := [.data, .pinned], laidTests := true, laidLooks := .later }
def DelayTellsUptoCardSaid : Prop := Claim7.holds Tryz.pinned (.plain (OpenSpec.upto delayTellsSpec)) delayTellsUptoCard

/-- THE SECOND FORM's CARD OF 'palinglaw24.DelayRaw'. -/
def delayRawUptoCard : Claim7 := { stood := { row := delayRawUptoRow, standIns := [], harness := (true, "3edcfccf2c7ffba5cf95afe484a2bbe7d9205211e7b11b64babb805fa483168e"), looks := true }, kinds := [], alts := [], laidByText := true, laidKinds := [.data, .pinned], laidTests := true, laidLooks := .later }
def DelayRawUptoCardSaid : Prop := Claim7.holds Tryz.pinned (.plain (OpenSpec.upto delayRawSpec)) delayRawUptoCard

/-- THE SECOND FORM's CARD OF 'palinglaw24.DelayAre'. -/
def delayAreUptoCard : Claim7 := { stood := { row := delayAreUptoRow, standIns := [], harness := (true, "3edcfccf2c7ffba5cf95afe484a2bbe7d9205211e7b11b64babb805fa483168e"), looks := true }, kinds := [], alts := [], laidByText := true, laidKinds := [.data, .pinned], laidTests := true, laidLooks := .later }
def DelayAreUptoCardSaid : Prop := Claim7.holds Tryz.pinned (.plain (OpenSpec.upto delayAreSpec)) delayAreUptoCard

/-- THE SECOND FORM's CARD OF 'palinglaw24.DelayLocked'. -/
def delayLockedUptoCard : Claim7 := { stood := { row := delayLockedUptoRow, standIns := [], harness := (true, "3edcfccf2c7ffba5cf95afe484a2bbe7d9205211e7b11b64babb805fa483168e"), looks := true }, kinds := [], alts := [], laidByText := true, laidKinds := [.data, .pinned], laidTests := true, laidLooks := .later }
def DelayLockedUptoCardSaid : Prop := Claim7.holds Tryz.pinned (.plain (OpenSpec.upto delayLockedSpec)) delayLockedUptoCard
end Rows
end Go.Proofs.YtgdfhjnbdmgjmaaGreatDoor

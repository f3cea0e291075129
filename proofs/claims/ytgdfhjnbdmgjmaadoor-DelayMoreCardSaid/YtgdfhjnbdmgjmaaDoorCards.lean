/-
  DERIVED. GIVEN WITH THE SEED: THE CARDS: each row of YtgdfhjnbdmgjmaaDoorRows.lean that lists a variable, with what it lists TIED to the program's text (the seventh form; the later family's looks); each row that meets fmt, with fmt's text TOLD by the authors' own Lean function (tested against real Go, not proved from fmt's source: count such statements apart). THE CARD IS WHAT COUNTS. Prove the row's statement (the work); the ties are given (YtgdfhjnbdmgjmaaDoorTie.lean); close each card by the builder's one call (the guide's Derived/Test/ToyasCard.lean, 'card_holds'). Laid BY PROGRAM, IN A SANDBOX (cutbox-door.mjs). By AI agents, Wed Nov 11 2026. No macro, syntax, notation, axiom, sorry.
-/
import Derived.Test.YtgdfhjnbdmgjmaaDoorRows
import GoSem.ClaimSeven
namespace Go.Proofs.YtgdfhjnbdmgjmaaDoor
namespace Rows

/-- THE TIED CARD OF 'palinglaw23.ClashAlone'. -/
def clashAloneCard : Claim7 := { stood := { row := clashAloneRow, standIns := [], harness := (true, "944033005a1ae0c627be22876e6f189f2b1e3b95fe7d7de73e6b410105a39202"), looks := true }, kinds := [], alts := [], laidByText := true, laidKinds := [.data, .pinned], laidTests := true, laidLooks := .later }
def ClashAloneCardSaid : Prop := Claim7.holds Tryd.pinned (.plain (OpenSpec.ofChange clashAloneSpec)) clashAloneCard

/-- THE TIED CARD OF 'palinglaw23.ClashRing'. -/
def clashRingCard : Claim7 := { stood := { row := clashRingRow, standIns := [], harness := (true, "944033005a1ae0c627be22876e6f189f2b1e3b95fe7d7de73e6b410105a39202"), looks := true }, kinds := [], alts := [], laidByText := true, laidKinds := [.data, .pinned], laidTests := true, laidLooks := .later }
def ClashRingCardSaid : Prop := Claim7.holds Tryd.pinned (.plain (OpenSpec.ofChange clashRingSpec)) clashRingCard

/-- THE TIED CARD OF 'palinglaw24.DelayRing'. -/
def delayRingCard : Claim7 := { stood := { row := delayRingRow, standIns := [], harness := (true, "944033005a1ae0c627be22876e6f189f2b1e3b95fe7d7de73e6b410105a39202"), looks := true }, kinds := [], alts := [], laidByText := true, laidKinds := [.data, .pinned], laidTests := true, laidLooks := .later }
def DelayRingCardSaid : Prop := Claim7.holds Tryd.pinned (.plain (OpenSpec.ofChange delayRingSpec)) delayRingCard

/-- THE TIED CARD OF 'palinglaw24.DelayMore'. -/
def delayMoreCard : Claim7 := { stood := { row := delayMoreRow, standIns := [], harness := (true, "944033005a1ae0c627be22876e6f189f2b1e3b95fe7d7de73e6b410105a39202"), looks := true }, kinds := [], alts := [], laidByText := true, laidKinds := [.data, .pinned], laidTests := true, laidLooks := .later }
def DelayMoreCardSaid : Prop := Claim7.holds Tryd.pinned (.plain (OpenSpec.ofChange delayMoreSpec)) delayMoreCard

/-- THE SECOND FORM's CARD OF 'palinglaw23.ClashAlone'. -/
def clashAloneUptoCard : Claim7 := { stood := { row := clashAloneUptoRow, standIns := [], harness := (true, "944033005a1ae0c627be22876e6f189f2b1e3b95fe7d7de73e6b410105a39202"), looks := true }, kinds := [], alts := [], laidByText := true, laidKinds := [.data, .pinned], laidTests := true, laidLooks := .later }
def ClashAloneUptoCardSaid : Prop := Claim7.holds Tryd.pinned (.plain (OpenSpec.upto clashAloneSpec)) clashAloneUptoCard

/-- THE SECOND FORM's CARD OF 'palinglaw23.ClashRing'. -/
def clashRingUptoCard : Claim7 := { stood := { row := clashRingUptoRow, standIns := [], harness := (true, "944033005a1ae0c627be22876e6f189f2b1e3b95fe7d7de73e6b410105a39202"), looks := true }, kinds := [], alts := [], laidByText := true, laidKinds := [.data, .pinned], laidTests := true, laidLooks := .later }
def ClashRingUptoCardSaid : Prop := Claim7.holds Tryd.pinned (.plain (OpenSpec.upto clashRingSpec)) clashRingUptoCard

/-- THE SECOND FORM's CARD OF 'palinglaw24.DelayRing'. -/
def delayRingUptoCard : Claim7 := { stood := { row := delayRingUptoRow, standIns := [], harness := (true, "944033005a1ae0c627be22876e6f189f2b1e3b95fe7d7de73e6b410105a39202"), looks := true }, kinds := [], alts := [], laidByText := true, laidKinds := [.data, .pinned], laidTests := true, laidLooks := .later }
def DelayRingUptoCardSaid : Prop := Claim7.holds Tryd.pinned (.plain (OpenSpec.upto delayRingSpec)) delayRingUptoCard

/-- THE SECOND FORM's CARD OF 'palinglaw24.DelayMore'. -/
def delayMoreUptoCard : Claim7 := { stood := { row := delayMoreUptoRow, standIns := [], harness := (true, "944033005a1ae0c627be22876e6f189f2b1e3b95fe7d7de73e6b410105a39202"), looks := true }, kinds := [], alts := [], laidByText := true, laidKinds := [.data, .pinned], laidTests := true, laidLooks := .later }
def DelayMoreUptoCardSaid : Prop := Claim7.holds Tryd.pinned (.plain (OpenSpec.upto delayMoreSpec)) delayMoreUptoCard
end Rows
end Go.Proofs.YtgdfhjnbdmgjmaaDoor

/-
  DERIVED. GIVEN WITH THE SEED: THE CARDS: each row of YtgdnbefkangpbaaDoorRows.lean that lists a variable, with what it lists TIED to the program's text (the seventh form; the later family's looks); each row that meets fmt, with fmt's text TOLD by the authors' own Lean function (tested against real Go, not proved from fmt's source: count such statements apart). THE CARD IS WHAT COUNTS. Prove the row's statement (the work); the ties are given (YtgdnbefkangpbaaDoorTie.lean); close each card by the builder's one call (the guide's Derived/Test/ToyasCard.lean, 'card_holds'). Laid BY PROGRAM, IN A SANDBOX (cutbox-door.mjs). By AI agents, Wed Nov 11 2026. No macro, syntax, notation, axiom, sorry.
-/
import Derived.Test.YtgdnbefkangpbaaDoorRows
import GoSem.ClaimSeven
namespace Go.Proofs.YtgdnbefkangpbaaDoor
namespace Rows

/-- THE TIED CARD OF 'palinglaw23.ClashAlone'. -/
def clashAloneCard : Claim7 := { stood := { row := clashAloneRow, standIns := [], harness := (true, "3c49e738e4068d4b88bcd9e2e4a11cdd3085a195c244eded2db794d1d24a552d"), looks := true }, kinds := [], alts := [], laidByText := true, laidKinds := [.data, .pinned], laidTests := true, laidLooks := .later }
def ClashAloneCardSaid : Prop := Claim7.holds Tryd.pinned (.plain (OpenSpec.ofChange clashAloneSpec)) clashAloneCard

/-- THE SECOND FORM's CARD OF 'palinglaw23.ClashAlone'. -/
def clashAloneUptoCard : Claim7 := { stood := { row := clashAloneUptoRow, standIns := [], harness := (true, "3c49e738e4068d4b88bcd9e2e4a11cdd3085a195c244eded2db794d1d24a552d"), looks := true }, kinds := [], alts := [], laidByText := true, laidKinds := [.data, .pinned], laidTests := true, laidLooks := .later }
def ClashAloneUptoCardSaid : Prop := Claim7.holds Tryd.pinned (.plain (OpenSpec.upto clashAloneSpec)) clashAloneUptoCard
end Rows
end Go.Proofs.YtgdnbefkangpbaaDoor

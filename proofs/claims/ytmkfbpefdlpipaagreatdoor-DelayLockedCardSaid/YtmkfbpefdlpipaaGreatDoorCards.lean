/-
  DERIVED. GIVEN WITH THE SEED: THE CARDS: each row of YtmkfbpefdlpipaaGreatDoorRows.lean that lists a variable, with what it lists TIED to the program's text (the seventh form; the later family's looks); each row that meets fmt, with fmt's text TOLD by the authors' own Lean function (tested against real Go, not proved from fmt's source: count such statements apart). THE CARD IS WHAT COUNTS. Prove the row's statement (the work); the ties are given (YtmkfbpefdlpipaaGreatDoorTie.lean); close each card by the builder's one call (the guide's Derived/Test/ToyasCard.lean, 'card_holds'). Laid BY PROGRAM, IN A SANDBOX (cutbox-door.mjs). By AI agents, Wed Nov 11 2026. No macro, syntax, notation, axiom, sorry.
-/
import Derived.Test.YtmkfbpefdlpipaaGreatDoorRows
import GoSem.ClaimSeven
namespace Go.Proofs.YtmkfbpefdlpipaaGreatDoor
namespace Rows

/-- THE TIED CARD OF 'palinglaw24.DelayLocked'. -/
def delayLockedCard : Claim7 := { stood := { row := delayLockedRow, standIns := [], harness := (true, "6705c14cce79cda8f566309a5b0df50f055489eb911657552294722443797156"), looks := true }, kinds := [], alts := [], laidByText := true, laidKinds := [.data, .pinned], laidTests := true, laidLooks := .later }
def DelayLockedCardSaid : Prop := Claim7.holds Tryz.pinned (.plain (OpenSpec.ofChange delayLockedSpec)) delayLockedCard

/-- THE SECOND FORM's CARD OF 'palinglaw24.DelayLocked'. -/
def delayLockedUptoCard : Claim7 := { stood := { row := delayLockedUptoRow, standIns := [], harness := (true, "6705c14cce79cda8f566309a5b0df50f055489eb911657552294722443797156"), looks := true }, kinds := [], alts := [], laidByText := true, laidKinds := [.data, .pinned], laidTests := true, laidLooks := .later }
def DelayLockedUptoCardSaid : Prop := Claim7.holds Tryz.pinned (.plain (OpenSpec.upto delayLockedSpec)) delayLockedUptoCard
end Rows
end Go.Proofs.YtmkfbpefdlpipaaGreatDoor

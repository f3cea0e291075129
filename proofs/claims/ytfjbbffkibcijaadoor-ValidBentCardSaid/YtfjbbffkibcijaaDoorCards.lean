/-
  DERIVED. GIVEN WITH THE SEED: THE CARDS: each row of YtfjbbffkibcijaaDoorRows.lean that lists a variable, with what it lists TIED to the program's text (the seventh form; the later family's looks); each row that meets fmt, with fmt's text TOLD by the authors' own Lean function (tested against real Go, not proved from fmt's source: count such statements apart). THE CARD IS WHAT COUNTS. Prove the row's statement (the work); the ties are given (YtfjbbffkibcijaaDoorTie.lean); close each card by the builder's one call (the guide's Derived/Test/ToyasCard.lean, 'card_holds'). Laid BY PROGRAM, IN A SANDBOX (cutbox-door.mjs). By AI agents, Wed Nov 11 2026. No macro, syntax, notation, axiom, sorry.
-/
import Derived.Test.YtfjbbffkibcijaaDoorRows
import GoSem.ClaimSeven
namespace Go.Proofs.YtfjbbffkibcijaaDoor
namespace Rows

/-- THE TIED CARD OF 'palinglaw8.ValidBent'. -/
def validBentCard : Claim7 := { stood := { row := validBentRow, standIns := [], harness := (true, "595e7bfc8ac8bf4eaf447a54209a78667d15a62b0d5080ec0efde4ffdf913c48"), looks := true }, kinds := [], alts := [], laidByText := true, laidKinds := [.data, .pinned], laidTests := true, laidLooks := .later }
def ValidBentCardSaid : Prop := Claim7.holds Tryd.pinned (.plain (OpenSpec.ofChange validBentSpec)) validBentCard

/-- THE TIED CARD OF 'palinglaw8.ValidCopies'. -/
def validCopiesCard : Claim7 := { stood := { row := validCopiesRow, standIns := [], harness := (true, "595e7bfc8ac8bf4eaf447a54209a78667d15a62b0d5080ec0efde4ffdf913c48"), looks := true }, kinds := [], alts := [], laidByText := true, laidKinds := [.data, .pinned], laidTests := true, laidLooks := .later }
def ValidCopiesCardSaid : Prop := Claim7.holds Tryd.pinned (.plain (OpenSpec.ofChange validCopiesSpec)) validCopiesCard

/-- THE SECOND FORM's CARD OF 'palinglaw8.ValidBent'. -/
def validBentUptoCard : Claim7 := { stood := { row := validBentUptoRow, standIns := [], harness := (true, "595e7bfc8ac8bf4eaf447a54209a78667d15a62b0d5080ec0efde4ffdf913c48"), looks := true }, kinds := [], alts := [], laidByText := true, laidKinds := [.data, .pinned], laidTests := true, laidLooks := .later }
def ValidBentUptoCardSaid : Prop := Claim7.holds Tryd.pinned (.plain (OpenSpec.upto validBentSpec)) validBentUptoCard

/-- THE SECOND FORM's CARD OF 'palinglaw8.ValidCopies'. -/
def validCopiesUptoCard : Claim7 := { stood := { row := validCopiesUptoRow, standIns := [], harness := (true, "595e7bfc8ac8bf4eaf447a54209a78667d15a62b0d5080ec0efde4ffdf913c48"), looks := true }, kinds := [], alts := [], laidByText := true, laidKinds := [.data, .pinned], laidTests := true, laidLooks := .later }
def ValidCopiesUptoCardSaid : Prop := Claim7.holds Tryd.pinned (.plain (OpenSpec.upto validCopiesSpec)) validCopiesUptoCard
end Rows
end Go.Proofs.YtfjbbffkibcijaaDoor

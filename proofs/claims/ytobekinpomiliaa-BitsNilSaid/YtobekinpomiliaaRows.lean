/-
  No cell of these rows narrows 'for every input' (looked for: loops, veiled, ifaces, maps, wideKeys, modest, calm, conditions, laid).
  DERIVED. THE GIVEN ROWS OF THIS SEAT. 4 by the template 'for every input the law returns true; each argument reads behind the call as it read before'; 0 by the template 'total and deterministic' (their statements: YtobekinpomiliaaTotals.lean).
  GIVEN WITH THE SEED: the statements are not yours to turn. If you find one false, say at which input.
  Laid BY PROGRAM, IN A SANDBOX (cutbox-rows.mjs): the forced cells as the released guide's own fill.sh prints them over the translation cb980b38e6c1a5ba… (all of the seat's roots in one cut). By AI agents, Wed Nov 11 2026. No macro, syntax, notation, axiom, sorry.
-/
import Derived.Test.YtobekinpomiliaaChecked
import GoSem.Claim
import GoSem.ClaimJoined
import GoSem.ClaimMapViews
import Derived.JoinedTies
import Derived.KernelRfl
namespace Go.Proofs.Ytobekinpomiliaa
/- THE CELL 'sum', in the pinned program and in every row, IS THE sha256 OF THE DUMP (.gsa) THAT YtobekinpomiliaaProg.lean LOADS. Nothing in Lean hashes anything: it is a label: what it is worth is what the hold of that sum in a sandbox is worth. -/
noncomputable def Try.pinned : Pinned := { name := "ytobekinpomiliaa", sum := "cb980b38e6c1a5ba2cd18ed74cfe03c752dc738e9e1dfc33027ee44f2e79b182", checked := Try.checked }
namespace Rows
def none {H : Type} : Left H := { results := [], args := [] }

/-- 'palinglaw19.BitsPlays': WHATEVER THE INPUT: true; the input reads as it did. -/
def bitsPlaysSpec : ChangeSpec := { name := "bitsPlays", fn := fun _ => fun
  | [d1, d2] => { results := [.lit (.bool true)], args := [d1, d2] }
  | _ => none }
def bitsPlaysRow : OpenClaim := { program := "ytobekinpomiliaa", sum := "cb980b38e6c1a5ba2cd18ed74cfe03c752dc738e9e1dfc33027ee44f2e79b182", func := "paling/palinglaw19.BitsPlays", spec := "bitsPlays", recurses := true, apart := false }
def BitsPlaysSaid : Prop := bitsPlaysRow.holds Try.pinned (OpenSpec.ofChange bitsPlaysSpec)

/-- ITS FALSE NEIGHBOUR: 'it returns false'. Refute it at one input. -/
def bitsPlaysWrong : ChangeSpec := { name := "bitsPlays", fn := fun _ => fun
  | [d1, d2] => { results := [.lit (.bool false)], args := [d1, d2] }
  | _ => none }
def BitsPlaysWrongFalsely : Prop := bitsPlaysRow.holds Try.pinned (OpenSpec.ofChange bitsPlaysWrong)

/-- 'palinglaw19.BitsOr': WHATEVER THE INPUT: true; the input reads as it did. -/
def bitsOrSpec : ChangeSpec := { name := "bitsOr", fn := fun _ => fun
  | [d1, d2, d3, d4] => { results := [.lit (.bool true)], args := [d1, d2, d3, d4] }
  | _ => none }
def bitsOrRow : OpenClaim := { program := "ytobekinpomiliaa", sum := "cb980b38e6c1a5ba2cd18ed74cfe03c752dc738e9e1dfc33027ee44f2e79b182", func := "paling/palinglaw19.BitsOr", spec := "bitsOr", recurses := true, apart := false }
def BitsOrSaid : Prop := bitsOrRow.holds Try.pinned (OpenSpec.ofChange bitsOrSpec)

/-- ITS FALSE NEIGHBOUR: 'it returns false'. Refute it at one input. -/
def bitsOrWrong : ChangeSpec := { name := "bitsOr", fn := fun _ => fun
  | [d1, d2, d3, d4] => { results := [.lit (.bool false)], args := [d1, d2, d3, d4] }
  | _ => none }
def BitsOrWrongFalsely : Prop := bitsOrRow.holds Try.pinned (OpenSpec.ofChange bitsOrWrong)

/-- 'palinglaw19.BitsCopies': WHATEVER THE INPUT: true; the input reads as it did. -/
def bitsCopiesSpec : ChangeSpec := { name := "bitsCopies", fn := fun _ => fun
  | [d1, d2, d3] => { results := [.lit (.bool true)], args := [d1, d2, d3] }
  | _ => none }
def bitsCopiesRow : OpenClaim := { program := "ytobekinpomiliaa", sum := "cb980b38e6c1a5ba2cd18ed74cfe03c752dc738e9e1dfc33027ee44f2e79b182", func := "paling/palinglaw19.BitsCopies", spec := "bitsCopies", recurses := true, apart := false }
def BitsCopiesSaid : Prop := bitsCopiesRow.holds Try.pinned (OpenSpec.ofChange bitsCopiesSpec)

/-- ITS FALSE NEIGHBOUR: 'it returns false'. Refute it at one input. -/
def bitsCopiesWrong : ChangeSpec := { name := "bitsCopies", fn := fun _ => fun
  | [d1, d2, d3] => { results := [.lit (.bool false)], args := [d1, d2, d3] }
  | _ => none }
def BitsCopiesWrongFalsely : Prop := bitsCopiesRow.holds Try.pinned (OpenSpec.ofChange bitsCopiesWrong)

/-- 'palinglaw19.BitsNil': WHATEVER THE INPUT: true; the input reads as it did. -/
def bitsNilSpec : ChangeSpec := { name := "bitsNil", fn := fun _ => fun
  | [d1, d2] => { results := [.lit (.bool true)], args := [d1, d2] }
  | _ => none }
def bitsNilRow : OpenClaim := { program := "ytobekinpomiliaa", sum := "cb980b38e6c1a5ba2cd18ed74cfe03c752dc738e9e1dfc33027ee44f2e79b182", func := "paling/palinglaw19.BitsNil", spec := "bitsNil", recurses := true, apart := false }
def BitsNilSaid : Prop := bitsNilRow.holds Try.pinned (OpenSpec.ofChange bitsNilSpec)

/-- ITS FALSE NEIGHBOUR: 'it returns false'. Refute it at one input. -/
def bitsNilWrong : ChangeSpec := { name := "bitsNil", fn := fun _ => fun
  | [d1, d2] => { results := [.lit (.bool false)], args := [d1, d2] }
  | _ => none }
def BitsNilWrongFalsely : Prop := bitsNilRow.holds Try.pinned (OpenSpec.ofChange bitsNilWrong)

/- THE SECOND FORM. 'bulk': how many values and letters a reading holds, each counted each time it is reached (what is shared counts as often as it is met; a slice's spare places count too). A statement '..UptoSaid' is the law's where the arguments, and the package variables that the reading takes, are together of bulk at most 1048576: NARROWER than '..Said'. Prove '..Said' where nothing that the law and all that it calls make is longer than what came in: it says more and counts as full. Else prove '..UptoSaid'. A law counts once. -/
mutual
def uptoBulk {H : Type} : DataW H → Nat
  | .lit (.string bytes) => bytes.length + 1
  | .lit _ => 1
  | .nil => 1
  | .ptr d => uptoBulk d + 1
  | .slice elems spare => uptoBulkAll elems + uptoBulkAll spare + 1
  | .agg parts => uptoBulkAll parts + 1
  | .iface _ d => uptoBulk d + 1
  | .map entries => uptoBulkEntries entries + 1
  | .held _ => 1
def uptoBulkAll {H : Type} : List (DataW H) → Nat
  | [] => 0
  | d :: r => uptoBulk d + uptoBulkAll r
def uptoBulkEntries {H : Type} : List (Lit × DataW H) → Nat
  | [] => 0
  | x :: r => uptoBulkEntry x + uptoBulkEntries r
def uptoBulkEntry {H : Type} : Lit × DataW H → Nat
  | (.string bytes, d) => bytes.length + uptoBulk d + 1
  | (_, d) => uptoBulk d + 1
 end
def uptoSmall : (H : Type) → List (DataW H) → Bool := fun _ ds => decide (uptoBulkAll ds ≤ 1048576)
def OpenSpec.upto (s : _root_.Go.ChangeSpec) : _root_.Go.OpenSpec := { _root_.Go.OpenSpec.ofChange s with cond := some uptoSmall }

/-- 'palinglaw19.BitsPlays', WHERE WHAT IT READS IS OF BULK AT MOST 1048576: true; the input reads as it did. -/
def bitsPlaysUptoRow : OpenClaim := { program := "ytobekinpomiliaa", sum := "cb980b38e6c1a5ba2cd18ed74cfe03c752dc738e9e1dfc33027ee44f2e79b182", func := "paling/palinglaw19.BitsPlays", spec := "bitsPlays", recurses := true, apart := false, narrowed := true }
def BitsPlaysUptoSaid : Prop := bitsPlaysUptoRow.holds Try.pinned (OpenSpec.upto bitsPlaysSpec)

/-- 'palinglaw19.BitsOr', WHERE WHAT IT READS IS OF BULK AT MOST 1048576: true; the input reads as it did. -/
def bitsOrUptoRow : OpenClaim := { program := "ytobekinpomiliaa", sum := "cb980b38e6c1a5ba2cd18ed74cfe03c752dc738e9e1dfc33027ee44f2e79b182", func := "paling/palinglaw19.BitsOr", spec := "bitsOr", recurses := true, apart := false, narrowed := true }
def BitsOrUptoSaid : Prop := bitsOrUptoRow.holds Try.pinned (OpenSpec.upto bitsOrSpec)

/-- 'palinglaw19.BitsCopies', WHERE WHAT IT READS IS OF BULK AT MOST 1048576: true; the input reads as it did. -/
def bitsCopiesUptoRow : OpenClaim := { program := "ytobekinpomiliaa", sum := "cb980b38e6c1a5ba2cd18ed74cfe03c752dc738e9e1dfc33027ee44f2e79b182", func := "paling/palinglaw19.BitsCopies", spec := "bitsCopies", recurses := true, apart := false, narrowed := true }
def BitsCopiesUptoSaid : Prop := bitsCopiesUptoRow.holds Try.pinned (OpenSpec.upto bitsCopiesSpec)

/-- 'palinglaw19.BitsNil', WHERE WHAT IT READS IS OF BULK AT MOST 1048576: true; the input reads as it did. -/
def bitsNilUptoRow : OpenClaim := { program := "ytobekinpomiliaa", sum := "cb980b38e6c1a5ba2cd18ed74cfe03c752dc738e9e1dfc33027ee44f2e79b182", func := "paling/palinglaw19.BitsNil", spec := "bitsNil", recurses := true, apart := false, narrowed := true }
def BitsNilUptoSaid : Prop := bitsNilUptoRow.holds Try.pinned (OpenSpec.upto bitsNilSpec)

end Rows
end Go.Proofs.Ytobekinpomiliaa

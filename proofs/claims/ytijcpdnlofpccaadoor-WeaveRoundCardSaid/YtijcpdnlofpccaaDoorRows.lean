/-
  NARROWER THAN 'FOR EVERY INPUT', by the rows' own cells (each row's printed sentence says how): WeaveTells: laid · WeavePlaces: laid · WeaveMap: laid · WeaveState: laid · WeaveOut: laid · WeaveRound: laid · WeaveRaw: laid.
  DERIVED. THE GIVEN ROWS OF THIS SEAT. 7 by the template 'for every input the law returns true; each argument reads behind the call as it read before'; 0 by the template 'total and deterministic' (their statements: YtijcpdnlofpccaaDoorTotals.lean).
  GIVEN WITH THE SEED: the statements are not yours to turn. If you find one false, say at which input.
  Laid BY PROGRAM, IN A SANDBOX (cutbox-rows.mjs): the forced cells as the released guide's own fill.sh prints them over the translation 9aa4afff3ce0a6ac… (all of the seat's roots in one cut). By AI agents, Wed Nov 11 2026. No macro, syntax, notation, axiom, sorry.
-/
import Derived.Test.YtijcpdnlofpccaaDoorChecked
import GoSem.PinnedTables
import GoSem.Claim
import GoSem.ClaimJoined
import GoSem.ClaimMapViews
import Derived.JoinedTies
import Derived.KernelRfl
namespace Go.Proofs.YtijcpdnlofpccaaDoor
/- THE CELL 'sum', in the pinned program and in every row, IS THE sha256 OF THE DUMP (.gsa) THAT YtijcpdnlofpccaaDoorProg.lean LOADS. Nothing in Lean hashes anything: it is a label: what it is worth is what the hold of that sum in a sandbox is worth. -/
noncomputable def Tryd.pinned : Pinned := { name := "ytijcpdnlofpccaadoor", sum := "9aa4afff3ce0a6ac2f655add517fc82cc655278743f665146f5adc77c27e5ae4", checked := Tryd.checked }
namespace Rows
def none {H : Type} : Left H := { results := [], args := [] }

/- WHAT THE LISTED PACKAGE-LEVEL VARIABLES READ AS WHEN THE CALL BEGINS. Each datum BY PROGRAM (the guide's laid-datum.mjs) off the statement by which the dump's own 'gosem.cut.vars' lays the variable. In a bare row this is a premise. The card (YtijcpdnlofpccaaDoorCards.lean) ties it to the program's text. -/
def laid_unicode_utf8_acceptRanges {H : Type} : DataW H := .agg [.agg [.lit (.int .u8 128), .lit (.int .u8 191)], .agg [.lit (.int .u8 160), .lit (.int .u8 191)], .agg [.lit (.int .u8 128), .lit (.int .u8 159)], .agg [.lit (.int .u8 144), .lit (.int .u8 191)], .agg [.lit (.int .u8 128), .lit (.int .u8 143)], .agg [.lit (.int .u8 0), .lit (.int .u8 0)], .agg [.lit (.int .u8 0), .lit (.int .u8 0)], .agg [.lit (.int .u8 0), .lit (.int .u8 0)], .agg [.lit (.int .u8 0), .lit (.int .u8 0)], .agg [.lit (.int .u8 0), .lit (.int .u8 0)], .agg [.lit (.int .u8 0), .lit (.int .u8 0)], .agg [.lit (.int .u8 0), .lit (.int .u8 0)], .agg [.lit (.int .u8 0), .lit (.int .u8 0)], .agg [.lit (.int .u8 0), .lit (.int .u8 0)], .agg [.lit (.int .u8 0), .lit (.int .u8 0)], .agg [.lit (.int .u8 0), .lit (.int .u8 0)]]
/-- One of Go's own tables, pinned by name: the form's constant. -/
def laid_unicode_utf8_first : DataW Unit := Go.Pinned.utf8First

/-- 'palinglaw26.WeaveTells': WHATEVER THE INPUT: true; the input reads as it did. -/
def weaveTellsSpec : ChangeSpec := { name := "weaveTells", fn := fun _ => fun
  | [d1, d2, d3] => { results := [.lit (.bool true)], args := [d1, d2, d3] }
  | _ => none }
def weaveTellsRow : OpenClaim := { program := "ytijcpdnlofpccaadoor", sum := "9aa4afff3ce0a6ac2f655add517fc82cc655278743f665146f5adc77c27e5ae4", func := "paling/palinglaw26.WeaveTells", spec := "weaveTells", named := ["unicode/utf8.first", "unicode/utf8.acceptRanges"], apart := false, laid := [("unicode/utf8.acceptRanges", laid_unicode_utf8_acceptRanges), ("unicode/utf8.first", laid_unicode_utf8_first)] }
def WeaveTellsSaid : Prop := weaveTellsRow.holds Tryd.pinned (OpenSpec.ofChange weaveTellsSpec)

/-- ITS FALSE NEIGHBOUR: 'it returns false'. Refute it at one input. -/
def weaveTellsWrong : ChangeSpec := { name := "weaveTells", fn := fun _ => fun
  | [d1, d2, d3] => { results := [.lit (.bool false)], args := [d1, d2, d3] }
  | _ => none }
def WeaveTellsWrongFalsely : Prop := weaveTellsRow.holds Tryd.pinned (OpenSpec.ofChange weaveTellsWrong)

/-- 'palinglaw26.WeavePlaces': WHATEVER THE INPUT: true; the input reads as it did. -/
def weavePlacesSpec : ChangeSpec := { name := "weavePlaces", fn := fun _ => fun
  | [d1, d2, d3] => { results := [.lit (.bool true)], args := [d1, d2, d3] }
  | _ => none }
def weavePlacesRow : OpenClaim := { program := "ytijcpdnlofpccaadoor", sum := "9aa4afff3ce0a6ac2f655add517fc82cc655278743f665146f5adc77c27e5ae4", func := "paling/palinglaw26.WeavePlaces", spec := "weavePlaces", named := ["unicode/utf8.first", "unicode/utf8.acceptRanges"], apart := false, laid := [("unicode/utf8.acceptRanges", laid_unicode_utf8_acceptRanges), ("unicode/utf8.first", laid_unicode_utf8_first)] }
def WeavePlacesSaid : Prop := weavePlacesRow.holds Tryd.pinned (OpenSpec.ofChange weavePlacesSpec)

/-- ITS FALSE NEIGHBOUR: 'it returns false'. Refute it at one input. -/
def weavePlacesWrong : ChangeSpec := { name := "weavePlaces", fn := fun _ => fun
  | [d1, d2, d3] => { results := [.lit (.bool false)], args := [d1, d2, d3] }
  | _ => none }
def WeavePlacesWrongFalsely : Prop := weavePlacesRow.holds Tryd.pinned (OpenSpec.ofChange weavePlacesWrong)

/-- 'palinglaw26.WeaveMap': WHATEVER THE INPUT: true; the input reads as it did. -/
def weaveMapSpec : ChangeSpec := { name := "weaveMap", fn := fun _ => fun
  | [d1, d2] => { results := [.lit (.bool true)], args := [d1, d2] }
  | _ => none }
def weaveMapRow : OpenClaim := { program := "ytijcpdnlofpccaadoor", sum := "9aa4afff3ce0a6ac2f655add517fc82cc655278743f665146f5adc77c27e5ae4", func := "paling/palinglaw26.WeaveMap", spec := "weaveMap", named := ["unicode/utf8.first", "unicode/utf8.acceptRanges"], apart := false, laid := [("unicode/utf8.acceptRanges", laid_unicode_utf8_acceptRanges), ("unicode/utf8.first", laid_unicode_utf8_first)] }
def WeaveMapSaid : Prop := weaveMapRow.holds Tryd.pinned (OpenSpec.ofChange weaveMapSpec)

/-- ITS FALSE NEIGHBOUR: 'it returns false'. Refute it at one input. -/
def weaveMapWrong : ChangeSpec := { name := "weaveMap", fn := fun _ => fun
  | [d1, d2] => { results := [.lit (.bool false)], args := [d1, d2] }
  | _ => none }
def WeaveMapWrongFalsely : Prop := weaveMapRow.holds Tryd.pinned (OpenSpec.ofChange weaveMapWrong)

/-- 'palinglaw26.WeaveState': WHATEVER THE INPUT: true; the input reads as it did. -/
def weaveStateSpec : ChangeSpec := { name := "weaveState", fn := fun _ => fun
  | [d1, d2] => { results := [.lit (.bool true)], args := [d1, d2] }
  | _ => none }
def weaveStateRow : OpenClaim := { program := "ytijcpdnlofpccaadoor", sum := "9aa4afff3ce0a6ac2f655add517fc82cc655278743f665146f5adc77c27e5ae4", func := "paling/palinglaw26.WeaveState", spec := "weaveState", named := ["unicode/utf8.first", "unicode/utf8.acceptRanges"], apart := false, laid := [("unicode/utf8.acceptRanges", laid_unicode_utf8_acceptRanges), ("unicode/utf8.first", laid_unicode_utf8_first)] }
def WeaveStateSaid : Prop := weaveStateRow.holds Tryd.pinned (OpenSpec.ofChange weaveStateSpec)

/-- ITS FALSE NEIGHBOUR: 'it returns false'. Refute it at one input. -/
def weaveStateWrong : ChangeSpec := { name := "weaveState", fn := fun _ => fun
  | [d1, d2] => { results := [.lit (.bool false)], args := [d1, d2] }
  | _ => none }
def WeaveStateWrongFalsely : Prop := weaveStateRow.holds Tryd.pinned (OpenSpec.ofChange weaveStateWrong)

/-- 'palinglaw26.WeaveOut': WHATEVER THE INPUT: true; the input reads as it did. -/
def weaveOutSpec : ChangeSpec := { name := "weaveOut", fn := fun _ => fun
  | [d1, d2, d3, d4] => { results := [.lit (.bool true)], args := [d1, d2, d3, d4] }
  | _ => none }
def weaveOutRow : OpenClaim := { program := "ytijcpdnlofpccaadoor", sum := "9aa4afff3ce0a6ac2f655add517fc82cc655278743f665146f5adc77c27e5ae4", func := "paling/palinglaw26.WeaveOut", spec := "weaveOut", named := ["unicode/utf8.first", "unicode/utf8.acceptRanges"], apart := false, laid := [("unicode/utf8.acceptRanges", laid_unicode_utf8_acceptRanges), ("unicode/utf8.first", laid_unicode_utf8_first)] }
def WeaveOutSaid : Prop := weaveOutRow.holds Tryd.pinned (OpenSpec.ofChange weaveOutSpec)

/-- ITS FALSE NEIGHBOUR: 'it returns false'. Refute it at one input. -/
def weaveOutWrong : ChangeSpec := { name := "weaveOut", fn := fun _ => fun
  | [d1, d2, d3, d4] => { results := [.lit (.bool false)], args := [d1, d2, d3, d4] }
  | _ => none }
def WeaveOutWrongFalsely : Prop := weaveOutRow.holds Tryd.pinned (OpenSpec.ofChange weaveOutWrong)

/-- 'palinglaw26.WeaveRound': WHATEVER THE INPUT: true; the input reads as it did. -/
def weaveRoundSpec : ChangeSpec := { name := "weaveRound", fn := fun _ => fun
  | [d1, d2] => { results := [.lit (.bool true)], args := [d1, d2] }
  | _ => none }
def weaveRoundRow : OpenClaim := { program := "ytijcpdnlofpccaadoor", sum := "9aa4afff3ce0a6ac2f655add517fc82cc655278743f665146f5adc77c27e5ae4", func := "paling/palinglaw26.WeaveRound", spec := "weaveRound", named := ["unicode/utf8.first", "unicode/utf8.acceptRanges"], apart := false, laid := [("unicode/utf8.acceptRanges", laid_unicode_utf8_acceptRanges), ("unicode/utf8.first", laid_unicode_utf8_first)] }
def WeaveRoundSaid : Prop := weaveRoundRow.holds Tryd.pinned (OpenSpec.ofChange weaveRoundSpec)

/-- ITS FALSE NEIGHBOUR: 'it returns false'. Refute it at one input. -/
def weaveRoundWrong : ChangeSpec := { name := "weaveRound", fn := fun _ => fun
  | [d1, d2] => { results := [.lit (.bool false)], args := [d1, d2] }
  | _ => none }
def WeaveRoundWrongFalsely : Prop := weaveRoundRow.holds Tryd.pinned (OpenSpec.ofChange weaveRoundWrong)

/-- 'palinglaw26.WeaveRaw': WHATEVER THE INPUT: true; the input reads as it did. -/
def weaveRawSpec : ChangeSpec := { name := "weaveRaw", fn := fun _ => fun
  | [d] => { results := [.lit (.bool true)], args := [d] }
  | _ => none }
def weaveRawRow : OpenClaim := { program := "ytijcpdnlofpccaadoor", sum := "9aa4afff3ce0a6ac2f655add517fc82cc655278743f665146f5adc77c27e5ae4", func := "paling/palinglaw26.WeaveRaw", spec := "weaveRaw", named := ["unicode/utf8.first", "unicode/utf8.acceptRanges"], apart := false, laid := [("unicode/utf8.acceptRanges", laid_unicode_utf8_acceptRanges), ("unicode/utf8.first", laid_unicode_utf8_first)] }
def WeaveRawSaid : Prop := weaveRawRow.holds Tryd.pinned (OpenSpec.ofChange weaveRawSpec)

/-- ITS FALSE NEIGHBOUR: 'it returns false'. Refute it at one input. -/
def weaveRawWrong : ChangeSpec := { name := "weaveRaw", fn := fun _ => fun
  | [d] => { results := [.lit (.bool false)], args := [d] }
  | _ => none }
def WeaveRawWrongFalsely : Prop := weaveRawRow.holds Tryd.pinned (OpenSpec.ofChange weaveRawWrong)

/- THE SECOND FORM. 'bulk': how many values and letters a reading holds, each counted each time it is reached (what is shared counts as often as it is met; a slice's spare places count too). A statement '..UptoSaid' is the law's where the arguments, and the package variables that the reading takes, are together of bulk at most 1048576: NARROWER than '..Said'. Prove '..Said' where nothing that the law and all that it calls make is longer than what came in: it says more and counts as full. Else prove '..UptoSaid'. A law counts once. -/
mutual
def uptoBulk {H : Type} : DataW H → Nat
  | .lit (.string bytes) => bytes.length + 1
  | .lit _ => 1
  | .nil => 1
  | .ptr d => uptoBulk d + 1
  | .slice elems spare => uptoBulkAll elems + uptoBulkAll spare + 1
  | .agg parts => uptoBulkAll parts + 1
  | .iface _ d => uptoBulk d + 1
  | .map entries => uptoBulkEntries entries + 1
  | .held _ => 1
def uptoBulkAll {H : Type} : List (DataW H) → Nat
  | [] => 0
  | d :: r => uptoBulk d + uptoBulkAll r
def uptoBulkEntries {H : Type} : List (Lit × DataW H) → Nat
  | [] => 0
  | x :: r => uptoBulkEntry x + uptoBulkEntries r
def uptoBulkEntry {H : Type} : Lit × DataW H → Nat
  | (.string bytes, d) => bytes.length + uptoBulk d + 1
  | (_, d) => uptoBulk d + 1
 end
def uptoSmall : (H : Type) → List (DataW H) → Bool := fun _ ds => decide (uptoBulkAll ds ≤ 1048576)
def OpenSpec.upto (s : _root_.Go.ChangeSpec) : _root_.Go.OpenSpec := { _root_.Go.OpenSpec.ofChange s with cond := some uptoSmall }

/-- 'palinglaw26.WeaveTells', WHERE WHAT IT READS IS OF BULK AT MOST 1048576: true; the input reads as it did. -/
def weaveTellsUptoRow : OpenClaim := { program := "ytijcpdnlofpccaadoor", sum := "9aa4afff3ce0a6ac2f655add517fc82cc655278743f665146f5adc77c27e5ae4", func := "paling/palinglaw26.WeaveTells", spec := "weaveTells", named := ["unicode/utf8.first", "unicode/utf8.acceptRanges"], apart := false, laid := [("unicode/utf8.acceptRanges", laid_unicode_utf8_acceptRanges), ("unicode/utf8.first", laid_unicode_utf8_first)], narrowed := true }
def WeaveTellsUptoSaid : Prop := weaveTellsUptoRow.holds Tryd.pinned (OpenSpec.upto weaveTellsSpec)

/-- 'palinglaw26.WeavePlaces', WHERE WHAT IT READS IS OF BULK AT MOST 1048576: true; the input reads as it did. -/
def weavePlacesUptoRow : OpenClaim := { program := "ytijcpdnlofpccaadoor", sum := "9aa4afff3ce0a6ac2f655add517fc82cc655278743f665146f5adc77c27e5ae4", func := "paling/palinglaw26.WeavePlaces", spec := "weavePlaces", named := ["unicode/utf8.first", "unicode/utf8.acceptRanges"], apart := false, laid := [("unicode/utf8.acceptRanges", laid_unicode_utf8_acceptRanges), ("unicode/utf8.first", laid_unicode_utf8_first)], narrowed := true }
def WeavePlacesUptoSaid : Prop := weavePlacesUptoRow.holds Tryd.pinned (OpenSpec.upto weavePlacesSpec)

/-- 'palinglaw26.WeaveMap', WHERE WHAT IT READS IS OF BULK AT MOST 1048576: true; the input reads as it did. -/
def weaveMapUptoRow : OpenClaim := { program := "ytijcpdnlofpccaadoor", sum := "9aa4afff3ce0a6ac2f655add517fc82cc655278743f665146f5adc77c27e5ae4", func := "paling/palinglaw26.WeaveMap", spec := "weaveMap", named := ["unicode/utf8.first", "unicode/utf8.acceptRanges"], apart := false, laid := [("unicode/utf8.acceptRanges", laid_unicode_utf8_acceptRanges), ("unicode/utf8.first", laid_unicode_utf8_first)], narrowed := true }
def WeaveMapUptoSaid : Prop := weaveMapUptoRow.holds Tryd.pinned (OpenSpec.upto weaveMapSpec)

/-- 'palinglaw26.WeaveState', WHERE WHAT IT READS IS OF BULK AT MOST 1048576: true; the input reads as it did. -/
def weaveStateUptoRow : OpenClaim := { program := "ytijcpdnlofpccaadoor", sum := "9aa4afff3ce0a6ac2f655add517fc82cc655278743f665146f5adc77c27e5ae4", func := "paling/palinglaw26.WeaveState", spec := "weaveState", named := ["unicode/utf8.first", "unicode/utf8.acceptRanges"], apart := false, laid := [("unicode/utf8.acceptRanges", laid_unicode_utf8_acceptRanges), ("unicode/utf8.first", laid_unicode_utf8_first)], narrowed := true }
def WeaveStateUptoSaid : Prop := weaveStateUptoRow.holds Tryd.pinned (OpenSpec.upto weaveStateSpec)

/-- 'palinglaw26.WeaveOut', WHERE WHAT IT READS IS OF BULK AT MOST 1048576: true; the input reads as it did. -/
def weaveOutUptoRow : OpenClaim := { program := "ytijcpdnlofpccaadoor", sum := "9aa4afff3ce0a6ac2f655add517fc82cc655278743f665146f5adc77c27e5ae4", func := "paling/palinglaw26.WeaveOut", spec := "weaveOut", named := ["unicode/utf8.first", "unicode/utf8.acceptRanges"], apart := false, laid := [("unicode/utf8.acceptRanges", laid_unicode_utf8_acceptRanges), ("unicode/utf8.first", laid_unicode_utf8_first)], narrowed := true }
def WeaveOutUptoSaid : Prop := weaveOutUptoRow.holds Tryd.pinned (OpenSpec.upto weaveOutSpec)

/-- 'palinglaw26.WeaveRound', WHERE WHAT IT READS IS OF BULK AT MOST 1048576: true; the input reads as it did. -/
def weaveRoundUptoRow : OpenClaim := { program := "ytijcpdnlofpccaadoor", sum := "9aa4afff3ce0a6ac2f655add517fc82cc655278743f665146f5adc77c27e5ae4", func := "paling/palinglaw26.WeaveRound", spec := "weaveRound", named := ["unicode/utf8.first", "unicode/utf8.acceptRanges"], apart := false, laid := [("unicode/utf8.acceptRanges", laid_unicode_utf8_acceptRanges), ("unicode/utf8.first", laid_unicode_utf8_first)], narrowed := true }
def WeaveRoundUptoSaid : Prop := weaveRoundUptoRow.holds Tryd.pinned (OpenSpec.upto weaveRoundSpec)

/-- 'palinglaw26.WeaveRaw', WHERE WHAT IT READS IS OF BULK AT MOST 1048576: true; the input reads as it did. -/
def weaveRawUptoRow : OpenClaim := { program := "ytijcpdnlofpccaadoor", sum := "9aa4afff3ce0a6ac2f655add517fc82cc655278743f665146f5adc77c27e5ae4", func := "paling/palinglaw26.WeaveRaw", spec := "weaveRaw", named := ["unicode/utf8.first", "unicode/utf8.acceptRanges"], apart := false, laid := [("unicode/utf8.acceptRanges", laid_unicode_utf8_acceptRanges), ("unicode/utf8.first", laid_unicode_utf8_first)], narrowed := true }
def WeaveRawUptoSaid : Prop := weaveRawUptoRow.holds Tryd.pinned (OpenSpec.upto weaveRawSpec)

end Rows
end Go.Proofs.YtijcpdnlofpccaaDoor

/-
  NARROWER THAN 'FOR EVERY INPUT', by the rows' own cells (each row's printed sentence says how): TouchTells: laid · TouchMade: laid · TouchCounts: laid · TouchLocked: laid · CellsTell: laid · CellsMade: laid · CellsBack: laid · CellsBounds: laid.
  DERIVED. THE GIVEN ROWS OF THIS SEAT. 8 by the template 'for every input the law returns true; each argument reads behind the call as it read before'; 0 by the template 'total and deterministic' (their statements: YtlppmbooakcmaaaDoorTotals.lean).
  GIVEN WITH THE SEED: the statements are not yours to turn. If you find one false, say at which input.
  Laid BY PROGRAM, IN A SANDBOX (cutbox-rows.mjs): the forced cells as the released guide's own fill.sh prints them over the translation 5fdc04eff58e8d42… (all of the seat's roots in one cut). By AI agents, Wed Nov 11 2026. No macro, syntax, notation, axiom, sorry.
-/
import Derived.Test.YtlppmbooakcmaaaDoorChecked
import GoSem.PinnedTables
import GoSem.Claim
import GoSem.ClaimJoined
import GoSem.ClaimMapViews
import Derived.JoinedTies
import Derived.KernelRfl
namespace Go.Proofs.YtlppmbooakcmaaaDoor
/- THE CELL 'sum', in the pinned program and in every row, IS THE sha256 OF THE DUMP (.gsa) THAT YtlppmbooakcmaaaDoorProg.lean LOADS. Nothing in Lean hashes anything: it is a label: what it is worth is what the hold of that sum in a sandbox is worth. -/
noncomputable def Tryd.pinned : Pinned := { name := "ytlppmbooakcmaaadoor", sum := "5fdc04eff58e8d42f66634298fc2ed56b6c6e70fcc370b8f56401004cd156c46", checked := Tryd.checked }
namespace Rows
def none {H : Type} : Left H := { results := [], args := [] }

/- WHAT THE LISTED PACKAGE-LEVEL VARIABLES READ AS WHEN THE CALL BEGINS. Each datum BY PROGRAM (the guide's laid-datum.mjs) off the statement by which the dump's own 'gosem.cut.vars' lays the variable. In a bare row this is a premise. The card (YtlppmbooakcmaaaDoorCards.lean) ties it to the program's text. -/
def laid_unicode_utf8_acceptRanges {H : Type} : DataW H := .agg [.agg [.lit (.int .u8 128), .lit (.int .u8 191)], .agg [.lit (.int .u8 160), .lit (.int .u8 191)], .agg [.lit (.int .u8 128), .lit (.int .u8 159)], .agg [.lit (.int .u8 144), .lit (.int .u8 191)], .agg [.lit (.int .u8 128), .lit (.int .u8 143)], .agg [.lit (.int .u8 0), .lit (.int .u8 0)], .agg [.lit (.int .u8 0), .lit (.int .u8 0)], .agg [.lit (.int .u8 0), .lit (.int .u8 0)], .agg [.lit (.int .u8 0), .lit (.int .u8 0)], .agg [.lit (.int .u8 0), .lit (.int .u8 0)], .agg [.lit (.int .u8 0), .lit (.int .u8 0)], .agg [.lit (.int .u8 0), .lit (.int .u8 0)], .agg [.lit (.int .u8 0), .lit (.int .u8 0)], .agg [.lit (.int .u8 0), .lit (.int .u8 0)], .agg [.lit (.int .u8 0), .lit (.int .u8 0)], .agg [.lit (.int .u8 0), .lit (.int .u8 0)]]
/-- One of Go's own tables, pinned by name: the form's constant. -/
def laid_unicode_utf8_first : DataW Unit := Go.Pinned.utf8First

/-- 'palinglaw22.TouchTells': WHATEVER THE INPUT: true; the input reads as it did. -/
def touchTellsSpec : ChangeSpec := { name := "touchTells", fn := fun _ => fun
  | [d1, d2] => { results := [.lit (.bool true)], args := [d1, d2] }
  | _ => none }
def touchTellsRow : OpenClaim := { program := "ytlppmbooakcmaaadoor", sum := "5fdc04eff58e8d42f66634298fc2ed56b6c6e70fcc370b8f56401004cd156c46", func := "paling/palinglaw22.TouchTells", spec := "touchTells", named := ["unicode/utf8.first", "unicode/utf8.acceptRanges"], apart := false, laid := [("unicode/utf8.acceptRanges", laid_unicode_utf8_acceptRanges), ("unicode/utf8.first", laid_unicode_utf8_first)] }
def TouchTellsSaid : Prop := touchTellsRow.holds Tryd.pinned (OpenSpec.ofChange touchTellsSpec)

/-- ITS FALSE NEIGHBOUR: 'it returns false'. Refute it at one input. -/
def touchTellsWrong : ChangeSpec := { name := "touchTells", fn := fun _ => fun
  | [d1, d2] => { results := [.lit (.bool false)], args := [d1, d2] }
  | _ => none }
def TouchTellsWrongFalsely : Prop := touchTellsRow.holds Tryd.pinned (OpenSpec.ofChange touchTellsWrong)

/-- 'palinglaw22.TouchMade': WHATEVER THE INPUT: true; the input reads as it did. -/
def touchMadeSpec : ChangeSpec := { name := "touchMade", fn := fun _ => fun
  | [d] => { results := [.lit (.bool true)], args := [d] }
  | _ => none }
def touchMadeRow : OpenClaim := { program := "ytlppmbooakcmaaadoor", sum := "5fdc04eff58e8d42f66634298fc2ed56b6c6e70fcc370b8f56401004cd156c46", func := "paling/palinglaw22.TouchMade", spec := "touchMade", named := ["unicode/utf8.first", "unicode/utf8.acceptRanges"], apart := false, laid := [("unicode/utf8.acceptRanges", laid_unicode_utf8_acceptRanges), ("unicode/utf8.first", laid_unicode_utf8_first)] }
def TouchMadeSaid : Prop := touchMadeRow.holds Tryd.pinned (OpenSpec.ofChange touchMadeSpec)

/-- ITS FALSE NEIGHBOUR: 'it returns false'. Refute it at one input. -/
def touchMadeWrong : ChangeSpec := { name := "touchMade", fn := fun _ => fun
  | [d] => { results := [.lit (.bool false)], args := [d] }
  | _ => none }
def TouchMadeWrongFalsely : Prop := touchMadeRow.holds Tryd.pinned (OpenSpec.ofChange touchMadeWrong)

/-- 'palinglaw22.TouchCounts': WHATEVER THE INPUT: true; the input reads as it did. -/
def touchCountsSpec : ChangeSpec := { name := "touchCounts", fn := fun _ => fun
  | [d] => { results := [.lit (.bool true)], args := [d] }
  | _ => none }
def touchCountsRow : OpenClaim := { program := "ytlppmbooakcmaaadoor", sum := "5fdc04eff58e8d42f66634298fc2ed56b6c6e70fcc370b8f56401004cd156c46", func := "paling/palinglaw22.TouchCounts", spec := "touchCounts", named := ["unicode/utf8.first", "unicode/utf8.acceptRanges"], apart := false, laid := [("unicode/utf8.acceptRanges", laid_unicode_utf8_acceptRanges), ("unicode/utf8.first", laid_unicode_utf8_first)] }
def TouchCountsSaid : Prop := touchCountsRow.holds Tryd.pinned (OpenSpec.ofChange touchCountsSpec)

/-- ITS FALSE NEIGHBOUR: 'it returns false'. Refute it at one input. -/
def touchCountsWrong : ChangeSpec := { name := "touchCounts", fn := fun _ => fun
  | [d] => { results := [.lit (.bool false)], args := [d] }
  | _ => none }
def TouchCountsWrongFalsely : Prop := touchCountsRow.holds Tryd.pinned (OpenSpec.ofChange touchCountsWrong)

/-- 'palinglaw22.TouchLocked': WHATEVER THE INPUT: true; the input reads as it did. -/
def touchLockedSpec : ChangeSpec := { name := "touchLocked", fn := fun _ => fun
  | [d] => { results := [.lit (.bool true)], args := [d] }
  | _ => none }
def touchLockedRow : OpenClaim := { program := "ytlppmbooakcmaaadoor", sum := "5fdc04eff58e8d42f66634298fc2ed56b6c6e70fcc370b8f56401004cd156c46", func := "paling/palinglaw22.TouchLocked", spec := "touchLocked", named := ["unicode/utf8.first", "unicode/utf8.acceptRanges"], apart := false, laid := [("unicode/utf8.acceptRanges", laid_unicode_utf8_acceptRanges), ("unicode/utf8.first", laid_unicode_utf8_first)] }
def TouchLockedSaid : Prop := touchLockedRow.holds Tryd.pinned (OpenSpec.ofChange touchLockedSpec)

/-- ITS FALSE NEIGHBOUR: 'it returns false'. Refute it at one input. -/
def touchLockedWrong : ChangeSpec := { name := "touchLocked", fn := fun _ => fun
  | [d] => { results := [.lit (.bool false)], args := [d] }
  | _ => none }
def TouchLockedWrongFalsely : Prop := touchLockedRow.holds Tryd.pinned (OpenSpec.ofChange touchLockedWrong)

/-- 'palinglaw11.CellsTell': WHATEVER THE INPUT: true; the input reads as it did. -/
def cellsTellSpec : ChangeSpec := { name := "cellsTell", fn := fun _ => fun
  | [d1, d2, d3, d4, d5] => { results := [.lit (.bool true)], args := [d1, d2, d3, d4, d5] }
  | _ => none }
def cellsTellRow : OpenClaim := { program := "ytlppmbooakcmaaadoor", sum := "5fdc04eff58e8d42f66634298fc2ed56b6c6e70fcc370b8f56401004cd156c46", func := "paling/palinglaw11.CellsTell", spec := "cellsTell", named := ["unicode/utf8.first", "unicode/utf8.acceptRanges"], apart := false, laid := [("unicode/utf8.acceptRanges", laid_unicode_utf8_acceptRanges), ("unicode/utf8.first", laid_unicode_utf8_first)] }
def CellsTellSaid : Prop := cellsTellRow.holds Tryd.pinned (OpenSpec.ofChange cellsTellSpec)

/-- ITS FALSE NEIGHBOUR: 'it returns false'. Refute it at one input. -/
def cellsTellWrong : ChangeSpec := { name := "cellsTell", fn := fun _ => fun
  | [d1, d2, d3, d4, d5] => { results := [.lit (.bool false)], args := [d1, d2, d3, d4, d5] }
  | _ => none }
def CellsTellWrongFalsely : Prop := cellsTellRow.holds Tryd.pinned (OpenSpec.ofChange cellsTellWrong)

/-- 'palinglaw11.CellsMade': WHATEVER THE INPUT: true; the input reads as it did. -/
def cellsMadeSpec : ChangeSpec := { name := "cellsMade", fn := fun _ => fun
  | [d1, d2, d3, d4, d5] => { results := [.lit (.bool true)], args := [d1, d2, d3, d4, d5] }
  | _ => none }
def cellsMadeRow : OpenClaim := { program := "ytlppmbooakcmaaadoor", sum := "5fdc04eff58e8d42f66634298fc2ed56b6c6e70fcc370b8f56401004cd156c46", func := "paling/palinglaw11.CellsMade", spec := "cellsMade", named := ["unicode/utf8.first", "unicode/utf8.acceptRanges"], apart := false, laid := [("unicode/utf8.acceptRanges", laid_unicode_utf8_acceptRanges), ("unicode/utf8.first", laid_unicode_utf8_first)] }
def CellsMadeSaid : Prop := cellsMadeRow.holds Tryd.pinned (OpenSpec.ofChange cellsMadeSpec)

/-- ITS FALSE NEIGHBOUR: 'it returns false'. Refute it at one input. -/
def cellsMadeWrong : ChangeSpec := { name := "cellsMade", fn := fun _ => fun
  | [d1, d2, d3, d4, d5] => { results := [.lit (.bool false)], args := [d1, d2, d3, d4, d5] }
  | _ => none }
def CellsMadeWrongFalsely : Prop := cellsMadeRow.holds Tryd.pinned (OpenSpec.ofChange cellsMadeWrong)

/-- 'palinglaw11.CellsBack': WHATEVER THE INPUT: true; the input reads as it did. -/
def cellsBackSpec : ChangeSpec := { name := "cellsBack", fn := fun _ => fun
  | [d] => { results := [.lit (.bool true)], args := [d] }
  | _ => none }
def cellsBackRow : OpenClaim := { program := "ytlppmbooakcmaaadoor", sum := "5fdc04eff58e8d42f66634298fc2ed56b6c6e70fcc370b8f56401004cd156c46", func := "paling/palinglaw11.CellsBack", spec := "cellsBack", named := ["unicode/utf8.first", "unicode/utf8.acceptRanges"], apart := false, laid := [("unicode/utf8.acceptRanges", laid_unicode_utf8_acceptRanges), ("unicode/utf8.first", laid_unicode_utf8_first)] }
def CellsBackSaid : Prop := cellsBackRow.holds Tryd.pinned (OpenSpec.ofChange cellsBackSpec)

/-- ITS FALSE NEIGHBOUR: 'it returns false'. Refute it at one input. -/
def cellsBackWrong : ChangeSpec := { name := "cellsBack", fn := fun _ => fun
  | [d] => { results := [.lit (.bool false)], args := [d] }
  | _ => none }
def CellsBackWrongFalsely : Prop := cellsBackRow.holds Tryd.pinned (OpenSpec.ofChange cellsBackWrong)

/-- 'palinglaw11.CellsBounds': WHATEVER THE INPUT: true; the input reads as it did. -/
def cellsBoundsSpec : ChangeSpec := { name := "cellsBounds", fn := fun _ => fun
  | [d1, d2, d3] => { results := [.lit (.bool true)], args := [d1, d2, d3] }
  | _ => none }
def cellsBoundsRow : OpenClaim := { program := "ytlppmbooakcmaaadoor", sum := "5fdc04eff58e8d42f66634298fc2ed56b6c6e70fcc370b8f56401004cd156c46", func := "paling/palinglaw11.CellsBounds", spec := "cellsBounds", named := ["unicode/utf8.first", "unicode/utf8.acceptRanges"], apart := false, laid := [("unicode/utf8.acceptRanges", laid_unicode_utf8_acceptRanges), ("unicode/utf8.first", laid_unicode_utf8_first)] }
def CellsBoundsSaid : Prop := cellsBoundsRow.holds Tryd.pinned (OpenSpec.ofChange cellsBoundsSpec)

/-- ITS FALSE NEIGHBOUR: 'it returns false'. Refute it at one input. -/
def cellsBoundsWrong : ChangeSpec := { name := "cellsBounds", fn := fun _ => fun
  | [d1, d2, d3] => { results := [.lit (.bool false)], args := [d1, d2, d3] }
  | _ => none }
def CellsBoundsWrongFalsely : Prop := cellsBoundsRow.holds Tryd.pinned (OpenSpec.ofChange cellsBoundsWrong)

/- THE SECOND FORM. 'bulk': how many values and letters a reading holds, each counted each time it is reached (what is shared counts as often as it is met; a slice's spare places count too). A statement '..UptoSaid' is the law's where the arguments, and the package variables that the reading takes, are together of bulk at most 1048576: NARROWER than '..Said'. Prove '..Said' where nothing that the law and all that it calls make is longer than what came in: it says more and counts as full. Else prove '..UptoSaid'. A law counts once. -/
mutual
def uptoBulk {H : Type} : DataW H → Nat
  | .lit (.string bytes) => bytes.length + 1
  | .lit _ => 1
  | .nil => 1
  | .ptr d => uptoBulk d + 1
  | .slice elems spare => uptoBulkAll elems + uptoBulkAll spare + 1
  | .agg parts => uptoBulkAll parts + 1
  | .iface _ d => uptoBulk d + 1
  | .map entries => uptoBulkEntries entries + 1
  | .held _ => 1
def uptoBulkAll {H : Type} : List (DataW H) → Nat
  | [] => 0
  | d :: r => uptoBulk d + uptoBulkAll r
def uptoBulkEntries {H : Type} : List (Lit × DataW H) → Nat
  | [] => 0
  | x :: r => uptoBulkEntry x + uptoBulkEntries r
def uptoBulkEntry {H : Type} : Lit × DataW H → Nat
  | (.string bytes, d) => bytes.length + uptoBulk d + 1
  | (_, d) => uptoBulk d + 1
 end
def uptoSmall : (H : Type) → List (DataW H) → Bool := fun _ ds => decide (uptoBulkAll ds ≤ 1048576)
def OpenSpec.upto (s : _root_.Go.ChangeSpec) : _root_.Go.OpenSpec := { _root_.Go.OpenSpec.ofChange s with cond := some uptoSmall }

/-- 'palinglaw22.TouchTells', WHERE WHAT IT READS IS OF BULK AT MOST 1048576: true; the input reads as it did. -/
def touchTellsUptoRow : OpenClaim := { program := "ytlppmbooakcmaaadoor", sum := "5fdc04eff58e8d42f66634298fc2ed56b6c6e70fcc370b8f56401004cd156c46", func := "paling/palinglaw22.TouchTells", spec := "touchTells", named := ["unicode/utf8.first", "unicode/utf8.acceptRanges"], apart := false, laid := [("unicode/utf8.acceptRanges", laid_unicode_utf8_acceptRanges), ("unicode/utf8.first", laid_unicode_utf8_first)], narrowed := true }
def TouchTellsUptoSaid : Prop := touchTellsUptoRow.holds Tryd.pinned (OpenSpec.upto touchTellsSpec)

/-- 'palinglaw22.TouchMade', WHERE WHAT IT READS IS OF BULK AT MOST 1048576: true; the input reads as it did. -/
def touchMadeUptoRow : OpenClaim := { program := "ytlppmbooakcmaaadoor", sum := "5fdc04eff58e8d42f66634298fc2ed56b6c6e70fcc370b8f56401004cd156c46", func := "paling/palinglaw22.TouchMade", spec := "touchMade", named := ["unicode/utf8.first", "unicode/utf8.acceptRanges"], apart := false, laid := [("unicode/utf8.acceptRanges", laid_unicode_utf8_acceptRanges), ("unicode/utf8.first", laid_unicode_utf8_first)], narrowed := true }
def TouchMadeUptoSaid : Prop := touchMadeUptoRow.holds Tryd.pinned (OpenSpec.upto touchMadeSpec)

/-- 'palinglaw22.TouchCounts', WHERE WHAT IT READS IS OF BULK AT MOST 1048576: true; the input reads as it did. -/
def touchCountsUptoRow : OpenClaim := { program := "ytlppmbooakcmaaadoor", sum := "5fdc04eff58e8d42f66634298fc2ed56b6c6e70fcc370b8f56401004cd156c46", func := "paling/palinglaw22.TouchCounts", spec := "touchCounts", named := ["unicode/utf8.first", "unicode/utf8.acceptRanges"], apart := false, laid := [("unicode/utf8.acceptRanges", laid_unicode_utf8_acceptRanges), ("unicode/utf8.first", laid_unicode_utf8_first)], narrowed := true }
def TouchCountsUptoSaid : Prop := touchCountsUptoRow.holds Tryd.pinned (OpenSpec.upto touchCountsSpec)

/-- 'palinglaw22.TouchLocked', WHERE WHAT IT READS IS OF BULK AT MOST 1048576: true; the input reads as it did. -/
def touchLockedUptoRow : OpenClaim := { program := "ytlppmbooakcmaaadoor", sum := "5fdc04eff58e8d42f66634298fc2ed56b6c6e70fcc370b8f56401004cd156c46", func := "paling/palinglaw22.TouchLocked", spec := "touchLocked", named := ["unicode/utf8.first", "unicode/utf8.acceptRanges"], apart := false, laid := [("unicode/utf8.acceptRanges", laid_unicode_utf8_acceptRanges), ("unicode/utf8.first", laid_unicode_utf8_first)], narrowed := true }
def TouchLockedUptoSaid : Prop := touchLockedUptoRow.holds Tryd.pinned (OpenSpec.upto touchLockedSpec)

/-- 'palinglaw11.CellsTell', WHERE WHAT IT READS IS OF BULK AT MOST 1048576: true; the input reads as it did. -/
def cellsTellUptoRow : OpenClaim := { program := "ytlppmbooakcmaaadoor", sum := "5fdc04eff58e8d42f66634298fc2ed56b6c6e70fcc370b8f56401004cd156c46", func := "paling/palinglaw11.CellsTell", spec := "cellsTell", named := ["unicode/utf8.first", "unicode/utf8.acceptRanges"], apart := false, laid := [("unicode/utf8.acceptRanges", laid_unicode_utf8_acceptRanges), ("unicode/utf8.first", laid_unicode_utf8_first)], narrowed := true }
def CellsTellUptoSaid : Prop := cellsTellUptoRow.holds Tryd.pinned (OpenSpec.upto cellsTellSpec)

/-- 'palinglaw11.CellsMade', WHERE WHAT IT READS IS OF BULK AT MOST 1048576: true; the input reads as it did. -/
def cellsMadeUptoRow : OpenClaim := { program := "ytlppmbooakcmaaadoor", sum := "5fdc04eff58e8d42f66634298fc2ed56b6c6e70fcc370b8f56401004cd156c46", func := "paling/palinglaw11.CellsMade", spec := "cellsMade", named := ["unicode/utf8.first", "unicode/utf8.acceptRanges"], apart := false, laid := [("unicode/utf8.acceptRanges", laid_unicode_utf8_acceptRanges), ("unicode/utf8.first", laid_unicode_utf8_first)], narrowed := true }
def CellsMadeUptoSaid : Prop := cellsMadeUptoRow.holds Tryd.pinned (OpenSpec.upto cellsMadeSpec)

/-- 'palinglaw11.CellsBack', WHERE WHAT IT READS IS OF BULK AT MOST 1048576: true; the input reads as it did. -/
def cellsBackUptoRow : OpenClaim := { program := "ytlppmbooakcmaaadoor", sum := "5fdc04eff58e8d42f66634298fc2ed56b6c6e70fcc370b8f56401004cd156c46", func := "paling/palinglaw11.CellsBack", spec := "cellsBack", named := ["unicode/utf8.first", "unicode/utf8.acceptRanges"], apart := false, laid := [("unicode/utf8.acceptRanges", laid_unicode_utf8_acceptRanges), ("unicode/utf8.first", laid_unicode_utf8_first)], narrowed := true }
def CellsBackUptoSaid : Prop := cellsBackUptoRow.holds Tryd.pinned (OpenSpec.upto cellsBackSpec)

/-- 'palinglaw11.CellsBounds', WHERE WHAT IT READS IS OF BULK AT MOST 1048576: true; the input reads as it did. -/
def cellsBoundsUptoRow : OpenClaim := { program := "ytlppmbooakcmaaadoor", sum := "5fdc04eff58e8d42f66634298fc2ed56b6c6e70fcc370b8f56401004cd156c46", func := "paling/palinglaw11.CellsBounds", spec := "cellsBounds", named := ["unicode/utf8.first", "unicode/utf8.acceptRanges"], apart := false, laid := [("unicode/utf8.acceptRanges", laid_unicode_utf8_acceptRanges), ("unicode/utf8.first", laid_unicode_utf8_first)], narrowed := true }
def CellsBoundsUptoSaid : Prop := cellsBoundsUptoRow.holds Tryd.pinned (OpenSpec.upto cellsBoundsSpec)

end Rows
end Go.Proofs.YtlppmbooakcmaaaDoor

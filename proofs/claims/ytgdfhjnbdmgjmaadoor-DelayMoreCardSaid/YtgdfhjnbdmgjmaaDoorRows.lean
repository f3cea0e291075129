/-
  NARROWER THAN 'FOR EVERY INPUT', by the rows' own cells (each row's printed sentence says how): ClashAlone: laid · ClashRing: laid · DelayRing: laid · DelayMore: laid.
  DERIVED. THE GIVEN ROWS OF THIS SEAT. 4 by the template 'for every input the law returns true; each argument reads behind the call as it read before'; 0 by the template 'total and deterministic' (their statements: YtgdfhjnbdmgjmaaDoorTotals.lean).
  GIVEN WITH THE SEED: the statements are not yours to turn. If you find one false, say at which input.
  Laid BY PROGRAM, IN A SANDBOX (cutbox-rows.mjs): the forced cells as the released guide's own fill.sh prints them over the translation 0280d56454644e81… (all of the seat's roots in one cut). By AI agents, Wed Nov 11 2026. No macro, syntax, notation, axiom, sorry.
-/
import Derived.Test.YtgdfhjnbdmgjmaaDoorChecked
import GoSem.PinnedTables
import GoSem.Claim
import GoSem.ClaimJoined
import GoSem.ClaimMapViews
import Derived.JoinedTies
import Derived.KernelRfl
namespace Go.Proofs.YtgdfhjnbdmgjmaaDoor
/- THE CELL 'sum', in the pinned program and in every row, IS THE sha256 OF THE DUMP (.gsa) THAT YtgdfhjnbdmgjmaaDoorProg.lean LOADS. Nothing in Lean hashes anything: it is a label: what it is worth is what the hold of that sum in a sandbox is worth. -/
noncomputable def Tryd.pinned : Pinned := { name := "ytgdfhjnbdmgjmaadoor", sum := "0280d56454644e8175f4284e48391bc6df679c8b78a35db6bf7e73aaa7a7124f", checked := Tryd.checked }
namespace Rows
def none {H : Type} : Left H := { results := [], args := [] }

/- WHAT THE LISTED PACKAGE-LEVEL VARIABLES READ AS WHEN THE CALL BEGINS. Each datum BY PROGRAM (the guide's laid-datum.mjs) off the statement by which the dump's own 'gosem.cut.vars' lays the variable. In a bare row this is a premise. The card (YtgdfhjnbdmgjmaaDoorCards.lean) ties it to the program's text. -/
def laid_unicode_utf8_acceptRanges {H : Type} : DataW H := .agg [.agg [.lit (.int .u8 128), .lit (.int .u8 191)], .agg [.lit (.int .u8 160), .lit (.int .u8 191)], .agg [.lit (.int .u8 128), .lit (.int .u8 159)], .agg [.lit (.int .u8 144), .lit (.int .u8 191)], .agg [.lit (.int .u8 128), .lit (.int .u8 143)], .agg [.lit (.int .u8 0), .lit (.int .u8 0)], .agg [.lit (.int .u8 0), .lit (.int .u8 0)], .agg [.lit (.int .u8 0), .lit (.int .u8 0)], .agg [.lit (.int .u8 0), .lit (.int .u8 0)], .agg [.lit (.int .u8 0), .lit (.int .u8 0)], .agg [.lit (.int .u8 0), .lit (.int .u8 0)], .agg [.lit (.int .u8 0), .lit (.int .u8 0)], .agg [.lit (.int .u8 0), .lit (.int .u8 0)], .agg [.lit (.int .u8 0), .lit (.int .u8 0)], .agg [.lit (.int .u8 0), .lit (.int .u8 0)], .agg [.lit (.int .u8 0), .lit (.int .u8 0)]]
/-- One of Go's own tables, pinned by name: the form's constant. -/
def laid_unicode_utf8_first : DataW Unit := Go.Pinned.utf8First

/-- 'palinglaw23.ClashAlone': WHATEVER THE INPUT: true; the input reads as it did. -/
def clashAloneSpec : ChangeSpec := { name := "clashAlone", fn := fun _ => fun
  | [d1, d2] => { results := [.lit (.bool true)], args := [d1, d2] }
  | _ => none }
def clashAloneRow : OpenClaim := { program := "ytgdfhjnbdmgjmaadoor", sum := "0280d56454644e8175f4284e48391bc6df679c8b78a35db6bf7e73aaa7a7124f", func := "paling/palinglaw23.ClashAlone", spec := "clashAlone", unfollowed := true, recurses := true, named := ["unicode/utf8.first", "unicode/utf8.acceptRanges"], apart := false, laid := [("unicode/utf8.acceptRanges", laid_unicode_utf8_acceptRanges), ("unicode/utf8.first", laid_unicode_utf8_first)] }
def ClashAloneSaid : Prop := clashAloneRow.holds Tryd.pinned (OpenSpec.ofChange clashAloneSpec)

/-- ITS FALSE NEIGHBOUR: 'it returns false'. Refute it at one input. -/
def clashAloneWrong : ChangeSpec := { name := "clashAlone", fn := fun _ => fun
  | [d1, d2] => { results := [.lit (.bool false)], args := [d1, d2] }
  | _ => none }
def ClashAloneWrongFalsely : Prop := clashAloneRow.holds Tryd.pinned (OpenSpec.ofChange clashAloneWrong)

/-- 'palinglaw23.ClashRing': WHATEVER THE INPUT: true; the input reads as it did. -/
def clashRingSpec : ChangeSpec := { name := "clashRing", fn := fun _ => fun
  | [d1, d2, d3] => { results := [.lit (.bool true)], args := [d1, d2, d3] }
  | _ => none }
def clashRingRow : OpenClaim := { program := "ytgdfhjnbdmgjmaadoor", sum := "0280d56454644e8175f4284e48391bc6df679c8b78a35db6bf7e73aaa7a7124f", func := "paling/palinglaw23.ClashRing", spec := "clashRing", unfollowed := true, recurses := true, named := ["unicode/utf8.first", "unicode/utf8.acceptRanges"], apart := false, laid := [("unicode/utf8.acceptRanges", laid_unicode_utf8_acceptRanges), ("unicode/utf8.first", laid_unicode_utf8_first)] }
def ClashRingSaid : Prop := clashRingRow.holds Tryd.pinned (OpenSpec.ofChange clashRingSpec)

/-- ITS FALSE NEIGHBOUR: 'it returns false'. Refute it at one input. -/
def clashRingWrong : ChangeSpec := { name := "clashRing", fn := fun _ => fun
  | [d1, d2, d3] => { results := [.lit (.bool false)], args := [d1, d2, d3] }
  | _ => none }
def ClashRingWrongFalsely : Prop := clashRingRow.holds Tryd.pinned (OpenSpec.ofChange clashRingWrong)

/-- 'palinglaw24.DelayRing': WHATEVER THE INPUT: true; the input reads as it did. -/
def delayRingSpec : ChangeSpec := { name := "delayRing", fn := fun _ => fun
  | [d1, d2, d3] => { results := [.lit (.bool true)], args := [d1, d2, d3] }
  | _ => none }
def delayRingRow : OpenClaim := { program := "ytgdfhjnbdmgjmaadoor", sum := "0280d56454644e8175f4284e48391bc6df679c8b78a35db6bf7e73aaa7a7124f", func := "paling/palinglaw24.DelayRing", spec := "delayRing", unfollowed := true, recurses := true, named := ["unicode/utf8.first", "unicode/utf8.acceptRanges"], apart := false, laid := [("unicode/utf8.acceptRanges", laid_unicode_utf8_acceptRanges), ("unicode/utf8.first", laid_unicode_utf8_first)] }
def DelayRingSaid : Prop := delayRingRow.holds Tryd.pinned (OpenSpec.ofChange delayRingSpec)

/-- ITS FALSE NEIGHBOUR: 'it returns false'. Refute it at one input. -/
def delayRingWrong : ChangeSpec := { name := "delayRing", fn := fun _ => fun
  | [d1, d2, d3] => { results := [.lit (.bool false)], args := [d1, d2, d3] }
  | _ => none }
def DelayRingWrongFalsely : Prop := delayRingRow.holds Tryd.pinned (OpenSpec.ofChange delayRingWrong)

/-- 'palinglaw24.DelayMore': WHATEVER THE INPUT: true; the input reads as it did. -/
def delayMoreSpec : ChangeSpec := { name := "delayMore", fn := fun _ => fun
  | [d1, d2, d3] => { results := [.lit (.bool true)], args := [d1, d2, d3] }
  | _ => none }
def delayMoreRow : OpenClaim := { program := "ytgdfhjnbdmgjmaadoor", sum := "0280d56454644e8175f4284e48391bc6df679c8b78a35db6bf7e73aaa7a7124f", func := "paling/palinglaw24.DelayMore", spec := "delayMore", unfollowed := true, recurses := true, named := ["unicode/utf8.first", "unicode/utf8.acceptRanges"], apart := false, laid := [("unicode/utf8.acceptRanges", laid_unicode_utf8_acceptRanges), ("unicode/utf8.first", laid_unicode_utf8_first)] }
def DelayMoreSaid : Prop := delayMoreRow.holds Tryd.pinned (OpenSpec.ofChange delayMoreSpec)

/-- ITS FALSE NEIGHBOUR: 'it returns false'. Refute it at one input. -/
def delayMoreWrong : ChangeSpec := { name := "delayMore", fn := fun _ => fun
  | [d1, d2, d3] => { results := [.lit (.bool false)], args := [d1, d2, d3] }
  | _ => none }
def DelayMoreWrongFalsely : Prop := delayMoreRow.holds Tryd.pinned (OpenSpec.ofChange delayMoreWrong)

/- THE SECOND FORM. 'bulk': how many values and letters a reading holds, each counted each time it is reached (what is shared counts as often as it is met; a slice's spare places count too). A statement '..UptoSaid' is the law's where the arguments, and the package variables that the reading takes, are together of bulk at most 1048576: NARROWER than '..Said'. Prove '..Said' where nothing that the law and all that it calls make is longer than what came in: it says more and counts as full. Else prove '..UptoSaid'. A law counts once. -/
mutual
def uptoBulk {H : Type} : DataW H → Nat
  | .lit (.string bytes) => bytes.length + 1
  | .lit _ => 1
  | .nil => 1
  | .ptr d => uptoBulk d + 1
  | .slice elems spare => uptoBulkAll elems + uptoBulkAll spare + 1
  | .agg parts => uptoBulkAll parts + 1
  | .iface _ d => uptoBulk d + 1
  | .map entries => uptoBulkEntries entries + 1
  | .held _ => 1
def uptoBulkAll {H : Type} : List (DataW H) → Nat
  | [] => 0
  | d :: r => uptoBulk d + uptoBulkAll r
def uptoBulkEntries {H : Type} : List (Lit × DataW H) → Nat
  | [] => 0
  | x :: r => uptoBulkEntry x + uptoBulkEntries r
def uptoBulkEntry {H : Type} : Lit × DataW H → Nat
  | (.string bytes, d) => bytes.length + uptoBulk d + 1
  | (_, d) => uptoBulk d + 1
 end
def uptoSmall : (H : Type) → List (DataW H) → Bool := fun _ ds => decide (uptoBulkAll ds ≤ 1048576)
def OpenSpec.upto (s : _root_.Go.ChangeSpec) : _root_.Go.OpenSpec := { _root_.Go.OpenSpec.ofChange s with cond := some uptoSmall }

/-- 'palinglaw23.ClashAlone', WHERE WHAT IT READS IS OF BULK AT MOST 1048576: true; the input reads as it did. -/
def clashAloneUptoRow : OpenClaim := { program := "ytgdfhjnbdmgjmaadoor", sum := "0280d56454644e8175f4284e48391bc6df679c8b78a35db6bf7e73aaa7a7124f", func := "paling/palinglaw23.ClashAlone", spec := "clashAlone", unfollowed := true, recurses := true, named := ["unicode/utf8.first", "unicode/utf8.acceptRanges"], apart := false, laid := [("unicode/utf8.acceptRanges", laid_unicode_utf8_acceptRanges), ("unicode/utf8.first", laid_unicode_utf8_first)], narrowed := true }
def ClashAloneUptoSaid : Prop := clashAloneUptoRow.holds Tryd.pinned (OpenSpec.upto clashAloneSpec)

/-- 'palinglaw23.ClashRing', WHERE WHAT IT READS IS OF BULK AT MOST 1048576: true; the input reads as it did. -/
def clashRingUptoRow : OpenClaim := { program := "ytgdfhjnbdmgjmaadoor", sum := "0280d56454644e8175f4284e48391bc6df679c8b78a35db6bf7e73aaa7a7124f", func := "paling/palinglaw23.ClashRing", spec := "clashRing", unfollowed := true, recurses := true, named := ["unicode/utf8.first", "unicode/utf8.acceptRanges"], apart := false, laid := [("unicode/utf8.acceptRanges", laid_unicode_utf8_acceptRanges), ("unicode/utf8.first", laid_unicode_utf8_first)], narrowed := true }
def ClashRingUptoSaid : Prop := clashRingUptoRow.holds Tryd.pinned (OpenSpec.upto clashRingSpec)

/-- 'palinglaw24.DelayRing', WHERE WHAT IT READS IS OF BULK AT MOST 1048576: true; the input reads as it did. -/
def delayRingUptoRow : OpenClaim := { program := "ytgdfhjnbdmgjmaadoor", sum := "0280d56454644e8175f4284e48391bc6df679c8b78a35db6bf7e73aaa7a7124f", func := "paling/palinglaw24.DelayRing", spec := "delayRing", unfollowed := true, recurses := true, named := ["unicode/utf8.first", "unicode/utf8.acceptRanges"], apart := false, laid := [("unicode/utf8.acceptRanges", laid_unicode_utf8_acceptRanges), ("unicode/utf8.first", laid_unicode_utf8_first)], narrowed := true }
def DelayRingUptoSaid : Prop := delayRingUptoRow.holds Tryd.pinned (OpenSpec.upto delayRingSpec)

/-- 'palinglaw24.DelayMore', WHERE WHAT IT READS IS OF BULK AT MOST 1048576: true; the input reads as it did. -/
def delayMoreUptoRow : OpenClaim := { program := "ytgdfhjnbdmgjmaadoor", sum := "0280d56454644e8175f4284e48391bc6df679c8b78a35db6bf7e73aaa7a7124f", func := "paling/palinglaw24.DelayMore", spec := "delayMore", unfollowed := true, recurses := true, named := ["unicode/utf8.first", "unicode/utf8.acceptRanges"], apart := false, laid := [("unicode/utf8.acceptRanges", laid_unicode_utf8_acceptRanges), ("unicode/utf8.first", laid_unicode_utf8_first)], narrowed := true }
def DelayMoreUptoSaid : Prop := delayMoreUptoRow.holds Tryd.pinned (OpenSpec.upto delayMoreSpec)

end Rows
end Go.Proofs.YtgdfhjnbdmgjmaaDoor

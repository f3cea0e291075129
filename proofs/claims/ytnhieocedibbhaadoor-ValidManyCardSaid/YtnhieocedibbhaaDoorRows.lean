/-
  NARROWER THAN 'FOR EVERY INPUT', by the rows' own cells (each row's printed sentence says how): InsTells: laid · InsMakes: laid · InsForms: laid · InsReckons: laid · InsSame: laid · ValidTells: laid · ValidBent: laid · ValidMany: laid · ValidLong: laid · ValidFinds: laid · ValidCopies: laid.
  DERIVED. THE GIVEN ROWS OF THIS SEAT. 11 by the template 'for every input the law returns true; each argument reads behind the call as it read before'; 0 by the template 'total and deterministic' (their statements: YtnhieocedibbhaaDoorTotals.lean).
  GIVEN WITH THE SEED: the statements are not yours to turn. If you find one false, say at which input.
  Laid BY PROGRAM, IN A SANDBOX (cutbox-rows.mjs): the forced cells as the released guide's own fill.sh prints them over the translation 417056003ad35dce… (all of the seat's roots in one cut). By AI agents, Wed Nov 11 2026. No macro, syntax, notation, axiom, sorry.
-/
import Derived.Test.YtnhieocedibbhaaDoorChecked
import GoSem.PinnedTables
import GoSem.Claim
import GoSem.ClaimJoined
import GoSem.ClaimMapViews
import Derived.JoinedTies
import Derived.KernelRfl
namespace Go.Proofs.YtnhieocedibbhaaDoor
/- THE CELL 'sum', in the pinned program and in every row, IS THE sha256 OF THE DUMP (.gsa) THAT YtnhieocedibbhaaDoorProg.lean LOADS. Nothing in Lean hashes anything: it is a label: what it is worth is what the hold of that sum in a sandbox is worth. -/
noncomputable def Tryd.pinned : Pinned := { name := "ytnhieocedibbhaadoor", sum := "417056003ad35dce3f2d35b7e425705268c288d1752ee371bf3ab9af6cd11098", checked := Tryd.checked }
namespace Rows
def none {H : Type} : Left H := { results := [], args := [] }

/- WHAT THE LISTED PACKAGE-LEVEL VARIABLES READ AS WHEN THE CALL BEGINS. Each datum BY PROGRAM (the guide's laid-datum.mjs) off the statement by which the dump's own 'gosem.cut.vars' lays the variable. In a bare row this is a premise. The card (YtnhieocedibbhaaDoorCards.lean) ties it to the program's text. -/
def laid_unicode_utf8_acceptRanges {H : Type} : DataW H := .agg [.agg [.lit (.int .u8 128), .lit (.int .u8 191)], .agg [.lit (.int .u8 160), .lit (.int .u8 191)], .agg [.lit (.int .u8 128), .lit (.int .u8 159)], .agg [.lit (.int .u8 144), .lit (.int .u8 191)], .agg [.lit (.int .u8 128), .lit (.int .u8 143)], .agg [.lit (.int .u8 0), .lit (.int .u8 0)], .agg [.lit (.int .u8 0), .lit (.int .u8 0)], .agg [.lit (.int .u8 0), .lit (.int .u8 0)], .agg [.lit (.int .u8 0), .lit (.int .u8 0)], .agg [.lit (.int .u8 0), .lit (.int .u8 0)], .agg [.lit (.int .u8 0), .lit (.int .u8 0)], .agg [.lit (.int .u8 0), .lit (.int .u8 0)], .agg [.lit (.int .u8 0), .lit (.int .u8 0)], .agg [.lit (.int .u8 0), .lit (.int .u8 0)], .agg [.lit (.int .u8 0), .lit (.int .u8 0)], .agg [.lit (.int .u8 0), .lit (.int .u8 0)]]
/-- One of Go's own tables, pinned by name: the form's constant. -/
def laid_unicode_utf8_first : DataW Unit := Go.Pinned.utf8First

/-- 'palinglaw7.InsTells': WHATEVER THE INPUT: true; the input reads as it did. -/
def insTellsSpec : ChangeSpec := { name := "insTells", fn := fun _ => fun
  | [d] => { results := [.lit (.bool true)], args := [d] }
  | _ => none }
def insTellsRow : OpenClaim := { program := "ytnhieocedibbhaadoor", sum := "417056003ad35dce3f2d35b7e425705268c288d1752ee371bf3ab9af6cd11098", func := "paling/palinglaw7.InsTells", spec := "insTells", named := ["unicode/utf8.first", "unicode/utf8.acceptRanges"], apart := false, laid := [("unicode/utf8.acceptRanges", laid_unicode_utf8_acceptRanges), ("unicode/utf8.first", laid_unicode_utf8_first)] }
def InsTellsSaid : Prop := insTellsRow.holds Tryd.pinned (OpenSpec.ofChange insTellsSpec)

/-- ITS FALSE NEIGHBOUR: 'it returns false'. Refute it at one input. -/
def insTellsWrong : ChangeSpec := { name := "insTells", fn := fun _ => fun
  | [d] => { results := [.lit (.bool false)], args := [d] }
  | _ => none }
def InsTellsWrongFalsely : Prop := insTellsRow.holds Tryd.pinned (OpenSpec.ofChange insTellsWrong)

/-- 'palinglaw7.InsMakes': WHATEVER THE INPUT: true; the input reads as it did. -/
def insMakesSpec : ChangeSpec := { name := "insMakes", fn := fun _ => fun
  | [d1, d2, d3] => { results := [.lit (.bool true)], args := [d1, d2, d3] }
  | _ => none }
def insMakesRow : OpenClaim := { program := "ytnhieocedibbhaadoor", sum := "417056003ad35dce3f2d35b7e425705268c288d1752ee371bf3ab9af6cd11098", func := "paling/palinglaw7.InsMakes", spec := "insMakes", named := ["unicode/utf8.first", "unicode/utf8.acceptRanges"], apart := false, laid := [("unicode/utf8.acceptRanges", laid_unicode_utf8_acceptRanges), ("unicode/utf8.first", laid_unicode_utf8_first)] }
def InsMakesSaid : Prop := insMakesRow.holds Tryd.pinned (OpenSpec.ofChange insMakesSpec)

/-- ITS FALSE NEIGHBOUR: 'it returns false'. Refute it at one input. -/
def insMakesWrong : ChangeSpec := { name := "insMakes", fn := fun _ => fun
  | [d1, d2, d3] => { results := [.lit (.bool false)], args := [d1, d2, d3] }
  | _ => none }
def InsMakesWrongFalsely : Prop := insMakesRow.holds Tryd.pinned (OpenSpec.ofChange insMakesWrong)

/-- 'palinglaw7.InsForms': WHATEVER THE INPUT: true; the input reads as it did. -/
def insFormsSpec : ChangeSpec := { name := "insForms", fn := fun _ => fun
  | [d1, d2, d3, d4, d5] => { results := [.lit (.bool true)], args := [d1, d2, d3, d4, d5] }
  | _ => none }
def insFormsRow : OpenClaim := { program := "ytnhieocedibbhaadoor", sum := "417056003ad35dce3f2d35b7e425705268c288d1752ee371bf3ab9af6cd11098", func := "paling/palinglaw7.InsForms", spec := "insForms", named := ["unicode/utf8.first", "unicode/utf8.acceptRanges"], apart := false, laid := [("unicode/utf8.acceptRanges", laid_unicode_utf8_acceptRanges), ("unicode/utf8.first", laid_unicode_utf8_first)] }
def InsFormsSaid : Prop := insFormsRow.holds Tryd.pinned (OpenSpec.ofChange insFormsSpec)

/-- ITS FALSE NEIGHBOUR: 'it returns false'. Refute it at one input. -/
def insFormsWrong : ChangeSpec := { name := "insForms", fn := fun _ => fun
  | [d1, d2, d3, d4, d5] => { results := [.lit (.bool false)], args := [d1, d2, d3, d4, d5] }
  | _ => none }
def InsFormsWrongFalsely : Prop := insFormsRow.holds Tryd.pinned (OpenSpec.ofChange insFormsWrong)

/-- 'palinglaw7.InsReckons': WHATEVER THE INPUT: true; the input reads as it did. -/
def insReckonsSpec : ChangeSpec := { name := "insReckons", fn := fun _ => fun
  | [d] => { results := [.lit (.bool true)], args := [d] }
  | _ => none }
def insReckonsRow : OpenClaim := { program := "ytnhieocedibbhaadoor", sum := "417056003ad35dce3f2d35b7e425705268c288d1752ee371bf3ab9af6cd11098", func := "paling/palinglaw7.InsReckons", spec := "insReckons", named := ["unicode/utf8.first", "unicode/utf8.acceptRanges"], apart := false, laid := [("unicode/utf8.acceptRanges", laid_unicode_utf8_acceptRanges), ("unicode/utf8.first", laid_unicode_utf8_first)] }
def InsReckonsSaid : Prop := insReckonsRow.holds Tryd.pinned (OpenSpec.ofChange insReckonsSpec)

/-- ITS FALSE NEIGHBOUR: 'it returns false'. Refute it at one input. -/
def insReckonsWrong : ChangeSpec := { name := "insReckons", fn := fun _ => fun
  | [d] => { results := [.lit (.bool false)], args := [d] }
  | _ => none }
def InsReckonsWrongFalsely : Prop := insReckonsRow.holds Tryd.pinned (OpenSpec.ofChange insReckonsWrong)

/-- 'palinglaw7.InsSame': WHATEVER THE INPUT: true; the input reads as it did. -/
def insSameSpec : ChangeSpec := { name := "insSame", fn := fun _ => fun
  | [d1, d2] => { results := [.lit (.bool true)], args := [d1, d2] }
  | _ => none }
def insSameRow : OpenClaim := { program := "ytnhieocedibbhaadoor", sum := "417056003ad35dce3f2d35b7e425705268c288d1752ee371bf3ab9af6cd11098", func := "paling/palinglaw7.InsSame", spec := "insSame", named := ["unicode/utf8.first", "unicode/utf8.acceptRanges"], apart := false, laid := [("unicode/utf8.acceptRanges", laid_unicode_utf8_acceptRanges), ("unicode/utf8.first", laid_unicode_utf8_first)] }
def InsSameSaid : Prop := insSameRow.holds Tryd.pinned (OpenSpec.ofChange insSameSpec)

/-- ITS FALSE NEIGHBOUR: 'it returns false'. Refute it at one input. -/
def insSameWrong : ChangeSpec := { name := "insSame", fn := fun _ => fun
  | [d1, d2] => { results := [.lit (.bool false)], args := [d1, d2] }
  | _ => none }
def InsSameWrongFalsely : Prop := insSameRow.holds Tryd.pinned (OpenSpec.ofChange insSameWrong)

/-- 'palinglaw8.ValidTells': WHATEVER THE INPUT: true; the input reads as it did. -/
def validTellsSpec : ChangeSpec := { name := "validTells", fn := fun _ => fun
  | [d] => { results := [.lit (.bool true)], args := [d] }
  | _ => none }
def validTellsRow : OpenClaim := { program := "ytnhieocedibbhaadoor", sum := "417056003ad35dce3f2d35b7e425705268c288d1752ee371bf3ab9af6cd11098", func := "paling/palinglaw8.ValidTells", spec := "validTells", named := ["unicode/utf8.first", "unicode/utf8.acceptRanges"], apart := false, laid := [("unicode/utf8.acceptRanges", laid_unicode_utf8_acceptRanges), ("unicode/utf8.first", laid_unicode_utf8_first)] }
def ValidTellsSaid : Prop := validTellsRow.holds Tryd.pinned (OpenSpec.ofChange validTellsSpec)

/-- ITS FALSE NEIGHBOUR: 'it returns false'. Refute it at one input. -/
def validTellsWrong : ChangeSpec := { name := "validTells", fn := fun _ => fun
  | [d] => { results := [.lit (.bool false)], args := [d] }
  | _ => none }
def ValidTellsWrongFalsely : Prop := validTellsRow.holds Tryd.pinned (OpenSpec.ofChange validTellsWrong)

/-- 'palinglaw8.ValidBent': WHATEVER THE INPUT: true; the input reads as it did. -/
def validBentSpec : ChangeSpec := { name := "validBent", fn := fun _ => fun
  | [d1, d2, d3, d4, d5, d6] => { results := [.lit (.bool true)], args := [d1, d2, d3, d4, d5, d6] }
  | _ => none }
def validBentRow : OpenClaim := { program := "ytnhieocedibbhaadoor", sum := "417056003ad35dce3f2d35b7e425705268c288d1752ee371bf3ab9af6cd11098", func := "paling/palinglaw8.ValidBent", spec := "validBent", named := ["unicode/utf8.first", "unicode/utf8.acceptRanges"], apart := false, laid := [("unicode/utf8.acceptRanges", laid_unicode_utf8_acceptRanges), ("unicode/utf8.first", laid_unicode_utf8_first)] }
def ValidBentSaid : Prop := validBentRow.holds Tryd.pinned (OpenSpec.ofChange validBentSpec)

/-- ITS FALSE NEIGHBOUR: 'it returns false'. Refute it at one input. -/
def validBentWrong : ChangeSpec := { name := "validBent", fn := fun _ => fun
  | [d1, d2, d3, d4, d5, d6] => { results := [.lit (.bool false)], args := [d1, d2, d3, d4, d5, d6] }
  | _ => none }
def ValidBentWrongFalsely : Prop := validBentRow.holds Tryd.pinned (OpenSpec.ofChange validBentWrong)

/-- 'palinglaw8.ValidMany': WHATEVER THE INPUT: true; the input reads as it did. -/
def validManySpec : ChangeSpec := { name := "validMany", fn := fun _ => fun
  | [d1, d2, d3] => { results := [.lit (.bool true)], args := [d1, d2, d3] }
  | _ => none }
def validManyRow : OpenClaim := { program := "ytnhieocedibbhaadoor", sum := "417056003ad35dce3f2d35b7e425705268c288d1752ee371bf3ab9af6cd11098", func := "paling/palinglaw8.ValidMany", spec := "validMany", named := ["unicode/utf8.first", "unicode/utf8.acceptRanges"], apart := false, laid := [("unicode/utf8.acceptRanges", laid_unicode_utf8_acceptRanges), ("unicode/utf8.first", laid_unicode_utf8_first)] }
def ValidManySaid : Prop := validManyRow.holds Tryd.pinned (OpenSpec.ofChange validManySpec)

/-- ITS FALSE NEIGHBOUR: 'it returns false'. Refute it at one input. -/
def validManyWrong : ChangeSpec := { name := "validMany", fn := fun _ => fun
  | [d1, d2, d3] => { results := [.lit (.bool false)], args := [d1, d2, d3] }
  | _ => none }
def ValidManyWrongFalsely : Prop := validManyRow.holds Tryd.pinned (OpenSpec.ofChange validManyWrong)

/-- 'palinglaw8.ValidLong': WHATEVER THE INPUT: true; the input reads as it did. -/
def validLongSpec : ChangeSpec := { name := "validLong", fn := fun _ => fun
  | [d1, d2] => { results := [.lit (.bool true)], args := [d1, d2] }
  | _ => none }
def validLongRow : OpenClaim := { program := "ytnhieocedibbhaadoor", sum := "417056003ad35dce3f2d35b7e425705268c288d1752ee371bf3ab9af6cd11098", func := "paling/palinglaw8.ValidLong", spec := "validLong", named := ["unicode/utf8.first", "unicode/utf8.acceptRanges"], apart := false, laid := [("unicode/utf8.acceptRanges", laid_unicode_utf8_acceptRanges), ("unicode/utf8.first", laid_unicode_utf8_first)] }
def ValidLongSaid : Prop := validLongRow.holds Tryd.pinned (OpenSpec.ofChange validLongSpec)

/-- ITS FALSE NEIGHBOUR: 'it returns false'. Refute it at one input. -/
def validLongWrong : ChangeSpec := { name := "validLong", fn := fun _ => fun
  | [d1, d2] => { results := [.lit (.bool false)], args := [d1, d2] }
  | _ => none }
def ValidLongWrongFalsely : Prop := validLongRow.holds Tryd.pinned (OpenSpec.ofChange validLongWrong)

/-- 'palinglaw8.ValidFinds': WHATEVER THE INPUT: true; the input reads as it did. -/
def validFindsSpec : ChangeSpec := { name := "validFinds", fn := fun _ => fun
  | [d1, d2] => { results := [.lit (.bool true)], args := [d1, d2] }
  | _ => none }
def validFindsRow : OpenClaim := { program := "ytnhieocedibbhaadoor", sum := "417056003ad35dce3f2d35b7e425705268c288d1752ee371bf3ab9af6cd11098", func := "paling/palinglaw8.ValidFinds", spec := "validFinds", named := ["unicode/utf8.first", "unicode/utf8.acceptRanges"], apart := false, laid := [("unicode/utf8.acceptRanges", laid_unicode_utf8_acceptRanges), ("unicode/utf8.first", laid_unicode_utf8_first)] }
def ValidFindsSaid : Prop := validFindsRow.holds Tryd.pinned (OpenSpec.ofChange validFindsSpec)

/-- ITS FALSE NEIGHBOUR: 'it returns false'. Refute it at one input. -/
def validFindsWrong : ChangeSpec := { name := "validFinds", fn := fun _ => fun
  | [d1, d2] => { results := [.lit (.bool false)], args := [d1, d2] }
  | _ => none }
def ValidFindsWrongFalsely : Prop := validFindsRow.holds Tryd.pinned (OpenSpec.ofChange validFindsWrong)

/-- 'palinglaw8.ValidCopies': WHATEVER THE INPUT: true; the input reads as it did. -/
def validCopiesSpec : ChangeSpec := { name := "validCopies", fn := fun _ => fun
  | [d1, d2, d3] => { results := [.lit (.bool true)], args := [d1, d2, d3] }
  | _ => none }
def validCopiesRow : OpenClaim := { program := "ytnhieocedibbhaadoor", sum := "417056003ad35dce3f2d35b7e425705268c288d1752ee371bf3ab9af6cd11098", func := "paling/palinglaw8.ValidCopies", spec := "validCopies", named := ["unicode/utf8.first", "unicode/utf8.acceptRanges"], apart := false, laid := [("unicode/utf8.acceptRanges", laid_unicode_utf8_acceptRanges), ("unicode/utf8.first", laid_unicode_utf8_first)] }
def ValidCopiesSaid : Prop := validCopiesRow.holds Tryd.pinned (OpenSpec.ofChange validCopiesSpec)

/-- ITS FALSE NEIGHBOUR: 'it returns false'. Refute it at one input. -/
def validCopiesWrong : ChangeSpec := { name := "validCopies", fn := fun _ => fun
  | [d1, d2, d3] => { results := [.lit (.bool false)], args := [d1, d2, d3] }
  | _ => none }
def ValidCopiesWrongFalsely : Prop := validCopiesRow.holds Tryd.pinned (OpenSpec.ofChange validCopiesWrong)

/- THE SECOND FORM. 'bulk': how many values and letters a reading holds, each counted each time it is reached (what is shared counts as often as it is met; a slice's spare places count too). A statement '..UptoSaid' is the law's where the arguments, and the package variables that the reading takes, are together of bulk at most 1048576: NARROWER than '..Said'. Prove '..Said' where nothing that the law and all that it calls make is longer than what came in: it says more and counts as full. Else prove '..UptoSaid'. A law counts once. -/
mutual
def uptoBulk {H : Type} : DataW H → Nat
  | .lit (.string bytes) => bytes.length + 1
  | .lit _ => 1
  | .nil => 1
  | .ptr d => uptoBulk d + 1
  | .slice elems spare => uptoBulkAll elems + uptoBulkAll spare + 1
  | .agg parts => uptoBulkAll parts + 1
  | .iface _ d => uptoBulk d + 1
  | .map entries => uptoBulkEntries entries + 1
  | .held _ => 1
def uptoBulkAll {H : Type} : List (DataW H) → Nat
  | [] => 0
  | d :: r => uptoBulk d + uptoBulkAll r
def uptoBulkEntries {H : Type} : List (Lit × DataW H) → Nat
  | [] => 0
  | x :: r => uptoBulkEntry x + uptoBulkEntries r
def uptoBulkEntry {H : Type} : Lit × DataW H → Nat
  | (.string bytes, d) => bytes.length + uptoBulk d + 1
  | (_, d) => uptoBulk d + 1
 end
def uptoSmall : (H : Type) → List (DataW H) → Bool := fun _ ds => decide (uptoBulkAll ds ≤ 1048576)
def OpenSpec.upto (s : _root_.Go.ChangeSpec) : _root_.Go.OpenSpec := { _root_.Go.OpenSpec.ofChange s with cond := some uptoSmall }

/-- 'palinglaw7.InsTells', WHERE WHAT IT READS IS OF BULK AT MOST 1048576: true; the input reads as it did. -/
def insTellsUptoRow : OpenClaim := { program := "ytnhieocedibbhaadoor", sum := "417056003ad35dce3f2d35b7e425705268c288d1752ee371bf3ab9af6cd11098", func := "paling/palinglaw7.InsTells", spec := "insTells", named := ["unicode/utf8.first", "unicode/utf8.acceptRanges"], apart := false, laid := [("unicode/utf8.acceptRanges", laid_unicode_utf8_acceptRanges), ("unicode/utf8.first", laid_unicode_utf8_first)], narrowed := true }
def InsTellsUptoSaid : Prop := insTellsUptoRow.holds Tryd.pinned (OpenSpec.upto insTellsSpec)

/-- 'palinglaw7.InsMakes', WHERE WHAT IT READS IS OF BULK AT MOST 1048576: true; the input reads as it did. -/
def insMakesUptoRow : OpenClaim := { program := "ytnhieocedibbhaadoor", sum := "417056003ad35dce3f2d35b7e425705268c288d1752ee371bf3ab9af6cd11098", func := "paling/palinglaw7.InsMakes", spec := "insMakes", named := ["unicode/utf8.first", "unicode/utf8.acceptRanges"], apart := false, laid := [("unicode/utf8.acceptRanges", laid_unicode_utf8_acceptRanges), ("unicode/utf8.first", laid_unicode_utf8_first)], narrowed := true }
def InsMakesUptoSaid : Prop := insMakesUptoRow.holds Tryd.pinned (OpenSpec.upto insMakesSpec)

/-- 'palinglaw7.InsForms', WHERE WHAT IT READS IS OF BULK AT MOST 1048576: true; the input reads as it did. -/
def insFormsUptoRow : OpenClaim := { program := "ytnhieocedibbhaadoor", sum := "417056003ad35dce3f2d35b7e425705268c288d1752ee371bf3ab9af6cd11098", func := "paling/palinglaw7.InsForms", spec := "insForms", named := ["unicode/utf8.first", "unicode/utf8.acceptRanges"], apart := false, laid := [("unicode/utf8.acceptRanges", laid_unicode_utf8_acceptRanges), ("unicode/utf8.first", laid_unicode_utf8_first)], narrowed := true }
def InsFormsUptoSaid : Prop := insFormsUptoRow.holds Tryd.pinned (OpenSpec.upto insFormsSpec)

/-- 'palinglaw7.InsReckons', WHERE WHAT IT READS IS OF BULK AT MOST 1048576: true; the input reads as it did. -/
def insReckonsUptoRow : OpenClaim := { program := "ytnhieocedibbhaadoor", sum := "417056003ad35dce3f2d35b7e425705268c288d1752ee371bf3ab9af6cd11098", func := "paling/palinglaw7.InsReckons", spec := "insReckons", named := ["unicode/utf8.first", "unicode/utf8.acceptRanges"], apart := false, laid := [("unicode/utf8.acceptRanges", laid_unicode_utf8_acceptRanges), ("unicode/utf8.first", laid_unicode_utf8_first)], narrowed := true }
def InsReckonsUptoSaid : Prop := insReckonsUptoRow.holds Tryd.pinned (OpenSpec.upto insReckonsSpec)

/-- 'palinglaw7.InsSame', WHERE WHAT IT READS IS OF BULK AT MOST 1048576: true; the input reads as it did. -/
def insSameUptoRow : OpenClaim := { program := "ytnhieocedibbhaadoor", sum := "417056003ad35dce3f2d35b7e425705268c288d1752ee371bf3ab9af6cd11098", func := "paling/palinglaw7.InsSame", spec := "insSame", named := ["unicode/utf8.first", "unicode/utf8.acceptRanges"], apart := false, laid := [("unicode/utf8.acceptRanges", laid_unicode_utf8_acceptRanges), ("unicode/utf8.first", laid_unicode_utf8_first)], narrowed := true }
def InsSameUptoSaid : Prop := insSameUptoRow.holds Tryd.pinned (OpenSpec.upto insSameSpec)

/-- 'palinglaw8.ValidTells', WHERE WHAT IT READS IS OF BULK AT MOST 1048576: true; the input reads as it did. -/
def validTellsUptoRow : OpenClaim := { program := "ytnhieocedibbhaadoor", sum := "417056003ad35dce3f2d35b7e425705268c288d1752ee371bf3ab9af6cd11098", func := "paling/palinglaw8.ValidTells", spec := "validTells", named := ["unicode/utf8.first", "unicode/utf8.acceptRanges"], apart := false, laid := [("unicode/utf8.acceptRanges", laid_unicode_utf8_acceptRanges), ("unicode/utf8.first", laid_unicode_utf8_first)], narrowed := true }
def ValidTellsUptoSaid : Prop := validTellsUptoRow.holds Tryd.pinned (OpenSpec.upto validTellsSpec)

/-- 'palinglaw8.ValidBent', WHERE WHAT IT READS IS OF BULK AT MOST 1048576: true; the input reads as it did. -/
def validBentUptoRow : OpenClaim := { program := "ytnhieocedibbhaadoor", sum := "417056003ad35dce3f2d35b7e425705268c288d1752ee371bf3ab9af6cd11098", func := "paling/palinglaw8.ValidBent", spec := "validBent", named := ["unicode/utf8.first", "unicode/utf8.acceptRanges"], apart := false, laid := [("unicode/utf8.acceptRanges", laid_unicode_utf8_acceptRanges), ("unicode/utf8.first", laid_unicode_utf8_first)], narrowed := true }
def ValidBentUptoSaid : Prop := validBentUptoRow.holds Tryd.pinned (OpenSpec.upto validBentSpec)

/-- 'palinglaw8.ValidMany', WHERE WHAT IT READS IS OF BULK AT MOST 1048576: true; the input reads as it did. -/
def validManyUptoRow : OpenClaim := { program := "ytnhieocedibbhaadoor", sum := "417056003ad35dce3f2d35b7e425705268c288d1752ee371bf3ab9af6cd11098", func := "paling/palinglaw8.ValidMany", spec := "validMany", named := ["unicode/utf8.first", "unicode/utf8.acceptRanges"], apart := false, laid := [("unicode/utf8.acceptRanges", laid_unicode_utf8_acceptRanges), ("unicode/utf8.first", laid_unicode_utf8_first)], narrowed := true }
def ValidManyUptoSaid : Prop := validManyUptoRow.holds Tryd.pinned (OpenSpec.upto validManySpec)

/-- 'palinglaw8.ValidLong', WHERE WHAT IT READS IS OF BULK AT MOST 1048576: true; the input reads as it did. -/
def validLongUptoRow : OpenClaim := { program := "ytnhieocedibbhaadoor", sum := "417056003ad35dce3f2d35b7e425705268c288d1752ee371bf3ab9af6cd11098", func := "paling/palinglaw8.ValidLong", spec := "validLong", named := ["unicode/utf8.first", "unicode/utf8.acceptRanges"], apart := false, laid := [("unicode/utf8.acceptRanges", laid_unicode_utf8_acceptRanges), ("unicode/utf8.first", laid_unicode_utf8_first)], narrowed := true }
def ValidLongUptoSaid : Prop := validLongUptoRow.holds Tryd.pinned (OpenSpec.upto validLongSpec)

/-- 'palinglaw8.ValidFinds', WHERE WHAT IT READS IS OF BULK AT MOST 1048576: true; the input reads as it did. -/
def validFindsUptoRow : OpenClaim := { program := "ytnhieocedibbhaadoor", sum := "417056003ad35dce3f2d35b7e425705268c288d1752ee371bf3ab9af6cd11098", func := "paling/palinglaw8.ValidFinds", spec := "validFinds", named := ["unicode/utf8.first", "unicode/utf8.acceptRanges"], apart := false, laid := [("unicode/utf8.acceptRanges", laid_unicode_utf8_acceptRanges), ("unicode/utf8.first", laid_unicode_utf8_first)], narrowed := true }
def ValidFindsUptoSaid : Prop := validFindsUptoRow.holds Tryd.pinned (OpenSpec.upto validFindsSpec)

/-- 'palinglaw8.ValidCopies', WHERE WHAT IT READS IS OF BULK AT MOST 1048576: true; the input reads as it did. -/
def validCopiesUptoRow : OpenClaim := { program := "ytnhieocedibbhaadoor", sum := "417056003ad35dce3f2d35b7e425705268c288d1752ee371bf3ab9af6cd11098", func := "paling/palinglaw8.ValidCopies", spec := "validCopies", named := ["unicode/utf8.first", "unicode/utf8.acceptRanges"], apart := false, laid := [("unicode/utf8.acceptRanges", laid_unicode_utf8_acceptRanges), ("unicode/utf8.first", laid_unicode_utf8_first)], narrowed := true }
def ValidCopiesUptoSaid : Prop := validCopiesUptoRow.holds Tryd.pinned (OpenSpec.upto validCopiesSpec)

end Rows
end Go.Proofs.YtnhieocedibbhaaDoor

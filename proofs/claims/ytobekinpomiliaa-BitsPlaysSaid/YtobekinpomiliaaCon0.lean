/- Part of the proof of: Whatever is put into a set of the program, it has just that, as long as it is one of its numbers: for every input the law answers true. -/
import Derived.Deep.DeepHandedRow
import Derived.Deep.DeepWitnessRowRef
import Derived.KernelRfl
import Derived.Lib.LaidIn
import Derived.ProofKit
import Derived.Shelf.Slices.In.SortNone
import Derived.Shelf.Sort.Plain
import Derived.Shelf.Unicode.DecodeAny
import Derived.SizedLaws
import Derived.Test.YtobekinpomiliaaProg
import Derived.Test.YtobekinpomiliaaRows
import Derived.Test.YtobekinpomiliaaEng2
section
set_option linter.unusedSectionVars false
set_option linter.unusedVariables false
set_option linter.unusedSimpArgs false
namespace Go.Ev
open Go
/-! Types of the program's data. -/
abbrev T_law19_Act : Ty := (.pr (.int .i64) (.int .i64))
/-- No tables. -/
instance theTabs : Tabs where
  blocks := []
  ok _ := True
  stable := fun _ h => h
abbrev fid_law19_BitsPlays : Nat := 3
abbrev fid_law19_BitsCopies : Nat := 5
abbrev fid_law19_BitsNil : Nat := 6
end Go.Ev
end

section
set_option linter.unusedSectionVars false
set_option linter.unusedVariables false
set_option linter.unusedSimpArgs false
/- What all laws of the seat share: a world. -/
set_option linter.unusedVariables false
namespace Go.Proofs.Ytobekinpomiliaa
open Go Go.Ev Go.ChangeShapes Go.WideShapes Go.ChangeAt Go.RowKit Go.Lib Go.Proofs
noncomputable def laidWorld (os : Os) : World := World.holding Try.prog os ⟨#[], #[], []⟩
end Go.Proofs.Ytobekinpomiliaa
end

section
set_option linter.unusedSectionVars false
set_option linter.unusedVariables false
set_option linter.unusedSimpArgs false
set_option maxRecDepth 100000
set_option linter.unusedVariables false
open Go Go.Ev
namespace Go.Ev
noncomputable section
/-! ### paling/palingbook.Pick -/
def sg_book_Pick : Sig := [(false, (.int .i64)), (false, (.int .i64))]
noncomputable def t_book_Pick : Tbl := []
theorem tk_book_Pick : ∀ p ∈ t_book_Pick, EntOK Go.Proofs.Try.prog p.1 p.2 := tbl_nil
noncomputable def c_book_Pick : Code := Go.Proofs.Try.f7.body.getD .skip
def tb_book_Pick : Tb := []
def T_book_Pick (n : Int) (m : Int) : Empty → JT Empty (Int) := fun j => nomatch j
def T0_book_Pick (n : Int) (m : Int) : JT Empty (Int) :=
  .br (m == (0 : Int))
    (.no)
  (.br (decide ((Int.tmod n m) < (0 : Int)))
    (.leaf (IntKind.i64.wrap ((Int.tmod n m) + m)))
  (.leaf (Int.tmod n m)))
def v_book_Pick (n : Int) (m : Int) : Int :=
  bif (m == (0 : Int)) then
    (0 : Int)
  else bif (decide ((Int.tmod n m) < (0 : Int))) then
    (IntKind.i64.wrap ((Int.tmod n m) + m))
  else (Int.tmod n m)
def k_book_Pick (n : Int) (m : Int) : Bool :=
  bif (m == (0 : Int)) then
    false
  else bif (decide ((Int.tmod n m) < (0 : Int))) then
    true
  else true
theorem g_book_Pick (n : Int) (m : Int) (hk : k_book_Pick n m = true) : Goes (T_book_Pick n m) (T0_book_Pick n m) (v_book_Pick n m) :=
  Goes.brk hk (fun hk =>
    Goes.nok hk) (fun hk =>
    Goes.brk hk (fun hk =>
      Goes.leaf) (fun hk =>
      Goes.leaf))
def R_book_Pick : Int → AV := fun (r : Int) => .d (.int .i64) r
def S_book_Pick (n : Int) (m : Int) : Empty → Nat × St := fun j => nomatch j
theorem en_book_Pick (n : Int) (m : Int) (L : Lt) : entryA Go.Proofs.Try.prog (clOf t_book_Pick) tb_book_Pick Go.Proofs.Try.f7 c_book_Pick L (toForms sg_book_Pick (n, m, ())) = (T0_book_Pick n m).run (fun v => some (R_book_Pick v, tps (toForms sg_book_Pick (n, m, ())))) fun j => L (S_book_Pick n m j).1 (S_book_Pick n m j).2 := by kernel_rfl
theorem lp_book_Pick (n : Int) (m : Int) : ∀ (L : Lt) (j : Empty), procOf (procsF Go.Proofs.Try.prog (clOf t_book_Pick) tb_book_Pick Go.Proofs.Try.f7 c_book_Pick (toForms sg_book_Pick (n, m, ()))) (S_book_Pick n m j).1 L (S_book_Pick n m j).2 = (T_book_Pick n m j).run (fun v => some (R_book_Pick v, tps (toForms sg_book_Pick (n, m, ())))) fun j => L (S_book_Pick n m j).1 (S_book_Pick n m j).2 := fun L j => nomatch j
noncomputable def e_book_Pick : Run := entG sg_book_Pick R_book_Pick (fun a => k_book_Pick a.1 a.2.1) (fun a => v_book_Pick a.1 a.2.1)
theorem ok_book_Pick : EntOK Go.Proofs.Try.prog 7 e_book_Pick := entG_ok (tb := tb_book_Pick) (c := c_book_Pick) tk_book_Pick (by kernel_rfl) (by kernel_rfl) (by kernel_rfl) (fun a => by kernel_rfl) fun ⟨n, m, _⟩ hk => evF_goes (c := c_book_Pick) (K := fun v => (R_book_Pick v, tps (toForms sg_book_Pick (n, m, ())))) (S := S_book_Pick n m) (by kernel_rfl) (en_book_Pick n m) (lp_book_Pick n m) (g_book_Pick n m hk)
end
end Go.Ev
end

section
set_option linter.unusedSectionVars false
set_option linter.unusedVariables false
set_option linter.unusedSimpArgs false
set_option maxRecDepth 100000
set_option linter.unusedVariables false
open Go Go.Ev
namespace Go.Ev
noncomputable section
/-! ### paling/bits.New -/
def sg_bits_New : Sig := [(false, (.int .i64))]
noncomputable def t_bits_New : Tbl := []
theorem tk_bits_New : ∀ p ∈ t_bits_New, EntOK Go.Proofs.Try.prog p.1 p.2 := tbl_nil
noncomputable def c_bits_New : Code := Go.Proofs.Try.f8.body.getD .skip
def tb_bits_New : Tb := []
def T_bits_New (n : Int) : Empty → JT Empty (Int × List (Int × Int)) := fun j => nomatch j
def T0_bits_New (n : Int) : JT Empty (Int × List (Int × Int)) :=
  .leaf ((maxI n (0 : Int)), [])
def v_bits_New (n : Int) : Int × List (Int × Int) :=
  ((maxI n (0 : Int)), [])
theorem g_bits_New (n : Int) : Goes (T_bits_New n) (T0_bits_New n) (v_bits_New n) :=
  Goes.leaf
def R_bits_New : Int × List (Int × Int) → AV := fun (r : Int × List (Int × Int)) => .bx 44 [.d (.int .i64) r.1, .mv (.int .i64) (.int .u64) r.2]
def S_bits_New (n : Int) : Empty → Nat × St := fun j => nomatch j
theorem en_bits_New (n : Int) (L : Lt) : entryA Go.Proofs.Try.prog (clOf t_bits_New) tb_bits_New Go.Proofs.Try.f8 c_bits_New L (toForms sg_bits_New (n, ())) = (T0_bits_New n).run (fun v => some (R_bits_New v, tps (toForms sg_bits_New (n, ())))) fun j => L (S_bits_New n j).1 (S_bits_New n j).2 := by kernel_rfl
theorem lp_bits_New (n : Int) : ∀ (L : Lt) (j : Empty), procOf (procsF Go.Proofs.Try.prog (clOf t_bits_New) tb_bits_New Go.Proofs.Try.f8 c_bits_New (toForms sg_bits_New (n, ()))) (S_bits_New n j).1 L (S_bits_New n j).2 = (T_bits_New n j).run (fun v => some (R_bits_New v, tps (toForms sg_bits_New (n, ())))) fun j => L (S_bits_New n j).1 (S_bits_New n j).2 := fun L j => nomatch j
noncomputable def e_bits_New : Run := entT sg_bits_New R_bits_New (fun a => v_bits_New a.1)
theorem ok_bits_New : EntOK Go.Proofs.Try.prog 8 e_bits_New := entT_ok (tb := tb_bits_New) (c := c_bits_New) tk_bits_New (by kernel_rfl) (by kernel_rfl) (by kernel_rfl) (fun a => by kernel_rfl) fun ⟨n, _⟩ => evF_goes (c := c_bits_New) (K := fun v => (R_bits_New v, tps (toForms sg_bits_New (n, ())))) (S := S_bits_New n) (by kernel_rfl) (en_bits_New n) (lp_bits_New n) (g_bits_New n)
end
end Go.Ev
end

section
set_option linter.unusedSectionVars false
set_option linter.unusedVariables false
set_option linter.unusedSimpArgs false
set_option maxRecDepth 100000
set_option linter.unusedVariables false
open Go Go.Ev
namespace Go.Ev
noncomputable section
/-! ### (*paling/bits.Set).Size -/
noncomputable def t_bits_Set_Size : Tbl := []
theorem tk_bits_Set_Size : ∀ p ∈ t_bits_Set_Size, EntOK Go.Proofs.Try.prog p.1 p.2 := tbl_nil
noncomputable def c_bits_Set_Size : Code := Go.Proofs.Try.f11.body.getD .skip
noncomputable def e_bits_Set_Size : Run := entE Go.Proofs.Try.prog t_bits_Set_Size Go.Proofs.Try.f11 c_bits_Set_Size
theorem ok_bits_Set_Size : EntOK Go.Proofs.Try.prog 11 e_bits_Set_Size := entE_ok tk_bits_Set_Size (by kernel_rfl) (by kernel_rfl) (by kernel_rfl) (fun xs => by kernel_rfl)
end
end Go.Ev
end

section
set_option linter.unusedSectionVars false
set_option linter.unusedVariables false
set_option linter.unusedSimpArgs false
set_option maxRecDepth 100000
set_option linter.unusedVariables false
open Go Go.Ev
namespace Go.Ev
noncomputable section
/-! ### (*paling/bits.Set).Has -/
def sg_bits_Set_Has_n0 : PSig := [.nilp, .dat false (.int .i64)]
noncomputable def t_bits_Set_Has_n0 : Tbl := [(11, e_bits_Set_Size)]
theorem tk_bits_Set_Has_n0 : ∀ p ∈ t_bits_Set_Has_n0, EntOK Go.Proofs.Try.prog p.1 p.2 := tbl_cons ok_bits_Set_Size (tbl_nil)
noncomputable def c_bits_Set_Has_n0 : Code := Go.Proofs.Try.f9.body.getD .skip
def tb_bits_Set_Has_n0 : Tb := []
def T_bits_Set_Has_n0 (s : Unit) (i : Int) : Empty → JT Empty (Bool) := fun j => nomatch j
def T0_bits_Set_Has_n0 (s : Unit) (i : Int) : JT Empty (Bool) :=
  .br (decide (i ≥ (0 : Int)))
    (.br (decide (i < (0 : Int)))
      (.no)
    (.leaf false))
  (.leaf false)
def v_bits_Set_Has_n0 (s : Unit) (i : Int) : Bool :=
  bif (decide (i ≥ (0 : Int))) then
    bif (decide (i < (0 : Int))) then
      false
    else false
  else false
def k_bits_Set_Has_n0 (s : Unit) (i : Int) : Bool :=
  bif (decide (i ≥ (0 : Int))) then
    bif (decide (i < (0 : Int))) then
      false
    else true
  else true
theorem g_bits_Set_Has_n0 (s : Unit) (i : Int) (hk : k_bits_Set_Has_n0 s i = true) : Goes (T_bits_Set_Has_n0 s i) (T0_bits_Set_Has_n0 s i) (v_bits_Set_Has_n0 s i) :=
  Goes.brk hk (fun hk =>
    Goes.brk hk (fun hk =>
      Goes.nok hk) (fun hk =>
      Goes.leaf)) (fun hk =>
    Goes.leaf)
def K_bits_Set_Has_n0 : Bool → Ans := fun (r : Bool) => (.d .bool r, [.top, .top])
def S_bits_Set_Has_n0 (s : Unit) (i : Int) : Empty → Nat × St := fun j => nomatch j
theorem en_bits_Set_Has_n0 (s : Unit) (i : Int) (L : Lt) : entryA Go.Proofs.Try.prog (clOf t_bits_Set_Has_n0) tb_bits_Set_Has_n0 Go.Proofs.Try.f9 c_bits_Set_Has_n0 L (toPs sg_bits_Set_Has_n0 (s, i, ())) = (T0_bits_Set_Has_n0 s i).run (fun v => some (K_bits_Set_Has_n0 v)) fun j => L (S_bits_Set_Has_n0 s i j).1 (S_bits_Set_Has_n0 s i j).2 := by kernel_rfl
theorem lp_bits_Set_Has_n0 (s : Unit) (i : Int) : ∀ (L : Lt) (j : Empty), procOf (procsF Go.Proofs.Try.prog (clOf t_bits_Set_Has_n0) tb_bits_Set_Has_n0 Go.Proofs.Try.f9 c_bits_Set_Has_n0 (toPs sg_bits_Set_Has_n0 (s, i, ()))) (S_bits_Set_Has_n0 s i j).1 L (S_bits_Set_Has_n0 s i j).2 = (T_bits_Set_Has_n0 s i j).run (fun v => some (K_bits_Set_Has_n0 v)) fun j => L (S_bits_Set_Has_n0 s i j).1 (S_bits_Set_Has_n0 s i j).2 := fun L j => nomatch j
noncomputable def e_bits_Set_Has_n0 : Run := entO sg_bits_Set_Has_n0 K_bits_Set_Has_n0 (fun a => k_bits_Set_Has_n0 a.1 a.2.1) (fun a => v_bits_Set_Has_n0 a.1 a.2.1)
theorem ok_bits_Set_Has_n0 : EntOK Go.Proofs.Try.prog 9 e_bits_Set_Has_n0 := entO_ok (tb := tb_bits_Set_Has_n0) (c := c_bits_Set_Has_n0) (noRun_ok (known_of (fn := Go.Proofs.Try.f9) (c := c_bits_Set_Has_n0) (by kernel_rfl) (by kernel_rfl) (by kernel_rfl))) tk_bits_Set_Has_n0 (by kernel_rfl) (by kernel_rfl) (fun a => by kernel_rfl) fun ⟨s, i, _⟩ hk => evF_goes (c := c_bits_Set_Has_n0) (K := K_bits_Set_Has_n0) (S := S_bits_Set_Has_n0 s i) (by kernel_rfl) (en_bits_Set_Has_n0 s i) (lp_bits_Set_Has_n0 s i) (g_bits_Set_Has_n0 s i hk)
end
end Go.Ev
end

section
set_option linter.unusedSectionVars false
set_option linter.unusedVariables false
set_option linter.unusedSimpArgs false
set_option maxRecDepth 100000
set_option linter.unusedVariables false
open Go Go.Ev
namespace Go.Ev
noncomputable section
/-! ### (*paling/bits.Set).Has -/
def sg_bits_Set_Has : PSig := [.obj 44 [(.d (.int .i64)), (.m (.int .i64) (.int .u64))], .dat false (.int .i64)]
noncomputable def t_bits_Set_Has : Tbl := [(11, e_bits_Set_Size)]
theorem tk_bits_Set_Has : ∀ p ∈ t_bits_Set_Has, EntOK Go.Proofs.Try.prog p.1 p.2 := tbl_cons ok_bits_Set_Size (tbl_nil)
noncomputable def c_bits_Set_Has : Code := Go.Proofs.Try.f9.body.getD .skip
def tb_bits_Set_Has : Tb := []
def T_bits_Set_Has (s : Int × List (Int × Int)) (i : Int) : Empty → JT Empty (Bool × Int × List (Int × Int)) := fun j => nomatch j
def T0_bits_Set_Has (s : Int × List (Int × Int)) (i : Int) : JT Empty (Bool × Int × List (Int × Int)) :=
  .br (decide (i ≥ (0 : Int)))
    (.br (decide (i < s.1))
      (.br (decide ((IntKind.u64.wrap (Int.tmod i (64 : Int))) < (0 : Int)))
        (.no)
      (.leaf (((bitAnd IntKind.u64 (Int.fdiv (Option.getD (mget (kt := (.int .i64)) (IntKind.i64.wrap (Int.tdiv i (64 : Int))) s.2) (0 : Int)) (2 ^ (min (Int.toNat (IntKind.u64.wrap (Int.tmod i (64 : Int)))) (IntKind.u64).bits))) (1 : Int)) == (1 : Int)), s)))
    (.leaf (false, s)))
  (.leaf (false, s))
def u_bits_Set_Has (s : Int × List (Int × Int)) (i : Int) : Bool × Int × List (Int × Int) :=
  bif (decide (i ≥ (0 : Int))) then
    bif (decide (i < s.1)) then
      bif (decide ((IntKind.u64.wrap (Int.tmod i (64 : Int))) < (0 : Int))) then
        (false, ((0 : Int), []))
      else (((bitAnd IntKind.u64 (Int.fdiv (Option.getD (mget (kt := (.int .i64)) (IntKind.i64.wrap (Int.tdiv i (64 : Int))) s.2) (0 : Int)) (2 ^ (min (Int.toNat (IntKind.u64.wrap (Int.tmod i (64 : Int)))) (IntKind.u64).bits))) (1 : Int)) == (1 : Int)), s)
    else (false, s)
  else (false, s)
def ku_bits_Set_Has (s : Int × List (Int × Int)) (i : Int) : Bool :=
  bif (decide (i ≥ (0 : Int))) then
    bif (decide (i < s.1)) then
      bif (decide ((IntKind.u64.wrap (Int.tmod i (64 : Int))) < (0 : Int))) then
        false
      else true
    else true
  else true
theorem gu_bits_Set_Has (s : Int × List (Int × Int)) (i : Int) (hk : ku_bits_Set_Has s i = true) : Goes (T_bits_Set_Has s i) (T0_bits_Set_Has s i) (u_bits_Set_Has s i) :=
  Goes.brk hk (fun hk =>
    Goes.brk hk (fun hk =>
      Goes.brk hk (fun hk =>
        Goes.nok hk) (fun hk =>
        Goes.leaf)) (fun hk =>
      Goes.leaf)) (fun hk =>
    Goes.leaf)
def K_bits_Set_Has : Bool × Int × List (Int × Int) → Ans := fun (r : Bool × Int × List (Int × Int)) => (.d .bool r.1, [.bx 44 [.d (.int .i64) r.2.1, .mv (.int .i64) (.int .u64) r.2.2], .top])
def S_bits_Set_Has (s : Int × List (Int × Int)) (i : Int) : Empty → Nat × St := fun j => nomatch j
theorem en_bits_Set_Has (s : Int × List (Int × Int)) (i : Int) (L : Lt) : entryA Go.Proofs.Try.prog (clOf t_bits_Set_Has) tb_bits_Set_Has Go.Proofs.Try.f9 c_bits_Set_Has L (toPs sg_bits_Set_Has (s, i, ())) = (T0_bits_Set_Has s i).run (fun v => some (K_bits_Set_Has v)) fun j => L (S_bits_Set_Has s i j).1 (S_bits_Set_Has s i j).2 := by kernel_rfl
theorem lp_bits_Set_Has (s : Int × List (Int × Int)) (i : Int) : ∀ (L : Lt) (j : Empty), procOf (procsF Go.Proofs.Try.prog (clOf t_bits_Set_Has) tb_bits_Set_Has Go.Proofs.Try.f9 c_bits_Set_Has (toPs sg_bits_Set_Has (s, i, ()))) (S_bits_Set_Has s i j).1 L (S_bits_Set_Has s i j).2 = (T_bits_Set_Has s i j).run (fun v => some (K_bits_Set_Has v)) fun j => L (S_bits_Set_Has s i j).1 (S_bits_Set_Has s i j).2 := fun L j => nomatch j
end
end Go.Ev
end

section
set_option linter.unusedSectionVars false
set_option linter.unusedVariables false
set_option linter.unusedSimpArgs false
/- Sets of small numbers, by words of 64. -/
set_option linter.unusedVariables false
open Go
namespace Go.Ev

/-- The word at a place. -/
def wordAt (m : List (Int × Int)) (k : Int) : Int := Option.getD (mget (kt := (.int .i64)) k m) (0 : Int)
/-- A bit of a word. -/
def bitE (w : Int) (i : Int) : Bool := (bitAnd IntKind.u64 (Int.fdiv w (2 ^ (min (Int.toNat (IntKind.u64.wrap i)) (IntKind.u64).bits))) (1 : Int)) == (1 : Int)
def numE (k i : Int) : Int := IntKind.i64.wrap ((IntKind.i64.wrap (k * (64 : Int))) + i)
def wordList (m : List (Int × Int)) (k : Int) (i n : Nat) : List Int := ((List.range' i n).filter fun i => bitE (wordAt m k) (i : Nat)).map fun i => numE k (i : Nat)
/-- The numbers by the words at these places. -/
def listAt (m : List (Int × Int)) (places : List Int) : List Int := places.flatMap fun k => wordList m k 0 64
/-- What a set lists. -/
def listS (s : Int × List (Int × Int)) : List Int := listAt s.2 ((s.2.map Prod.fst).mergeSort fun x y => decide (x ≤ y))

theorem wrapU_small {i : Nat} (h : i < 64) : IntKind.u64.wrap (i : Int) = (i : Int) := by
  unfold IntKind.wrap
  simp [IntKind.signed, IntKind.bits]
  omega
theorem wordList_length (m : List (Int × Int)) (k : Int) (i n : Nat) : (wordList m k i n).length ≤ n := by
  unfold wordList
  rw [List.length_map]
  exact Nat.le_trans (List.length_filter_le _ _) (by simp)
theorem listAt_length (m : List (Int × Int)) : ∀ places : List Int, (listAt m places).length ≤ places.length * 64
  | [] => by simp [listAt]
  | k :: r => by
    have := listAt_length m r
    have h2 := wordList_length m k 0 64
    simp only [listAt, List.flatMap_cons, List.length_append, List.length_cons] at *
    omega
end Go.Ev
namespace Go.Ev
/-! ### Has and Put -/
def placeOf (i : Int) : Int := IntKind.i64.wrap (Int.tdiv i (64 : Int))
def hasS (s : Int × List (Int × Int)) (i : Int) : Bool := decide (i ≥ (0 : Int)) && (decide (i < s.1) && bitE (wordAt s.2 (placeOf i)) (Int.tmod i (64 : Int)))
def withBit (w i : Int) : Int := bitOr IntKind.u64 w (IntKind.u64.wrap ((1 : Int) * (2 ^ (min (Int.toNat (IntKind.u64.wrap i)) (IntKind.u64).bits))))
def putS (s : Int × List (Int × Int)) (i : Int) : Bool × Int × List (Int × Int) :=
  if i < 0 ∨ s.1 ≤ i ∨ hasS s i = true then (false, s) else (true, s.1, mput (kt := (.int .i64)) (placeOf i) (withBit (wordAt s.2 (placeOf i)) (Int.tmod i (64 : Int))) s.2)
theorem wrapU_nonneg (n : Int) : decide (IntKind.u64.wrap n < (0 : Int)) = false := by
  apply decide_eq_false
  unfold IntKind.wrap
  simp only [IntKind.signed, IntKind.bits, Bool.false_and, Bool.false_eq_true, if_false]
  have : (0 : Int) ≤ n % 18446744073709551616 := Int.emod_nonneg _ (by decide)
  simp at *
  omega
end Go.Ev
end

section
set_option linter.unusedSectionVars false
set_option linter.unusedVariables false
set_option linter.unusedSimpArgs false
set_option linter.unusedVariables false
open Go
namespace Go.Ev
def v_bits_Set_Has (s : Int × List (Int × Int)) (i : Int) : Bool × Int × List (Int × Int) := (hasS s i, s)
theorem g_bits_Set_Has (s : Int × List (Int × Int)) (i : Int) : Goes (T_bits_Set_Has s i) (T0_bits_Set_Has s i) (v_bits_Set_Has s i) := by
  unfold T0_bits_Set_Has v_bits_Set_Has hasS
  rw [goes_br]
  by_cases h0 : i ≥ 0
  · rw [if_pos (decide_eq_true h0), goes_br, decide_eq_true h0, Bool.true_and]
    by_cases h1 : i < s.1
    · rw [if_pos (decide_eq_true h1), goes_br, if_neg (by rw [wrapU_nonneg]; decide), decide_eq_true h1, Bool.true_and]
      exact .leaf
    · rw [if_neg (by simpa using h1), decide_eq_false h1, Bool.false_and]
      exact .leaf
  · rw [if_neg (by simpa using h0), decide_eq_false h0, Bool.false_and]
    exact .leaf
end Go.Ev
end

section
set_option linter.unusedSectionVars false
set_option linter.unusedVariables false
set_option linter.unusedSimpArgs false
set_option maxRecDepth 100000
set_option linter.unusedVariables false
open Go Go.Ev
namespace Go.Ev
noncomputable section
noncomputable def e_bits_Set_Has : Run := entO sg_bits_Set_Has K_bits_Set_Has (fun a => true) (fun a => v_bits_Set_Has a.1 a.2.1) e_bits_Set_Has_n0
theorem ok_bits_Set_Has : EntOK Go.Proofs.Try.prog 9 e_bits_Set_Has := entO_ok (tb := tb_bits_Set_Has) (c := c_bits_Set_Has) ok_bits_Set_Has_n0 tk_bits_Set_Has (by kernel_rfl) (by kernel_rfl) (fun a => by kernel_rfl) fun ⟨s, i, _⟩ hk => evF_goes (c := c_bits_Set_Has) (K := K_bits_Set_Has) (S := S_bits_Set_Has s i) (by kernel_rfl) (en_bits_Set_Has s i) (lp_bits_Set_Has s i) (g_bits_Set_Has s i)
end
end Go.Ev
end

section
set_option linter.unusedSectionVars false
set_option linter.unusedVariables false
set_option linter.unusedSimpArgs false
set_option maxRecDepth 100000
set_option linter.unusedVariables false
open Go Go.Ev
namespace Go.Ev
noncomputable section
/-! ### (*paling/bits.Set).Put -/
def sg_bits_Set_Put_n0 : PSig := [.nilp, .dat false (.int .i64)]
noncomputable def t_bits_Set_Put_n0 : Tbl := [(11, e_bits_Set_Size), (9, e_bits_Set_Has)]
theorem tk_bits_Set_Put_n0 : ∀ p ∈ t_bits_Set_Put_n0, EntOK Go.Proofs.Try.prog p.1 p.2 := tbl_cons ok_bits_Set_Size (tbl_cons ok_bits_Set_Has (tbl_nil))
noncomputable def c_bits_Set_Put_n0 : Code := Go.Proofs.Try.f10.body.getD .skip
def tb_bits_Set_Put_n0 : Tb := []
def T_bits_Set_Put_n0 (s : Unit) (i : Int) : Empty → JT Empty (Bool) := fun j => nomatch j
def T0_bits_Set_Put_n0 (s : Unit) (i : Int) : JT Empty (Bool) :=
  .br (decide (i < (0 : Int)))
    (.leaf false)
  (.br (decide (i ≥ (0 : Int)))
    (.leaf false)
  (.br (k_bits_Set_Has_n0 () i)
    (.br (v_bits_Set_Has_n0 () i)
      (.leaf false)
    (.no))
  (.no)))
def v_bits_Set_Put_n0 (s : Unit) (i : Int) : Bool :=
  bif (decide (i < (0 : Int))) then
    false
  else bif (decide (i ≥ (0 : Int))) then
    false
  else bif (k_bits_Set_Has_n0 () i) then
    bif (v_bits_Set_Has_n0 () i) then
      false
    else false
  else false
def k_bits_Set_Put_n0 (s : Unit) (i : Int) : Bool :=
  bif (decide (i < (0 : Int))) then
    true
  else bif (decide (i ≥ (0 : Int))) then
    true
  else bif (k_bits_Set_Has_n0 () i) then
    bif (v_bits_Set_Has_n0 () i) then
      true
    else false
  else false
theorem g_bits_Set_Put_n0 (s : Unit) (i : Int) (hk : k_bits_Set_Put_n0 s i = true) : Goes (T_bits_Set_Put_n0 s i) (T0_bits_Set_Put_n0 s i) (v_bits_Set_Put_n0 s i) :=
  Goes.brk hk (fun hk =>
    Goes.leaf) (fun hk =>
    Goes.brk hk (fun hk =>
      Goes.leaf) (fun hk =>
      Goes.brk hk (fun hk =>
        Goes.brk hk (fun hk =>
          Goes.leaf) (fun hk =>
          Goes.nok hk)) (fun hk =>
        Goes.nok hk)))
def K_bits_Set_Put_n0 : Bool → Ans := fun (r : Bool) => (.d .bool r, [.top, .top])
def S_bits_Set_Put_n0 (s : Unit) (i : Int) : Empty → Nat × St := fun j => nomatch j
theorem en_bits_Set_Put_n0 (s : Unit) (i : Int) (L : Lt) : entryA Go.Proofs.Try.prog (clOf t_bits_Set_Put_n0) tb_bits_Set_Put_n0 Go.Proofs.Try.f10 c_bits_Set_Put_n0 L (toPs sg_bits_Set_Put_n0 (s, i, ())) = (T0_bits_Set_Put_n0 s i).run (fun v => some (K_bits_Set_Put_n0 v)) fun j => L (S_bits_Set_Put_n0 s i j).1 (S_bits_Set_Put_n0 s i j).2 := by kernel_rfl
theorem lp_bits_Set_Put_n0 (s : Unit) (i : Int) : ∀ (L : Lt) (j : Empty), procOf (procsF Go.Proofs.Try.prog (clOf t_bits_Set_Put_n0) tb_bits_Set_Put_n0 Go.Proofs.Try.f10 c_bits_Set_Put_n0 (toPs sg_bits_Set_Put_n0 (s, i, ()))) (S_bits_Set_Put_n0 s i j).1 L (S_bits_Set_Put_n0 s i j).2 = (T_bits_Set_Put_n0 s i j).run (fun v => some (K_bits_Set_Put_n0 v)) fun j => L (S_bits_Set_Put_n0 s i j).1 (S_bits_Set_Put_n0 s i j).2 := fun L j => nomatch j
noncomputable def e_bits_Set_Put_n0 : Run := entO sg_bits_Set_Put_n0 K_bits_Set_Put_n0 (fun a => k_bits_Set_Put_n0 a.1 a.2.1) (fun a => v_bits_Set_Put_n0 a.1 a.2.1)
theorem ok_bits_Set_Put_n0 : EntOK Go.Proofs.Try.prog 10 e_bits_Set_Put_n0 := entO_ok (tb := tb_bits_Set_Put_n0) (c := c_bits_Set_Put_n0) (noRun_ok (known_of (fn := Go.Proofs.Try.f10) (c := c_bits_Set_Put_n0) (by kernel_rfl) (by kernel_rfl) (by kernel_rfl))) tk_bits_Set_Put_n0 (by kernel_rfl) (by kernel_rfl) (fun a => by kernel_rfl) fun ⟨s, i, _⟩ hk => evF_goes (c := c_bits_Set_Put_n0) (K := K_bits_Set_Put_n0) (S := S_bits_Set_Put_n0 s i) (by kernel_rfl) (en_bits_Set_Put_n0 s i) (lp_bits_Set_Put_n0 s i) (g_bits_Set_Put_n0 s i hk)
end
end Go.Ev
end

section
set_option linter.unusedSectionVars false
set_option linter.unusedVariables false
set_option linter.unusedSimpArgs false
set_option maxRecDepth 100000
set_option linter.unusedVariables false
open Go Go.Ev
namespace Go.Ev
noncomputable section
/-! ### (*paling/bits.Set).Put -/
def sg_bits_Set_Put : PSig := [.obj 44 [(.d (.int .i64)), (.m (.int .i64) (.int .u64))], .dat false (.int .i64)]
noncomputable def t_bits_Set_Put : Tbl := [(11, e_bits_Set_Size), (9, e_bits_Set_Has)]
theorem tk_bits_Set_Put : ∀ p ∈ t_bits_Set_Put, EntOK Go.Proofs.Try.prog p.1 p.2 := tbl_cons ok_bits_Set_Size (tbl_cons ok_bits_Set_Has (tbl_nil))
noncomputable def c_bits_Set_Put : Code := Go.Proofs.Try.f10.body.getD .skip
def tb_bits_Set_Put : Tb := []
def T_bits_Set_Put (s : Int × List (Int × Int)) (i : Int) : Empty → JT Empty (Bool × Int × List (Int × Int)) := fun j => nomatch j
def T0_bits_Set_Put (s : Int × List (Int × Int)) (i : Int) : JT Empty (Bool × Int × List (Int × Int)) :=
  .br (decide (i < (0 : Int)))
    (.leaf (false, s))
  (.br (decide (i ≥ s.1))
    (.leaf (false, s))
  (.br (v_bits_Set_Has s i).1
    (.leaf (false, (v_bits_Set_Has s i).2))
  (.br (decide ((IntKind.u64.wrap (Int.tmod i (64 : Int))) < (0 : Int)))
    (.no)
  (.leaf (true, ((v_bits_Set_Has s i).2.1, (mput (kt := (.int .i64)) (IntKind.i64.wrap (Int.tdiv i (64 : Int))) (bitOr IntKind.u64 (Option.getD (mget (kt := (.int .i64)) (IntKind.i64.wrap (Int.tdiv i (64 : Int))) (v_bits_Set_Has s i).2.2) (0 : Int)) (IntKind.u64.wrap ((1 : Int) * (2 ^ (min (Int.toNat (IntKind.u64.wrap (Int.tmod i (64 : Int)))) (IntKind.u64).bits))))) (v_bits_Set_Has s i).2.2)))))))
def u_bits_Set_Put (s : Int × List (Int × Int)) (i : Int) : Bool × Int × List (Int × Int) :=
  bif (decide (i < (0 : Int))) then
    (false, s)
  else bif (decide (i ≥ s.1)) then
    (false, s)
  else bif (v_bits_Set_Has s i).1 then
    (false, (v_bits_Set_Has s i).2)
  else bif (decide ((IntKind.u64.wrap (Int.tmod i (64 : Int))) < (0 : Int))) then
    (false, ((0 : Int), []))
  else (true, ((v_bits_Set_Has s i).2.1, (mput (kt := (.int .i64)) (IntKind.i64.wrap (Int.tdiv i (64 : Int))) (bitOr IntKind.u64 (Option.getD (mget (kt := (.int .i64)) (IntKind.i64.wrap (Int.tdiv i (64 : Int))) (v_bits_Set_Has s i).2.2) (0 : Int)) (IntKind.u64.wrap ((1 : Int) * (2 ^ (min (Int.toNat (IntKind.u64.wrap (Int.tmod i (64 : Int)))) (IntKind.u64).bits))))) (v_bits_Set_Has s i).2.2)))
def ku_bits_Set_Put (s : Int × List (Int × Int)) (i : Int) : Bool :=
  bif (decide (i < (0 : Int))) then
    true
  else bif (decide (i ≥ s.1)) then
    true
  else bif (v_bits_Set_Has s i).1 then
    true
  else bif (decide ((IntKind.u64.wrap (Int.tmod i (64 : Int))) < (0 : Int))) then
    false
  else true
theorem gu_bits_Set_Put (s : Int × List (Int × Int)) (i : Int) (hk : ku_bits_Set_Put s i = true) : Goes (T_bits_Set_Put s i) (T0_bits_Set_Put s i) (u_bits_Set_Put s i) :=
  Goes.brk hk (fun hk =>
    Goes.leaf) (fun hk =>
    Goes.brk hk (fun hk =>
      Goes.leaf) (fun hk =>
      Goes.brk hk (fun hk =>
        Goes.leaf) (fun hk =>
        Goes.brk hk (fun hk =>
          Goes.nok hk) (fun hk =>
          Goes.leaf))))
def K_bits_Set_Put : Bool × Int × List (Int × Int) → Ans := fun (r : Bool × Int × List (Int × Int)) => (.d .bool r.1, [.bx 44 [.d (.int .i64) r.2.1, .mv (.int .i64) (.int .u64) r.2.2], .top])
def S_bits_Set_Put (s : Int × List (Int × Int)) (i : Int) : Empty → Nat × St := fun j => nomatch j
theorem en_bits_Set_Put (s : Int × List (Int × Int)) (i : Int) (L : Lt) : entryA Go.Proofs.Try.prog (clOf t_bits_Set_Put) tb_bits_Set_Put Go.Proofs.Try.f10 c_bits_Set_Put L (toPs sg_bits_Set_Put (s, i, ())) = (T0_bits_Set_Put s i).run (fun v => some (K_bits_Set_Put v)) fun j => L (S_bits_Set_Put s i j).1 (S_bits_Set_Put s i j).2 := by kernel_rfl
theorem lp_bits_Set_Put (s : Int × List (Int × Int)) (i : Int) : ∀ (L : Lt) (j : Empty), procOf (procsF Go.Proofs.Try.prog (clOf t_bits_Set_Put) tb_bits_Set_Put Go.Proofs.Try.f10 c_bits_Set_Put (toPs sg_bits_Set_Put (s, i, ()))) (S_bits_Set_Put s i j).1 L (S_bits_Set_Put s i j).2 = (T_bits_Set_Put s i j).run (fun v => some (K_bits_Set_Put v)) fun j => L (S_bits_Set_Put s i j).1 (S_bits_Set_Put s i j).2 := fun L j => nomatch j
end
end Go.Ev
end

section
set_option linter.unusedSectionVars false
set_option linter.unusedVariables false
set_option linter.unusedSimpArgs false
set_option linter.unusedVariables false
open Go
namespace Go.Ev
def v_bits_Set_Put (s : Int × List (Int × Int)) (i : Int) : Bool × Int × List (Int × Int) := putS s i
theorem g_bits_Set_Put (s : Int × List (Int × Int)) (i : Int) : Goes (T_bits_Set_Put s i) (T0_bits_Set_Put s i) (v_bits_Set_Put s i) := by
  unfold T0_bits_Set_Put v_bits_Set_Put putS
  simp only [v_bits_Set_Has]
  rw [goes_br]
  by_cases h0 : i < 0
  · rw [if_pos (decide_eq_true h0), if_pos (.inl h0)]; exact .leaf
  · rw [if_neg (by simpa using h0), goes_br]
    by_cases h1 : i ≥ s.1
    · rw [if_pos (decide_eq_true h1), if_pos (.inr (.inl h1))]; exact .leaf
    · rw [if_neg (by simpa using h1), goes_br]
      by_cases h2 : hasS s i = true
      · rw [if_pos h2, if_pos (.inr (.inr h2))]; exact .leaf
      · rw [if_neg h2, goes_br, if_neg (by rw [wrapU_nonneg]; decide), if_neg (by intro h; rcases h with h | h | h <;> first | exact h0 h | exact h1 h | exact h2 h)]
        exact .leaf
end Go.Ev
end

section
set_option linter.unusedSectionVars false
set_option linter.unusedVariables false
set_option linter.unusedSimpArgs false
set_option maxRecDepth 100000
set_option linter.unusedVariables false
open Go Go.Ev
namespace Go.Ev
noncomputable section
noncomputable def e_bits_Set_Put : Run := entO sg_bits_Set_Put K_bits_Set_Put (fun a => true) (fun a => v_bits_Set_Put a.1 a.2.1) e_bits_Set_Put_n0
theorem ok_bits_Set_Put : EntOK Go.Proofs.Try.prog 10 e_bits_Set_Put := entO_ok (tb := tb_bits_Set_Put) (c := c_bits_Set_Put) ok_bits_Set_Put_n0 tk_bits_Set_Put (by kernel_rfl) (by kernel_rfl) (fun a => by kernel_rfl) fun ⟨s, i, _⟩ hk => evF_goes (c := c_bits_Set_Put) (K := K_bits_Set_Put) (S := S_bits_Set_Put s i) (by kernel_rfl) (en_bits_Set_Put s i) (lp_bits_Set_Put s i) (g_bits_Set_Put s i)
end
end Go.Ev
end

section
set_option linter.unusedSectionVars false
set_option linter.unusedVariables false
set_option linter.unusedSimpArgs false
set_option maxRecDepth 100000
set_option linter.unusedVariables false
open Go Go.Ev
namespace Go.Ev
noncomputable section
/-! ### (*paling/bits.Set).List -/
def sg_bits_Set_List_t : PSig := [.obj 44 [(.d (.int .i64)), (.m (.int .i64) (.int .u64))]]
noncomputable def t_bits_Set_List_t : Tbl := []
theorem tk_bits_Set_List_t : ∀ p ∈ t_bits_Set_List_t, EntOK Go.Proofs.Try.prog p.1 p.2 := tbl_nil
noncomputable def c_bits_Set_List_t : Code := match Go.Proofs.Try.f13.body with
  | some (.seq _ (.seq _ (.seq _ (.seq _ (.seq _ d))))) => d
  | _ => .skip
def tb_bits_Set_List_t : Tb := [(2, ⟨[0, 4, 26, 27, 28], [(5, 64)]⟩), (8, ⟨[0, 4, 7, 8, 26, 27, 28], [(5, 64)]⟩)]
inductive J_bits_Set_List_t where
  | l2 (h : Int) (h1 : List Int) (h2 : Int) (out : List Int)
  | l8 (k : Int) (h : Int) (h1 : List Int) (i : Int) (out : List Int) (h2 : Int)
def T_bits_Set_List_t (s : Int × List (Int × Int)) (places : List Int) : J_bits_Set_List_t → JT J_bits_Set_List_t ((List Int) × Int × List (Int × Int))
  | .l2 h h1 h2 out =>
    .br (decide (h2 < h))
      (.br ((decide ((0 : Int) ≤ h2)) && (decide (h2 < (Int.ofNat (List.length h1)))))
        (.jmp (.l8 (List.getD h1 (Int.toNat h2) (dflt (.int .i64))) h h1 (0 : Int) out h2))
      (.no))
    (.leaf (out, s))
  | .l8 k h h1 i out h2 =>
    .br (decide (i < (64 : Int)))
      (.br (decide ((IntKind.u64.wrap i) < (0 : Int)))
        (.no)
      (.br ((bitAnd IntKind.u64 (Int.fdiv (Option.getD (mget (kt := (.int .i64)) k s.2) (0 : Int)) (2 ^ (min (Int.toNat (IntKind.u64.wrap i)) (IntKind.u64).bits))) (1 : Int)) == (1 : Int))
        (.br (Nat.ble (((List.length out) + 1) * 8) limit)
          (.jmp (.l8 k h h1 (IntKind.i64.wrap (i + (1 : Int))) (out ++ [(IntKind.i64.wrap ((IntKind.i64.wrap (k * (64 : Int))) + i))]) h2))
        (.no))
      (.jmp (.l8 k h h1 (IntKind.i64.wrap (i + (1 : Int))) out h2))))
    (.jmp (.l2 h h1 (IntKind.i64.wrap (h2 + (1 : Int))) out))
def T0_bits_Set_List_t (s : Int × List (Int × Int)) (places : List Int) : JT J_bits_Set_List_t ((List Int) × Int × List (Int × Int)) :=
  .jmp (.l2 (Int.ofNat (List.length places)) places (0 : Int) [])
def K_bits_Set_List_t : (List Int) × Int × List (Int × Int) → Ans := fun (r : (List Int) × Int × List (Int × Int)) => (.rw 3 (.int .i64) r.1, [.bx 44 [.d (.int .i64) r.2.1, .mv (.int .i64) (.int .u64) r.2.2]])
def S_bits_Set_List_t (s : Int × List (Int × Int)) (places : List Int) : J_bits_Set_List_t → Nat × St
  | .l2 h h1 h2 out => (2, ⟨mkTm 56 [(0, .pt 1 0 0), (4, .own 5 0 none), (26, .own 27 0 none), (27, .d (.int .i64) h), (28, .d (.int .i64) h2)], [(1, 0, .box 44 [.d (.int .i64) s.1, .mp 1026 0] (some 0)), (5, 0, .row 3 (.int .i64) out false), (27, 0, .row 3 (.int .i64) h1 false), (1026, 0, .map (.int .i64) (.int .u64) s.2)]⟩)
  | .l8 k h h1 i out h2 => (8, ⟨mkTm 56 [(0, .pt 1 0 0), (4, .own 5 0 none), (7, .d (.int .i64) k), (8, .d (.int .i64) i), (26, .own 27 0 none), (27, .d (.int .i64) h), (28, .d (.int .i64) h2)], [(1, 0, .box 44 [.d (.int .i64) s.1, .mp 1026 0] (some 0)), (5, 0, .row 3 (.int .i64) out false), (27, 0, .row 3 (.int .i64) h1 false), (1026, 0, .map (.int .i64) (.int .u64) s.2)]⟩)
def S0_bits_Set_List_t (s : Int × List (Int × Int)) (places : List Int) : St := ⟨mkTm 56 [(0, .pt 1 0 0), (3, .own 4 0 none), (4, .nil)], [(1, 0, .box 44 [.d (.int .i64) s.1, .mp 1026 0] (some 0)), (4, 0, .row 3 (.int .i64) places false), (1026, 0, .map (.int .i64) (.int .u64) s.2)]⟩
theorem en_bits_Set_List_t (s : Int × List (Int × Int)) (places : List Int) (L : Lt) : evC Go.Proofs.Try.prog (clOf t_bits_Set_List_t) tb_bits_Set_List_t L c_bits_Set_List_t 0 (finA Go.Proofs.Try.prog tb_bits_Set_List_t Go.Proofs.Try.f13 (toPs sg_bits_Set_List_t (s, ()))) (fun _ _ => none) (finA Go.Proofs.Try.prog tb_bits_Set_List_t Go.Proofs.Try.f13 (toPs sg_bits_Set_List_t (s, ()))) (S0_bits_Set_List_t s places) = (T0_bits_Set_List_t s places).run (fun v => some (K_bits_Set_List_t v)) fun j => L (S_bits_Set_List_t s places j).1 (S_bits_Set_List_t s places j).2 := by kernel_rfl
noncomputable def ps_bits_Set_List_t (s : Int × List (Int × Int)) (places : List Int) : List (Nat × (Lt → Kt)) := procs Go.Proofs.Try.prog (clOf t_bits_Set_List_t) tb_bits_Set_List_t c_bits_Set_List_t 0 (fun _ => (finA Go.Proofs.Try.prog tb_bits_Set_List_t Go.Proofs.Try.f13 (toPs sg_bits_Set_List_t (s, ())))) (fun _ _ _ => none) (fun _ => (finA Go.Proofs.Try.prog tb_bits_Set_List_t Go.Proofs.Try.f13 (toPs sg_bits_Set_List_t (s, ()))))
theorem lp_bits_Set_List_t (s : Int × List (Int × Int)) (places : List Int) : ∀ (L : Lt) (j : J_bits_Set_List_t), procOf (ps_bits_Set_List_t s places) (S_bits_Set_List_t s places j).1 L (S_bits_Set_List_t s places j).2 = (T_bits_Set_List_t s places j).run (fun v => some (K_bits_Set_List_t v)) fun j => L (S_bits_Set_List_t s places j).1 (S_bits_Set_List_t s places j).2
  | L, .l2 h h1 h2 out => by kernel_rfl
  | L, .l8 k h h1 i out h2 => by kernel_rfl
end
end Go.Ev
end

section
set_option linter.unusedSectionVars false
set_option linter.unusedVariables false
set_option linter.unusedSimpArgs false
set_option linter.unusedVariables false
set_option linter.unusedSimpArgs false
open Go
namespace Go.Ev
theorem g_bits_Set_List_t (s : Int × List (Int × Int)) (places : List Int) (hk : Nat.ble (places.length * 512) limit = true) : Goes (T_bits_Set_List_t s places) (T0_bits_Set_List_t s places) (listAt s.2 places, s) := by
  have hlim : places.length * 512 ≤ limit := Nat.le_of_ble_eq_true hk
  have hn : places.length < 4611686018427387904 := by unfold limit at hlim; omega
  -- within a word
  have inner : ∀ (k : Int) (j : Nat), j < places.length → ∀ (i : Nat), i ≤ 64 → ∀ (out : List Int) r, (out.length + (64 - i)) * 8 ≤ limit →
      Goes (T_bits_Set_List_t s places) (.jmp (.l2 (Int.ofNat (List.length places)) places ((j + 1 : Nat) : Int) (out ++ wordList s.2 k i (64 - i)))) r →
      Goes (T_bits_Set_List_t s places) (.jmp (.l8 k (Int.ofNat (List.length places)) places (i : Int) out (j : Int))) r := by
    intro k j hj
    refine down ?_ fun i hi ih => ?_
    · intro out r _ h
      rw [goes_jmp]
      have e : decide (((64 : Nat) : Int) < (64 : Int)) = false := by decide
      simp only [T_bits_Set_List_t, goes_br, e, Bool.false_eq_true, if_false, wrap_succ (k := j) (by omega)]
      simpa [wordList] using h
    · intro out r hl h
      rw [goes_jmp]
      have e : decide ((i : Int) < (64 : Int)) = true := decide_eq_true (by omega)
      have hw := wrapU_small hi
      have e2 : decide ((i : Int) < (0 : Int)) = false := decide_eq_false (by omega)
      have hcons : wordList s.2 k i (64 - i) = (if bitE (wordAt s.2 k) (i : Nat) then [numE k (i : Nat)] else []) ++ wordList s.2 k (i + 1) (64 - (i + 1)) := by
        unfold wordList
        rw [show 64 - i = (64 - (i + 1)) + 1 by omega, List.range'_succ, List.filter_cons]
        split <;> simp
      rw [hcons] at h
      have hb : ((bitAnd IntKind.u64 (Int.fdiv (Option.getD (mget (kt := (.int .i64)) k s.2) (0 : Int)) (2 ^ (min (Int.toNat (IntKind.u64.wrap (i : Int))) (IntKind.u64).bits))) (1 : Int)) == (1 : Int)) = bitE (wordAt s.2 k) (i : Nat) := rfl
      unfold T_bits_Set_List_t
      rw [goes_br, if_pos e, goes_br, if_neg (by rw [hw, e2]; decide), goes_br, hb, wrap_succ (k := i) (by omega)]
      by_cases hbit : bitE (wordAt s.2 k) (i : Nat) = true
      · rw [if_pos hbit]
        rw [if_pos hbit] at h
        rw [goes_br, if_pos (Nat.ble_eq_true_of_le (by omega))]
        refine ih (out ++ [numE k (i : Nat)]) r (by simp; omega) ?_
        simpa using h
      · rw [if_neg hbit]
        rw [if_neg hbit, List.nil_append] at h
        exact ih out r (by omega) h
  have outer : ∀ j, j ≤ places.length → ∀ out : List Int, (out.length + (places.length - j) * 64) * 8 ≤ limit →
      Goes (T_bits_Set_List_t s places) (.jmp (.l2 (Int.ofNat (List.length places)) places (j : Int) out)) (out ++ listAt s.2 (places.drop j), s) := by
    refine down ?_ fun j hj ih => ?_
    · intro out _
      rw [goes_jmp]
      simp only [T_bits_Set_List_t, goes_br, lt_len_not (Nat.lt_irrefl _), List.drop_length, Bool.false_eq_true, if_false]
      rw [show out ++ listAt s.2 [] = out by simp [listAt]]
      exact .leaf
    · intro out hl
      rw [goes_jmp, drop_cons hj]
      simp only [T_bits_Set_List_t, goes_br, lt_len hj, nng, Bool.and_self, if_true, Int.toNat_natCast, getD_lt hj]
      have hwl := wordList_length s.2 places[j] 0 64
      refine inner places[j] j hj 0 (by omega) out _ (by omega) ?_
      have := ih (out ++ wordList s.2 places[j] 0 64) (by rw [List.length_append]; omega)
      rw [show out ++ listAt s.2 (places[j] :: places.drop (j + 1)) = (out ++ wordList s.2 places[j] 0 64) ++ listAt s.2 (places.drop (j + 1)) by simp only [listAt, List.flatMap_cons, List.append_assoc]]
      exact this
  have := outer 0 (Nat.zero_le _) [] (by simp; omega)
  simpa [T0_bits_Set_List_t] using this
end Go.Ev
end

section
set_option linter.unusedSectionVars false
set_option linter.unusedVariables false
set_option linter.unusedSimpArgs false
set_option maxRecDepth 100000
set_option linter.unusedVariables false
open Go Go.Ev
namespace Go.Ev
/-! ### slices.Sort of numbers: by the library's contract -/
def renSort : Go.Shelf.Ren := ⟨fun n => if n = 189 then 19 else if n = 125 then 22 else if n = 257 then 21 else if n = 128 then 32 else if n = 129 then 33 else if n = 294 then 23 else if n = 295 then 24 else if n = 296 then 25 else if n = 297 then 26 else if n = 298 then 27 else if n = 299 then 28 else if n = 216 then 29 else if n = 300 then 30 else if n = 301 then 31 else if n = 328 then 34 else if n = 329 then 35 else if n = 330 then 36 else if n = 331 then 37 else if n = 332 then 38 else if n = 215 then 39 else if n = 343 then 40 else n,
  fun n => if n = 28 then 32 else if n = 51 then 60 else if n = 53 then 45 else if n = 183 then 53 else if n = 182 then 52 else if n = 131 then 57 else if n = 218 then 61 else if n = 222 then 65 else if n = 228 then 67 else if n = 229 then 68 else n,
  fun n => n⟩
theorem renSort_lays : Go.Proofs.Lays.n189 Go.Proofs.Try.prog renSort where
  mixed := by kernel_rfl
  f125 := by kernel_rfl
  f128 := by kernel_rfl
  f129 := by kernel_rfl
  f189 := by kernel_rfl
  f215 := by kernel_rfl
  f216 := by kernel_rfl
  f257 := by kernel_rfl
  f294 := by kernel_rfl
  f295 := by kernel_rfl
  f296 := by kernel_rfl
  f297 := by kernel_rfl
  f298 := by kernel_rfl
  f299 := by kernel_rfl
  f300 := by kernel_rfl
  f301 := by kernel_rfl
  f328 := by kernel_rfl
  f329 := by kernel_rfl
  f330 := by kernel_rfl
  f331 := by kernel_rfl
  f332 := by kernel_rfl
  f343 := by kernel_rfl
  t0 := by kernel_rfl
  a0 := fun w => by kernel_rfl
  z0 := fun w => by kernel_rfl
  v0 := fun w => by kernel_rfl
  t3 := by kernel_rfl
  a3 := fun w => by kernel_rfl
  z3 := fun w => by kernel_rfl
  v3 := fun w => by kernel_rfl
  t4 := by kernel_rfl
  a4 := fun w => by kernel_rfl
  z4 := fun w => by kernel_rfl
  v4 := fun w => by kernel_rfl
  t5 := by kernel_rfl
  a5 := fun w => by kernel_rfl
  z5 := fun w => by kernel_rfl
  v5 := fun w => by kernel_rfl
  t9 := by kernel_rfl
  a9 := fun w => by kernel_rfl
  z9 := fun w => by kernel_rfl
  v9 := fun w => by kernel_rfl
  t28 := by kernel_rfl
  a28 := fun w => by kernel_rfl
  z28 := fun w => by kernel_rfl
  v28 := fun w => by kernel_rfl
  t46 := by kernel_rfl
  a46 := fun w => by kernel_rfl
  z46 := fun w => by kernel_rfl
  v46 := fun w => by kernel_rfl
  t51 := by kernel_rfl
  a51 := fun w => by kernel_rfl
  z51 := fun w => by kernel_rfl
  v51 := fun w => by kernel_rfl
  t53 := by kernel_rfl
  a53 := fun w => by kernel_rfl
  z53 := fun w => by kernel_rfl
  v53 := fun w => by kernel_rfl
  t131 := by kernel_rfl
  a131 := fun w => by kernel_rfl
  z131 := fun w => by kernel_rfl
  v131 := fun w => by kernel_rfl
  t182 := by kernel_rfl
  a182 := fun w => by kernel_rfl
  z182 := fun w => by kernel_rfl
  v182 := fun w => by kernel_rfl
  t183 := by kernel_rfl
  a183 := fun w => by kernel_rfl
  z183 := fun w => by kernel_rfl
  v183 := fun w => by kernel_rfl
  t218 := by kernel_rfl
  a218 := fun w => by kernel_rfl
  z218 := fun w => by kernel_rfl
  v218 := fun w => by kernel_rfl
  t222 := by kernel_rfl
  a222 := fun w => by kernel_rfl
  z222 := fun w => by kernel_rfl
  v222 := fun w => by kernel_rfl
  t228 := by kernel_rfl
  a228 := fun w => by kernel_rfl
  z228 := fun w => by kernel_rfl
  v228 := fun w => by kernel_rfl
  t229 := by kernel_rfl
  a229 := fun w => by kernel_rfl
  z229 := fun w => by kernel_rfl
  v229 := fun w => by kernel_rfl

theorem sortOK : SortOK Go.Proofs.Try.prog 19 := ⟨fun blk off cap zs w h1 h2 h3 => Go.Proofs.Any.slices_Sort_int renSort_lays blk off cap zs w h1 h2 h3, fun p cap w => Go.Proofs.Any.slices_Sort_int_none renSort_lays p cap w⟩
end Go.Ev
end

section
set_option linter.unusedSectionVars false
set_option linter.unusedVariables false
set_option linter.unusedSimpArgs false
set_option maxRecDepth 100000
set_option linter.unusedVariables false
open Go Go.Ev
namespace Go.Ev
noncomputable section
/-! ### (*paling/bits.Set).List -/
def sg_bits_Set_List_n0 : PSig := [.nilp]
noncomputable def t_bits_Set_List_n0 : Tbl := []
theorem tk_bits_Set_List_n0 : ∀ p ∈ t_bits_Set_List_n0, EntOK Go.Proofs.Try.prog p.1 p.2 := tbl_nil
noncomputable def c_bits_Set_List_n0 : Code := Go.Proofs.Try.f13.body.getD .skip
def tb_bits_Set_List_n0 : Tb := []
def T_bits_Set_List_n0 (s : Unit) : Empty → JT Empty (List Int) := fun j => nomatch j
def T0_bits_Set_List_n0 (s : Unit) : JT Empty (List Int) :=
  .leaf []
def v_bits_Set_List_n0 (s : Unit) : List Int :=
  []
theorem g_bits_Set_List_n0 (s : Unit) : Goes (T_bits_Set_List_n0 s) (T0_bits_Set_List_n0 s) (v_bits_Set_List_n0 s) :=
  Goes.leaf
def K_bits_Set_List_n0 : List Int → Ans := fun (r : List Int) => (.nil, [.top])
def S_bits_Set_List_n0 (s : Unit) : Empty → Nat × St := fun j => nomatch j
theorem en_bits_Set_List_n0 (s : Unit) (L : Lt) : entryA Go.Proofs.Try.prog (clOf t_bits_Set_List_n0) tb_bits_Set_List_n0 Go.Proofs.Try.f13 c_bits_Set_List_n0 L (toPs sg_bits_Set_List_n0 (s, ())) = (T0_bits_Set_List_n0 s).run (fun v => some (K_bits_Set_List_n0 v)) fun j => L (S_bits_Set_List_n0 s j).1 (S_bits_Set_List_n0 s j).2 := by kernel_rfl
theorem lp_bits_Set_List_n0 (s : Unit) : ∀ (L : Lt) (j : Empty), procOf (procsF Go.Proofs.Try.prog (clOf t_bits_Set_List_n0) tb_bits_Set_List_n0 Go.Proofs.Try.f13 c_bits_Set_List_n0 (toPs sg_bits_Set_List_n0 (s, ()))) (S_bits_Set_List_n0 s j).1 L (S_bits_Set_List_n0 s j).2 = (T_bits_Set_List_n0 s j).run (fun v => some (K_bits_Set_List_n0 v)) fun j => L (S_bits_Set_List_n0 s j).1 (S_bits_Set_List_n0 s j).2 := fun L j => nomatch j
noncomputable def e_bits_Set_List_n0 : Run := entO sg_bits_Set_List_n0 K_bits_Set_List_n0 (fun a => true) (fun a => v_bits_Set_List_n0 a.1)
theorem ok_bits_Set_List_n0 : EntOK Go.Proofs.Try.prog 13 e_bits_Set_List_n0 := entO_ok (tb := tb_bits_Set_List_n0) (c := c_bits_Set_List_n0) (noRun_ok (known_of (fn := Go.Proofs.Try.f13) (c := c_bits_Set_List_n0) (by kernel_rfl) (by kernel_rfl) (by kernel_rfl))) tk_bits_Set_List_n0 (by kernel_rfl) (by kernel_rfl) (fun a => by kernel_rfl) fun ⟨s, _⟩ hk => evF_goes (c := c_bits_Set_List_n0) (K := K_bits_Set_List_n0) (S := S_bits_Set_List_n0 s) (by kernel_rfl) (en_bits_Set_List_n0 s) (lp_bits_Set_List_n0 s) (g_bits_Set_List_n0 s)
end
end Go.Ev
end

section
set_option linter.unusedSectionVars false
set_option linter.unusedVariables false
set_option linter.unusedSimpArgs false
set_option maxRecDepth 100000
set_option linter.unusedVariables false
open Go Go.Ev
namespace Go.Ev
/-! ### (*bits.Set).List: by hand: the keys in whatever order, sorted -/
def sg_bits_Set_List : PSig := [.obj 44 [(.d (.int .i64)), (.m (.int .i64) (.int .u64))]]
def v_bits_Set_List (s : Int × List (Int × Int)) : (List Int) × Int × List (Int × Int) := (listS s, s)
def k_bits_Set_List (s : Int × List (Int × Int)) : Bool := Nat.ble (s.2.length * 512) limit
def K_bits_Set_List : (List Int) × Int × List (Int × Int) → Ans := K_bits_Set_List_t

section
abbrev SetL := List (El (.int .i64) × El (.int .u64))
noncomputable def setListBody : Code := Go.Proofs.Try.f13.body.getD .skip
noncomputable def setListR : Code := fstC (sndC (sndC (sndC setListBody)))
noncomputable def setListX : RangeText := rangeText (sndC setListR)
noncomputable def setListSort : Code := fstC (sndC (sndC (sndC (sndC setListBody))))
def setLab1 : Lab := ⟨[0, 3, 4], []⟩
def setLab2 : Lab := ⟨[0, 3, 4, 15], [(4, 64)]⟩
def setObs (s : Int × SetL) (ps : List (El (.int .i64))) : List (Id × Nat × Obj) := [(1, 0, .box 44 [.d (.int .i64) s.1, .mp 1026 0] (some 0)), (4, 0, .row 3 (.int .i64) ps false), (1026, 0, .gone (some 1000))]
def setK (s : Int × SetL) (v : Value) (ps : List (El (.int .i64))) : St := ⟨mkTm 56 [(0, .pt 1 0 0), (3, .own 4 0 none), (4, .nil), (15, .cst v)], setObs s ps⟩
def setI (s : Int × SetL) (v : Value) (done : SetL) : St := setK s v (done.map Prod.fst)
def setT (s : Int × SetL) (v : Value) (done : SetL) (e : El (.int .i64) × El (.int .u64)) : St := ((setI s v done).put (some 16) (.tu [mkB true, .d (.int .i64) e.1, .d (.int .u64) e.2])).put (some 17) (mkB true)
def setU (s : Int × SetL) (v : Value) (done : SetL) (e : El (.int .i64) × El (.int .u64)) : St := (((setT s v done e).put (some 18) (.tu [.d (.int .i64) e.1, .d (.int .u64) e.2])).put (some 19) (.d (.int .i64) e.1)).put (some 5) (.d (.int .i64) e.1)
def setE (s : Int × SetL) (v : Value) (done : SetL) : St := ((setI s v done).put (some 16) (.tu [mkB false])).put (some 17) (mkB false)
/-- ahead of the range: after the first parts; with the map at hand -/
def setA (s : Int × SetL) : St := ⟨mkTm 56 [(0, .pt 1 0 0)], [(1, 0, .box 44 [.d (.int .i64) s.1, .mp 1026 0] (some 0)), (1026, 0, .map (.int .i64) (.int .u64) s.2)]⟩
def setC (s : Int × SetL) : St := ⟨mkTm 56 [(0, .pt 1 0 0), (3, .nil), (4, .nil)], [(1, 0, .box 44 [.d (.int .i64) s.1, .mp 1026 0] (some 0)), (1026, 0, .map (.int .i64) (.int .u64) s.2)]⟩
def setM (s : Int × SetL) : St := ((((setC s).put (some 11) (.pt 1 0 0)).put (some 12) (.pt 1 0 0)).put (some 13) (.pt 1 0 1)).put (some 14) (.mp 1026 0)

theorem setListX_ok : setListX.OK := ⟨by kernel_rfl, by kernel_rfl, by kernel_rfl, by kernel_rfl, by kernel_rfl, by kernel_rfl, by kernel_rfl, by kernel_rfl, by kernel_rfl⟩
theorem setList_round (s : Int × SetL) (v : Value) (done : SetL) (e : El (.int .i64) × El (.int .u64)) (L : Lt) (k : Kt) (x : Nat → Kt) (r : Kt) :
    evC Go.Proofs.Try.prog (clOf []) [] L setListX.cr 0 (fun t => k (norm Go.Proofs.Try.prog setLab2 t)) x r (setU s v done e) = bif Nat.ble (((done.map Prod.fst).length + 1) * 8) limit then k (setK s v (done.map Prod.fst ++ [e.1])) else none := by kernel_rfl
theorem setList_ev (s : Int × SetL) (hk : k_bits_Set_List s = true) : RangeEv Go.Proofs.Try.prog (clOf []) setListX s.2 setLab2 1026 1000 (setI s) (setE s) (setT s) (setU s) where
  it := fun v done => by kernel_rfl
  r1 := fun v done e k => by kernel_rfl
  rt := fun v done e => by kernel_rfl
  re := fun v done e => by kernel_rfl
  r2 := fun v done e k => by kernel_rfl
  r3 := fun v done e rest hp L k x r => by
    have hl := hp.length_eq
    simp only [List.length_append, List.length_cons] at hl
    have hlim : s.2.length * 512 ≤ limit := Nat.le_of_ble_eq_true hk
    rw [setList_round, List.length_map, Nat.ble_eq_true_of_le (by omega), cond_true]
    unfold setI
    rw [List.map_append]
    rfl
  f1 := fun v done k => by kernel_rfl
  ft := fun v done => by kernel_rfl
theorem setList_body : setListBody = .seq (fstC setListBody) (.seq (fstC (sndC setListBody)) (.seq (fstC (sndC (sndC setListBody))) (.seq (.seq (.region (ridC (fstC setListR)) (ropsC (fstC setListR)) false) setListX.code) (.seq (.region (ridC setListSort) (ropsC setListSort) false) c_bits_Set_List_t)))) := by kernel_rfl
theorem setList_a (s : Int × SetL) (L : Lt) (k : Kt) (x : Nat → Kt) (r : Kt) : evC Go.Proofs.Try.prog (clOf []) [] L (fstC setListBody) 0 (fun t => k (norm Go.Proofs.Try.prog setLab1 t)) x r (setA s) = k (setA s) := by kernel_rfl
theorem setList_b (s : Int × SetL) (L : Lt) (k : Kt) (x : Nat → Kt) (r : Kt) : evC Go.Proofs.Try.prog (clOf []) [] L (fstC (sndC setListBody)) 0 (fun t => k (norm Go.Proofs.Try.prog setLab1 t)) x r (setA s) = k (setA s) := by kernel_rfl
theorem setList_c (s : Int × SetL) (L : Lt) (k : Kt) (x : Nat → Kt) (r : Kt) : evC Go.Proofs.Try.prog (clOf []) [] L (fstC (sndC (sndC setListBody))) 0 (fun t => k (norm Go.Proofs.Try.prog setLab1 t)) x r (setA s) = k (setC s) := by kernel_rfl
def mapKV (P : Program) (T : TypeId) : TypeId × TypeId := match P.underlying T with | some (.map K V) => (K, V) | _ => (0, 0)

theorem callOK_bits_Set_List (s : Int × SetL) (hk : k_bits_Set_List s = true) : CallOK Go.Proofs.Try.prog 13 (toPs sg_bits_Set_List (s, ())) (K_bits_Set_List (v_bits_Set_List s)) := by
  obtain ⟨hcl, hdet⟩ := clOf_ok (P := Go.Proofs.Try.prog) tbl_nil
  have hlim : s.2.length * 512 ≤ limit := Nat.le_of_ble_eq_true hk
  refine callOK_of_wp (tb := tb_bits_Set_List_t) (fn := Go.Proofs.Try.f13) (c := setListBody) (vs := [.pt 1 0 0]) (st := ⟨[], [(1, 0, .box 44 [.d (.int .i64) s.1, .mp 1026 0] (some 0)), (1026, 0, .map (.int .i64) (.int .u64) s.2)]⟩) (by kernel_rfl) (by kernel_rfl) (by kernel_rfl) ?_
  intro _ Mod F0 w0 a w hr
  have hr : Rel Mod F0 w0 (setA s) a w := hr
  rw [setList_body]
  refine wp_seq (piece hcl hdet (norm Go.Proofs.Try.prog setLab1) (fun h => norm_rel h) (setList_a s) hr fun a w hr => ?_)
  refine wp_seq (piece hcl hdet (norm Go.Proofs.Try.prog setLab1) (fun h => norm_rel h) (setList_b s) hr fun a w hr => ?_)
  refine wp_seq (piece hcl hdet (norm Go.Proofs.Try.prog setLab1) (fun h => norm_rel h) (setList_c s) hr fun a w hr => ?_)
  -- the range
  refine wp_seq (wp_seq (wp_region ?_))
  rw [show List.range (ropsC (fstC setListR)).size = [0, 1, 2, 3, 4] from by kernel_rfl]
  refine evOp hcl (o := opC (fstC setListR) 0) (st1 := (setC s).put (some 11) (.pt 1 0 0)) (by kernel_rfl) (by kernel_rfl) (fun k => by kernel_rfl) hr fun a w hr => ?_
  refine evOp hcl (o := opC (fstC setListR) 1) (st1 := ((setC s).put (some 11) (.pt 1 0 0)).put (some 12) (.pt 1 0 0)) (by kernel_rfl) (by kernel_rfl) (fun k => by kernel_rfl) hr fun a w hr => ?_
  refine evOp hcl (o := opC (fstC setListR) 2) (st1 := (((setC s).put (some 11) (.pt 1 0 0)).put (some 12) (.pt 1 0 0)).put (some 13) (.pt 1 0 1)) (by kernel_rfl) (by kernel_rfl) (fun k => by kernel_rfl) hr fun a w hr => ?_
  refine evOp hcl (o := opC (fstC setListR) 3) (st1 := setM s) (by kernel_rfl) (by kernel_rfl) (fun k => by kernel_rfl) hr fun a w hr => ?_
  refine handOp (o := opC (fstC setListR) 4) (by kernel_rfl) (by kernel_rfl) ?_
  refine rangeLoop (tm := 14) (idm0 := 1026) (ver0 := 0) (T := (match (opC (fstC setListR) 4).op with | .range T _ => T | _ => 0)) (K := (mapKV Go.Proofs.Try.prog (match (opC (fstC setListR) 4).op with | .range T _ => T | _ => 0)).1) (V := (mapKV Go.Proofs.Try.prog (match (opC (fstC setListR) 4).op with | .range T _ => T | _ => 0)).2)
    hcl hdet setListX_ok rfl rfl (setList_ev s hk) (by kernel_rfl) (by kernel_rfl) (by kernel_rfl) (by kernel_rfl) (by kernel_rfl) (by kernel_rfl) (fun v => by kernel_rfl) (fun v done => by kernel_rfl) (fun v done => by kernel_rfl) hr ?_
  intro v done a w hperm hr
  -- the sort
  have hr : Rel Mod F0 w0 (S0_bits_Set_List_t s (done.map Prod.fst)) a w := norm_rel (P := Go.Proofs.Try.prog) (lab := setLab1) hr
  refine wp_seq (wp_region ?_)
  rw [show List.range (ropsC setListSort).size = [0, 1] from by kernel_rfl]
  refine evOp hcl (o := opC setListSort 0) (st1 := (S0_bits_Set_List_t s (done.map Prod.fst)).put (some 24) (.own 4 0 none)) (by kernel_rfl) (by kernel_rfl) (fun k => by kernel_rfl) hr fun a w hr => ?_
  refine handOp (o := opC setListSort 1) (by kernel_rfl) (by kernel_rfl) ?_
  refine sortStep (ts := 24) (id := 4) (ver := 0) (E := 3) (l := done.map Prod.fst) (c := (match (opC setListSort 1).op with | .call c => c | _ => default)) (fn := Go.Proofs.Try.f19) (body := Go.Proofs.Try.f19.body.getD .skip) (by kernel_rfl) (by kernel_rfl) (by kernel_rfl) (by kernel_rfl) (by kernel_rfl) (by kernel_rfl) (by kernel_rfl) (by kernel_rfl) sortOK (by
    rw [List.length_map, hperm.length_eq]
    unfold limit at hlim
    omega) hr fun a w hr => ?_
  have hr : Rel Mod F0 w0 (S0_bits_Set_List_t s (sorted (done.map Prod.fst))) a w := norm_rel (P := Go.Proofs.Try.prog) (lab := setLab1) hr
  rw [sorted_perm (hperm.map Prod.fst)] at hr
  have hg := g_bits_Set_List_t s (sorted (s.2.map Prod.fst)) (by rw [List.length_mergeSort, List.length_map]; exact hk)
  exact tailStep hcl hdet (ps := ps_bits_Set_List_t s (sorted (s.2.map Prod.fst))) rfl (by kernel_rfl) (en_bits_Set_List_t s _) (lp_bits_Set_List_t s _) hg hr
end
noncomputable def e_bits_Set_List : Run := entO sg_bits_Set_List K_bits_Set_List (fun a => k_bits_Set_List a.1) (fun a => v_bits_Set_List a.1) e_bits_Set_List_n0
theorem ok_bits_Set_List : EntOK Go.Proofs.Try.prog 13 e_bits_Set_List := entO_hand ok_bits_Set_List_n0 fun a h => callOK_bits_Set_List a.1 h
end Go.Ev
end

section
set_option linter.unusedSectionVars false
set_option linter.unusedVariables false
set_option linter.unusedSimpArgs false
set_option maxRecDepth 100000
set_option linter.unusedVariables false
open Go Go.Ev
namespace Go.Ev
noncomputable section
/-! ### paling/palinglaw19.list -/
def sg_law19_list : Sig := [(false, (.sl .bool))]
noncomputable def t_law19_list : Tbl := []
theorem tk_law19_list : ∀ p ∈ t_law19_list, EntOK Go.Proofs.Try.prog p.1 p.2 := tbl_nil
noncomputable def c_law19_list : Code := Go.Proofs.Try.f14.body.getD .skip
def tb_law19_list : Tb := [(4, ⟨[0, 3, 4], [(4, 64)]⟩)]
inductive J_law19_list where
  | l4 (i : Int) (out : List Int)
def T_law19_list (is : List Bool) : J_law19_list → JT J_law19_list (List Int)
  | .l4 i out =>
    .br (decide (i < (Int.ofNat (List.length is))))
      (.br ((decide ((0 : Int) ≤ i)) && (decide (i < (Int.ofNat (List.length is)))))
        (.br (List.getD is (Int.toNat i) (dflt .bool))
          (.br (Nat.ble (((List.length out) + 1) * 8) limit)
            (.jmp (.l4 (IntKind.i64.wrap (i + (1 : Int))) (out ++ [i])))
          (.no))
        (.jmp (.l4 (IntKind.i64.wrap (i + (1 : Int))) out)))
      (.no))
    (.leaf out)
def T0_law19_list (is : List Bool) : JT J_law19_list (List Int) :=
  .jmp (.l4 (0 : Int) [])
def R_law19_list : List Int → AV := fun (r : List Int) => .rw 3 (.int .i64) r
def S_law19_list (is : List Bool) : J_law19_list → Nat × St
  | .l4 i out => (4, ⟨mkTm 20 [(0, .d (.sl .bool) is), (3, .own 4 0 none), (4, .d (.int .i64) i)], [(4, 0, .row 3 (.int .i64) out false)]⟩)
theorem en_law19_list (is : List Bool) (L : Lt) : entryA Go.Proofs.Try.prog (clOf t_law19_list) tb_law19_list Go.Proofs.Try.f14 c_law19_list L (toForms sg_law19_list (is, ())) = (T0_law19_list is).run (fun v => some (R_law19_list v, tps (toForms sg_law19_list (is, ())))) fun j => L (S_law19_list is j).1 (S_law19_list is j).2 := by kernel_rfl
theorem lp_law19_list (is : List Bool) : ∀ (L : Lt) (j : J_law19_list), procOf (procsF Go.Proofs.Try.prog (clOf t_law19_list) tb_law19_list Go.Proofs.Try.f14 c_law19_list (toForms sg_law19_list (is, ()))) (S_law19_list is j).1 L (S_law19_list is j).2 = (T_law19_list is j).run (fun v => some (R_law19_list v, tps (toForms sg_law19_list (is, ())))) fun j => L (S_law19_list is j).1 (S_law19_list is j).2
  | L, .l4 i out => by kernel_rfl
end
end Go.Ev
end

section
set_option linter.unusedSectionVars false
set_option linter.unusedVariables false
set_option linter.unusedSimpArgs false
/- Rising lists and lists of places: what chapters 19 to 26 say of them, over lists. -/
set_option linter.unusedVariables false
set_option linter.unusedSimpArgs false
namespace Go.Ev
open Go
/-- Which are so, rising, from k on. -/
def listFrom : Nat → List Bool → List Int
  | _, [] => []
  | k, b :: r => if b then (k : Int) :: listFrom (k + 1) r else listFrom (k + 1) r
theorem listFrom_len : ∀ (l : List Bool) (k : Nat), (listFrom k l).length ≤ l.length
  | [], _ => Nat.le_refl _
  | b :: r, k => by
    have := listFrom_len r (k + 1)
    unfold listFrom
    split <;> simp only [List.length_cons] <;> omega
theorem mem_listFrom : ∀ {l : List Bool} {k : Nat} {x : Int}, x ∈ listFrom k l ↔ ∃ i, l[i]? = some true ∧ x = ((k + i : Nat) : Int)
  | [], k, x => by simp [listFrom]
  | b :: r, k, x => by
    have ih := @mem_listFrom r (k + 1) x
    unfold listFrom
    constructor
    · intro h
      cases b with
      | true =>
        rw [if_pos rfl] at h
        rcases List.mem_cons.1 h with rfl | h
        · exact ⟨0, rfl, by simp⟩
        · obtain ⟨i, h1, h2⟩ := ih.1 h
          exact ⟨i + 1, by simpa using h1, by rw [h2]; omega⟩
      | false =>
        rw [if_neg (by decide)] at h
        obtain ⟨i, h1, h2⟩ := ih.1 h
        exact ⟨i + 1, by simpa using h1, by rw [h2]; omega⟩
    · rintro ⟨i, h1, h2⟩
      cases i with
      | zero =>
        have hb : b = true := by simpa using h1
        subst hb
        rw [if_pos rfl, h2]
        exact List.mem_cons_self ..
      | succ i =>
        have := ih.2 ⟨i, by simpa using h1, by rw [h2]; omega⟩
        split
        · exact List.mem_cons_of_mem _ this
        · exact this
/-- A list in order. -/
def risingFrom : Int → List Int → Bool
  | _, [] => true
  | p, n :: r => if n < 0 ∨ 2147483647 < n ∨ n ≤ p then false else risingFrom n r
def rising (l : List Int) : Bool := risingFrom (-1) l
theorem risingFrom_spec : ∀ {l : List Int} {p : Int}, risingFrom p l = true ↔ (∀ x ∈ l, 0 ≤ x ∧ x ≤ 2147483647 ∧ p < x) ∧ l.Pairwise (· < ·)
  | [], p => by simp [risingFrom]
  | n :: r, p => by
    have ih := @risingFrom_spec r n
    unfold risingFrom
    split
    · rename_i h
      constructor
      · intro e; cases e
      · rintro ⟨h1, _⟩
        have := h1 n (by simp)
        omega
    · rename_i h
      rw [ih, List.pairwise_cons]
      constructor
      · rintro ⟨h1, h2⟩
        refine ⟨fun x hx => ?_, fun x hx => (h1 x hx).2.2, h2⟩
        rcases List.mem_cons.1 hx with rfl | hx
        · omega
        · have := h1 x hx; omega
      · rintro ⟨h1, h2, h3⟩
        exact ⟨fun x hx => ⟨(h1 x (by simp [hx])).1, (h1 x (by simp [hx])).2.1, h2 x hx⟩, h3⟩
theorem rising_spec {l : List Int} : rising l = true ↔ (∀ x ∈ l, 0 ≤ x ∧ x ≤ 2147483647) ∧ l.Pairwise (· < ·) := by
  unfold rising
  rw [risingFrom_spec]
  constructor
  · rintro ⟨h1, h2⟩; exact ⟨fun x hx => ⟨(h1 x hx).1, (h1 x hx).2.1⟩, h2⟩
  · rintro ⟨h1, h2⟩; exact ⟨fun x hx => ⟨(h1 x hx).1, (h1 x hx).2, by have := h1 x hx; omega⟩, h2⟩
/-- A rising list is no longer than its numbers are great. -/
theorem rising_len : ∀ {l : List Int} {p : Int}, risingFrom p l = true → -1 ≤ p → p + l.length ≤ 2147483647 ∨ l = []
  | [], _, _, _ => .inr rfl
  | n :: r, p, h, hp => by
    unfold risingFrom at h
    split at h
    · cases h
    · rename_i h1
      rcases rising_len h (by omega) with h2 | h2
      · left; rw [List.length_cons]; omega
      · subst h2; left; simp; omega
theorem rising_length {l : List Int} (h : rising l = true) : l.length ≤ 2147483648 := by
  rcases rising_len h (by omega) with h | h
  · omega
  · subst h; simp
/-- Where fences come to stand. -/
def fencesFrom : Nat → List Int → List Int
  | _, [] => []
  | k, n :: r => (n + k) :: fencesFrom (k + 1) r
def fencesC (l : List Int) : List Int := if rising l then fencesFrom 0 l else []
theorem fencesFrom_len : ∀ (l : List Int) (k : Nat), (fencesFrom k l).length = l.length
  | [], _ => rfl
  | n :: r, k => by unfold fencesFrom; rw [List.length_cons, List.length_cons, fencesFrom_len r]
theorem fencesC_len (l : List Int) : (fencesC l).length ≤ l.length := by
  unfold fencesC
  split
  · rw [fencesFrom_len]; exact Nat.le_refl _
  · exact Nat.zero_le _
theorem mem_fencesFrom : ∀ {l : List Int} {k : Nat} {x : Int}, x ∈ fencesFrom k l ↔ ∃ i n, l[i]? = some n ∧ x = n + ((k + i : Nat) : Int)
  | [], k, x => by simp [fencesFrom]
  | b :: r, k, x => by
    have ih := @mem_fencesFrom r (k + 1) x
    unfold fencesFrom
    rw [List.mem_cons, ih]
    constructor
    · rintro (rfl | ⟨i, n, h1, h2⟩)
      · exact ⟨0, b, rfl, by simp⟩
      · exact ⟨i + 1, n, by simpa using h1, by rw [h2]; omega⟩
    · rintro ⟨i, n, h1, h2⟩
      cases i with
      | zero =>
        left
        have : b = n := by simpa using h1
        subst this
        rw [h2, Nat.add_zero]
      | succ i => right; exact ⟨i, n, by simpa using h1, by rw [h2]; omega⟩
/-- How many are below; how many are not above. -/
def below (l : List Int) (x : Int) : Nat := l.countP fun f => decide (f < x)
def upTo (l : List Int) (x : Int) : Nat := l.countP fun f => decide (f ≤ x)
def backC (l : List Int) (pc : Int) : Int := if pc < 0 ∨ 2147483647 < pc then pc else pc - below (fencesC l) pc
def thereC (l : List Int) (i : Int) : Int := if i < 0 ∨ 2147483647 < i ∨ rising l = false then i else i + upTo l i
end Go.Ev
end

section
set_option linter.unusedSectionVars false
set_option linter.unusedVariables false
set_option linter.unusedSimpArgs false
set_option linter.unusedVariables false
set_option linter.unusedSimpArgs false
open Go
namespace Go.Ev
def v_law19_list (is : List Bool) : List Int := listFrom 0 is
def k_law19_list (is : List Bool) : Bool := decide (is.length < 1099511627776)
theorem g_law19_list (is : List Bool) (hk : k_law19_list is = true) : Goes (T_law19_list is) (T0_law19_list is) (v_law19_list is) := by
  have hn : is.length < 1099511627776 := of_decide_eq_true hk
  have loop : ∀ k, k ≤ is.length → ∀ out : List Int, out.length ≤ k → Goes (T_law19_list is) (.jmp (.l4 (k : Int) out)) (out ++ listFrom k (is.drop k)) := by
    refine down ?_ fun k hk ih => ?_
    · intro out ho
      rw [goes_jmp]
      simp only [T_law19_list, goes_br, lt_len_not (Nat.lt_irrefl _), List.drop_length]
      rw [show listFrom is.length [] = [] from rfl, List.append_nil]
      exact .leaf
    · intro out ho
      rw [goes_jmp, drop_cons hk]
      have b1 : Nat.ble ((out.length + 1) * 8) limit = true := Nat.ble_eq_true_of_le (by unfold limit; omega)
      simp only [T_law19_list, goes_br, lt_len hk, nng, Bool.and_self, if_true, Int.toNat_natCast, getD_lt hk, wrap_succ (k := k) (by omega), b1]
      unfold listFrom
      split
      · have := ih (out ++ [(k : Int)]) (by rw [List.length_append, List.length_singleton]; omega)
        rw [List.append_assoc] at this
        exact this
      · exact ih out (by omega)
  have := loop 0 (Nat.zero_le _) [] (by simp)
  unfold T0_law19_list v_law19_list
  simpa using this
end Go.Ev
end

section
set_option linter.unusedSectionVars false
set_option linter.unusedVariables false
set_option linter.unusedSimpArgs false
set_option maxRecDepth 100000
set_option linter.unusedVariables false
open Go Go.Ev
namespace Go.Ev
noncomputable section
noncomputable def e_law19_list : Run := entG sg_law19_list R_law19_list (fun a => k_law19_list a.1) (fun a => v_law19_list a.1)
theorem ok_law19_list : EntOK Go.Proofs.Try.prog 14 e_law19_list := entG_ok (tb := tb_law19_list) (c := c_law19_list) tk_law19_list (by kernel_rfl) (by kernel_rfl) (by kernel_rfl) (fun a => by kernel_rfl) fun ⟨is, _⟩ hk => evF_goes (c := c_law19_list) (K := fun v => (R_law19_list v, tps (toForms sg_law19_list (is, ())))) (S := S_law19_list is) (by kernel_rfl) (en_law19_list is) (lp_law19_list is) (g_law19_list is hk)
theorem co_law19_list (is : List Bool) (hk : k_law19_list is = true) : CallOK Go.Proofs.Try.prog 14 (toForms sg_law19_list (is, ())) (R_law19_list (v_law19_list is), tps (toForms sg_law19_list (is, ()))) := by
  obtain ⟨h1, h2⟩ := clOf_ok tk_law19_list
  obtain ⟨n, hn⟩ := evF_goes (c := c_law19_list) (K := fun v => (R_law19_list v, tps (toForms sg_law19_list (is, ())))) (S := S_law19_list is) (by kernel_rfl) (en_law19_list is) (lp_law19_list is) (g_law19_list is hk)
  exact evF_sound (f := 14) (c := c_law19_list) h1 h2 (by kernel_rfl) (by kernel_rfl) (by kernel_rfl) hn
end
end Go.Ev
end

section
set_option linter.unusedSectionVars false
set_option linter.unusedVariables false
set_option linter.unusedSimpArgs false
set_option maxRecDepth 100000
set_option linter.unusedVariables false
open Go Go.Ev
namespace Go.Ev
noncomputable section
/-! ### paling/palingbook.SameInts -/
def sg_book_SameInts : Sig := [(false, (.sl (.int .i64))), (false, (.sl (.int .i64)))]
noncomputable def t_book_SameInts : Tbl := []
theorem tk_book_SameInts : ∀ p ∈ t_book_SameInts, EntOK Go.Proofs.Try.prog p.1 p.2 := tbl_nil
noncomputable def c_book_SameInts : Code := Go.Proofs.Try.f12.body.getD .skip
def tb_book_SameInts : Tb := [(6, ⟨[0, 1, 5], []⟩)]
inductive J_book_SameInts where
  | l6 (i : Int)
def T_book_SameInts (a : List Int) (b : List Int) : J_book_SameInts → JT J_book_SameInts (Bool)
  | .l6 i =>
    .br (decide (i < (Int.ofNat (List.length a))))
      (.br ((decide ((0 : Int) ≤ i)) && (decide (i < (Int.ofNat (List.length a)))))
        (.br ((decide ((0 : Int) ≤ i)) && (decide (i < (Int.ofNat (List.length b)))))
          (.br ((List.getD a (Int.toNat i) (dflt (.int .i64))) != (List.getD b (Int.toNat i) (dflt (.int .i64))))
            (.leaf false)
          (.jmp (.l6 (IntKind.i64.wrap (i + (1 : Int))))))
        (.no))
      (.no))
    (.leaf true)
def T0_book_SameInts (a : List Int) (b : List Int) : JT J_book_SameInts (Bool) :=
  .br ((Int.ofNat (List.length a)) != (Int.ofNat (List.length b)))
    (.leaf false)
  (.jmp (.l6 (0 : Int)))
def R_book_SameInts : Bool → AV := fun (r : Bool) => .d .bool r
def S_book_SameInts (a : List Int) (b : List Int) : J_book_SameInts → Nat × St
  | .l6 i => (6, ⟨mkTm 26 [(0, .d (.sl (.int .i64)) a), (1, .d (.sl (.int .i64)) b), (5, .d (.int .i64) i)], []⟩)
theorem en_book_SameInts (a : List Int) (b : List Int) (L : Lt) : entryA Go.Proofs.Try.prog (clOf t_book_SameInts) tb_book_SameInts Go.Proofs.Try.f12 c_book_SameInts L (toForms sg_book_SameInts (a, b, ())) = (T0_book_SameInts a b).run (fun v => some (R_book_SameInts v, tps (toForms sg_book_SameInts (a, b, ())))) fun j => L (S_book_SameInts a b j).1 (S_book_SameInts a b j).2 := by kernel_rfl
theorem lp_book_SameInts (a : List Int) (b : List Int) : ∀ (L : Lt) (j : J_book_SameInts), procOf (procsF Go.Proofs.Try.prog (clOf t_book_SameInts) tb_book_SameInts Go.Proofs.Try.f12 c_book_SameInts (toForms sg_book_SameInts (a, b, ()))) (S_book_SameInts a b j).1 L (S_book_SameInts a b j).2 = (T_book_SameInts a b j).run (fun v => some (R_book_SameInts v, tps (toForms sg_book_SameInts (a, b, ())))) fun j => L (S_book_SameInts a b j).1 (S_book_SameInts a b j).2
  | L, .l6 i => by kernel_rfl
end
end Go.Ev
end

section
set_option linter.unusedSectionVars false
set_option linter.unusedVariables false
set_option linter.unusedSimpArgs false
set_option linter.unusedVariables false
set_option linter.unusedSimpArgs false
open Go
namespace Go.Ev
theorem intB_eq {a b : Int} : (a == b) = decide (a = b) := by rw [Bool.eq_iff_iff]; simp

def v_book_SameInts (a b : List Int) : Bool := decide (a = b)
def k_book_SameInts (a b : List Int) : Bool := decide (a.length < 4611686018427387904)
theorem g_book_SameInts (a b : List Int) (hk : k_book_SameInts a b = true) : Goes (T_book_SameInts a b) (T0_book_SameInts a b) (v_book_SameInts a b) := by
  have hn : a.length < 4611686018427387904 := of_decide_eq_true hk
  have loop : a.length = b.length → ∀ k, k ≤ a.length → Goes (T_book_SameInts a b) (.jmp (.l6 (k : Int))) (decide (a.drop k = b.drop k)) := by
    intro he
    refine down ?_ fun k hk ih => ?_
    · rw [goes_jmp]
      simp [T_book_SameInts, goes_br, goes_leaf, he]
    · rw [goes_jmp]
      have hkb : k < b.length := he ▸ hk
      simp only [T_book_SameInts, goes_br, lt_len hk, lt_len hkb, nng, Bool.and_self, if_true, Int.toNat_natCast, getD_lt hk, getD_lt hkb, wrap_succ (k := k) (by omega)]
      rw [drop_cons hk, drop_cons hkb]
      split
      · rename_i h1
        have h2 : (! decide (a[k] = b[k])) = true := (congrArg Bool.not intB_eq).symm.trans h1
        have h3 : ¬ a[k] = b[k] := by simpa using h2
        rw [decide_eq_false (fun e => h3 (List.cons.inj e).1)]
        exact .leaf
      · rename_i h1
        have h2 : ¬ (! decide (a[k] = b[k])) = true := fun h => h1 ((congrArg Bool.not intB_eq).trans h)
        have h3 : a[k] = b[k] := by simpa using h2
        rw [show decide (a[k] :: List.drop (k + 1) a = b[k] :: List.drop (k + 1) b) = decide (List.drop (k + 1) a = List.drop (k + 1) b) from decide_eq_decide.2 ⟨fun e => (List.cons.inj e).2, fun e => by rw [h3, e]⟩]
        exact ih
  unfold T0_book_SameInts v_book_SameInts
  rw [goes_br]
  by_cases h : a.length = b.length
  · have := loop h 0 (Nat.zero_le _)
    simpa [h] using this
  · have : a ≠ b := fun e => h (congrArg _ e)
    rw [if_pos (by simp; omega), decide_eq_false this]
    exact .leaf

end Go.Ev
end

section
set_option linter.unusedSectionVars false
set_option linter.unusedVariables false
set_option linter.unusedSimpArgs false
set_option maxRecDepth 100000
set_option linter.unusedVariables false
open Go Go.Ev
namespace Go.Ev
noncomputable section
noncomputable def e_book_SameInts : Run := entG sg_book_SameInts R_book_SameInts (fun a => k_book_SameInts a.1 a.2.1) (fun a => v_book_SameInts a.1 a.2.1)
theorem ok_book_SameInts : EntOK Go.Proofs.Try.prog 12 e_book_SameInts := entG_ok (tb := tb_book_SameInts) (c := c_book_SameInts) tk_book_SameInts (by kernel_rfl) (by kernel_rfl) (by kernel_rfl) (fun a => by kernel_rfl) fun ⟨a, b, _⟩ hk => evF_goes (c := c_book_SameInts) (K := fun v => (R_book_SameInts v, tps (toForms sg_book_SameInts (a, b, ())))) (S := S_book_SameInts a b) (by kernel_rfl) (en_book_SameInts a b) (lp_book_SameInts a b) (g_book_SameInts a b hk)
end
end Go.Ev
end

section
set_option linter.unusedSectionVars false
set_option linter.unusedVariables false
set_option linter.unusedSimpArgs false
set_option maxRecDepth 100000
set_option linter.unusedVariables false
open Go Go.Ev
namespace Go.Ev
noncomputable section
/-! ### math/bits.OnesCount64 -/
def sg_bits_OnesCount64 : Sig := [(false, (.int .u64))]
noncomputable def t_bits_OnesCount64 : Tbl := []
theorem tk_bits_OnesCount64 : ∀ p ∈ t_bits_OnesCount64, EntOK Go.Proofs.Try.prog p.1 p.2 := tbl_nil
noncomputable def c_bits_OnesCount64 : Code := Go.Proofs.Try.f20.body.getD .skip
def tb_bits_OnesCount64 : Tb := []
def T_bits_OnesCount64 (x : Int) : Empty → JT Empty (Int) := fun j => nomatch j
def T0_bits_OnesCount64 (x : Int) : JT Empty (Int) :=
  .leaf (bitAnd IntKind.i64 (IntKind.i64.wrap (IntKind.u64.wrap ((IntKind.u64.wrap ((IntKind.u64.wrap ((bitAnd IntKind.u64 (IntKind.u64.wrap ((Int.fdiv (IntKind.u64.wrap ((bitAnd IntKind.u64 (Int.fdiv (IntKind.u64.wrap ((bitAnd IntKind.u64 (Int.fdiv x (2 ^ (min 1 (IntKind.u64).bits))) (6148914691236517205 : Int)) + (bitAnd IntKind.u64 x (6148914691236517205 : Int)))) (2 ^ (min 2 (IntKind.u64).bits))) (3689348814741910323 : Int)) + (bitAnd IntKind.u64 (IntKind.u64.wrap ((bitAnd IntKind.u64 (Int.fdiv x (2 ^ (min 1 (IntKind.u64).bits))) (6148914691236517205 : Int)) + (bitAnd IntKind.u64 x (6148914691236517205 : Int)))) (3689348814741910323 : Int)))) (2 ^ (min 4 (IntKind.u64).bits))) + (IntKind.u64.wrap ((bitAnd IntKind.u64 (Int.fdiv (IntKind.u64.wrap ((bitAnd IntKind.u64 (Int.fdiv x (2 ^ (min 1 (IntKind.u64).bits))) (6148914691236517205 : Int)) + (bitAnd IntKind.u64 x (6148914691236517205 : Int)))) (2 ^ (min 2 (IntKind.u64).bits))) (3689348814741910323 : Int)) + (bitAnd IntKind.u64 (IntKind.u64.wrap ((bitAnd IntKind.u64 (Int.fdiv x (2 ^ (min 1 (IntKind.u64).bits))) (6148914691236517205 : Int)) + (bitAnd IntKind.u64 x (6148914691236517205 : Int)))) (3689348814741910323 : Int)))))) (1085102592571150095 : Int)) + (Int.fdiv (bitAnd IntKind.u64 (IntKind.u64.wrap ((Int.fdiv (IntKind.u64.wrap ((bitAnd IntKind.u64 (Int.fdiv (IntKind.u64.wrap ((bitAnd IntKind.u64 (Int.fdiv x (2 ^ (min 1 (IntKind.u64).bits))) (6148914691236517205 : Int)) + (bitAnd IntKind.u64 x (6148914691236517205 : Int)))) (2 ^ (min 2 (IntKind.u64).bits))) (3689348814741910323 : Int)) + (bitAnd IntKind.u64 (IntKind.u64.wrap ((bitAnd IntKind.u64 (Int.fdiv x (2 ^ (min 1 (IntKind.u64).bits))) (6148914691236517205 : Int)) + (bitAnd IntKind.u64 x (6148914691236517205 : Int)))) (3689348814741910323 : Int)))) (2 ^ (min 4 (IntKind.u64).bits))) + (IntKind.u64.wrap ((bitAnd IntKind.u64 (Int.fdiv (IntKind.u64.wrap ((bitAnd IntKind.u64 (Int.fdiv x (2 ^ (min 1 (IntKind.u64).bits))) (6148914691236517205 : Int)) + (bitAnd IntKind.u64 x (6148914691236517205 : Int)))) (2 ^ (min 2 (IntKind.u64).bits))) (3689348814741910323 : Int)) + (bitAnd IntKind.u64 (IntKind.u64.wrap ((bitAnd IntKind.u64 (Int.fdiv x (2 ^ (min 1 (IntKind.u64).bits))) (6148914691236517205 : Int)) + (bitAnd IntKind.u64 x (6148914691236517205 : Int)))) (3689348814741910323 : Int)))))) (1085102592571150095 : Int)) (2 ^ (min 8 (IntKind.u64).bits))))) + (Int.fdiv (IntKind.u64.wrap ((bitAnd IntKind.u64 (IntKind.u64.wrap ((Int.fdiv (IntKind.u64.wrap ((bitAnd IntKind.u64 (Int.fdiv (IntKind.u64.wrap ((bitAnd IntKind.u64 (Int.fdiv x (2 ^ (min 1 (IntKind.u64).bits))) (6148914691236517205 : Int)) + (bitAnd IntKind.u64 x (6148914691236517205 : Int)))) (2 ^ (min 2 (IntKind.u64).bits))) (3689348814741910323 : Int)) + (bitAnd IntKind.u64 (IntKind.u64.wrap ((bitAnd IntKind.u64 (Int.fdiv x (2 ^ (min 1 (IntKind.u64).bits))) (6148914691236517205 : Int)) + (bitAnd IntKind.u64 x (6148914691236517205 : Int)))) (3689348814741910323 : Int)))) (2 ^ (min 4 (IntKind.u64).bits))) + (IntKind.u64.wrap ((bitAnd IntKind.u64 (Int.fdiv (IntKind.u64.wrap ((bitAnd IntKind.u64 (Int.fdiv x (2 ^ (min 1 (IntKind.u64).bits))) (6148914691236517205 : Int)) + (bitAnd IntKind.u64 x (6148914691236517205 : Int)))) (2 ^ (min 2 (IntKind.u64).bits))) (3689348814741910323 : Int)) + (bitAnd IntKind.u64 (IntKind.u64.wrap ((bitAnd IntKind.u64 (Int.fdiv x (2 ^ (min 1 (IntKind.u64).bits))) (6148914691236517205 : Int)) + (bitAnd IntKind.u64 x (6148914691236517205 : Int)))) (3689348814741910323 : Int)))))) (1085102592571150095 : Int)) + (Int.fdiv (bitAnd IntKind.u64 (IntKind.u64.wrap ((Int.fdiv (IntKind.u64.wrap ((bitAnd IntKind.u64 (Int.fdiv (IntKind.u64.wrap ((bitAnd IntKind.u64 (Int.fdiv x (2 ^ (min 1 (IntKind.u64).bits))) (6148914691236517205 : Int)) + (bitAnd IntKind.u64 x (6148914691236517205 : Int)))) (2 ^ (min 2 (IntKind.u64).bits))) (3689348814741910323 : Int)) + (bitAnd IntKind.u64 (IntKind.u64.wrap ((bitAnd IntKind.u64 (Int.fdiv x (2 ^ (min 1 (IntKind.u64).bits))) (6148914691236517205 : Int)) + (bitAnd IntKind.u64 x (6148914691236517205 : Int)))) (3689348814741910323 : Int)))) (2 ^ (min 4 (IntKind.u64).bits))) + (IntKind.u64.wrap ((bitAnd IntKind.u64 (Int.fdiv (IntKind.u64.wrap ((bitAnd IntKind.u64 (Int.fdiv x (2 ^ (min 1 (IntKind.u64).bits))) (6148914691236517205 : Int)) + (bitAnd IntKind.u64 x (6148914691236517205 : Int)))) (2 ^ (min 2 (IntKind.u64).bits))) (3689348814741910323 : Int)) + (bitAnd IntKind.u64 (IntKind.u64.wrap ((bitAnd IntKind.u64 (Int.fdiv x (2 ^ (min 1 (IntKind.u64).bits))) (6148914691236517205 : Int)) + (bitAnd IntKind.u64 x (6148914691236517205 : Int)))) (3689348814741910323 : Int)))))) (1085102592571150095 : Int)) (2 ^ (min 8 (IntKind.u64).bits))))) (2 ^ (min 16 (IntKind.u64).bits))))) + (Int.fdiv (IntKind.u64.wrap ((IntKind.u64.wrap ((bitAnd IntKind.u64 (IntKind.u64.wrap ((Int.fdiv (IntKind.u64.wrap ((bitAnd IntKind.u64 (Int.fdiv (IntKind.u64.wrap ((bitAnd IntKind.u64 (Int.fdiv x (2 ^ (min 1 (IntKind.u64).bits))) (6148914691236517205 : Int)) + (bitAnd IntKind.u64 x (6148914691236517205 : Int)))) (2 ^ (min 2 (IntKind.u64).bits))) (3689348814741910323 : Int)) + (bitAnd IntKind.u64 (IntKind.u64.wrap ((bitAnd IntKind.u64 (Int.fdiv x (2 ^ (min 1 (IntKind.u64).bits))) (6148914691236517205 : Int)) + (bitAnd IntKind.u64 x (6148914691236517205 : Int)))) (3689348814741910323 : Int)))) (2 ^ (min 4 (IntKind.u64).bits))) + (IntKind.u64.wrap ((bitAnd IntKind.u64 (Int.fdiv (IntKind.u64.wrap ((bitAnd IntKind.u64 (Int.fdiv x (2 ^ (min 1 (IntKind.u64).bits))) (6148914691236517205 : Int)) + (bitAnd IntKind.u64 x (6148914691236517205 : Int)))) (2 ^ (min 2 (IntKind.u64).bits))) (3689348814741910323 : Int)) + (bitAnd IntKind.u64 (IntKind.u64.wrap ((bitAnd IntKind.u64 (Int.fdiv x (2 ^ (min 1 (IntKind.u64).bits))) (6148914691236517205 : Int)) + (bitAnd IntKind.u64 x (6148914691236517205 : Int)))) (3689348814741910323 : Int)))))) (1085102592571150095 : Int)) + (Int.fdiv (bitAnd IntKind.u64 (IntKind.u64.wrap ((Int.fdiv (IntKind.u64.wrap ((bitAnd IntKind.u64 (Int.fdiv (IntKind.u64.wrap ((bitAnd IntKind.u64 (Int.fdiv x (2 ^ (min 1 (IntKind.u64).bits))) (6148914691236517205 : Int)) + (bitAnd IntKind.u64 x (6148914691236517205 : Int)))) (2 ^ (min 2 (IntKind.u64).bits))) (3689348814741910323 : Int)) + (bitAnd IntKind.u64 (IntKind.u64.wrap ((bitAnd IntKind.u64 (Int.fdiv x (2 ^ (min 1 (IntKind.u64).bits))) (6148914691236517205 : Int)) + (bitAnd IntKind.u64 x (6148914691236517205 : Int)))) (3689348814741910323 : Int)))) (2 ^ (min 4 (IntKind.u64).bits))) + (IntKind.u64.wrap ((bitAnd IntKind.u64 (Int.fdiv (IntKind.u64.wrap ((bitAnd IntKind.u64 (Int.fdiv x (2 ^ (min 1 (IntKind.u64).bits))) (6148914691236517205 : Int)) + (bitAnd IntKind.u64 x (6148914691236517205 : Int)))) (2 ^ (min 2 (IntKind.u64).bits))) (3689348814741910323 : Int)) + (bitAnd IntKind.u64 (IntKind.u64.wrap ((bitAnd IntKind.u64 (Int.fdiv x (2 ^ (min 1 (IntKind.u64).bits))) (6148914691236517205 : Int)) + (bitAnd IntKind.u64 x (6148914691236517205 : Int)))) (3689348814741910323 : Int)))))) (1085102592571150095 : Int)) (2 ^ (min 8 (IntKind.u64).bits))))) + (Int.fdiv (IntKind.u64.wrap ((bitAnd IntKind.u64 (IntKind.u64.wrap ((Int.fdiv (IntKind.u64.wrap ((bitAnd IntKind.u64 (Int.fdiv (IntKind.u64.wrap ((bitAnd IntKind.u64 (Int.fdiv x (2 ^ (min 1 (IntKind.u64).bits))) (6148914691236517205 : Int)) + (bitAnd IntKind.u64 x (6148914691236517205 : Int)))) (2 ^ (min 2 (IntKind.u64).bits))) (3689348814741910323 : Int)) + (bitAnd IntKind.u64 (IntKind.u64.wrap ((bitAnd IntKind.u64 (Int.fdiv x (2 ^ (min 1 (IntKind.u64).bits))) (6148914691236517205 : Int)) + (bitAnd IntKind.u64 x (6148914691236517205 : Int)))) (3689348814741910323 : Int)))) (2 ^ (min 4 (IntKind.u64).bits))) + (IntKind.u64.wrap ((bitAnd IntKind.u64 (Int.fdiv (IntKind.u64.wrap ((bitAnd IntKind.u64 (Int.fdiv x (2 ^ (min 1 (IntKind.u64).bits))) (6148914691236517205 : Int)) + (bitAnd IntKind.u64 x (6148914691236517205 : Int)))) (2 ^ (min 2 (IntKind.u64).bits))) (3689348814741910323 : Int)) + (bitAnd IntKind.u64 (IntKind.u64.wrap ((bitAnd IntKind.u64 (Int.fdiv x (2 ^ (min 1 (IntKind.u64).bits))) (6148914691236517205 : Int)) + (bitAnd IntKind.u64 x (6148914691236517205 : Int)))) (3689348814741910323 : Int)))))) (1085102592571150095 : Int)) + (Int.fdiv (bitAnd IntKind.u64 (IntKind.u64.wrap ((Int.fdiv (IntKind.u64.wrap ((bitAnd IntKind.u64 (Int.fdiv (IntKind.u64.wrap ((bitAnd IntKind.u64 (Int.fdiv x (2 ^ (min 1 (IntKind.u64).bits))) (6148914691236517205 : Int)) + (bitAnd IntKind.u64 x (6148914691236517205 : Int)))) (2 ^ (min 2 (IntKind.u64).bits))) (3689348814741910323 : Int)) + (bitAnd IntKind.u64 (IntKind.u64.wrap ((bitAnd IntKind.u64 (Int.fdiv x (2 ^ (min 1 (IntKind.u64).bits))) (6148914691236517205 : Int)) + (bitAnd IntKind.u64 x (6148914691236517205 : Int)))) (3689348814741910323 : Int)))) (2 ^ (min 4 (IntKind.u64).bits))) + (IntKind.u64.wrap ((bitAnd IntKind.u64 (Int.fdiv (IntKind.u64.wrap ((bitAnd IntKind.u64 (Int.fdiv x (2 ^ (min 1 (IntKind.u64).bits))) (6148914691236517205 : Int)) + (bitAnd IntKind.u64 x (6148914691236517205 : Int)))) (2 ^ (min 2 (IntKind.u64).bits))) (3689348814741910323 : Int)) + (bitAnd IntKind.u64 (IntKind.u64.wrap ((bitAnd IntKind.u64 (Int.fdiv x (2 ^ (min 1 (IntKind.u64).bits))) (6148914691236517205 : Int)) + (bitAnd IntKind.u64 x (6148914691236517205 : Int)))) (3689348814741910323 : Int)))))) (1085102592571150095 : Int)) (2 ^ (min 8 (IntKind.u64).bits))))) (2 ^ (min 16 (IntKind.u64).bits))))) (2 ^ (min 32 (IntKind.u64).bits)))))) (127 : Int))
def v_bits_OnesCount64 (x : Int) : Int :=
  (bitAnd IntKind.i64 (IntKind.i64.wrap (IntKind.u64.wrap ((IntKind.u64.wrap ((IntKind.u64.wrap ((bitAnd IntKind.u64 (IntKind.u64.wrap ((Int.fdiv (IntKind.u64.wrap ((bitAnd IntKind.u64 (Int.fdiv (IntKind.u64.wrap ((bitAnd IntKind.u64 (Int.fdiv x (2 ^ (min 1 (IntKind.u64).bits))) (6148914691236517205 : Int)) + (bitAnd IntKind.u64 x (6148914691236517205 : Int)))) (2 ^ (min 2 (IntKind.u64).bits))) (3689348814741910323 : Int)) + (bitAnd IntKind.u64 (IntKind.u64.wrap ((bitAnd IntKind.u64 (Int.fdiv x (2 ^ (min 1 (IntKind.u64).bits))) (6148914691236517205 : Int)) + (bitAnd IntKind.u64 x (6148914691236517205 : Int)))) (3689348814741910323 : Int)))) (2 ^ (min 4 (IntKind.u64).bits))) + (IntKind.u64.wrap ((bitAnd IntKind.u64 (Int.fdiv (IntKind.u64.wrap ((bitAnd IntKind.u64 (Int.fdiv x (2 ^ (min 1 (IntKind.u64).bits))) (6148914691236517205 : Int)) + (bitAnd IntKind.u64 x (6148914691236517205 : Int)))) (2 ^ (min 2 (IntKind.u64).bits))) (3689348814741910323 : Int)) + (bitAnd IntKind.u64 (IntKind.u64.wrap ((bitAnd IntKind.u64 (Int.fdiv x (2 ^ (min 1 (IntKind.u64).bits))) (6148914691236517205 : Int)) + (bitAnd IntKind.u64 x (6148914691236517205 : Int)))) (3689348814741910323 : Int)))))) (1085102592571150095 : Int)) + (Int.fdiv (bitAnd IntKind.u64 (IntKind.u64.wrap ((Int.fdiv (IntKind.u64.wrap ((bitAnd IntKind.u64 (Int.fdiv (IntKind.u64.wrap ((bitAnd IntKind.u64 (Int.fdiv x (2 ^ (min 1 (IntKind.u64).bits))) (6148914691236517205 : Int)) + (bitAnd IntKind.u64 x (6148914691236517205 : Int)))) (2 ^ (min 2 (IntKind.u64).bits))) (3689348814741910323 : Int)) + (bitAnd IntKind.u64 (IntKind.u64.wrap ((bitAnd IntKind.u64 (Int.fdiv x (2 ^ (min 1 (IntKind.u64).bits))) (6148914691236517205 : Int)) + (bitAnd IntKind.u64 x (6148914691236517205 : Int)))) (3689348814741910323 : Int)))) (2 ^ (min 4 (IntKind.u64).bits))) + (IntKind.u64.wrap ((bitAnd IntKind.u64 (Int.fdiv (IntKind.u64.wrap ((bitAnd IntKind.u64 (Int.fdiv x (2 ^ (min 1 (IntKind.u64).bits))) (6148914691236517205 : Int)) + (bitAnd IntKind.u64 x (6148914691236517205 : Int)))) (2 ^ (min 2 (IntKind.u64).bits))) (3689348814741910323 : Int)) + (bitAnd IntKind.u64 (IntKind.u64.wrap ((bitAnd IntKind.u64 (Int.fdiv x (2 ^ (min 1 (IntKind.u64).bits))) (6148914691236517205 : Int)) + (bitAnd IntKind.u64 x (6148914691236517205 : Int)))) (3689348814741910323 : Int)))))) (1085102592571150095 : Int)) (2 ^ (min 8 (IntKind.u64).bits))))) + (Int.fdiv (IntKind.u64.wrap ((bitAnd IntKind.u64 (IntKind.u64.wrap ((Int.fdiv (IntKind.u64.wrap ((bitAnd IntKind.u64 (Int.fdiv (IntKind.u64.wrap ((bitAnd IntKind.u64 (Int.fdiv x (2 ^ (min 1 (IntKind.u64).bits))) (6148914691236517205 : Int)) + (bitAnd IntKind.u64 x (6148914691236517205 : Int)))) (2 ^ (min 2 (IntKind.u64).bits))) (3689348814741910323 : Int)) + (bitAnd IntKind.u64 (IntKind.u64.wrap ((bitAnd IntKind.u64 (Int.fdiv x (2 ^ (min 1 (IntKind.u64).bits))) (6148914691236517205 : Int)) + (bitAnd IntKind.u64 x (6148914691236517205 : Int)))) (3689348814741910323 : Int)))) (2 ^ (min 4 (IntKind.u64).bits))) + (IntKind.u64.wrap ((bitAnd IntKind.u64 (Int.fdiv (IntKind.u64.wrap ((bitAnd IntKind.u64 (Int.fdiv x (2 ^ (min 1 (IntKind.u64).bits))) (6148914691236517205 : Int)) + (bitAnd IntKind.u64 x (6148914691236517205 : Int)))) (2 ^ (min 2 (IntKind.u64).bits))) (3689348814741910323 : Int)) + (bitAnd IntKind.u64 (IntKind.u64.wrap ((bitAnd IntKind.u64 (Int.fdiv x (2 ^ (min 1 (IntKind.u64).bits))) (6148914691236517205 : Int)) + (bitAnd IntKind.u64 x (6148914691236517205 : Int)))) (3689348814741910323 : Int)))))) (1085102592571150095 : Int)) + (Int.fdiv (bitAnd IntKind.u64 (IntKind.u64.wrap ((Int.fdiv (IntKind.u64.wrap ((bitAnd IntKind.u64 (Int.fdiv (IntKind.u64.wrap ((bitAnd IntKind.u64 (Int.fdiv x (2 ^ (min 1 (IntKind.u64).bits))) (6148914691236517205 : Int)) + (bitAnd IntKind.u64 x (6148914691236517205 : Int)))) (2 ^ (min 2 (IntKind.u64).bits))) (3689348814741910323 : Int)) + (bitAnd IntKind.u64 (IntKind.u64.wrap ((bitAnd IntKind.u64 (Int.fdiv x (2 ^ (min 1 (IntKind.u64).bits))) (6148914691236517205 : Int)) + (bitAnd IntKind.u64 x (6148914691236517205 : Int)))) (3689348814741910323 : Int)))) (2 ^ (min 4 (IntKind.u64).bits))) + (IntKind.u64.wrap ((bitAnd IntKind.u64 (Int.fdiv (IntKind.u64.wrap ((bitAnd IntKind.u64 (Int.fdiv x (2 ^ (min 1 (IntKind.u64).bits))) (6148914691236517205 : Int)) + (bitAnd IntKind.u64 x (6148914691236517205 : Int)))) (2 ^ (min 2 (IntKind.u64).bits))) (3689348814741910323 : Int)) + (bitAnd IntKind.u64 (IntKind.u64.wrap ((bitAnd IntKind.u64 (Int.fdiv x (2 ^ (min 1 (IntKind.u64).bits))) (6148914691236517205 : Int)) + (bitAnd IntKind.u64 x (6148914691236517205 : Int)))) (3689348814741910323 : Int)))))) (1085102592571150095 : Int)) (2 ^ (min 8 (IntKind.u64).bits))))) (2 ^ (min 16 (IntKind.u64).bits))))) + (Int.fdiv (IntKind.u64.wrap ((IntKind.u64.wrap ((bitAnd IntKind.u64 (IntKind.u64.wrap ((Int.fdiv (IntKind.u64.wrap ((bitAnd IntKind.u64 (Int.fdiv (IntKind.u64.wrap ((bitAnd IntKind.u64 (Int.fdiv x (2 ^ (min 1 (IntKind.u64).bits))) (6148914691236517205 : Int)) + (bitAnd IntKind.u64 x (6148914691236517205 : Int)))) (2 ^ (min 2 (IntKind.u64).bits))) (3689348814741910323 : Int)) + (bitAnd IntKind.u64 (IntKind.u64.wrap ((bitAnd IntKind.u64 (Int.fdiv x (2 ^ (min 1 (IntKind.u64).bits))) (6148914691236517205 : Int)) + (bitAnd IntKind.u64 x (6148914691236517205 : Int)))) (3689348814741910323 : Int)))) (2 ^ (min 4 (IntKind.u64).bits))) + (IntKind.u64.wrap ((bitAnd IntKind.u64 (Int.fdiv (IntKind.u64.wrap ((bitAnd IntKind.u64 (Int.fdiv x (2 ^ (min 1 (IntKind.u64).bits))) (6148914691236517205 : Int)) + (bitAnd IntKind.u64 x (6148914691236517205 : Int)))) (2 ^ (min 2 (IntKind.u64).bits))) (3689348814741910323 : Int)) + (bitAnd IntKind.u64 (IntKind.u64.wrap ((bitAnd IntKind.u64 (Int.fdiv x (2 ^ (min 1 (IntKind.u64).bits))) (6148914691236517205 : Int)) + (bitAnd IntKind.u64 x (6148914691236517205 : Int)))) (3689348814741910323 : Int)))))) (1085102592571150095 : Int)) + (Int.fdiv (bitAnd IntKind.u64 (IntKind.u64.wrap ((Int.fdiv (IntKind.u64.wrap ((bitAnd IntKind.u64 (Int.fdiv (IntKind.u64.wrap ((bitAnd IntKind.u64 (Int.fdiv x (2 ^ (min 1 (IntKind.u64).bits))) (6148914691236517205 : Int)) + (bitAnd IntKind.u64 x (6148914691236517205 : Int)))) (2 ^ (min 2 (IntKind.u64).bits))) (3689348814741910323 : Int)) + (bitAnd IntKind.u64 (IntKind.u64.wrap ((bitAnd IntKind.u64 (Int.fdiv x (2 ^ (min 1 (IntKind.u64).bits))) (6148914691236517205 : Int)) + (bitAnd IntKind.u64 x (6148914691236517205 : Int)))) (3689348814741910323 : Int)))) (2 ^ (min 4 (IntKind.u64).bits))) + (IntKind.u64.wrap ((bitAnd IntKind.u64 (Int.fdiv (IntKind.u64.wrap ((bitAnd IntKind.u64 (Int.fdiv x (2 ^ (min 1 (IntKind.u64).bits))) (6148914691236517205 : Int)) + (bitAnd IntKind.u64 x (6148914691236517205 : Int)))) (2 ^ (min 2 (IntKind.u64).bits))) (3689348814741910323 : Int)) + (bitAnd IntKind.u64 (IntKind.u64.wrap ((bitAnd IntKind.u64 (Int.fdiv x (2 ^ (min 1 (IntKind.u64).bits))) (6148914691236517205 : Int)) + (bitAnd IntKind.u64 x (6148914691236517205 : Int)))) (3689348814741910323 : Int)))))) (1085102592571150095 : Int)) (2 ^ (min 8 (IntKind.u64).bits))))) + (Int.fdiv (IntKind.u64.wrap ((bitAnd IntKind.u64 (IntKind.u64.wrap ((Int.fdiv (IntKind.u64.wrap ((bitAnd IntKind.u64 (Int.fdiv (IntKind.u64.wrap ((bitAnd IntKind.u64 (Int.fdiv x (2 ^ (min 1 (IntKind.u64).bits))) (6148914691236517205 : Int)) + (bitAnd IntKind.u64 x (6148914691236517205 : Int)))) (2 ^ (min 2 (IntKind.u64).bits))) (3689348814741910323 : Int)) + (bitAnd IntKind.u64 (IntKind.u64.wrap ((bitAnd IntKind.u64 (Int.fdiv x (2 ^ (min 1 (IntKind.u64).bits))) (6148914691236517205 : Int)) + (bitAnd IntKind.u64 x (6148914691236517205 : Int)))) (3689348814741910323 : Int)))) (2 ^ (min 4 (IntKind.u64).bits))) + (IntKind.u64.wrap ((bitAnd IntKind.u64 (Int.fdiv (IntKind.u64.wrap ((bitAnd IntKind.u64 (Int.fdiv x (2 ^ (min 1 (IntKind.u64).bits))) (6148914691236517205 : Int)) + (bitAnd IntKind.u64 x (6148914691236517205 : Int)))) (2 ^ (min 2 (IntKind.u64).bits))) (3689348814741910323 : Int)) + (bitAnd IntKind.u64 (IntKind.u64.wrap ((bitAnd IntKind.u64 (Int.fdiv x (2 ^ (min 1 (IntKind.u64).bits))) (6148914691236517205 : Int)) + (bitAnd IntKind.u64 x (6148914691236517205 : Int)))) (3689348814741910323 : Int)))))) (1085102592571150095 : Int)) + (Int.fdiv (bitAnd IntKind.u64 (IntKind.u64.wrap ((Int.fdiv (IntKind.u64.wrap ((bitAnd IntKind.u64 (Int.fdiv (IntKind.u64.wrap ((bitAnd IntKind.u64 (Int.fdiv x (2 ^ (min 1 (IntKind.u64).bits))) (6148914691236517205 : Int)) + (bitAnd IntKind.u64 x (6148914691236517205 : Int)))) (2 ^ (min 2 (IntKind.u64).bits))) (3689348814741910323 : Int)) + (bitAnd IntKind.u64 (IntKind.u64.wrap ((bitAnd IntKind.u64 (Int.fdiv x (2 ^ (min 1 (IntKind.u64).bits))) (6148914691236517205 : Int)) + (bitAnd IntKind.u64 x (6148914691236517205 : Int)))) (3689348814741910323 : Int)))) (2 ^ (min 4 (IntKind.u64).bits))) + (IntKind.u64.wrap ((bitAnd IntKind.u64 (Int.fdiv (IntKind.u64.wrap ((bitAnd IntKind.u64 (Int.fdiv x (2 ^ (min 1 (IntKind.u64).bits))) (6148914691236517205 : Int)) + (bitAnd IntKind.u64 x (6148914691236517205 : Int)))) (2 ^ (min 2 (IntKind.u64).bits))) (3689348814741910323 : Int)) + (bitAnd IntKind.u64 (IntKind.u64.wrap ((bitAnd IntKind.u64 (Int.fdiv x (2 ^ (min 1 (IntKind.u64).bits))) (6148914691236517205 : Int)) + (bitAnd IntKind.u64 x (6148914691236517205 : Int)))) (3689348814741910323 : Int)))))) (1085102592571150095 : Int)) (2 ^ (min 8 (IntKind.u64).bits))))) (2 ^ (min 16 (IntKind.u64).bits))))) (2 ^ (min 32 (IntKind.u64).bits)))))) (127 : Int))
theorem g_bits_OnesCount64 (x : Int) : Goes (T_bits_OnesCount64 x) (T0_bits_OnesCount64 x) (v_bits_OnesCount64 x) :=
  Goes.leaf
def R_bits_OnesCount64 : Int → AV := fun (r : Int) => .d (.int .i64) r
def S_bits_OnesCount64 (x : Int) : Empty → Nat × St := fun j => nomatch j
theorem en_bits_OnesCount64 (x : Int) (L : Lt) : entryA Go.Proofs.Try.prog (clOf t_bits_OnesCount64) tb_bits_OnesCount64 Go.Proofs.Try.f20 c_bits_OnesCount64 L (toForms sg_bits_OnesCount64 (x, ())) = (T0_bits_OnesCount64 x).run (fun v => some (R_bits_OnesCount64 v, tps (toForms sg_bits_OnesCount64 (x, ())))) fun j => L (S_bits_OnesCount64 x j).1 (S_bits_OnesCount64 x j).2 := by kernel_rfl
theorem lp_bits_OnesCount64 (x : Int) : ∀ (L : Lt) (j : Empty), procOf (procsF Go.Proofs.Try.prog (clOf t_bits_OnesCount64) tb_bits_OnesCount64 Go.Proofs.Try.f20 c_bits_OnesCount64 (toForms sg_bits_OnesCount64 (x, ()))) (S_bits_OnesCount64 x j).1 L (S_bits_OnesCount64 x j).2 = (T_bits_OnesCount64 x j).run (fun v => some (R_bits_OnesCount64 v, tps (toForms sg_bits_OnesCount64 (x, ())))) fun j => L (S_bits_OnesCount64 x j).1 (S_bits_OnesCount64 x j).2 := fun L j => nomatch j
noncomputable def e_bits_OnesCount64 : Run := entT sg_bits_OnesCount64 R_bits_OnesCount64 (fun a => v_bits_OnesCount64 a.1)
theorem ok_bits_OnesCount64 : EntOK Go.Proofs.Try.prog 20 e_bits_OnesCount64 := entT_ok (tb := tb_bits_OnesCount64) (c := c_bits_OnesCount64) tk_bits_OnesCount64 (by kernel_rfl) (by kernel_rfl) (by kernel_rfl) (fun a => by kernel_rfl) fun ⟨x, _⟩ => evF_goes (c := c_bits_OnesCount64) (K := fun v => (R_bits_OnesCount64 v, tps (toForms sg_bits_OnesCount64 (x, ())))) (S := S_bits_OnesCount64 x) (by kernel_rfl) (en_bits_OnesCount64 x) (lp_bits_OnesCount64 x) (g_bits_OnesCount64 x)
end
end Go.Ev
end

section
set_option linter.unusedSectionVars false
set_option linter.unusedVariables false
set_option linter.unusedSimpArgs false
set_option maxRecDepth 100000
set_option linter.unusedVariables false
open Go Go.Ev
namespace Go.Ev
noncomputable section
/-! ### (*paling/bits.Set).Count -/
def sg_bits_Set_Count_n0 : PSig := [.nilp]
noncomputable def t_bits_Set_Count_n0 : Tbl := [(20, e_bits_OnesCount64)]
theorem tk_bits_Set_Count_n0 : ∀ p ∈ t_bits_Set_Count_n0, EntOK Go.Proofs.Try.prog p.1 p.2 := tbl_cons ok_bits_OnesCount64 (tbl_nil)
noncomputable def c_bits_Set_Count_n0 : Code := Go.Proofs.Try.f15.body.getD .skip
def tb_bits_Set_Count_n0 : Tb := []
def T_bits_Set_Count_n0 (s : Unit) : Empty → JT Empty (Int) := fun j => nomatch j
def T0_bits_Set_Count_n0 (s : Unit) : JT Empty (Int) :=
  .leaf (0 : Int)
def v_bits_Set_Count_n0 (s : Unit) : Int :=
  (0 : Int)
theorem g_bits_Set_Count_n0 (s : Unit) : Goes (T_bits_Set_Count_n0 s) (T0_bits_Set_Count_n0 s) (v_bits_Set_Count_n0 s) :=
  Goes.leaf
def K_bits_Set_Count_n0 : Int → Ans := fun (r : Int) => (.d (.int .i64) r, [.top])
def S_bits_Set_Count_n0 (s : Unit) : Empty → Nat × St := fun j => nomatch j
theorem en_bits_Set_Count_n0 (s : Unit) (L : Lt) : entryA Go.Proofs.Try.prog (clOf t_bits_Set_Count_n0) tb_bits_Set_Count_n0 Go.Proofs.Try.f15 c_bits_Set_Count_n0 L (toPs sg_bits_Set_Count_n0 (s, ())) = (T0_bits_Set_Count_n0 s).run (fun v => some (K_bits_Set_Count_n0 v)) fun j => L (S_bits_Set_Count_n0 s j).1 (S_bits_Set_Count_n0 s j).2 := by kernel_rfl
theorem lp_bits_Set_Count_n0 (s : Unit) : ∀ (L : Lt) (j : Empty), procOf (procsF Go.Proofs.Try.prog (clOf t_bits_Set_Count_n0) tb_bits_Set_Count_n0 Go.Proofs.Try.f15 c_bits_Set_Count_n0 (toPs sg_bits_Set_Count_n0 (s, ()))) (S_bits_Set_Count_n0 s j).1 L (S_bits_Set_Count_n0 s j).2 = (T_bits_Set_Count_n0 s j).run (fun v => some (K_bits_Set_Count_n0 v)) fun j => L (S_bits_Set_Count_n0 s j).1 (S_bits_Set_Count_n0 s j).2 := fun L j => nomatch j
noncomputable def e_bits_Set_Count_n0 : Run := entO sg_bits_Set_Count_n0 K_bits_Set_Count_n0 (fun a => true) (fun a => v_bits_Set_Count_n0 a.1)
theorem ok_bits_Set_Count_n0 : EntOK Go.Proofs.Try.prog 15 e_bits_Set_Count_n0 := entO_ok (tb := tb_bits_Set_Count_n0) (c := c_bits_Set_Count_n0) (noRun_ok (known_of (fn := Go.Proofs.Try.f15) (c := c_bits_Set_Count_n0) (by kernel_rfl) (by kernel_rfl) (by kernel_rfl))) tk_bits_Set_Count_n0 (by kernel_rfl) (by kernel_rfl) (fun a => by kernel_rfl) fun ⟨s, _⟩ hk => evF_goes (c := c_bits_Set_Count_n0) (K := K_bits_Set_Count_n0) (S := S_bits_Set_Count_n0 s) (by kernel_rfl) (en_bits_Set_Count_n0 s) (lp_bits_Set_Count_n0 s) (g_bits_Set_Count_n0 s)
end
end Go.Ev
end

section
set_option linter.unusedSectionVars false
set_option linter.unusedVariables false
set_option linter.unusedSimpArgs false
set_option maxRecDepth 100000
set_option linter.unusedVariables false
open Go Go.Ev
namespace Go.Ev
/-! ### (*bits.Set).Count: by hand: the words in whatever order -/
def sg_bits_Set_Count : PSig := [.obj 44 [(.d (.int .i64)), (.m (.int .i64) (.int .u64))]]
noncomputable def cntF (l : List (Int × Int)) : Int := l.foldl (fun n e => IntKind.i64.wrap (n + v_bits_OnesCount64 e.2)) 0
noncomputable def v_bits_Set_Count (s : Int × List (Int × Int)) : Int × Int × List (Int × Int) := (cntF s.2, s)
def K_bits_Set_Count : Int × Int × List (Int × Int) → Ans := fun r => (.d (.int .i64) r.1, [.bx 44 [.d (.int .i64) r.2.1, .mv (.int .i64) (.int .u64) r.2.2]])
theorem wrap_congr {a b : Int} (h : a % 18446744073709551616 = b % 18446744073709551616) : IntKind.i64.wrap a = IntKind.i64.wrap b := by
  unfold IntKind.wrap
  simp only [IntKind.signed, IntKind.bits, show (2 : Int) ^ 64 = 18446744073709551616 from by decide, h]
theorem wrap_emod (a : Int) : IntKind.i64.wrap a % 18446744073709551616 = a % 18446744073709551616 := by
  unfold IntKind.wrap
  simp only [IntKind.signed, IntKind.bits, show (2 : Int) ^ 64 = 18446744073709551616 from by decide]
  split
  · rw [Int.sub_emod_right, Int.emod_emod]
  · rw [Int.emod_emod]
theorem wrap_add (a b : Int) : IntKind.i64.wrap (IntKind.i64.wrap a + b) = IntKind.i64.wrap (a + b) := wrap_congr (by rw [Int.add_emod, wrap_emod, ← Int.add_emod])
theorem cntF_wrap : ∀ (l : List (Int × Int)) (n : Int), l.foldl (fun n e => IntKind.i64.wrap (n + v_bits_OnesCount64 e.2)) (IntKind.i64.wrap n) = IntKind.i64.wrap (n + (l.map fun e => v_bits_OnesCount64 e.2).sum)
  | [], n => by simp
  | e :: r, n => by
    rw [List.foldl_cons, wrap_add, cntF_wrap r, List.map_cons, List.sum_cons, Int.add_assoc]
theorem cntF_eq (l : List (Int × Int)) : cntF l = IntKind.i64.wrap ((l.map fun e => v_bits_OnesCount64 e.2).sum) := by
  have := cntF_wrap l 0
  rw [show IntKind.i64.wrap 0 = 0 from by decide, Int.zero_add] at this
  exact this
theorem sum_perm {l l' : List Int} (h : l.Perm l') : l.sum = l'.sum := by
  induction h with
  | nil => rfl
  | cons x _ ih => rw [List.sum_cons, List.sum_cons, ih]
  | swap x y l => rw [List.sum_cons, List.sum_cons, List.sum_cons, List.sum_cons]; omega
  | trans _ _ ih1 ih2 => exact ih1.trans ih2
theorem cntF_perm {l l' : List (Int × Int)} (h : l.Perm l') : cntF l = cntF l' := by rw [cntF_eq, cntF_eq, sum_perm (h.map _)]
section
abbrev CntL := List (El (.int .i64) × El (.int .u64))
noncomputable def cntBody : Code := Go.Proofs.Try.f15.body.getD .skip
noncomputable def cntR : Code := fstC (sndC (sndC cntBody))
noncomputable def cntT : Code := thenC (sndC cntR)
noncomputable def cntX : RangeText := rangeText (sndC cntT)
noncomputable def cntTail : Code := sndC (sndC (sndC cntBody))
noncomputable def cntTbl : Tbl := [(20, e_bits_OnesCount64)]
theorem cntTbl_ok : ∀ p ∈ cntTbl, EntOK Go.Proofs.Try.prog p.1 p.2 := tbl_cons ok_bits_OnesCount64 tbl_nil
def cntLab0 : Lab := ⟨[0], []⟩
def cntLab1 : Lab := ⟨[0, 3], []⟩
def cntLab7 : Lab := ⟨[0, 3, 7], []⟩
def cntLab2 : Lab := ⟨[0, 3, 12], []⟩
def cntObs (s : Int × CntL) : List (Id × Nat × Obj) := [(1, 0, .box 44 [.d (.int .i64) s.1, .mp 1026 0] (some 0)), (1026, 0, .map (.int .i64) (.int .u64) s.2)]
def cntA (s : Int × CntL) : St := ⟨mkTm 22 [(0, .pt 1 0 0)], cntObs s⟩
def cntB (s : Int × CntL) (n : Int) : St := ⟨mkTm 22 [(0, .pt 1 0 0), (3, .d (.int .i64) n)], cntObs s⟩
def cntC (s : Int × CntL) : St := ⟨mkTm 22 [(0, .pt 1 0 0), (3, .d (.int .i64) (0 : Int)), (7, mkB true)], cntObs s⟩
def cntK (s : Int × CntL) (v : Value) (n : Int) : St := ⟨mkTm 22 [(0, .pt 1 0 0), (3, .d (.int .i64) n), (12, .cst v)], [(1, 0, .box 44 [.d (.int .i64) s.1, .mp 1026 0] (some 0)), (1026, 0, .gone (some 1000))]⟩
noncomputable def cntI (s : Int × CntL) (v : Value) (done : CntL) : St := cntK s v (cntF done)
noncomputable def cntTT (s : Int × CntL) (v : Value) (done : CntL) (e : El (.int .i64) × El (.int .u64)) : St := ((cntI s v done).put (some 13) (.tu [mkB true, .d (.int .i64) e.1, .d (.int .u64) e.2])).put (some 14) (mkB true)
noncomputable def cntU (s : Int × CntL) (v : Value) (done : CntL) (e : El (.int .i64) × El (.int .u64)) : St := (((cntTT s v done e).put (some 15) (.tu [.d (.int .i64) e.1, .d (.int .u64) e.2])).put (some 16) (.d (.int .u64) e.2)).put (some 5) (.d (.int .u64) e.2)
noncomputable def cntE (s : Int × CntL) (v : Value) (done : CntL) : St := ((cntI s v done).put (some 13) (.tu [mkB false])).put (some 14) (mkB false)
def cntU' (s : Int × CntL) (v : Value) (n : Int) (e : El (.int .i64) × El (.int .u64)) : St := (((((cntK s v n).put (some 13) (.tu [mkB true, .d (.int .i64) e.1, .d (.int .u64) e.2])).put (some 14) (mkB true)).put (some 15) (.tu [.d (.int .i64) e.1, .d (.int .u64) e.2])).put (some 16) (.d (.int .u64) e.2)).put (some 5) (.d (.int .u64) e.2)
def cntM (s : Int × CntL) : St := ((((cntC s).put (some 8) (.pt 1 0 0)).put (some 9) (.pt 1 0 0)).put (some 10) (.pt 1 0 1)).put (some 11) (.mp 1026 0)

theorem cntX_ok : cntX.OK := ⟨by kernel_rfl, by kernel_rfl, by kernel_rfl, by kernel_rfl, by kernel_rfl, by kernel_rfl, by kernel_rfl, by kernel_rfl, by kernel_rfl⟩
theorem cnt_round (s : Int × CntL) (v : Value) (n : Int) (e : El (.int .i64) × El (.int .u64)) (L : Lt) (k : Kt) (x : Nat → Kt) (r : Kt) :
    evC Go.Proofs.Try.prog (clOf cntTbl) [] L cntX.cr 0 (fun t => k (norm Go.Proofs.Try.prog cntLab2 t)) x r (cntU' s v n e) = k (cntK s v (IntKind.i64.wrap (n + v_bits_OnesCount64 e.2))) := by kernel_rfl
theorem cnt_ev (s : Int × CntL) : RangeEv Go.Proofs.Try.prog (clOf cntTbl) cntX s.2 cntLab2 1026 1000 (cntI s) (cntE s) (cntTT s) (cntU s) where
  it := fun v done => by kernel_rfl
  r1 := fun v done e k => by kernel_rfl
  rt := fun v done e => by kernel_rfl
  re := fun v done e => by kernel_rfl
  r2 := fun v done e k => by kernel_rfl
  r3 := fun v done e rest hp L k x r => by
    have := cnt_round s v (cntF done) e L k x r
    refine Eq.trans this ?_
    unfold cntI
    rw [show cntF (done ++ [e]) = IntKind.i64.wrap (cntF done + v_bits_OnesCount64 e.2) from by unfold cntF; rw [List.foldl_append]; rfl]
  f1 := fun v done k => by kernel_rfl
  ft := fun v done => by kernel_rfl
theorem cnt_body : cntBody = .seq (fstC cntBody) (.seq (fstC (sndC cntBody)) (.seq (.seq (fstC cntR) (.cond (.tmp 7) (.seq (.region (ridC (fstC cntT)) (ropsC (fstC cntT)) false) cntX.code) .skip)) cntTail)) := by kernel_rfl
theorem cnt_a (s : Int × CntL) (L : Lt) (k : Kt) (x : Nat → Kt) (r : Kt) : evC Go.Proofs.Try.prog (clOf cntTbl) [] L (fstC cntBody) 0 (fun t => k (norm Go.Proofs.Try.prog cntLab0 t)) x r (cntA s) = k (cntA s) := by kernel_rfl
theorem cnt_b (s : Int × CntL) (L : Lt) (k : Kt) (x : Nat → Kt) (r : Kt) : evC Go.Proofs.Try.prog (clOf cntTbl) [] L (fstC (sndC cntBody)) 0 (fun t => k (norm Go.Proofs.Try.prog cntLab1 t)) x r (cntA s) = k (cntB s 0) := by kernel_rfl
theorem cnt_c (s : Int × CntL) (L : Lt) (k : Kt) (x : Nat → Kt) (r : Kt) : evC Go.Proofs.Try.prog (clOf cntTbl) [] L (fstC cntR) 0 (fun t => k (norm Go.Proofs.Try.prog cntLab7 t)) x r (cntB s 0) = k (cntC s) := by kernel_rfl
def mapKV1 (P : Program) (T : TypeId) : TypeId × TypeId := match P.underlying T with | some (.map K V) => (K, V) | _ => (0, 0)
theorem cnt_end (s : Int × CntL) (n : Int) (L : Lt) : evC Go.Proofs.Try.prog (clOf cntTbl) [] L cntTail 0 (finA Go.Proofs.Try.prog [] Go.Proofs.Try.f15 (toPs sg_bits_Set_Count (s, ()))) (fun _ _ => none) (finA Go.Proofs.Try.prog [] Go.Proofs.Try.f15 (toPs sg_bits_Set_Count (s, ()))) (cntB s n) = some (K_bits_Set_Count (n, s)) := by kernel_rfl

theorem callOK_bits_Set_Count (s : Int × CntL) : CallOK Go.Proofs.Try.prog 15 (toPs sg_bits_Set_Count (s, ())) (K_bits_Set_Count (v_bits_Set_Count s)) := by
  obtain ⟨hcl, hdet⟩ := clOf_ok (P := Go.Proofs.Try.prog) cntTbl_ok
  refine callOK_of_wp (tb := []) (fn := Go.Proofs.Try.f15) (c := cntBody) (vs := [.pt 1 0 0]) (st := ⟨[], cntObs s⟩) (by kernel_rfl) (by kernel_rfl) (by kernel_rfl) ?_
  intro _ Mod F0 w0 a w hr
  have hr : Rel Mod F0 w0 (cntA s) a w := hr
  rw [cnt_body]
  refine wp_seq (piece hcl hdet (norm Go.Proofs.Try.prog cntLab0) (fun h => norm_rel h) (cnt_a s) hr fun a w hr => ?_)
  refine wp_seq (piece hcl hdet (norm Go.Proofs.Try.prog cntLab1) (fun h => norm_rel h) (cnt_b s) hr fun a w hr => ?_)
  refine wp_seq (wp_seq (piece hcl hdet (norm Go.Proofs.Try.prog cntLab7) (fun h => norm_rel h) (cnt_c s) hr fun a w hr => ?_))
  have htrue : a.eval (.tmp 7) = .bool true := by
    obtain ⟨_, F, ρ, hR, _⟩ := hr
    exact rep_bool (eval_of hR (by kernel_rfl))
  refine wp_cond_true htrue (wp_seq (wp_region ?_))
  rw [show List.range (ropsC (fstC cntT)).size = [0, 1, 2, 3, 4] from by kernel_rfl]
  refine evOp hcl (o := opC (fstC cntT) 0) (st1 := (cntC s).put (some 8) (.pt 1 0 0)) (by kernel_rfl) (by kernel_rfl) (fun k => by kernel_rfl) hr fun a w hr => ?_
  refine evOp hcl (o := opC (fstC cntT) 1) (st1 := ((cntC s).put (some 8) (.pt 1 0 0)).put (some 9) (.pt 1 0 0)) (by kernel_rfl) (by kernel_rfl) (fun k => by kernel_rfl) hr fun a w hr => ?_
  refine evOp hcl (o := opC (fstC cntT) 2) (st1 := (((cntC s).put (some 8) (.pt 1 0 0)).put (some 9) (.pt 1 0 0)).put (some 10) (.pt 1 0 1)) (by kernel_rfl) (by kernel_rfl) (fun k => by kernel_rfl) hr fun a w hr => ?_
  refine evOp hcl (o := opC (fstC cntT) 3) (st1 := cntM s) (by kernel_rfl) (by kernel_rfl) (fun k => by kernel_rfl) hr fun a w hr => ?_
  refine handOp (o := opC (fstC cntT) 4) (by kernel_rfl) (by kernel_rfl) ?_
  refine rangeLoop (tm := 11) (idm0 := 1026) (ver0 := 0) (T := (match (opC (fstC cntT) 4).op with | .range T _ => T | _ => 0)) (K := (mapKV1 Go.Proofs.Try.prog (match (opC (fstC cntT) 4).op with | .range T _ => T | _ => 0)).1) (V := (mapKV1 Go.Proofs.Try.prog (match (opC (fstC cntT) 4).op with | .range T _ => T | _ => 0)).2)
    hcl hdet cntX_ok rfl rfl (cnt_ev s) (by kernel_rfl) (by kernel_rfl) (by kernel_rfl) (by kernel_rfl) (by kernel_rfl) (by kernel_rfl) (fun v => by kernel_rfl) (fun v done => by kernel_rfl) (fun v done => by kernel_rfl) hr ?_
  intro v done a w hperm hr
  have hr : Rel Mod F0 w0 (cntB s (cntF done)) a w := norm_rel (P := Go.Proofs.Try.prog) (lab := cntLab1) hr
  rw [cntF_perm hperm] at hr
  exact endStep hcl hdet (cnt_end s (cntF s.2)) hr
end
noncomputable def e_bits_Set_Count : Run := entO sg_bits_Set_Count K_bits_Set_Count (fun a => true) (fun a => v_bits_Set_Count a.1) e_bits_Set_Count_n0
theorem ok_bits_Set_Count : EntOK Go.Proofs.Try.prog 15 e_bits_Set_Count := entO_hand ok_bits_Set_Count_n0 fun a h => callOK_bits_Set_Count a.1
end Go.Ev
end

section
set_option linter.unusedSectionVars false
set_option linter.unusedVariables false
set_option linter.unusedSimpArgs false
set_option maxRecDepth 100000
set_option linter.unusedVariables false
open Go Go.Ev
namespace Go.Ev
noncomputable section
/-! ### paling/palinglaw19.alive -/
def sg_law19_alive : Sig := []
noncomputable def t_law19_alive : Tbl := [(8, e_bits_New), (10, e_bits_Set_Put), (9, e_bits_Set_Has), (15, e_bits_Set_Count), (11, e_bits_Set_Size)]
theorem tk_law19_alive : ∀ p ∈ t_law19_alive, EntOK Go.Proofs.Try.prog p.1 p.2 := tbl_cons ok_bits_New (tbl_cons ok_bits_Set_Put (tbl_cons ok_bits_Set_Has (tbl_cons ok_bits_Set_Count (tbl_cons ok_bits_Set_Size (tbl_nil)))))
noncomputable def c_law19_alive : Code := Go.Proofs.Try.f16.body.getD .skip
def tb_law19_alive : Tb := []
def T_law19_alive : Empty → JT Empty (Bool) := fun j => nomatch j
def T0_law19_alive : JT Empty (Bool) :=
  .br (v_bits_Set_Put (v_bits_New (70 : Int)) (69 : Int)).1
    (.br (! (v_bits_Set_Put (v_bits_Set_Put (v_bits_New (70 : Int)) (69 : Int)).2 (69 : Int)).1)
      (.br (! (v_bits_Set_Put (v_bits_Set_Put (v_bits_Set_Put (v_bits_New (70 : Int)) (69 : Int)).2 (69 : Int)).2 (70 : Int)).1)
        (.br (v_bits_Set_Has (v_bits_Set_Put (v_bits_Set_Put (v_bits_Set_Put (v_bits_New (70 : Int)) (69 : Int)).2 (69 : Int)).2 (70 : Int)).2 (69 : Int)).1
          (.br ((v_bits_Set_Count (v_bits_Set_Has (v_bits_Set_Put (v_bits_Set_Put (v_bits_Set_Put (v_bits_New (70 : Int)) (69 : Int)).2 (69 : Int)).2 (70 : Int)).2 (69 : Int)).2).1 == (1 : Int))
            (.leaf ((v_bits_Set_Count (v_bits_Set_Has (v_bits_Set_Put (v_bits_Set_Put (v_bits_Set_Put (v_bits_New (70 : Int)) (69 : Int)).2 (69 : Int)).2 (70 : Int)).2 (69 : Int)).2).2.1 == (70 : Int)))
          (.leaf false))
        (.leaf false))
      (.leaf false))
    (.leaf false))
  (.leaf false)
def v_law19_alive : Bool :=
  bif (v_bits_Set_Put (v_bits_New (70 : Int)) (69 : Int)).1 then
    bif (! (v_bits_Set_Put (v_bits_Set_Put (v_bits_New (70 : Int)) (69 : Int)).2 (69 : Int)).1) then
      bif (! (v_bits_Set_Put (v_bits_Set_Put (v_bits_Set_Put (v_bits_New (70 : Int)) (69 : Int)).2 (69 : Int)).2 (70 : Int)).1) then
        bif (v_bits_Set_Has (v_bits_Set_Put (v_bits_Set_Put (v_bits_Set_Put (v_bits_New (70 : Int)) (69 : Int)).2 (69 : Int)).2 (70 : Int)).2 (69 : Int)).1 then
          bif ((v_bits_Set_Count (v_bits_Set_Has (v_bits_Set_Put (v_bits_Set_Put (v_bits_Set_Put (v_bits_New (70 : Int)) (69 : Int)).2 (69 : Int)).2 (70 : Int)).2 (69 : Int)).2).1 == (1 : Int)) then
            ((v_bits_Set_Count (v_bits_Set_Has (v_bits_Set_Put (v_bits_Set_Put (v_bits_Set_Put (v_bits_New (70 : Int)) (69 : Int)).2 (69 : Int)).2 (70 : Int)).2 (69 : Int)).2).2.1 == (70 : Int))
          else false
        else false
      else false
    else false
  else false
theorem g_law19_alive : Goes (T_law19_alive) (T0_law19_alive) (v_law19_alive) :=
  Goes.br (
    Goes.br (
      Goes.br (
        Goes.br (
          Goes.br (
            Goes.leaf) (
            Goes.leaf)) (
          Goes.leaf)) (
        Goes.leaf)) (
      Goes.leaf)) (
    Goes.leaf)
def R_law19_alive : Bool → AV := fun (r : Bool) => .d .bool r
def S_law19_alive : Empty → Nat × St := fun j => nomatch j
theorem en_law19_alive (L : Lt) : entryA Go.Proofs.Try.prog (clOf t_law19_alive) tb_law19_alive Go.Proofs.Try.f16 c_law19_alive L (toForms sg_law19_alive (())) = (T0_law19_alive).run (fun v => some (R_law19_alive v, tps (toForms sg_law19_alive (())))) fun j => L (S_law19_alive j).1 (S_law19_alive j).2 := by kernel_rfl
theorem lp_law19_alive : ∀ (L : Lt) (j : Empty), procOf (procsF Go.Proofs.Try.prog (clOf t_law19_alive) tb_law19_alive Go.Proofs.Try.f16 c_law19_alive (toForms sg_law19_alive (()))) (S_law19_alive j).1 L (S_law19_alive j).2 = (T_law19_alive j).run (fun v => some (R_law19_alive v, tps (toForms sg_law19_alive (())))) fun j => L (S_law19_alive j).1 (S_law19_alive j).2 := fun L j => nomatch j
noncomputable def e_law19_alive : Run := entT sg_law19_alive R_law19_alive (fun a => v_law19_alive)
theorem ok_law19_alive : EntOK Go.Proofs.Try.prog 16 e_law19_alive := entT_ok (tb := tb_law19_alive) (c := c_law19_alive) tk_law19_alive (by kernel_rfl) (by kernel_rfl) (by kernel_rfl) (fun a => by kernel_rfl) fun _ => evF_goes (c := c_law19_alive) (K := fun v => (R_law19_alive v, tps (toForms sg_law19_alive (())))) (S := S_law19_alive) (by kernel_rfl) (en_law19_alive) (lp_law19_alive) (g_law19_alive)
theorem co_law19_alive : CallOK Go.Proofs.Try.prog 16 (toForms sg_law19_alive (())) (R_law19_alive (v_law19_alive), tps (toForms sg_law19_alive (()))) := by
  obtain ⟨h1, h2⟩ := clOf_ok tk_law19_alive
  obtain ⟨n, hn⟩ := evF_goes (c := c_law19_alive) (K := fun v => (R_law19_alive v, tps (toForms sg_law19_alive (())))) (S := S_law19_alive) (by kernel_rfl) (en_law19_alive) (lp_law19_alive) (g_law19_alive)
  exact evF_sound (f := 16) (c := c_law19_alive) h1 h2 (by kernel_rfl) (by kernel_rfl) (by kernel_rfl) hn
end
end Go.Ev
end

section
set_option linter.unusedSectionVars false
set_option linter.unusedVariables false
set_option linter.unusedSimpArgs false
set_option maxRecDepth 100000
set_option linter.unusedVariables false
open Go Go.Ev
namespace Go.Ev
noncomputable section
/-! ### paling/palinglaw19.BitsPlays -/
def sg_law19_BitsPlays : Sig := [(false, (.int .i64)), (false, (.sl T_law19_Act))]
noncomputable def t_law19_BitsPlays : Tbl := [(7, e_book_Pick), (8, e_bits_New), (9, e_bits_Set_Has), (10, e_bits_Set_Put), (11, e_bits_Set_Size), (13, e_bits_Set_List), (14, e_law19_list), (12, e_book_SameInts), (15, e_bits_Set_Count), (16, e_law19_alive)]
theorem tk_law19_BitsPlays : ∀ p ∈ t_law19_BitsPlays, EntOK Go.Proofs.Try.prog p.1 p.2 := tbl_cons ok_book_Pick (tbl_cons ok_bits_New (tbl_cons ok_bits_Set_Has (tbl_cons ok_bits_Set_Put (tbl_cons ok_bits_Set_Size (tbl_cons ok_bits_Set_List (tbl_cons ok_law19_list (tbl_cons ok_book_SameInts (tbl_cons ok_bits_Set_Count (tbl_cons ok_law19_alive (tbl_nil))))))))))
noncomputable def c_law19_BitsPlays : Code := Go.Proofs.Try.f3.body.getD .skip
def tb_law19_BitsPlays : Tb := [(9, ⟨[0, 1, 5, 6, 7], []⟩), (11, ⟨[0, 1, 5, 6, 7, 25, 68, 73], []⟩), (16, ⟨[0, 1, 5, 6, 7, 8, 9, 68, 73], []⟩)]
inductive J_law19_BitsPlays where
  | l9 (i : Int) (s : Int) (is : List Bool) (s1 : List (Int × Int))
  | l11 (h : Bool) (i : Int) (s : Int) (is : List Bool) (s1 : List (Int × Int))
  | l16 (k : Int) (in_ : Bool) (i : Int) (s : Int) (is : List Bool) (s1 : List (Int × Int))
def T_law19_BitsPlays (n : Int) (acts : List (El T_law19_Act)) : J_law19_BitsPlays → JT J_law19_BitsPlays (Bool)
  | .l9 i s is s1 =>
    .br (decide (i < (Int.ofNat (List.length acts))))
      (.jmp (.l11 (decide (i < (60 : Int))) i s is s1))
    (.jmp (.l11 false i s is s1))
  | .l11 h i s is s1 =>
    .br h
      (.br ((decide ((0 : Int) ≤ i)) && (decide (i < (Int.ofNat (List.length acts)))))
        (.br ((decide ((0 : Int) ≤ i)) && (decide (i < (Int.ofNat (List.length acts)))))
          (.br ((bitAnd IntKind.i64 (List.getD acts (Int.toNat i) (dflt T_law19_Act)).1 (1 : Int)) == (0 : Int))
            (.br (k_book_Pick (List.getD acts (Int.toNat i) (dflt T_law19_Act)).2 (IntKind.i64.wrap ((v_book_Pick n (200 : Int)) + (2 : Int))))
              (.br (decide ((IntKind.i64.wrap ((v_book_Pick (List.getD acts (Int.toNat i) (dflt T_law19_Act)).2 (IntKind.i64.wrap ((v_book_Pick n (200 : Int)) + (2 : Int)))) - (1 : Int))) ≥ (0 : Int)))
                (.jmp (.l16 (IntKind.i64.wrap ((v_book_Pick (List.getD acts (Int.toNat i) (dflt T_law19_Act)).2 (IntKind.i64.wrap ((v_book_Pick n (200 : Int)) + (2 : Int)))) - (1 : Int))) (decide ((IntKind.i64.wrap ((v_book_Pick (List.getD acts (Int.toNat i) (dflt T_law19_Act)).2 (IntKind.i64.wrap ((v_book_Pick n (200 : Int)) + (2 : Int)))) - (1 : Int))) < (v_book_Pick n (200 : Int)))) i s is s1))
              (.jmp (.l16 (IntKind.i64.wrap ((v_book_Pick (List.getD acts (Int.toNat i) (dflt T_law19_Act)).2 (IntKind.i64.wrap ((v_book_Pick n (200 : Int)) + (2 : Int)))) - (1 : Int))) false i s is s1)))
            (.no))
          (.br (decide ((List.getD acts (Int.toNat i) (dflt T_law19_Act)).2 ≥ (0 : Int)))
            (.jmp (.l16 (List.getD acts (Int.toNat i) (dflt T_law19_Act)).2 (decide ((List.getD acts (Int.toNat i) (dflt T_law19_Act)).2 < (v_book_Pick n (200 : Int)))) i s is s1))
          (.jmp (.l16 (List.getD acts (Int.toNat i) (dflt T_law19_Act)).2 false i s is s1))))
        (.no))
      (.no))
    (.br (s == (v_book_Pick n (200 : Int)))
      (.br (k_bits_Set_List (s, s1))
        (.br (k_law19_list is)
          (.br (k_book_SameInts (v_bits_Set_List (s, s1)).1 (v_law19_list is))
            (.br (v_book_SameInts (v_bits_Set_List (s, s1)).1 (v_law19_list is))
              (.br (k_law19_list is)
                (.br ((v_bits_Set_Count (v_bits_Set_List (s, s1)).2).1 == (Int.ofNat (List.length (v_law19_list is))))
                  (.leaf v_law19_alive)
                (.leaf false))
              (.no))
            (.leaf false))
          (.no))
        (.no))
      (.no))
    (.leaf false))
  | .l16 k in_ i s is s1 =>
    .br in_
      (.br ((decide ((0 : Int) ≤ k)) && (decide (k < (Int.ofNat (List.length is)))))
        (.br (! ((v_bits_Set_Has (s, s1) k).1 == (List.getD is (Int.toNat k) (dflt .bool))))
          (.leaf false)
        (.br in_
          (.br ((decide ((0 : Int) ≤ k)) && (decide (k < (Int.ofNat (List.length is)))))
            (.br (! ((v_bits_Set_Put (v_bits_Set_Has (s, s1) k).2 k).1 == (! (List.getD is (Int.toNat k) (dflt .bool)))))
              (.leaf false)
            (.br in_
              (.br ((decide ((0 : Int) ≤ k)) && (decide (k < (Int.ofNat (List.length is)))))
                (.br (! ((v_bits_Set_Has (v_bits_Set_Put (v_bits_Set_Has (s, s1) k).2 k).2 k).1 == in_))
                  (.leaf false)
                (.jmp (.l9 (IntKind.i64.wrap (i + (1 : Int))) (v_bits_Set_Has (v_bits_Set_Put (v_bits_Set_Has (s, s1) k).2 k).2 k).2.1 (List.set is (Int.toNat k) true) (v_bits_Set_Has (v_bits_Set_Put (v_bits_Set_Has (s, s1) k).2 k).2 k).2.2)))
              (.no))
            (.br (! ((v_bits_Set_Has (v_bits_Set_Put (v_bits_Set_Has (s, s1) k).2 k).2 k).1 == in_))
              (.leaf false)
            (.jmp (.l9 (IntKind.i64.wrap (i + (1 : Int))) (v_bits_Set_Has (v_bits_Set_Put (v_bits_Set_Has (s, s1) k).2 k).2 k).2.1 is (v_bits_Set_Has (v_bits_Set_Put (v_bits_Set_Has (s, s1) k).2 k).2 k).2.2)))))
          (.no))
        (.br (! ((v_bits_Set_Put (v_bits_Set_Has (s, s1) k).2 k).1 == false))
          (.leaf false)
        (.br in_
          (.br ((decide ((0 : Int) ≤ k)) && (decide (k < (Int.ofNat (List.length is)))))
            (.br (! ((v_bits_Set_Has (v_bits_Set_Put (v_bits_Set_Has (s, s1) k).2 k).2 k).1 == in_))
              (.leaf false)
            (.jmp (.l9 (IntKind.i64.wrap (i + (1 : Int))) (v_bits_Set_Has (v_bits_Set_Put (v_bits_Set_Has (s, s1) k).2 k).2 k).2.1 (List.set is (Int.toNat k) true) (v_bits_Set_Has (v_bits_Set_Put (v_bits_Set_Has (s, s1) k).2 k).2 k).2.2)))
          (.no))
        (.br (! ((v_bits_Set_Has (v_bits_Set_Put (v_bits_Set_Has (s, s1) k).2 k).2 k).1 == in_))
          (.leaf false)
        (.jmp (.l9 (IntKind.i64.wrap (i + (1 : Int))) (v_bits_Set_Has (v_bits_Set_Put (v_bits_Set_Has (s, s1) k).2 k).2 k).2.1 is (v_bits_Set_Has (v_bits_Set_Put (v_bits_Set_Has (s, s1) k).2 k).2 k).2.2)))))))
      (.no))
    (.br (! ((v_bits_Set_Has (s, s1) k).1 == false))
      (.leaf false)
    (.br in_
      (.br ((decide ((0 : Int) ≤ k)) && (decide (k < (Int.ofNat (List.length is)))))
        (.br (! ((v_bits_Set_Put (v_bits_Set_Has (s, s1) k).2 k).1 == (! (List.getD is (Int.toNat k) (dflt .bool)))))
          (.leaf false)
        (.br in_
          (.br ((decide ((0 : Int) ≤ k)) && (decide (k < (Int.ofNat (List.length is)))))
            (.br (! ((v_bits_Set_Has (v_bits_Set_Put (v_bits_Set_Has (s, s1) k).2 k).2 k).1 == in_))
              (.leaf false)
            (.jmp (.l9 (IntKind.i64.wrap (i + (1 : Int))) (v_bits_Set_Has (v_bits_Set_Put (v_bits_Set_Has (s, s1) k).2 k).2 k).2.1 (List.set is (Int.toNat k) true) (v_bits_Set_Has (v_bits_Set_Put (v_bits_Set_Has (s, s1) k).2 k).2 k).2.2)))
          (.no))
        (.br (! ((v_bits_Set_Has (v_bits_Set_Put (v_bits_Set_Has (s, s1) k).2 k).2 k).1 == in_))
          (.leaf false)
        (.jmp (.l9 (IntKind.i64.wrap (i + (1 : Int))) (v_bits_Set_Has (v_bits_Set_Put (v_bits_Set_Has (s, s1) k).2 k).2 k).2.1 is (v_bits_Set_Has (v_bits_Set_Put (v_bits_Set_Has (s, s1) k).2 k).2 k).2.2)))))
      (.no))
    (.br (! ((v_bits_Set_Put (v_bits_Set_Has (s, s1) k).2 k).1 == false))
      (.leaf false)
    (.br in_
      (.br ((decide ((0 : Int) ≤ k)) && (decide (k < (Int.ofNat (List.length is)))))
        (.br (! ((v_bits_Set_Has (v_bits_Set_Put (v_bits_Set_Has (s, s1) k).2 k).2 k).1 == in_))
          (.leaf false)
        (.jmp (.l9 (IntKind.i64.wrap (i + (1 : Int))) (v_bits_Set_Has (v_bits_Set_Put (v_bits_Set_Has (s, s1) k).2 k).2 k).2.1 (List.set is (Int.toNat k) true) (v_bits_Set_Has (v_bits_Set_Put (v_bits_Set_Has (s, s1) k).2 k).2 k).2.2)))
      (.no))
    (.br (! ((v_bits_Set_Has (v_bits_Set_Put (v_bits_Set_Has (s, s1) k).2 k).2 k).1 == in_))
      (.leaf false)
    (.jmp (.l9 (IntKind.i64.wrap (i + (1 : Int))) (v_bits_Set_Has (v_bits_Set_Put (v_bits_Set_Has (s, s1) k).2 k).2 k).2.1 is (v_bits_Set_Has (v_bits_Set_Put (v_bits_Set_Has (s, s1) k).2 k).2 k).2.2)))))))
def T0_law19_BitsPlays (n : Int) (acts : List (El T_law19_Act)) : JT J_law19_BitsPlays (Bool) :=
  .br (k_book_Pick n (200 : Int))
    (.br ((((v_book_Pick n (200 : Int)) == (v_book_Pick n (200 : Int))) && (decide ((0 : Int) ≤ (v_book_Pick n (200 : Int))))) && (decide (((v_book_Pick n (200 : Int)) * (1 : Int)) ≤ (limit : Int))))
      (.jmp (.l9 (0 : Int) (v_bits_New (v_book_Pick n (200 : Int))).1 (List.replicate (Int.toNat (v_book_Pick n (200 : Int))) false) (v_bits_New (v_book_Pick n (200 : Int))).2))
    (.no))
  (.no)
def R_law19_BitsPlays : Bool → AV := fun (r : Bool) => .d .bool r
def S_law19_BitsPlays (n : Int) (acts : List (El T_law19_Act)) : J_law19_BitsPlays → Nat × St
  | .l9 i s is s1 => (9, ⟨mkTm 108 [(0, .d (.int .i64) (v_book_Pick n (200 : Int))), (1, .d (.sl T_law19_Act) acts), (5, .pt 6 0 0), (6, .own 7 0 none), (7, .d (.int .i64) i)], [(6, 0, .box 44 [.d (.int .i64) s, .mp 6146 0] none), (7, 0, .row 4 .bool is false), (6146, 0, .map (.int .i64) (.int .u64) s1)]⟩)
  | .l11 h i s is s1 => (11, ⟨mkTm 108 [(0, .d (.int .i64) (v_book_Pick n (200 : Int))), (1, .d (.sl T_law19_Act) acts), (5, .pt 6 0 0), (6, .own 7 0 none), (7, .d (.int .i64) i), (25, .d .bool h)], [(6, 0, .box 44 [.d (.int .i64) s, .mp 6146 0] none), (7, 0, .row 4 .bool is false), (6146, 0, .map (.int .i64) (.int .u64) s1)]⟩)
  | .l16 k in_ i s is s1 => (16, ⟨mkTm 108 [(0, .d (.int .i64) (v_book_Pick n (200 : Int))), (1, .d (.sl T_law19_Act) acts), (5, .pt 6 0 0), (6, .own 7 0 none), (7, .d (.int .i64) i), (8, .d (.int .i64) k), (9, .d .bool in_)], [(6, 0, .box 44 [.d (.int .i64) s, .mp 6146 0] none), (7, 0, .row 4 .bool is false), (6146, 0, .map (.int .i64) (.int .u64) s1)]⟩)
theorem en_law19_BitsPlays (n : Int) (acts : List (El T_law19_Act)) (L : Lt) : entryA Go.Proofs.Try.prog (clOf t_law19_BitsPlays) tb_law19_BitsPlays Go.Proofs.Try.f3 c_law19_BitsPlays L (toForms sg_law19_BitsPlays (n, acts, ())) = (T0_law19_BitsPlays n acts).run (fun v => some (R_law19_BitsPlays v, tps (toForms sg_law19_BitsPlays (n, acts, ())))) fun j => L (S_law19_BitsPlays n acts j).1 (S_law19_BitsPlays n acts j).2 := by kernel_rfl
theorem lp_law19_BitsPlays (n : Int) (acts : List (El T_law19_Act)) : ∀ (L : Lt) (j : J_law19_BitsPlays), procOf (procsF Go.Proofs.Try.prog (clOf t_law19_BitsPlays) tb_law19_BitsPlays Go.Proofs.Try.f3 c_law19_BitsPlays (toForms sg_law19_BitsPlays (n, acts, ()))) (S_law19_BitsPlays n acts j).1 L (S_law19_BitsPlays n acts j).2 = (T_law19_BitsPlays n acts j).run (fun v => some (R_law19_BitsPlays v, tps (toForms sg_law19_BitsPlays (n, acts, ())))) fun j => L (S_law19_BitsPlays n acts j).1 (S_law19_BitsPlays n acts j).2
  | L, .l9 i s is s1 => by kernel_rfl
  | L, .l11 h i s is s1 => by kernel_rfl
  | L, .l16 k in_ i s is s1 => by kernel_rfl
end
end Go.Ev
end

section
set_option linter.unusedSectionVars false
set_option linter.unusedVariables false
set_option linter.unusedSimpArgs false
/- How many bits a word has. -/
set_option linter.unusedVariables false
namespace Go.Ev
namespace Pop
/-- the shift and mask, byte by byte -/
theorem shland {s c d a m : Nat} (hd : d < 256) (hc : c < 2 ^ (8 - s)) (hs : s < 8) :
    ((256 * a + d) >>> s) &&& (256 * m + c) = 256 * ((a >>> s) &&& m) + ((d >>> s) &&& c) := by
  have hc8 : c < 2 ^ 8 := Nat.lt_of_lt_of_le hc (Nat.pow_le_pow_right (by decide) (by omega))
  have hb : (d >>> s) &&& c < 2 ^ 8 := Nat.lt_of_le_of_lt Nat.and_le_right hc8
  apply Nat.eq_of_testBit_eq
  intro j
  rw [show 256 = 2 ^ 8 from rfl, Nat.testBit_two_pow_mul_add _ hb, Nat.testBit_and, Nat.testBit_shiftRight, Nat.testBit_two_pow_mul_add _ (show d < 2 ^ 8 from hd), Nat.testBit_two_pow_mul_add _ hc8]
  by_cases h : j < 8
  · rw [if_pos h, if_pos h, Nat.testBit_and, Nat.testBit_shiftRight]
    by_cases h2 : s + j < 8
    · rw [if_pos h2]
    · have : c.testBit j = false := Nat.testBit_lt_two_pow (Nat.lt_of_lt_of_le hc (Nat.pow_le_pow_right (by decide) (by omega)))
      rw [this, Bool.and_false, Bool.and_false]
  · rw [if_neg h, if_neg h, Nat.testBit_and, Nat.testBit_shiftRight, if_neg (by omega), show s + j - 8 = s + (j - 8) by omega]
/-- one step: pairs, fours -/
def st (s c x : Nat) : Nat := ((x >>> s) &&& c) + (x &&& c)
theorem st_split {s c d a m : Nat} (hd : d < 256) (hc : c < 2 ^ (8 - s)) (hs : s < 8) : st s (256 * m + c) (256 * a + d) = 256 * st s m a + st s c d := by
  unfold st
  have h0 := shland (s := 0) (a := a) (m := m) (c := c) hd (Nat.lt_of_lt_of_le hc (Nat.pow_le_pow_right (by decide) (by omega))) (by omega)
  simp only [Nat.shiftRight_zero] at h0
  rw [shland hd hc hs, h0]
  omega
/-- the third step -/
def st3 (c x : Nat) : Nat := ((x >>> 4) + x) &&& c
theorem st_lt {s c d : Nat} (hc : 2 * c < 256) : st s c d < 256 := by
  unfold st
  have h1 : (d >>> s) &&& c ≤ c := Nat.and_le_right
  have h2 : d &&& c ≤ c := Nat.and_le_right
  omega
def rep (c : Nat) : Nat → Nat
  | 0 => 0
  | n + 1 => 256 * rep c n + c
def digs : Nat → Nat → List Nat
  | 0, _ => []
  | n + 1, x => x % 256 :: digs n (x / 256)
def und : List Nat → Nat
  | [] => 0
  | d :: r => 256 * und r + d
theorem und_digs : ∀ (n x : Nat), x < 256 ^ n → und (digs n x) = x
  | 0, x, h => by simp [digs, und] at *; omega
  | n + 1, x, h => by
    rw [digs, und, und_digs n (x / 256) (by rw [Nat.pow_succ] at h; exact Nat.div_lt_of_lt_mul (by omega))]
    omega
theorem digs_lt : ∀ (n x : Nat), ∀ d ∈ digs n x, d < 256
  | 0, x, d, h => by cases h
  | n + 1, x, d, h => by
    rcases List.mem_cons.1 h with h | h
    · subst h; exact Nat.mod_lt _ (by decide)
    · exact digs_lt n _ d h
theorem digs_length : ∀ (n x : Nat), (digs n x).length = n
  | 0, _ => rfl
  | n + 1, x => by rw [digs, List.length_cons, digs_length n]
theorem st_map {s c : Nat} (hc : c < 2 ^ (8 - s)) (hs : s < 8) : ∀ l : List Nat, (∀ d ∈ l, d < 256) → st s (rep c l.length) (und l) = und (l.map (st s c))
  | [], _ => by simp [st, rep, und]
  | d :: r, h => by
    rw [und, List.length_cons, rep, st_split (h d (by simp)) hc hs, st_map hc hs r (fun x hx => h x (by simp [hx])), List.map_cons, und]
theorem land15 (x : Nat) : x &&& 15 = x % 16 := Nat.and_two_pow_sub_one_eq_mod x 4
/-- the third: nothing carries -/
theorem st3_split {d a m : Nat} (hd : d ≤ 68) (ha : a % 16 ≤ 4) : st3 (256 * m + 15) (256 * a + d) = 256 * st3 m a + st3 15 d := by
  unfold st3
  have e : (256 * a + d) >>> 4 + (256 * a + d) = 256 * ((a >>> 4) + a) + ((a % 16) * 16 + d / 16 + d) := by
    simp only [Nat.shiftRight_eq_div_pow]
    omega
  have h := shland (s := 0) (a := (a >>> 4) + a) (m := m) (c := 15) (d := (a % 16) * 16 + d / 16 + d) (by omega) (by decide) (by decide)
  simp only [Nat.shiftRight_zero] at h
  rw [e, h, land15, land15, Nat.shiftRight_eq_div_pow d]
  omega
theorem st3_map : ∀ l : List Nat, (∀ d ∈ l, d ≤ 68 ∧ d % 16 ≤ 4) → st3 (rep 15 l.length) (und l) = und (l.map (st3 15))
  | [], _ => by simp [st3, rep, und]
  | d :: r, h => by
    have hr : und r % 16 ≤ 4 := by
      cases r with
      | nil => simp [und]
      | cons x r => rw [und]; have := (h x (by simp)).2; omega
    rw [und, List.length_cons, rep, st3_split (h d (by simp)).1 hr, st3_map r (fun x hx => h x (by simp [hx])), List.map_cons, und]
def pop8 (d : Nat) : Nat := st3 15 (st 2 51 (st 1 85 d))
theorem pop8_eq : ∀ d, d < 256 → pop8 d = (List.range 8).countP (fun i => d.testBit i) := by decide +kernel
theorem dig2 : ∀ d, d < 256 → st 1 85 d < 256 ∧ st 2 51 (st 1 85 d) ≤ 68 ∧ st 2 51 (st 1 85 d) % 16 ≤ 4 := by decide +kernel
/-- the steps' last part -/
def lastS (y : Nat) : Nat :=
  let y1 := y + y >>> 8
  let y2 := y1 + y1 >>> 16
  let y3 := y2 + y2 >>> 32
  y3 % 128
def three (x : Nat) : Nat := st3 (rep 15 8) (st 2 (rep 51 8) (st 1 (rep 85 8) x))
theorem three_eq {x : Nat} (h : x < 2 ^ 64) : three x = und ((digs 8 x).map pop8) := by
  unfold three
  have h0 : und (digs 8 x) = x := und_digs 8 x (by simpa using h)
  have hl := digs_length 8 x
  have hd := digs_lt 8 x
  generalize digs 8 x = l at *
  rw [← h0, ← hl, st_map (by decide) (by decide) l hd]
  have e1 : l.length = (l.map (st 1 85)).length := by simp
  rw [e1, st_map (by decide) (by decide) _ (fun d h => by obtain ⟨x, hx, rfl⟩ := List.mem_map.1 h; exact (dig2 x (hd x hx)).1)]
  have e2 : (l.map (st 1 85)).length = ((l.map (st 1 85)).map (st 2 51)).length := by simp
  rw [e2, st3_map _ (fun d h => by
    obtain ⟨y, hy, rfl⟩ := List.mem_map.1 h
    obtain ⟨x, hx, rfl⟩ := List.mem_map.1 hy
    exact (dig2 x (hd x hx)).2)]
  simp only [List.map_map]
  rfl
theorem pop8_le {d : Nat} (h : d < 256) : pop8 d ≤ 8 := by
  rw [pop8_eq d h]
  have := List.countP_le_length (p := fun i => d.testBit i) (l := List.range 8)
  simpa using this
theorem lastS_eq {a b c d e f g h : Nat} (h1 : a ≤ 8) (h2 : b ≤ 8) (h3 : c ≤ 8) (h4 : d ≤ 8) (h5 : e ≤ 8) (h6 : f ≤ 8) (h7 : g ≤ 8) (h8 : h ≤ 8) :
    lastS (und [a, b, c, d, e, f, g, h]) = a + b + c + d + e + f + g + h := by
  have e1 : (und [a, b, c, d, e, f, g, h]) >>> 8 = und [b, c, d, e, f, g, h] := by
    rw [Nat.shiftRight_eq_div_pow, und]; omega
  have e2 : und [a, b, c, d, e, f, g, h] + und [b, c, d, e, f, g, h] = und [a + b, b + c, c + d, d + e, e + f, f + g, g + h, h] := by
    simp only [und]; omega
  have e3 : (und [a + b, b + c, c + d, d + e, e + f, f + g, g + h, h]) >>> 16 = und [c + d, d + e, e + f, f + g, g + h, h] := by
    rw [Nat.shiftRight_eq_div_pow, und, und]; omega
  have e4 : und [a + b, b + c, c + d, d + e, e + f, f + g, g + h, h] + und [c + d, d + e, e + f, f + g, g + h, h] = und [a + b + c + d, b + c + d + e, c + d + e + f, d + e + f + g, e + f + g + h, f + g + h, g + h, h] := by
    simp only [und]; omega
  have e5 : (und [a + b + c + d, b + c + d + e, c + d + e + f, d + e + f + g, e + f + g + h, f + g + h, g + h, h]) >>> 32 = und [e + f + g + h, f + g + h, g + h, h] := by
    rw [Nat.shiftRight_eq_div_pow, und, und, und, und]; omega
  unfold lastS
  simp only [e1, e2, e3, e4, e5]
  have f1 : und [a + b + c + d, b + c + d + e, c + d + e + f, d + e + f + g, e + f + g + h, f + g + h, g + h, h] = 256 * und [b + c + d + e, c + d + e + f, d + e + f + g, e + f + g + h, f + g + h, g + h, h] + (a + b + c + d) := rfl
  have f2 : und [e + f + g + h, f + g + h, g + h, h] = 256 * und [f + g + h, g + h, h] + (e + f + g + h) := rfl
  omega
/-- Bit by bit. -/
def popN (x : Nat) : Nat := (List.range 64).countP fun i => x.testBit i
theorem countP_range_add (p : Nat → Bool) (m n : Nat) : (List.range (m + n)).countP p = (List.range m).countP p + (List.range n).countP fun i => p (m + i) := by
  rw [List.range_add, List.countP_append, List.countP_map]
  rfl
theorem pop_digs : ∀ (n x : Nat), (List.range (8 * n)).countP (fun i => x.testBit i) = ((digs n x).map pop8).sum
  | 0, x => rfl
  | n + 1, x => by
    rw [show 8 * (n + 1) = 8 + 8 * n by omega, countP_range_add, digs, List.map_cons, List.sum_cons, ← pop_digs n, pop8_eq _ (Nat.mod_lt _ (by decide))]
    congr 1
    · refine List.countP_congr fun i hi => ?_
      have := List.mem_range.1 hi
      rw [show 256 = 2 ^ 8 from rfl, Nat.testBit_mod_two_pow]
      simp [this]
    · refine List.countP_congr fun i hi => ?_
      rw [show 256 = 2 ^ 8 from rfl, Nat.testBit_div_two_pow]
      rw [Nat.add_comm]
theorem pop_eq {x : Nat} (h : x < 2 ^ 64) : lastS (three x) = popN x := by
  rw [three_eq h]
  unfold popN
  rw [show 64 = 8 * 8 from rfl, pop_digs]
  have hd := digs_lt 8 x
  have hl := digs_length 8 x
  generalize digs 8 x = l at *
  match l, hl with
  | [a, b, c, d, e, f, g, i], _ =>
    have k : ∀ y ∈ [a, b, c, d, e, f, g, i], pop8 y ≤ 8 := fun y hy => pop8_le (hd y hy)
    simp only [List.map_cons, List.map_nil]
    rw [lastS_eq (k a (by simp)) (k b (by simp)) (k c (by simp)) (k d (by simp)) (k e (by simp)) (k f (by simp)) (k g (by simp)) (k i (by simp))]
    simp only [List.sum_cons, List.sum_nil]
    omega
end Pop
end Go.Ev
end

section
set_option linter.unusedSectionVars false
set_option linter.unusedVariables false
set_option linter.unusedSimpArgs false
/- What a set of small numbers has. -/
set_option linter.unusedVariables false
open Go
namespace Go.Ev

theorem wrapU_lt {n : Nat} (h : n < 2 ^ 64) : IntKind.u64.wrap (n : Int) = (n : Int) := by
  unfold IntKind.wrap
  simp only [IntKind.signed, IntKind.bits, Bool.false_and, Bool.false_eq_true, if_false]
  exact Int.emod_eq_of_lt (by omega) (by exact_mod_cast h)
theorem ofIntU {n : Nat} : BitVec.ofInt 64 (n : Int) = BitVec.ofNat 64 n := BitVec.ofInt_natCast 64 n
theorem bitAnd_eq {a b : Nat} (ha : a < 2 ^ 64) (hb : b < 2 ^ 64) : bitAnd IntKind.u64 (a : Int) (b : Int) = ((a &&& b : Nat) : Int) := by
  unfold bitAnd
  show IntKind.u64.wrap (((BitVec.ofInt 64 (a : Int) &&& BitVec.ofInt 64 (b : Int)).toNat : Nat) : Int) = _
  rw [ofIntU, ofIntU, BitVec.toNat_and, BitVec.toNat_ofNat, BitVec.toNat_ofNat, Nat.mod_eq_of_lt ha, Nat.mod_eq_of_lt hb]
  exact wrapU_lt (Nat.lt_of_le_of_lt Nat.and_le_left ha)
theorem bitOr_eq {a b : Nat} (ha : a < 2 ^ 64) (hb : b < 2 ^ 64) : bitOr IntKind.u64 (a : Int) (b : Int) = ((a ||| b : Nat) : Int) := by
  unfold bitOr
  show IntKind.u64.wrap (((BitVec.ofInt 64 (a : Int) ||| BitVec.ofInt 64 (b : Int)).toNat : Nat) : Int) = _
  rw [ofIntU, ofIntU, BitVec.toNat_or, BitVec.toNat_ofNat, BitVec.toNat_ofNat, Nat.mod_eq_of_lt ha, Nat.mod_eq_of_lt hb]
  exact wrapU_lt (Nat.or_lt_two_pow ha hb)
theorem two_pow_int (j : Nat) : (2 : Int) ^ j = ((2 ^ j : Nat) : Int) := by simp
theorem bitE_eq {w j : Nat} (hw : w < 2 ^ 64) (hj : j < 64) : bitE (w : Int) (j : Int) = w.testBit j := by
  unfold bitE
  rw [wrapU_small hj, Int.toNat_natCast, show min j (IntKind.u64).bits = j from Nat.min_eq_left (by show j ≤ 64; omega), two_pow_int, Int.fdiv_eq_ediv_of_nonneg _ (Int.natCast_nonneg _), ← Int.natCast_ediv]
  rw [show (1 : Int) = ((1 : Nat) : Int) from rfl, bitAnd_eq (Nat.lt_of_le_of_lt (Nat.div_le_self _ _) hw) (by decide), Nat.and_one_is_mod, Nat.testBit_eq_decide_div_mod_eq]
  by_cases h : w / 2 ^ j % 2 = 1
  · rw [h]; simp
  · have : w / 2 ^ j % 2 = 0 := by omega
    rw [this]; simp
theorem withBit_eq {w j : Nat} (hw : w < 2 ^ 64) (hj : j < 64) : withBit (w : Int) (j : Int) = ((w ||| 2 ^ j : Nat) : Int) := by
  unfold withBit
  have hp : 2 ^ j < 2 ^ 64 := Nat.pow_lt_pow_right (by decide) hj
  rw [wrapU_small hj, Int.toNat_natCast, show min j (IntKind.u64).bits = j from Nat.min_eq_left (by show j ≤ 64; omega), two_pow_int, Int.one_mul, wrapU_lt hp, bitOr_eq hw hp]

/-! ### Maps -/
theorem mget_mput_self (k v : Int) : ∀ m : List (Int × Int), mget (kt := .int .i64) k (mput (kt := .int .i64) k v m) = some v
  | [] => by simp [mput, mget, keyEq]
  | (x, u) :: r => by
    by_cases h : k = x
    · subst h; simp [mput, mget, keyEq]
    · have hb : keyEq (.int .i64) k x = false := by show (k == x) = false; simpa using h
      simp only [mput, hb, cond_false, mget]
      exact mget_mput_self k v r
theorem mget_mput_other {k k' : Int} (v : Int) (h : k' ≠ k) : ∀ m : List (Int × Int), mget (kt := .int .i64) k' (mput (kt := .int .i64) k v m) = mget (kt := .int .i64) k' m
  | [] => by
    have hb : keyEq (.int .i64) k' k = false := by show (k' == k) = false; simpa using h
    simp [mput, mget, hb]
  | (x, u) :: r => by
    by_cases hx : k = x
    · subst hx
      have hb : keyEq (.int .i64) k' k = false := by show (k' == k) = false; simpa using h
      have hb2 : keyEq (.int .i64) k k = true := by show (k == k) = true; simp
      simp only [mput, hb2, cond_true, mget, hb, cond_false]
    · have hb : keyEq (.int .i64) k x = false := by show (k == x) = false; simpa using hx
      simp only [mput, hb, cond_false, mget, mget_mput_other v h r]
theorem mget_mem_int {k v : Int} : ∀ {m : List (Int × Int)}, mget (kt := .int .i64) k m = some v → (k, v) ∈ m
  | [], h => by cases h
  | (x, u) :: r, h => by
    by_cases hx : k = x
    · subst hx
      have hb2 : keyEq (.int .i64) k k = true := by show (k == k) = true; simp
      simp only [mget, hb2, cond_true, Option.some.injEq] at h
      subst h
      simp
    · have hb : keyEq (.int .i64) k x = false := by show (k == x) = false; simpa using hx
      simp only [mget, hb, cond_false] at h
      exact List.mem_cons_of_mem _ (mget_mem_int h)
theorem mget_none_int {k : Int} : ∀ {m : List (Int × Int)}, mget (kt := .int .i64) k m = none → k ∉ m.map Prod.fst
  | [], _ => by simp
  | (x, u) :: r, h => by
    by_cases hx : k = x
    · subst hx
      have hb2 : keyEq (.int .i64) k k = true := by show (k == k) = true; simp
      simp only [mget, hb2, cond_true] at h
      cases h
    · have hb : keyEq (.int .i64) k x = false := by show (k == x) = false; simpa using hx
      simp only [mget, hb, cond_false] at h
      simp only [List.map_cons, List.mem_cons, not_or]
      exact ⟨hx, mget_none_int h⟩
theorem mput_mem {k v : Int} {p : Int × Int} : ∀ {m : List (Int × Int)}, p ∈ mput (kt := .int .i64) k v m → p = (k, v) ∨ p ∈ m
  | [], h => by simp [mput] at h; exact .inl h
  | (x, u) :: r, h => by
    by_cases hx : k = x
    · subst hx
      have hb2 : keyEq (.int .i64) k k = true := by show (k == k) = true; simp
      simp only [mput, hb2, cond_true] at h
      rcases List.mem_cons.1 h with h | h
      · exact .inl h
      · exact .inr (List.mem_cons_of_mem _ h)
    · have hb : keyEq (.int .i64) k x = false := by show (k == x) = false; simpa using hx
      simp only [mput, hb, cond_false] at h
      rcases List.mem_cons.1 h with h | h
      · exact .inr (by rw [h]; simp)
      · exact (mput_mem h).imp id (List.mem_cons_of_mem _)
theorem mput_len {k v : Int} : ∀ {m : List (Int × Int)}, (mput (kt := .int .i64) k v m).length ≤ m.length + 1
  | [] => by simp [mput]
  | (x, u) :: r => by
    have := @mput_len k v r
    simp only [mput]
    cases keyEq (.int .i64) k x <;> simp <;> omega

theorem mput_keys_int {k v : Int} : ∀ {m : List (Int × Int)}, (mput (kt := .int .i64) k v m).map Prod.fst = if k ∈ m.map Prod.fst then m.map Prod.fst else m.map Prod.fst ++ [k]
  | [] => by simp [mput]
  | (x, u) :: r => by
    by_cases hx : k = x
    · subst hx
      have hb2 : keyEq (.int .i64) k k = true := by show (k == k) = true; simp
      simp only [mput, hb2, cond_true]
      simp
    · have hb : keyEq (.int .i64) k x = false := by show (k == x) = false; simpa using hx
      simp only [mput, hb, cond_false, List.map_cons, List.mem_cons, hx, false_or]
      rw [@mput_keys_int k v r]
      by_cases h : k ∈ r.map Prod.fst
      · rw [if_pos h, if_pos h]
      · rw [if_neg h, if_neg h]; rfl
theorem mput_nodup_int {k v : Int} {m : List (Int × Int)} (h : (m.map Prod.fst).Nodup) : ((mput (kt := .int .i64) k v m).map Prod.fst).Nodup := by
  rw [mput_keys_int]
  split
  · exact h
  · rename_i hk
    rw [List.nodup_append]
    exact ⟨h, by simp, fun a ha b hb e => by simp at hb; subst hb; subst e; exact hk ha⟩
theorem strict_len : ∀ {l : List Int} {a b : Int}, l.Pairwise (· < ·) → (∀ x ∈ l, a ≤ x ∧ x < b) → a ≤ b → (l.length : Int) ≤ b - a
  | [], a, b, _, _, h => by simp; omega
  | y :: l, a, b, hp, hb, h => by
    rw [List.pairwise_cons] at hp
    have hy := hb y (by simp)
    have := strict_len (l := l) (a := y + 1) (b := b) hp.2 (fun x hx => ⟨hp.1 x hx, (hb x (List.mem_cons_of_mem _ hx)).2⟩) (by omega)
    simp
    omega

/-! ### Sets -/
structure SetOK (s : Int × List (Int × Int)) (n : Nat) (M : Nat → Bool) : Prop where
  size : s.1 = n
  nodup : (s.2.map Prod.fst).Nodup
  words : ∀ p ∈ s.2, ∃ k w : Nat, p = ((k : Int), (w : Int)) ∧ k * 64 < n ∧ w < 2 ^ 64
  bits : ∀ k j : Nat, j < 64 → (wordAt s.2 (k : Int)).toNat.testBit j = M (k * 64 + j)
  lt : ∀ i, M i = true → i < n

theorem SetOK.new (n : Nat) : SetOK ((n : Int), []) n fun _ => false := ⟨rfl, List.nodup_nil, fun p hp => by simp at hp, fun k j _ => by simp [wordAt, mget], fun i h => by cases h⟩
variable {s : Int × List (Int × Int)} {n : Nat} {M : Nat → Bool}
theorem SetOK.word (h : SetOK s n M) (k : Nat) : ∃ w : Nat, wordAt s.2 (k : Int) = (w : Int) ∧ w < 2 ^ 64 := by
  unfold wordAt
  cases hg : mget (kt := .int .i64) (k : Int) s.2 with
  | none => exact ⟨0, rfl, by decide⟩
  | some v =>
    obtain ⟨k', w, e, _, hw⟩ := h.words _ (mget_mem_int hg)
    simp only [Prod.mk.injEq] at e
    exact ⟨w, e.2, hw⟩
theorem placeOf_nat {i : Nat} (hi : i < 4611686018427387904) : placeOf (i : Int) = ((i / 64 : Nat) : Int) := by
  unfold placeOf
  rw [show Int.tdiv (i : Int) 64 = ((i / 64 : Nat) : Int) from rfl, wrap_i64 (by omega) (by omega)]
theorem SetOK.has (h : SetOK s n M) (hn : n < 4611686018427387904) (i : Int) : hasS s i = (decide (0 ≤ i) && M i.toNat) := by
  unfold hasS
  rw [h.size]
  by_cases h0 : 0 ≤ i
  · obtain ⟨j, rfl⟩ := Int.eq_ofNat_of_zero_le h0
    by_cases h1 : j < n
    · rw [decide_eq_true (show (j : Int) ≥ 0 from h0), decide_eq_true (show (j : Int) < (n : Int) by omega), Bool.true_and, Bool.true_and, Bool.true_and, placeOf_nat (by omega)]
      obtain ⟨w, hw, hlt⟩ := h.word (j / 64)
      have hb := h.bits (j / 64) (j % 64) (Nat.mod_lt _ (by decide))
      rw [hw, show Int.tmod (j : Int) 64 = ((j % 64 : Nat) : Int) from rfl, bitE_eq hlt (Nat.mod_lt _ (by decide))]
      rw [hw, Int.toNat_natCast] at hb
      rw [hb, Int.toNat_natCast, Nat.div_add_mod' j 64]
    · rw [decide_eq_false (show ¬ (j : Int) < (n : Int) by omega), Bool.false_and, Bool.and_false]
      have : M (j : Int).toNat = false := by
        rw [Int.toNat_natCast]
        cases hm : M j with
        | true => exact absurd (h.lt j hm) h1
        | false => rfl
      rw [this, Bool.and_false]
  · rw [decide_eq_false (show ¬ i ≥ 0 from h0), Bool.false_and, Bool.false_and]
theorem SetOK.put (h : SetOK s n M) (hn : n < 4611686018427387904) {i : Nat} (hi : i < n) (hM : M i = false) :
    (putS s i).1 = true ∧ SetOK (putS s i).2 n fun j => M j || (j == i) := by
  have hno : ¬ ((i : Int) < 0 ∨ s.1 ≤ (i : Int) ∨ hasS s (i : Int) = true) := by
    rw [h.has hn, h.size, Int.toNat_natCast, hM]
    simp
    omega
  unfold putS
  rw [if_neg hno, placeOf_nat (by omega), show Int.tmod (i : Int) 64 = ((i % 64 : Nat) : Int) from rfl]
  refine ⟨rfl, ?_⟩
  obtain ⟨w, hw, hlt⟩ := h.word (i / 64)
  have hj : i % 64 < 64 := Nat.mod_lt _ (by decide)
  have hp : 2 ^ (i % 64) < 2 ^ 64 := Nat.pow_lt_pow_right (by decide) hj
  rw [hw, withBit_eq hlt hj]
  have hw2 : w ||| 2 ^ (i % 64) < 2 ^ 64 := Nat.or_lt_two_pow hlt hp
  refine ⟨h.size, mput_nodup_int h.nodup, fun p hp => ?_, fun k j hj2 => ?_, fun k hk => ?_⟩
  · rcases mput_mem hp with rfl | hp
    · exact ⟨i / 64, _, rfl, by omega, hw2⟩
    · exact h.words p hp
  · unfold wordAt
    by_cases hk : k = i / 64
    · subst hk
      simp only
      rw [mget_mput_self, Option.getD_some, Int.toNat_natCast, Nat.testBit_or, Nat.testBit_two_pow]
      have hb := h.bits (i / 64) j hj2
      rw [hw, Int.toNat_natCast] at hb
      rw [hb]
      congr 1
      rw [Bool.eq_iff_iff]
      simp
      omega
    · simp only
      rw [mget_mput_other _ (by omega)]
      have hb := h.bits k j hj2
      unfold wordAt at hb
      rw [hb]
      have : (k * 64 + j == i) = false := by simp; omega
      rw [this, Bool.or_false]
  · simp only [Bool.or_eq_true, beq_iff_eq] at hk
    rcases hk with hk | hk
    · exact h.lt k hk
    · omega
theorem SetOK.put_no (h : SetOK s n M) (hn : n < 4611686018427387904) {i : Int} (hi : ¬ (0 ≤ i ∧ i < n ∧ M i.toNat = false)) : putS s i = (false, s) := by
  unfold putS
  rw [if_pos]
  rw [h.has hn, h.size]
  by_cases h0 : i < 0
  · exact .inl h0
  · by_cases h1 : (n : Int) ≤ i
    · exact .inr (.inl h1)
    · refine .inr (.inr ?_)
      have : ¬ M i.toNat = false := fun hf => hi ⟨by omega, by omega, hf⟩
      rw [Bool.not_eq_false] at this
      rw [this, decide_eq_true (by omega)]; rfl

theorem strict_ext : ∀ {l m : List Int}, l.Pairwise (· < ·) → m.Pairwise (· < ·) → (∀ x, x ∈ l ↔ x ∈ m) → l = m
  | [], [], _, _, _ => rfl
  | [], b :: m, _, _, h => by have := (h b).2 (by simp); simp at this
  | a :: l, [], _, _, h => by have := (h a).1 (by simp); simp at this
  | a :: l, b :: m, hl, hm, h => by
    rw [List.pairwise_cons] at hl hm
    have hab : a = b := by
      have h1 := (h a).1 (by simp)
      have h2 := (h b).2 (by simp)
      rcases List.mem_cons.1 h1 with h1 | h1
      · exact h1
      · rcases List.mem_cons.1 h2 with h2 | h2
        · exact h2.symm
        · have := hm.1 a h1; have := hl.1 b h2; omega
    subst hab
    rw [strict_ext hl.2 hm.2 fun x => ⟨fun hx => ?_, fun hx => ?_⟩]
    · have := hl.1 x hx
      rcases List.mem_cons.1 ((h x).1 (List.mem_cons_of_mem _ hx)) with e | e
      · omega
      · exact e
    · have := hm.1 x hx
      rcases List.mem_cons.1 ((h x).2 (List.mem_cons_of_mem _ hx)) with e | e
      · omega
      · exact e

/-- What is so of the first numbers. -/
def listOf (n : Nat) (M : Nat → Bool) : List Int := ((List.range n).filter M).map Int.ofNat
theorem listOf_mem {x : Int} : x ∈ listOf n M ↔ ∃ i : Nat, i < n ∧ M i = true ∧ x = (i : Int) := by
  unfold listOf
  simp only [List.mem_map, List.mem_filter, List.mem_range]
  constructor
  · rintro ⟨i, ⟨h1, h2⟩, rfl⟩; exact ⟨i, h1, h2, rfl⟩
  · rintro ⟨i, h1, h2, rfl⟩; exact ⟨i, ⟨h1, h2⟩, rfl⟩
theorem listOf_strict : (listOf n M).Pairwise (· < ·) := by
  unfold listOf
  rw [List.pairwise_map]
  refine (List.Pairwise.filter M List.pairwise_lt_range).imp fun {a b} h => ?_
  show (a : Int) < (b : Int)
  omega
theorem listOf_congr {M' : Nat → Bool} (h : ∀ i, i < n → M i = M' i) : listOf n M = listOf n M' := by
  unfold listOf
  congr 1
  exact List.filter_congr fun i hi => h i (List.mem_range.1 hi)
theorem SetOK.list (h : SetOK s n M) (hn : n < 4611686018427387904) : listS s = listOf n M := by
  have hkey : ∀ k ∈ s.2.map Prod.fst, ∃ k' : Nat, k = (k' : Int) ∧ k' * 64 < n := fun k hk => by
    obtain ⟨p, hp, rfl⟩ := List.mem_map.1 hk
    obtain ⟨k', w, e, h1, _⟩ := h.words p hp
    exact ⟨k', by rw [e], h1⟩
  have hwl : ∀ k : Nat, k * 64 < n → ∀ x, x ∈ wordList s.2 (k : Int) 0 64 ↔ ∃ j : Nat, j < 64 ∧ M (k * 64 + j) = true ∧ x = ((k * 64 + j : Nat) : Int) := fun k hk x => by
    obtain ⟨w, hw, hlt⟩ := h.word k
    unfold wordList
    rw [hw]
    simp only [List.mem_map, List.mem_filter, List.mem_range'_1]
    have hnum : ∀ j : Nat, j < 64 → numE (k : Int) (j : Int) = ((k * 64 + j : Nat) : Int) := fun j hj => by
      unfold numE
      rw [wrap_i64 (n := (k : Int) * 64) (by omega) (by omega), wrap_i64 (by omega) (by omega)]
      omega
    have hbit : ∀ j : Nat, j < 64 → bitE (w : Int) (j : Int) = M (k * 64 + j) := fun j hj => by
      rw [bitE_eq hlt hj]
      have := h.bits k j hj
      rwa [hw, Int.toNat_natCast] at this
    constructor
    · rintro ⟨j, ⟨hj, hb⟩, rfl⟩
      exact ⟨j, by omega, by rw [← hbit j (by omega)]; exact hb, hnum j (by omega)⟩
    · rintro ⟨j, hj, hb, rfl⟩
      exact ⟨j, ⟨by omega, by rw [hbit j hj]; exact hb⟩, hnum j hj⟩
  have hmem : ∀ {k : Int}, k ∈ (s.2.map Prod.fst).mergeSort (fun x y => decide (x ≤ y)) ↔ k ∈ s.2.map Prod.fst := List.mem_mergeSort
  have tr : ∀ a b c : Int, decide (a ≤ b) = true → decide (b ≤ c) = true → decide (a ≤ c) = true := fun a b c h1 h2 => by simp at *; omega
  have to : ∀ a b : Int, (decide (a ≤ b) || decide (b ≤ a)) = true := fun a b => by simp; omega
  have hs1 := List.pairwise_mergeSort tr to (s.2.map Prod.fst)
  have hs2 : ((s.2.map Prod.fst).mergeSort (fun x y => decide (x ≤ y))).Nodup := (List.mergeSort_perm _ _).nodup_iff.2 h.nodup
  have hst : ((s.2.map Prod.fst).mergeSort (fun x y => decide (x ≤ y))).Pairwise (· < ·) := (hs1.and hs2).imp fun {a b} h => by
    have h1 := h.1; have h2 := h.2; simp at h1; omega
  refine strict_ext ?_ listOf_strict fun x => ?_
  · unfold listS listAt
    rw [List.pairwise_flatMap]
    refine ⟨fun k hk => ?_, ?_⟩
    · obtain ⟨k', rfl, hk'⟩ := hkey k (hmem.1 hk)
      unfold wordList
      rw [List.pairwise_map]
      have hp : ((List.range' 0 64).filter fun i => bitE (wordAt s.2 (k' : Int)) (i : Nat)).Pairwise (· < ·) := List.Pairwise.filter _ (List.pairwise_lt_range' (step := 1) (s := 0) (n := 64) (by omega))
      refine (List.Pairwise.and_mem.1 hp).imp fun {a b} h => ?_
      obtain ⟨ha, hb, hab⟩ := h
      have ha' := (List.mem_range'_1.1 (List.mem_filter.1 ha).1)
      have hb' := (List.mem_range'_1.1 (List.mem_filter.1 hb).1)
      unfold numE
      rw [wrap_i64 (n := (k' : Int) * 64) (by omega) (by omega), wrap_i64 (by omega) (by omega), wrap_i64 (by omega) (by omega)]
      omega
    · refine (List.Pairwise.and_mem.1 hst).imp fun {a b} hab => ?_
      obtain ⟨ha, hb, hlt⟩ := hab
      obtain ⟨a', rfl, ha'⟩ := hkey a (hmem.1 ha)
      obtain ⟨b', rfl, hb'⟩ := hkey b (hmem.1 hb)
      intro x hx y hy
      obtain ⟨j, hj, _, rfl⟩ := (hwl a' ha' x).1 hx
      obtain ⟨j', hj', _, rfl⟩ := (hwl b' hb' y).1 hy
      omega
  · unfold listS listAt
    rw [listOf_mem, List.mem_flatMap]
    constructor
    · rintro ⟨k, hk, hx⟩
      obtain ⟨k', rfl, hk'⟩ := hkey k (hmem.1 hk)
      obtain ⟨j, hj, hM, rfl⟩ := (hwl k' hk' x).1 hx
      exact ⟨_, h.lt _ hM, hM, rfl⟩
    · rintro ⟨i, hi, hM, rfl⟩
      have hb := h.bits (i / 64) (i % 64) (Nat.mod_lt _ (by decide))
      rw [Nat.div_add_mod' i 64, hM] at hb
      refine ⟨((i / 64 : Nat) : Int), hmem.2 ?_, (hwl (i / 64) (by omega) _).2 ⟨i % 64, Nat.mod_lt _ (by decide), by rw [Nat.div_add_mod' i 64]; exact hM, by rw [Nat.div_add_mod' i 64]⟩⟩
      unfold wordAt at hb
      cases hg : mget (kt := .int .i64) ((i / 64 : Nat) : Int) s.2 with
      | none => rw [hg] at hb; simp at hb
      | some v => exact List.mem_map.2 ⟨_, mget_mem_int hg, rfl⟩
/-- So many words. -/
theorem SetOK.few (h : SetOK s n M) : s.2.length ≤ (n + 63) / 64 := by
  have tr : ∀ a b c : Int, decide (a ≤ b) = true → decide (b ≤ c) = true → decide (a ≤ c) = true := fun a b c h1 h2 => by simp at *; omega
  have to : ∀ a b : Int, (decide (a ≤ b) || decide (b ≤ a)) = true := fun a b => by simp; omega
  have hs1 := List.pairwise_mergeSort tr to (s.2.map Prod.fst)
  have hs2 : ((s.2.map Prod.fst).mergeSort (fun x y => decide (x ≤ y))).Nodup := (List.mergeSort_perm _ _).nodup_iff.2 h.nodup
  have hst : ((s.2.map Prod.fst).mergeSort (fun x y => decide (x ≤ y))).Pairwise (· < ·) := (hs1.and hs2).imp fun {a b} h => by
    have h1 := h.1; have h2 := h.2; simp at h1; omega
  have := strict_len (a := 0) (b := (((n + 63) / 64 : Nat) : Int)) hst (fun x hx => by
    obtain ⟨p, hp, rfl⟩ := List.mem_map.1 (List.mem_mergeSort.1 hx)
    obtain ⟨k', w, e, h1, _⟩ := h.words p hp
    rw [e]
    exact ⟨by simp, by simp; omega⟩) (by omega)
  simp at this
  omega
end Go.Ev
end

section
set_option linter.unusedSectionVars false
set_option linter.unusedVariables false
set_option linter.unusedSimpArgs false
/- How many numbers a set has. -/
set_option maxRecDepth 100000
set_option linter.unusedVariables false
set_option linter.unusedSimpArgs false
open Go
namespace Go.Ev
def onesI (x : Int) : Int :=
  let x1 := IntKind.u64.wrap (bitAnd IntKind.u64 (Int.fdiv x (2 ^ (min 1 (IntKind.u64).bits))) 6148914691236517205 + bitAnd IntKind.u64 x 6148914691236517205)
  let x2 := IntKind.u64.wrap (bitAnd IntKind.u64 (Int.fdiv x1 (2 ^ (min 2 (IntKind.u64).bits))) 3689348814741910323 + bitAnd IntKind.u64 x1 3689348814741910323)
  let x3 := bitAnd IntKind.u64 (IntKind.u64.wrap (Int.fdiv x2 (2 ^ (min 4 (IntKind.u64).bits)) + x2)) 1085102592571150095
  let x4 := IntKind.u64.wrap (x3 + Int.fdiv x3 (2 ^ (min 8 (IntKind.u64).bits)))
  let x5 := IntKind.u64.wrap (x4 + Int.fdiv x4 (2 ^ (min 16 (IntKind.u64).bits)))
  let x6 := IntKind.u64.wrap (x5 + Int.fdiv x5 (2 ^ (min 32 (IntKind.u64).bits)))
  bitAnd IntKind.i64 (IntKind.i64.wrap x6) 127
theorem ones_onesI (x : Int) : v_bits_OnesCount64 x = onesI x := by
  unfold v_bits_OnesCount64 onesI
  rfl
theorem fdiv_shift (x s : Nat) (h : s ≤ 64) : Int.fdiv (x : Int) (2 ^ (min s (IntKind.u64).bits)) = ((x >>> s : Nat) : Int) := by
  rw [show min s (IntKind.u64).bits = s from Nat.min_eq_left h, two_pow_int, Int.fdiv_eq_ediv_of_nonneg _ (Int.natCast_nonneg _), ← Int.natCast_ediv, Nat.shiftRight_eq_div_pow]
theorem shift_le (x s : Nat) : x >>> s ≤ x := by rw [Nat.shiftRight_eq_div_pow]; exact Nat.div_le_self _ _
theorem bitAndI_eq {a : Nat} (ha : a < 2 ^ 63) : bitAnd IntKind.i64 (a : Int) 127 = ((a % 128 : Nat) : Int) := by
  unfold bitAnd
  show IntKind.i64.wrap (((BitVec.ofInt 64 (a : Int) &&& BitVec.ofInt 64 ((127 : Nat) : Int)).toNat : Nat) : Int) = _
  rw [ofIntU, ofIntU, BitVec.toNat_and, BitVec.toNat_ofNat, BitVec.toNat_ofNat, Nat.mod_eq_of_lt (show a < 2 ^ 64 by omega), Nat.mod_eq_of_lt (by decide), show (127 : Nat) = 2 ^ 7 - 1 from rfl, Nat.and_two_pow_sub_one_eq_mod]
  rw [wrap_i64 (by omega) (by omega)]
theorem st_small (s c x : Nat) (hc : 2 * c < 2 ^ 64) : Pop.st s c x < 2 ^ 64 := by
  unfold Pop.st
  have h1 : (x >>> s) &&& c ≤ c := Nat.and_le_right
  have h2 : x &&& c ≤ c := Nat.and_le_right
  omega
theorem st_int {s c x : Nat} (hx : x < 2 ^ 64) (hs : s ≤ 64) (hc : 2 * c < 2 ^ 64) : IntKind.u64.wrap (bitAnd IntKind.u64 (Int.fdiv (x : Int) (2 ^ (min s (IntKind.u64).bits))) (c : Int) + bitAnd IntKind.u64 (x : Int) (c : Int)) = ((Pop.st s c x : Nat) : Int) := by
  have := shift_le x s
  have h3 := st_small s c x hc
  rw [fdiv_shift _ _ hs, bitAnd_eq (by omega) (by omega), bitAnd_eq hx (by omega), ← Int.natCast_add]
  exact wrapU_lt h3
theorem up_int {x s : Nat} (hs : s ≤ 64) (h : x + x >>> s < 2 ^ 64) : IntKind.u64.wrap ((x : Int) + Int.fdiv (x : Int) (2 ^ (min s (IntKind.u64).bits))) = ((x + x >>> s : Nat) : Int) := by
  rw [fdiv_shift _ _ hs, ← Int.natCast_add, wrapU_lt h]
theorem ones_eq {x : Nat} (hx : x < 2 ^ 64) : v_bits_OnesCount64 (x : Int) = ((Pop.popN x : Nat) : Int) := by
  rw [ones_onesI, ← Pop.pop_eq hx]
  unfold onesI
  have e1 := st_int (s := 1) (c := 6148914691236517205) hx (by decide) (by decide)
  have l1 := st_small 1 6148914691236517205 x (by decide)
  have e2 := st_int (s := 2) (c := 3689348814741910323) l1 (by decide) (by decide)
  have l2 := st_small 2 3689348814741910323 (Pop.st 1 6148914691236517205 x) (by decide)
  simp only
  rw [show ((6148914691236517205 : Nat) : Int) = 6148914691236517205 from rfl] at e1
  rw [show ((3689348814741910323 : Nat) : Int) = 3689348814741910323 from rfl] at e2
  rw [e1, e2]
  have hy : Pop.st 2 3689348814741910323 (Pop.st 1 6148914691236517205 x) ≤ 3689348814741910323 + 3689348814741910323 := by
    unfold Pop.st
    exact Nat.add_le_add Nat.and_le_right Nat.and_le_right
  have hr0 : Pop.three x = Pop.st3 1085102592571150095 (Pop.st 2 3689348814741910323 (Pop.st 1 6148914691236517205 x)) := rfl
  generalize Pop.st 2 3689348814741910323 (Pop.st 1 6148914691236517205 x) = y at *
  have hsy := shift_le y 4
  have hy16 : y >>> 4 ≤ y / 16 := by rw [Nat.shiftRight_eq_div_pow]; exact Nat.le_refl _
  have e3 : bitAnd IntKind.u64 (IntKind.u64.wrap (Int.fdiv (y : Int) (2 ^ (min 4 (IntKind.u64).bits)) + (y : Int))) 1085102592571150095 = ((Pop.three x : Nat) : Int) := by
    rw [fdiv_shift _ _ (by decide), ← Int.natCast_add, wrapU_lt (by omega), show (1085102592571150095 : Int) = ((1085102592571150095 : Nat) : Int) from rfl, bitAnd_eq (by omega) (by decide), hr0]
    rfl
  rw [e3]
  have hz : Pop.three x ≤ 1085102592571150095 := by rw [hr0]; unfold Pop.st3; exact Nat.and_le_right
  generalize Pop.three x = z at *
  have s1 : z >>> 8 ≤ z / 256 := by rw [Nat.shiftRight_eq_div_pow]; exact Nat.le_refl _
  have f1 : (z + z >>> 8) >>> 16 ≤ (z + z >>> 8) / 65536 := by rw [Nat.shiftRight_eq_div_pow]; exact Nat.le_refl _
  have g1 : (z + z >>> 8 + (z + z >>> 8) >>> 16) >>> 32 ≤ (z + z >>> 8 + (z + z >>> 8) >>> 16) / 4294967296 := by rw [Nat.shiftRight_eq_div_pow]; exact Nat.le_refl _
  rw [up_int (by decide) (by omega), up_int (by decide) (by omega), up_int (by decide) (by omega), wrap_i64 (by omega) (by omega), bitAndI_eq (by omega)]
  rfl
theorem wordList_count {m : List (Int × Int)} {k : Int} {w : Nat} (hw : wordAt m k = (w : Int)) (hl : w < 2 ^ 64) : (wordList m k 0 64).length = Pop.popN w := by
  unfold wordList Pop.popN
  rw [List.length_map, ← List.countP_eq_length_filter, List.range_eq_range']
  refine List.countP_congr fun i hi => ?_
  have : i < 64 := by simpa using hi
  rw [hw, bitE_eq hl this]
theorem SetOK.count {s : Int × List (Int × Int)} {n : Nat} {M : Nat → Bool} (h : SetOK s n M) (hn : n < 1000000000) : cntF s.2 = ((listOf n M).length : Int) := by
  rw [← h.list (by omega)]
  have e1 : ((listS s).length : Int) = (s.2.map fun e => v_bits_OnesCount64 e.2).sum := by
    have key : ∀ (keys : List Int), (((listAt s.2 keys).length : Nat) : Int) = (keys.map fun k => ((wordList s.2 k 0 64).length : Int)).sum := fun keys => by
      induction keys with
      | nil => rfl
      | cons k r ih =>
        have : listAt s.2 (k :: r) = wordList s.2 k 0 64 ++ listAt s.2 r := by unfold listAt; rw [List.flatMap_cons]
        rw [this, List.length_append, Int.natCast_add, ih, List.map_cons, List.sum_cons]
    show (((listAt s.2 _).length : Nat) : Int) = _
    rw [key, sum_perm ((List.mergeSort_perm _ _).map _), List.map_map]
    congr 1
    refine List.map_congr_left fun p hp => ?_
    obtain ⟨k, w, rfl, _, hw⟩ := h.words p hp
    have hg : wordAt s.2 (k : Int) = (w : Int) := by
      unfold wordAt
      rw [mget_mem (kt := .int .i64) rfl h.nodup hp]
      rfl
    show ((wordList s.2 (k : Int) 0 64).length : Int) = v_bits_OnesCount64 (w : Int)
    rw [wordList_count hg hw, ones_eq hw]
  rw [cntF_eq, ← e1]
  have hl : (listS s).length ≤ n := by
    rw [h.list (by omega)]
    unfold listOf
    rw [List.length_map]
    exact Nat.le_trans (List.length_filter_le _ _) (by simp)
  exact wrap_i64 (by omega) (by omega)
end Go.Ev
end

section
set_option linter.unusedSectionVars false
set_option linter.unusedVariables false
set_option linter.unusedSimpArgs false
set_option maxRecDepth 100000
set_option linter.unusedVariables false
open Go Go.Ev
namespace Go.Ev
noncomputable section
/-! ### (*paling/bits.Set).Or -/
def sg_bits_Set_Or_n0 : PSig := [.nilp, .obj 44 [(.d (.int .i64)), (.m (.int .i64) (.int .u64))]]
noncomputable def t_bits_Set_Or_n0 : Tbl := [(13, e_bits_Set_List), (10, e_bits_Set_Put)]
theorem tk_bits_Set_Or_n0 : ∀ p ∈ t_bits_Set_Or_n0, EntOK Go.Proofs.Try.prog p.1 p.2 := tbl_cons ok_bits_Set_List (tbl_cons ok_bits_Set_Put (tbl_nil))
noncomputable def c_bits_Set_Or_n0 : Code := Go.Proofs.Try.f17.body.getD .skip
def tb_bits_Set_Or_n0 : Tb := [(4, ⟨[0, 1, 5, 9, 10, 11], []⟩)]
inductive J_bits_Set_Or_n0 where
  | l4 (more : Bool) (h : Int)
def T_bits_Set_Or_n0 (s : Unit) (o : Int × List (Int × Int)) : J_bits_Set_Or_n0 → JT J_bits_Set_Or_n0 (Bool × Int × List (Int × Int))
  | .l4 more h =>
    .br (decide (h < (Int.ofNat (List.length (v_bits_Set_List o).1))))
      (.br ((decide ((0 : Int) ≤ h)) && (decide (h < (Int.ofNat (List.length (v_bits_Set_List o).1)))))
        (.br (k_bits_Set_Put_n0 () (List.getD (v_bits_Set_List o).1 (Int.toNat h) (dflt (.int .i64))))
          (.br (v_bits_Set_Put_n0 () (List.getD (v_bits_Set_List o).1 (Int.toNat h) (dflt (.int .i64))))
            (.jmp (.l4 true (IntKind.i64.wrap (h + (1 : Int)))))
          (.jmp (.l4 more (IntKind.i64.wrap (h + (1 : Int))))))
        (.no))
      (.no))
    (.leaf (more, (v_bits_Set_List o).2))
def T0_bits_Set_Or_n0 (s : Unit) (o : Int × List (Int × Int)) : JT J_bits_Set_Or_n0 (Bool × Int × List (Int × Int)) :=
  .br (k_bits_Set_List o)
    (.jmp (.l4 false (0 : Int)))
  (.no)
def K_bits_Set_Or_n0 : Bool × Int × List (Int × Int) → Ans := fun (r : Bool × Int × List (Int × Int)) => (.d .bool r.1, [.top, .bx 44 [.d (.int .i64) r.2.1, .mv (.int .i64) (.int .u64) r.2.2]])
def S_bits_Set_Or_n0 (s : Unit) (o : Int × List (Int × Int)) : J_bits_Set_Or_n0 → Nat × St
  | .l4 more h => (4, ⟨mkTm 20 [(0, .cst (.pointer none)), (1, .pt 2 0 0), (5, .d .bool more), (9, .own 10 0 none), (10, .d (.int .i64) (Int.ofNat (List.length (v_bits_Set_List o).1))), (11, .d (.int .i64) h)], [(2, 0, .box 44 [.d (.int .i64) (v_bits_Set_List o).2.1, .mp 2050 0] (some 1)), (10, 0, .row 3 (.int .i64) (v_bits_Set_List o).1 false), (2050, 0, .map (.int .i64) (.int .u64) (v_bits_Set_List o).2.2)]⟩)
theorem en_bits_Set_Or_n0 (s : Unit) (o : Int × List (Int × Int)) (L : Lt) : entryA Go.Proofs.Try.prog (clOf t_bits_Set_Or_n0) tb_bits_Set_Or_n0 Go.Proofs.Try.f17 c_bits_Set_Or_n0 L (toPs sg_bits_Set_Or_n0 (s, o, ())) = (T0_bits_Set_Or_n0 s o).run (fun v => some (K_bits_Set_Or_n0 v)) fun j => L (S_bits_Set_Or_n0 s o j).1 (S_bits_Set_Or_n0 s o j).2 := by kernel_rfl
theorem lp_bits_Set_Or_n0 (s : Unit) (o : Int × List (Int × Int)) : ∀ (L : Lt) (j : J_bits_Set_Or_n0), procOf (procsF Go.Proofs.Try.prog (clOf t_bits_Set_Or_n0) tb_bits_Set_Or_n0 Go.Proofs.Try.f17 c_bits_Set_Or_n0 (toPs sg_bits_Set_Or_n0 (s, o, ()))) (S_bits_Set_Or_n0 s o j).1 L (S_bits_Set_Or_n0 s o j).2 = (T_bits_Set_Or_n0 s o j).run (fun v => some (K_bits_Set_Or_n0 v)) fun j => L (S_bits_Set_Or_n0 s o j).1 (S_bits_Set_Or_n0 s o j).2
  | L, .l4 more h => by kernel_rfl
end
end Go.Ev
end

section
set_option linter.unusedSectionVars false
set_option linter.unusedVariables false
set_option linter.unusedSimpArgs false
set_option maxRecDepth 100000
set_option linter.unusedVariables false
open Go
namespace Go.Ev
def v_bits_Set_Or_n0 (s : Unit) (o : Int × List (Int × Int)) : Bool × Int × List (Int × Int) := (false, o)
def k_bits_Set_Or_n0 (s : Unit) (o : Int × List (Int × Int)) : Bool := k_bits_Set_List o
theorem put_nil (i : Int) : k_bits_Set_Put_n0 () i = true ∧ v_bits_Set_Put_n0 () i = false := by
  unfold k_bits_Set_Put_n0 v_bits_Set_Put_n0
  by_cases h : i < 0
  · rw [decide_eq_true h]; exact ⟨rfl, rfl⟩
  · rw [decide_eq_false h, decide_eq_true (show i ≥ 0 by omega)]; exact ⟨rfl, rfl⟩
theorem g_bits_Set_Or_n0 (s : Unit) (o : Int × List (Int × Int)) (hk : k_bits_Set_Or_n0 s o = true) : Goes (T_bits_Set_Or_n0 s o) (T0_bits_Set_Or_n0 s o) (v_bits_Set_Or_n0 s o) := by
  have hlim : o.2.length * 512 ≤ limit := Nat.le_of_ble_eq_true hk
  have hk : k_bits_Set_List o = true := hk
  have hl : (listS o).length < 4611686018427387904 := by
    have := listAt_length o.2 ((o.2.map Prod.fst).mergeSort fun x y => decide (x ≤ y))
    rw [List.length_mergeSort, List.length_map] at this
    unfold limit at hlim
    show (listAt _ _).length < _
    omega
  have hv : v_bits_Set_List o = (listS o, o) := rfl
  unfold T0_bits_Set_Or_n0 v_bits_Set_Or_n0
  rw [goes_br, if_pos hk]
  generalize hL : listS o = L at hv hl
  have loop : ∀ h, h ≤ L.length → Goes (T_bits_Set_Or_n0 s o) (.jmp (.l4 false (h : Int))) (false, o) := by
    refine down ?_ fun h hh ih => ?_
    · rw [goes_jmp, T_bits_Set_Or_n0, hv, goes_br, if_neg (by rw [lt_len_not (Nat.lt_irrefl _)]; decide)]
      exact .leaf
    · obtain ⟨p1, p2⟩ := put_nil (List.getD L h (dflt (.int .i64)))
      rw [goes_jmp, T_bits_Set_Or_n0, hv, goes_br, if_pos (lt_len hh), goes_br, if_pos (bound_len hh), goes_br, Int.toNat_natCast, if_pos p1, goes_br, p2, if_neg (by decide), wrap_succ (by omega)]
      exact ih
  exact loop 0 (Nat.zero_le _)
end Go.Ev
end

section
set_option linter.unusedSectionVars false
set_option linter.unusedVariables false
set_option linter.unusedSimpArgs false
set_option maxRecDepth 100000
set_option linter.unusedVariables false
open Go Go.Ev
namespace Go.Ev
noncomputable section
noncomputable def e_bits_Set_Or_n0 : Run := entO sg_bits_Set_Or_n0 K_bits_Set_Or_n0 (fun a => k_bits_Set_Or_n0 a.1 a.2.1) (fun a => v_bits_Set_Or_n0 a.1 a.2.1)
theorem ok_bits_Set_Or_n0 : EntOK Go.Proofs.Try.prog 17 e_bits_Set_Or_n0 := entO_ok (tb := tb_bits_Set_Or_n0) (c := c_bits_Set_Or_n0) (noRun_ok (known_of (fn := Go.Proofs.Try.f17) (c := c_bits_Set_Or_n0) (by kernel_rfl) (by kernel_rfl) (by kernel_rfl))) tk_bits_Set_Or_n0 (by kernel_rfl) (by kernel_rfl) (fun a => by kernel_rfl) fun ⟨s, o, _⟩ hk => evF_goes (c := c_bits_Set_Or_n0) (K := K_bits_Set_Or_n0) (S := S_bits_Set_Or_n0 s o) (by kernel_rfl) (en_bits_Set_Or_n0 s o) (lp_bits_Set_Or_n0 s o) (g_bits_Set_Or_n0 s o hk)
end
end Go.Ev
end

section
set_option linter.unusedSectionVars false
set_option linter.unusedVariables false
set_option linter.unusedSimpArgs false
set_option maxRecDepth 100000
set_option linter.unusedVariables false
open Go Go.Ev
namespace Go.Ev
noncomputable section
/-! ### (*paling/bits.Set).Or -/
def sg_bits_Set_Or_n1 : PSig := [.obj 44 [(.d (.int .i64)), (.m (.int .i64) (.int .u64))], .nilp]
noncomputable def t_bits_Set_Or_n1 : Tbl := [(13, e_bits_Set_List), (10, e_bits_Set_Put)]
theorem tk_bits_Set_Or_n1 : ∀ p ∈ t_bits_Set_Or_n1, EntOK Go.Proofs.Try.prog p.1 p.2 := tbl_cons ok_bits_Set_List (tbl_cons ok_bits_Set_Put (tbl_nil))
noncomputable def c_bits_Set_Or_n1 : Code := Go.Proofs.Try.f17.body.getD .skip
def tb_bits_Set_Or_n1 : Tb := [(4, ⟨[0, 5, 9, 10, 11], []⟩)]
inductive J_bits_Set_Or_n1 where
  | l4
def T_bits_Set_Or_n1 (s : Int × List (Int × Int)) (o : Unit) : J_bits_Set_Or_n1 → JT J_bits_Set_Or_n1 (Bool × Int × List (Int × Int))
  | .l4 =>
    .leaf (false, s)
def T0_bits_Set_Or_n1 (s : Int × List (Int × Int)) (o : Unit) : JT J_bits_Set_Or_n1 (Bool × Int × List (Int × Int)) :=
  .jmp (.l4)
def v_bits_Set_Or_n1_l4 (s : Int × List (Int × Int)) (o : Unit) : Bool × Int × List (Int × Int) :=
  (false, s)
theorem g_bits_Set_Or_n1_l4 (s : Int × List (Int × Int)) (o : Unit) : Goes (T_bits_Set_Or_n1 s o) (.jmp (.l4)) (v_bits_Set_Or_n1_l4 s o) :=
  Goes.jmp (Goes.leaf)
def v_bits_Set_Or_n1 (s : Int × List (Int × Int)) (o : Unit) : Bool × Int × List (Int × Int) :=
  v_bits_Set_Or_n1_l4 s o
theorem g_bits_Set_Or_n1 (s : Int × List (Int × Int)) (o : Unit) : Goes (T_bits_Set_Or_n1 s o) (T0_bits_Set_Or_n1 s o) (v_bits_Set_Or_n1 s o) :=
  g_bits_Set_Or_n1_l4 s o
def K_bits_Set_Or_n1 : Bool × Int × List (Int × Int) → Ans := fun (r : Bool × Int × List (Int × Int)) => (.d .bool r.1, [.bx 44 [.d (.int .i64) r.2.1, .mv (.int .i64) (.int .u64) r.2.2], .top])
def S_bits_Set_Or_n1 (s : Int × List (Int × Int)) (o : Unit) : J_bits_Set_Or_n1 → Nat × St
  | .l4 => (4, ⟨mkTm 20 [(0, .pt 1 0 0), (5, .d .bool false), (9, .nil), (10, .d (.int .i64) (0 : Int)), (11, .d (.int .i64) (0 : Int))], [(1, 0, .box 44 [.d (.int .i64) s.1, .mp 1026 0] (some 0)), (1026, 0, .map (.int .i64) (.int .u64) s.2)]⟩)
theorem en_bits_Set_Or_n1 (s : Int × List (Int × Int)) (o : Unit) (L : Lt) : entryA Go.Proofs.Try.prog (clOf t_bits_Set_Or_n1) tb_bits_Set_Or_n1 Go.Proofs.Try.f17 c_bits_Set_Or_n1 L (toPs sg_bits_Set_Or_n1 (s, o, ())) = (T0_bits_Set_Or_n1 s o).run (fun v => some (K_bits_Set_Or_n1 v)) fun j => L (S_bits_Set_Or_n1 s o j).1 (S_bits_Set_Or_n1 s o j).2 := by kernel_rfl
theorem lp_bits_Set_Or_n1 (s : Int × List (Int × Int)) (o : Unit) : ∀ (L : Lt) (j : J_bits_Set_Or_n1), procOf (procsF Go.Proofs.Try.prog (clOf t_bits_Set_Or_n1) tb_bits_Set_Or_n1 Go.Proofs.Try.f17 c_bits_Set_Or_n1 (toPs sg_bits_Set_Or_n1 (s, o, ()))) (S_bits_Set_Or_n1 s o j).1 L (S_bits_Set_Or_n1 s o j).2 = (T_bits_Set_Or_n1 s o j).run (fun v => some (K_bits_Set_Or_n1 v)) fun j => L (S_bits_Set_Or_n1 s o j).1 (S_bits_Set_Or_n1 s o j).2
  | L, .l4 => by kernel_rfl
noncomputable def e_bits_Set_Or_n1 : Run := entO sg_bits_Set_Or_n1 K_bits_Set_Or_n1 (fun a => true) (fun a => v_bits_Set_Or_n1 a.1 a.2.1) e_bits_Set_Or_n0
theorem ok_bits_Set_Or_n1 : EntOK Go.Proofs.Try.prog 17 e_bits_Set_Or_n1 := entO_ok (tb := tb_bits_Set_Or_n1) (c := c_bits_Set_Or_n1) ok_bits_Set_Or_n0 tk_bits_Set_Or_n1 (by kernel_rfl) (by kernel_rfl) (fun a => by kernel_rfl) fun ⟨s, o, _⟩ hk => evF_goes (c := c_bits_Set_Or_n1) (K := K_bits_Set_Or_n1) (S := S_bits_Set_Or_n1 s o) (by kernel_rfl) (en_bits_Set_Or_n1 s o) (lp_bits_Set_Or_n1 s o) (g_bits_Set_Or_n1 s o)
end
end Go.Ev
end

section
set_option linter.unusedSectionVars false
set_option linter.unusedVariables false
set_option linter.unusedSimpArgs false
set_option maxRecDepth 100000
set_option linter.unusedVariables false
open Go Go.Ev
namespace Go.Ev
noncomputable section
/-! ### (*paling/bits.Set).Or -/
def sg_bits_Set_Or : PSig := [.obj 44 [(.d (.int .i64)), (.m (.int .i64) (.int .u64))], .obj 44 [(.d (.int .i64)), (.m (.int .i64) (.int .u64))]]
noncomputable def t_bits_Set_Or : Tbl := [(13, e_bits_Set_List), (10, e_bits_Set_Put)]
theorem tk_bits_Set_Or : ∀ p ∈ t_bits_Set_Or, EntOK Go.Proofs.Try.prog p.1 p.2 := tbl_cons ok_bits_Set_List (tbl_cons ok_bits_Set_Put (tbl_nil))
noncomputable def c_bits_Set_Or : Code := Go.Proofs.Try.f17.body.getD .skip
def tb_bits_Set_Or : Tb := [(4, ⟨[0, 1, 5, 9, 10, 11], []⟩)]
inductive J_bits_Set_Or where
  | l4 (more : Bool) (h : Int) (s1 : Int) (s2 : List (Int × Int))
def T_bits_Set_Or (s : Int × List (Int × Int)) (o : Int × List (Int × Int)) : J_bits_Set_Or → JT J_bits_Set_Or (Bool × (Int × List (Int × Int)) × Int × List (Int × Int))
  | .l4 more h s1 s2 =>
    .br (decide (h < (Int.ofNat (List.length (v_bits_Set_List o).1))))
      (.br ((decide ((0 : Int) ≤ h)) && (decide (h < (Int.ofNat (List.length (v_bits_Set_List o).1)))))
        (.br (v_bits_Set_Put (s1, s2) (List.getD (v_bits_Set_List o).1 (Int.toNat h) (dflt (.int .i64)))).1
          (.jmp (.l4 true (IntKind.i64.wrap (h + (1 : Int))) (v_bits_Set_Put (s1, s2) (List.getD (v_bits_Set_List o).1 (Int.toNat h) (dflt (.int .i64)))).2.1 (v_bits_Set_Put (s1, s2) (List.getD (v_bits_Set_List o).1 (Int.toNat h) (dflt (.int .i64)))).2.2))
        (.jmp (.l4 more (IntKind.i64.wrap (h + (1 : Int))) (v_bits_Set_Put (s1, s2) (List.getD (v_bits_Set_List o).1 (Int.toNat h) (dflt (.int .i64)))).2.1 (v_bits_Set_Put (s1, s2) (List.getD (v_bits_Set_List o).1 (Int.toNat h) (dflt (.int .i64)))).2.2)))
      (.no))
    (.leaf (more, ((s1, s2), (v_bits_Set_List o).2)))
def T0_bits_Set_Or (s : Int × List (Int × Int)) (o : Int × List (Int × Int)) : JT J_bits_Set_Or (Bool × (Int × List (Int × Int)) × Int × List (Int × Int)) :=
  .br (k_bits_Set_List o)
    (.jmp (.l4 false (0 : Int) s.1 s.2))
  (.no)
def K_bits_Set_Or : Bool × (Int × List (Int × Int)) × Int × List (Int × Int) → Ans := fun (r : Bool × (Int × List (Int × Int)) × Int × List (Int × Int)) => (.d .bool r.1, [.bx 44 [.d (.int .i64) r.2.1.1, .mv (.int .i64) (.int .u64) r.2.1.2], .bx 44 [.d (.int .i64) r.2.2.1, .mv (.int .i64) (.int .u64) r.2.2.2]])
def S_bits_Set_Or (s : Int × List (Int × Int)) (o : Int × List (Int × Int)) : J_bits_Set_Or → Nat × St
  | .l4 more h s1 s2 => (4, ⟨mkTm 20 [(0, .pt 1 0 0), (1, .pt 2 0 0), (5, .d .bool more), (9, .own 10 0 none), (10, .d (.int .i64) (Int.ofNat (List.length (v_bits_Set_List o).1))), (11, .d (.int .i64) h)], [(1, 0, .box 44 [.d (.int .i64) s1, .mp 1026 0] (some 0)), (2, 0, .box 44 [.d (.int .i64) (v_bits_Set_List o).2.1, .mp 2050 0] (some 1)), (10, 0, .row 3 (.int .i64) (v_bits_Set_List o).1 false), (1026, 0, .map (.int .i64) (.int .u64) s2), (2050, 0, .map (.int .i64) (.int .u64) (v_bits_Set_List o).2.2)]⟩)
theorem en_bits_Set_Or (s : Int × List (Int × Int)) (o : Int × List (Int × Int)) (L : Lt) : entryA Go.Proofs.Try.prog (clOf t_bits_Set_Or) tb_bits_Set_Or Go.Proofs.Try.f17 c_bits_Set_Or L (toPs sg_bits_Set_Or (s, o, ())) = (T0_bits_Set_Or s o).run (fun v => some (K_bits_Set_Or v)) fun j => L (S_bits_Set_Or s o j).1 (S_bits_Set_Or s o j).2 := by kernel_rfl
theorem lp_bits_Set_Or (s : Int × List (Int × Int)) (o : Int × List (Int × Int)) : ∀ (L : Lt) (j : J_bits_Set_Or), procOf (procsF Go.Proofs.Try.prog (clOf t_bits_Set_Or) tb_bits_Set_Or Go.Proofs.Try.f17 c_bits_Set_Or (toPs sg_bits_Set_Or (s, o, ()))) (S_bits_Set_Or s o j).1 L (S_bits_Set_Or s o j).2 = (T_bits_Set_Or s o j).run (fun v => some (K_bits_Set_Or v)) fun j => L (S_bits_Set_Or s o j).1 (S_bits_Set_Or s o j).2
  | L, .l4 more h s1 s2 => by kernel_rfl
end
end Go.Ev
end

section
set_option linter.unusedSectionVars false
set_option linter.unusedVariables false
set_option linter.unusedSimpArgs false
set_option maxRecDepth 100000
set_option linter.unusedVariables false
open Go
namespace Go.Ev
/-- Numbers put into a set, one by one; is any of them new? -/
def putAll : Bool → Int × List (Int × Int) → List Int → Bool × Int × List (Int × Int)
  | more, s, [] => (more, s)
  | more, s, i :: r => putAll (more || (putS s i).1) (putS s i).2 r
def v_bits_Set_Or (s o : Int × List (Int × Int)) : Bool × (Int × List (Int × Int)) × Int × List (Int × Int) := ((putAll false s (listS o)).1, (putAll false s (listS o)).2, o)
def k_bits_Set_Or (s o : Int × List (Int × Int)) : Bool := k_bits_Set_List o
theorem listS_short {o : Int × List (Int × Int)} (hk : k_bits_Set_List o = true) : (listS o).length < 4611686018427387904 := by
  have hlim : o.2.length * 512 ≤ limit := Nat.le_of_ble_eq_true hk
  have := listAt_length o.2 ((o.2.map Prod.fst).mergeSort fun x y => decide (x ≤ y))
  rw [List.length_mergeSort, List.length_map] at this
  unfold limit at hlim
  show (listAt _ _).length < _
  omega
theorem g_bits_Set_Or (s o : Int × List (Int × Int)) (hk : k_bits_Set_Or s o = true) : Goes (T_bits_Set_Or s o) (T0_bits_Set_Or s o) (v_bits_Set_Or s o) := by
  have hl := listS_short hk
  have hk : k_bits_Set_List o = true := hk
  have hv : v_bits_Set_List o = (listS o, o) := rfl
  unfold T0_bits_Set_Or v_bits_Set_Or
  rw [goes_br, if_pos hk]
  generalize hL : listS o = L at hv hl
  have loop : ∀ h, h ≤ L.length → ∀ (more : Bool) (s1 : Int × List (Int × Int)), Goes (T_bits_Set_Or s o) (.jmp (.l4 more (h : Int) s1.1 s1.2)) ((putAll more s1 (L.drop h)).1, (putAll more s1 (L.drop h)).2, o) := by
    refine down ?_ fun h hh ih => ?_
    · intro more s1
      rw [goes_jmp, T_bits_Set_Or, hv, goes_br, if_neg (by rw [lt_len_not (Nat.lt_irrefl _)]; decide), List.drop_length]
      exact .leaf
    · intro more s1
      rw [goes_jmp, T_bits_Set_Or, hv, goes_br, if_pos (lt_len hh), goes_br, if_pos (bound_len hh), goes_br, Int.toNat_natCast, getD_lt hh, wrap_succ (by omega), drop_cons hh]
      have hp : v_bits_Set_Put (s1.1, s1.2) L[h] = putS s1 L[h] := rfl
      rw [hp]
      show if (putS s1 L[h]).1 = true then _ else _
      unfold putAll
      by_cases hb : (putS s1 L[h]).1 = true
      · rw [if_pos hb, hb, Bool.or_true]
        exact ih true (putS s1 L[h]).2
      · rw [if_neg hb, Bool.eq_false_iff.2 hb, Bool.or_false]
        exact ih more (putS s1 L[h]).2
  have := loop 0 (Nat.zero_le _) false s
  rwa [List.drop_zero] at this
end Go.Ev
end

section
set_option linter.unusedSectionVars false
set_option linter.unusedVariables false
set_option linter.unusedSimpArgs false
set_option maxRecDepth 100000
set_option linter.unusedVariables false
open Go Go.Ev
namespace Go.Ev
noncomputable section
noncomputable def e_bits_Set_Or : Run := entO sg_bits_Set_Or K_bits_Set_Or (fun a => k_bits_Set_Or a.1 a.2.1) (fun a => v_bits_Set_Or a.1 a.2.1) e_bits_Set_Or_n1
theorem ok_bits_Set_Or : EntOK Go.Proofs.Try.prog 17 e_bits_Set_Or := entO_ok (tb := tb_bits_Set_Or) (c := c_bits_Set_Or) ok_bits_Set_Or_n1 tk_bits_Set_Or (by kernel_rfl) (by kernel_rfl) (fun a => by kernel_rfl) fun ⟨s, o, _⟩ hk => evF_goes (c := c_bits_Set_Or) (K := K_bits_Set_Or) (S := S_bits_Set_Or s o) (by kernel_rfl) (en_bits_Set_Or s o) (lp_bits_Set_Or s o) (g_bits_Set_Or s o hk)
end
end Go.Ev
end

section
set_option linter.unusedSectionVars false
set_option linter.unusedVariables false
set_option linter.unusedSimpArgs false
set_option maxRecDepth 100000
set_option linter.unusedVariables false
open Go Go.Ev
namespace Go.Ev
noncomputable section
/-! ### (*paling/bits.Set).Copy -/
def sg_bits_Set_Copy_n0 : PSig := [.nilp]
noncomputable def t_bits_Set_Copy_n0 : Tbl := [(8, e_bits_New)]
theorem tk_bits_Set_Copy_n0 : ∀ p ∈ t_bits_Set_Copy_n0, EntOK Go.Proofs.Try.prog p.1 p.2 := tbl_cons ok_bits_New (tbl_nil)
noncomputable def c_bits_Set_Copy_n0 : Code := Go.Proofs.Try.f18.body.getD .skip
def tb_bits_Set_Copy_n0 : Tb := []
def T_bits_Set_Copy_n0 (s : Unit) : Empty → JT Empty (Unit) := fun j => nomatch j
def T0_bits_Set_Copy_n0 (s : Unit) : JT Empty (Unit) :=
  .leaf ()
def v_bits_Set_Copy_n0 (s : Unit) : Unit :=
  ()
theorem g_bits_Set_Copy_n0 (s : Unit) : Goes (T_bits_Set_Copy_n0 s) (T0_bits_Set_Copy_n0 s) (v_bits_Set_Copy_n0 s) :=
  Goes.leaf
def K_bits_Set_Copy_n0 : Unit → Ans := fun (r : Unit) => (.cst (.pointer none), [.top])
def S_bits_Set_Copy_n0 (s : Unit) : Empty → Nat × St := fun j => nomatch j
theorem en_bits_Set_Copy_n0 (s : Unit) (L : Lt) : entryA Go.Proofs.Try.prog (clOf t_bits_Set_Copy_n0) tb_bits_Set_Copy_n0 Go.Proofs.Try.f18 c_bits_Set_Copy_n0 L (toPs sg_bits_Set_Copy_n0 (s, ())) = (T0_bits_Set_Copy_n0 s).run (fun v => some (K_bits_Set_Copy_n0 v)) fun j => L (S_bits_Set_Copy_n0 s j).1 (S_bits_Set_Copy_n0 s j).2 := by kernel_rfl
theorem lp_bits_Set_Copy_n0 (s : Unit) : ∀ (L : Lt) (j : Empty), procOf (procsF Go.Proofs.Try.prog (clOf t_bits_Set_Copy_n0) tb_bits_Set_Copy_n0 Go.Proofs.Try.f18 c_bits_Set_Copy_n0 (toPs sg_bits_Set_Copy_n0 (s, ()))) (S_bits_Set_Copy_n0 s j).1 L (S_bits_Set_Copy_n0 s j).2 = (T_bits_Set_Copy_n0 s j).run (fun v => some (K_bits_Set_Copy_n0 v)) fun j => L (S_bits_Set_Copy_n0 s j).1 (S_bits_Set_Copy_n0 s j).2 := fun L j => nomatch j
noncomputable def e_bits_Set_Copy_n0 : Run := entO sg_bits_Set_Copy_n0 K_bits_Set_Copy_n0 (fun a => true) (fun a => v_bits_Set_Copy_n0 a.1)
theorem ok_bits_Set_Copy_n0 : EntOK Go.Proofs.Try.prog 18 e_bits_Set_Copy_n0 := entO_ok (tb := tb_bits_Set_Copy_n0) (c := c_bits_Set_Copy_n0) (noRun_ok (known_of (fn := Go.Proofs.Try.f18) (c := c_bits_Set_Copy_n0) (by kernel_rfl) (by kernel_rfl) (by kernel_rfl))) tk_bits_Set_Copy_n0 (by kernel_rfl) (by kernel_rfl) (fun a => by kernel_rfl) fun ⟨s, _⟩ hk => evF_goes (c := c_bits_Set_Copy_n0) (K := K_bits_Set_Copy_n0) (S := S_bits_Set_Copy_n0 s) (by kernel_rfl) (en_bits_Set_Copy_n0 s) (lp_bits_Set_Copy_n0 s) (g_bits_Set_Copy_n0 s)
end
end Go.Ev
end

section
set_option linter.unusedSectionVars false
set_option linter.unusedVariables false
set_option linter.unusedSimpArgs false
set_option maxRecDepth 100000
set_option linter.unusedVariables false
open Go Go.Ev
namespace Go.Ev
/-! ### (*bits.Set).Copy: by hand: the words in whatever order -/
def sg_bits_Set_Copy : PSig := [.obj 44 [(.d (.int .i64)), (.m (.int .i64) (.int .u64))]]
abbrev CpL := List (El (.int .i64) × El (.int .u64))
def v_bits_Set_Copy (s : Int × CpL) : (Int × CpL) × Int × CpL := (((v_bits_New s.1).1, s.2), s)
def K_bits_Set_Copy : (Int × CpL) × Int × CpL → Ans := fun r => (.bx 44 [.d (.int .i64) r.1.1, .mv (.int .i64) (.int .u64) r.1.2], [.bx 44 [.d (.int .i64) r.2.1, .mv (.int .i64) (.int .u64) r.2.2]])
def cpM (l : CpL) : CpL := l.foldl (fun m e => mput (kt := (.int .i64)) e.1 e.2 m) []
theorem cpM_from : ∀ (l m : CpL), ((m ++ l).map Prod.fst).Nodup → l.foldl (fun m e => mput (kt := (.int .i64)) e.1 e.2 m) m = m ++ l
  | [], m, _ => by simp
  | e :: r, m, h => by
    have hn : e.1 ∉ m.map Prod.fst := by
      rw [List.map_append, List.nodup_append] at h
      intro hm
      exact h.2.2 _ hm _ (by simp) rfl
    rw [List.foldl_cons, mput_new (kt := .int .i64) rfl hn, cpM_from r _ (by simpa using h), List.append_assoc]
    rfl
theorem cpM_eq {l : CpL} (h : (l.map Prod.fst).Nodup) : cpM l = l := cpM_from l [] (by simpa using h)
section
noncomputable def cpBody : Code := Go.Proofs.Try.f18.body.getD .skip
noncomputable def cpR : Code := fstC (sndC (sndC (sndC cpBody)))
noncomputable def cpX : RangeText := rangeText (sndC cpR)
noncomputable def cpTail : Code := sndC (sndC (sndC (sndC cpBody)))
noncomputable def cpTbl : Tbl := [(8, e_bits_New)]
theorem cpTbl_ok : ∀ p ∈ cpTbl, EntOK Go.Proofs.Try.prog p.1 p.2 := tbl_cons ok_bits_New tbl_nil
def cpLab0 : Lab := ⟨[0], []⟩
def cpLab1 : Lab := ⟨[0, 3], []⟩
def cpLab2 : Lab := ⟨[0, 3, 17], []⟩
def cpObs (s : Int × CpL) : List (Id × Nat × Obj) := [(1, 0, .box 44 [.d (.int .i64) s.1, .mp 1026 0] (some 0)), (1026, 0, .map (.int .i64) (.int .u64) s.2)]
def cpA (s : Int × CpL) : St := ⟨mkTm 30 [(0, .pt 1 0 0)], cpObs s⟩
def cpB (s : Int × CpL) (m : CpL) : St := ⟨mkTm 30 [(0, .pt 1 0 0), (3, .pt 4 0 0)], [(1, 0, .box 44 [.d (.int .i64) s.1, .mp 1026 0] (some 0)), (4, 0, .box 44 [.d (.int .i64) (v_bits_New s.1).1, .mp 4098 0] none), (1026, 0, .map (.int .i64) (.int .u64) s.2), (4098, 0, .map (.int .i64) (.int .u64) m)]⟩
def cpK (s : Int × CpL) (v : Value) (m : CpL) : St := ⟨mkTm 30 [(0, .pt 1 0 0), (3, .pt 4 0 0), (17, .cst v)], [(1, 0, .box 44 [.d (.int .i64) s.1, .mp 1026 0] (some 0)), (4, 0, .box 44 [.d (.int .i64) (v_bits_New s.1).1, .mp 4098 0] none), (1026, 0, .gone (some 1000)), (4098, 0, .map (.int .i64) (.int .u64) m)]⟩
def cpI (s : Int × CpL) (v : Value) (done : CpL) : St := cpK s v (cpM done)
def cpT (s : Int × CpL) (v : Value) (done : CpL) (e : El (.int .i64) × El (.int .u64)) : St := ((cpI s v done).put (some 18) (.tu [mkB true, .d (.int .i64) e.1, .d (.int .u64) e.2])).put (some 19) (mkB true)
def cpU (s : Int × CpL) (v : Value) (done : CpL) (e : El (.int .i64) × El (.int .u64)) : St := (((((cpT s v done e).put (some 20) (.tu [.d (.int .i64) e.1, .d (.int .u64) e.2])).put (some 21) (.d (.int .i64) e.1)).put (some 22) (.d (.int .u64) e.2)).put (some 4) (.d (.int .i64) e.1)).put (some 5) (.d (.int .u64) e.2)
def cpE (s : Int × CpL) (v : Value) (done : CpL) : St := ((cpI s v done).put (some 18) (.tu [mkB false])).put (some 19) (mkB false)
def cpU' (s : Int × CpL) (v : Value) (m : CpL) (e : El (.int .i64) × El (.int .u64)) : St := (((((((cpK s v m).put (some 18) (.tu [mkB true, .d (.int .i64) e.1, .d (.int .u64) e.2])).put (some 19) (mkB true)).put (some 20) (.tu [.d (.int .i64) e.1, .d (.int .u64) e.2])).put (some 21) (.d (.int .i64) e.1)).put (some 22) (.d (.int .u64) e.2)).put (some 4) (.d (.int .i64) e.1)).put (some 5) (.d (.int .u64) e.2)
def cpN (s : Int × CpL) : St := ((((cpB s []).put (some 13) (.pt 1 0 0)).put (some 14) (.pt 1 0 0)).put (some 15) (.pt 1 0 1)).put (some 16) (.mp 1026 0)

theorem cpX_ok : cpX.OK := ⟨by kernel_rfl, by kernel_rfl, by kernel_rfl, by kernel_rfl, by kernel_rfl, by kernel_rfl, by kernel_rfl, by kernel_rfl, by kernel_rfl⟩
theorem cp_round (s : Int × CpL) (v : Value) (m : CpL) (e : El (.int .i64) × El (.int .u64)) (L : Lt) (k : Kt) (x : Nat → Kt) (r : Kt) :
    evC Go.Proofs.Try.prog (clOf cpTbl) [] L cpX.cr 0 (fun t => k (norm Go.Proofs.Try.prog cpLab2 t)) x r (cpU' s v m e) = k (cpK s v (mput (kt := (.int .i64)) e.1 e.2 m)) := by kernel_rfl
theorem cp_ev (s : Int × CpL) : RangeEv Go.Proofs.Try.prog (clOf cpTbl) cpX s.2 cpLab2 1026 1000 (cpI s) (cpE s) (cpT s) (cpU s) where
  it := fun v done => by kernel_rfl
  r1 := fun v done e k => by kernel_rfl
  rt := fun v done e => by kernel_rfl
  re := fun v done e => by kernel_rfl
  r2 := fun v done e k => by kernel_rfl
  r3 := fun v done e rest hp L k x r => by
    refine Eq.trans (cp_round s v (cpM done) e L k x r) ?_
    unfold cpI
    rw [show cpM (done ++ [e]) = mput (kt := (.int .i64)) e.1 e.2 (cpM done) from by unfold cpM; rw [List.foldl_append]; rfl]
  f1 := fun v done k => by kernel_rfl
  ft := fun v done => by kernel_rfl
theorem cp_body : cpBody = .seq (fstC cpBody) (.seq (fstC (sndC cpBody)) (.seq (fstC (sndC (sndC cpBody))) (.seq (.seq (.region (ridC (fstC cpR)) (ropsC (fstC cpR)) false) cpX.code) cpTail))) := by kernel_rfl
theorem cp_a (s : Int × CpL) (L : Lt) (k : Kt) (x : Nat → Kt) (r : Kt) : evC Go.Proofs.Try.prog (clOf cpTbl) [] L (fstC cpBody) 0 (fun t => k (norm Go.Proofs.Try.prog cpLab0 t)) x r (cpA s) = k (cpA s) := by kernel_rfl
theorem cp_b (s : Int × CpL) (L : Lt) (k : Kt) (x : Nat → Kt) (r : Kt) : evC Go.Proofs.Try.prog (clOf cpTbl) [] L (fstC (sndC cpBody)) 0 (fun t => k (norm Go.Proofs.Try.prog cpLab0 t)) x r (cpA s) = k (cpA s) := by kernel_rfl
theorem cp_c (s : Int × CpL) (L : Lt) (k : Kt) (x : Nat → Kt) (r : Kt) : evC Go.Proofs.Try.prog (clOf cpTbl) [] L (fstC (sndC (sndC cpBody))) 0 (fun t => k (norm Go.Proofs.Try.prog cpLab1 t)) x r (cpA s) = k (cpB s []) := by kernel_rfl
def mapKV2 (P : Program) (T : TypeId) : TypeId × TypeId := match P.underlying T with | some (.map K V) => (K, V) | _ => (0, 0)
theorem cp_end (s : Int × CpL) (m : CpL) (L : Lt) : evC Go.Proofs.Try.prog (clOf cpTbl) [] L cpTail 0 (finA Go.Proofs.Try.prog [] Go.Proofs.Try.f18 (toPs sg_bits_Set_Copy (s, ()))) (fun _ _ => none) (finA Go.Proofs.Try.prog [] Go.Proofs.Try.f18 (toPs sg_bits_Set_Copy (s, ()))) (cpB s m) = some (K_bits_Set_Copy (((v_bits_New s.1).1, m), s)) := by kernel_rfl

theorem callOK_bits_Set_Copy (s : Int × CpL) : CallOK Go.Proofs.Try.prog 18 (toPs sg_bits_Set_Copy (s, ())) (K_bits_Set_Copy (v_bits_Set_Copy s)) := by
  obtain ⟨hcl, hdet⟩ := clOf_ok (P := Go.Proofs.Try.prog) cpTbl_ok
  refine callOK_of_wp (tb := []) (fn := Go.Proofs.Try.f18) (c := cpBody) (vs := [.pt 1 0 0]) (st := ⟨[], cpObs s⟩) (by kernel_rfl) (by kernel_rfl) (by kernel_rfl) ?_
  intro _ Mod F0 w0 a w hr
  have hr : Rel Mod F0 w0 (cpA s) a w := hr
  have hnd : (s.2.map Prod.fst).Nodup := map_nodup (id := 1026) (ver := 0) (kt := .int .i64) (vt := .int .u64) (l := s.2) (by kernel_rfl) hr
  rw [cp_body]
  refine wp_seq (piece hcl hdet (norm Go.Proofs.Try.prog cpLab0) (fun h => norm_rel h) (cp_a s) hr fun a w hr => ?_)
  refine wp_seq (piece hcl hdet (norm Go.Proofs.Try.prog cpLab0) (fun h => norm_rel h) (cp_b s) hr fun a w hr => ?_)
  refine wp_seq (piece hcl hdet (norm Go.Proofs.Try.prog cpLab1) (fun h => norm_rel h) (cp_c s) hr fun a w hr => ?_)
  refine wp_seq (wp_seq (wp_region ?_))
  rw [show List.range (ropsC (fstC cpR)).size = [0, 1, 2, 3, 4] from by kernel_rfl]
  refine evOp hcl (o := opC (fstC cpR) 0) (st1 := (cpB s []).put (some 13) (.pt 1 0 0)) (by kernel_rfl) (by kernel_rfl) (fun k => by kernel_rfl) hr fun a w hr => ?_
  refine evOp hcl (o := opC (fstC cpR) 1) (st1 := ((cpB s []).put (some 13) (.pt 1 0 0)).put (some 14) (.pt 1 0 0)) (by kernel_rfl) (by kernel_rfl) (fun k => by kernel_rfl) hr fun a w hr => ?_
  refine evOp hcl (o := opC (fstC cpR) 2) (st1 := (((cpB s []).put (some 13) (.pt 1 0 0)).put (some 14) (.pt 1 0 0)).put (some 15) (.pt 1 0 1)) (by kernel_rfl) (by kernel_rfl) (fun k => by kernel_rfl) hr fun a w hr => ?_
  refine evOp hcl (o := opC (fstC cpR) 3) (st1 := cpN s) (by kernel_rfl) (by kernel_rfl) (fun k => by kernel_rfl) hr fun a w hr => ?_
  refine handOp (o := opC (fstC cpR) 4) (by kernel_rfl) (by kernel_rfl) ?_
  refine rangeLoop (tm := 16) (idm0 := 1026) (ver0 := 0) (T := (match (opC (fstC cpR) 4).op with | .range T _ => T | _ => 0)) (K := (mapKV2 Go.Proofs.Try.prog (match (opC (fstC cpR) 4).op with | .range T _ => T | _ => 0)).1) (V := (mapKV2 Go.Proofs.Try.prog (match (opC (fstC cpR) 4).op with | .range T _ => T | _ => 0)).2)
    hcl hdet cpX_ok rfl rfl (cp_ev s) (by kernel_rfl) (by kernel_rfl) (by kernel_rfl) (by kernel_rfl) (by kernel_rfl) (by kernel_rfl) (fun v => by kernel_rfl) (fun v done => by kernel_rfl) (fun v done => by kernel_rfl) hr ?_
  intro v done a w hperm hr
  have hr : Rel Mod F0 w0 (cpB s (cpM done)) a w := norm_rel (P := Go.Proofs.Try.prog) (lab := cpLab1) hr
  rw [cpM_eq ((hperm.map Prod.fst).nodup_iff.2 hnd)] at hr
  have hr : Rel Mod F0 w0 (cpB s s.2) a w := map_perm (id := 4098) (ver := 0) (kt := .int .i64) (vt := .int .u64) (by kernel_rfl) hperm hr
  exact endStep hcl hdet (cp_end s s.2) hr
end
noncomputable def e_bits_Set_Copy : Run := entO sg_bits_Set_Copy K_bits_Set_Copy (fun a => true) (fun a => v_bits_Set_Copy a.1) e_bits_Set_Copy_n0
theorem ok_bits_Set_Copy : EntOK Go.Proofs.Try.prog 18 e_bits_Set_Copy := entO_hand ok_bits_Set_Copy_n0 fun a h => callOK_bits_Set_Copy a.1
end Go.Ev
end

section
set_option linter.unusedSectionVars false
set_option linter.unusedVariables false
set_option linter.unusedSimpArgs false
/- The helper Pick, and what is made with it. -/
set_option linter.unusedVariables false
namespace Go.Ev
open Go
theorem pick_lt {n m : Int} (h1 : 0 < m) (h2 : m < 9223372036854775808) : k_book_Pick n m = true ∧ 0 ≤ v_book_Pick n m ∧ v_book_Pick n m < m := by
  have h0 : (m == 0) = false := by simp; omega
  have hl : Int.tmod n m < m := Int.tmod_lt_of_pos n h1
  have hg : -m < Int.tmod n m := by have := Int.tmod_lt_of_pos (-n) h1; rw [Int.neg_tmod] at this; omega
  unfold k_book_Pick v_book_Pick
  simp only [h0, cond_false, Bool.cond_self, true_and]
  by_cases hn : Int.tmod n m < 0
  · simp only [hn, decide_true, cond_true]
    rw [wrap_i64 (by omega) (by omega)]
    omega
  · simp only [hn, decide_false, cond_false]
    omega
theorem pick_fin {P : Int → Prop} {n m : Int} (h1 : 0 < m) (h2 : m < 9223372036854775808) (h : ∀ k : Fin m.toNat, P (k.1 : Int)) : P (v_book_Pick n m) := by
  obtain ⟨_, h3, h4⟩ := pick_lt (n := n) h1 h2
  have := h ⟨(v_book_Pick n m).toNat, by omega⟩
  rwa [Int.toNat_of_nonneg h3] at this
end Go.Ev
end

section
set_option linter.unusedSectionVars false
set_option linter.unusedVariables false
set_option linter.unusedSimpArgs false
/- Chapter 19: what a set has, told by a row. -/
set_option maxRecDepth 100000
set_option linter.unusedVariables false
set_option linter.unusedSimpArgs false
open Go
namespace Go.Ev
/-- A set and the row of what it has. -/
structure SetRow (s : Int × List (Int × Int)) (n : Nat) (is : List Bool) : Prop where
  len : is.length = n
  ok : SetOK s n fun j => is.getD j false
theorem SetRow.new (n : Nat) : SetRow ((n : Int), []) n (List.replicate n false) := by
  refine ⟨by simp, ?_⟩
  have : (fun j => (List.replicate n false).getD j false) = fun _ => false := by
    funext j
    rw [List.getD_eq_getElem?_getD, List.getElem?_replicate]
    split <;> rfl
  rw [this]
  exact SetOK.new n
variable {s : Int × List (Int × Int)} {n : Nat} {is : List Bool}
theorem SetRow.has (h : SetRow s n is) (hn : n < 1000000) (i : Int) : hasS s i = (decide (0 ≤ i ∧ i < (n : Int)) && is.getD i.toNat false) := by
  rw [h.ok.has (by omega)]
  by_cases h0 : 0 ≤ i
  · by_cases h1 : i < (n : Int)
    · rw [decide_eq_true h0, decide_eq_true ⟨h0, h1⟩]
    · rw [decide_eq_true h0, decide_eq_false (fun h => h1 h.2), List.getD_eq_getElem?_getD, List.getElem?_eq_none (by have := h.len; omega)]
      rfl
  · rw [decide_eq_false h0, decide_eq_false (fun h => h0 h.1)]
theorem SetRow.out (h : SetRow s n is) (hn : n < 1000000) {i : Int} (hi : ¬ (0 ≤ i ∧ i < (n : Int))) : hasS s i = false ∧ putS s i = (false, s) := by
  refine ⟨by rw [h.has hn, decide_eq_false hi]; rfl, h.ok.put_no (by omega) fun hh => hi ⟨hh.1, hh.2.1⟩⟩
theorem SetRow.put (h : SetRow s n is) (hn : n < 1000000) {j : Nat} (hj : j < n) : (putS s (j : Int)).1 = (!is.getD j false) ∧ SetRow (putS s (j : Int)).2 n (is.set j true) := by
  have hl := h.len
  have hset : ∀ k, (is.set j true).getD k false = (is.getD k false || (k == j)) := fun k => by
    rw [List.getD_eq_getElem?_getD, List.getElem?_set, List.getD_eq_getElem?_getD]
    by_cases hk : j = k
    · subst hk
      rw [if_pos rfl, if_pos (by omega)]
      simp
    · rw [if_neg hk]
      have : (k == j) = false := by simp; omega
      rw [this, Bool.or_false]
  cases hb : is.getD j false with
  | false =>
    obtain ⟨p1, p2⟩ := h.ok.put (by omega) hj hb
    refine ⟨by rw [p1]; rfl, by simpa using hl, ?_⟩
    rw [show (fun k => (is.set j true).getD k false) = fun k => is.getD k false || (k == j) from funext hset]
    exact p2
  | true =>
    have hno := h.ok.put_no (by omega) (i := (j : Int)) fun hh => by rw [Int.toNat_natCast, hb] at hh; cases hh.2.2
    rw [hno]
    refine ⟨rfl, by simpa using hl, ?_⟩
    rw [show (fun k => (is.set j true).getD k false) = fun k => is.getD k false from funext fun k => by
      rw [hset k]
      by_cases hk : k = j
      · subst hk; rw [hb]; rfl
      · have : (k == j) = false := by simp; omega
        rw [this, Bool.or_false]]
    exact h.ok
theorem listFrom_getD : ∀ (is : List Bool) (k : Nat), listFrom k is = ((List.range' k is.length).filter fun j => is.getD (j - k) false).map Int.ofNat
  | [], k => rfl
  | b :: r, k => by
    unfold listFrom
    rw [listFrom_getD r (k + 1), List.length_cons, List.range'_succ, List.filter_cons]
    have e : (List.range' (k + 1) r.length).filter (fun j => (b :: r).getD (j - k) false) = (List.range' (k + 1) r.length).filter fun j => r.getD (j - (k + 1)) false := by
      refine List.filter_congr fun j hj => ?_
      have := List.mem_range'_1.1 hj
      rw [show j - k = (j - (k + 1)) + 1 by omega]
      rfl
    rw [e, Nat.sub_self]
    show (if b then _ else _) = _
    cases b <;> simp
theorem SetRow.list (h : SetRow s n is) (hn : n < 1000000) : listS s = listFrom 0 is := by
  rw [h.ok.list (by omega), listFrom_getD, h.len]
  unfold listOf
  rw [List.range_eq_range']
  rfl
theorem SetRow.count (h : SetRow s n is) (hn : n < 1000000) : cntF s.2 = ((listFrom 0 is).length : Int) := by
  rw [h.ok.count (by omega), ← h.ok.list (by omega), h.list hn]
theorem SetRow.klist (h : SetRow s n is) (hn : n < 1000000) : k_bits_Set_List s = true := by
  have := h.ok.few
  exact Nat.ble_eq_true_of_le (by unfold limit; omega)
theorem SetRow.same (h : SetRow s n is) (hn : n < 1000000) : k_law19_list is = true ∧ k_book_SameInts (listFrom 0 is) (listFrom 0 is) = true ∧ v_book_SameInts (listFrom 0 is) (listFrom 0 is) = true := by
  have hl : (listFrom 0 is).length ≤ n := by
    rw [listFrom_getD, List.length_map]
    have := List.length_filter_le (fun j => is.getD (j - 0) false) (List.range' 0 is.length)
    rw [List.length_range'] at this
    have := h.len
    omega
  refine ⟨decide_eq_true (by have := h.len; omega), decide_eq_true (by omega), decide_eq_true rfl⟩
theorem new_set {n : Int} (h : 0 ≤ n) : v_bits_New n = (((n.toNat : Nat) : Int), []) := by
  unfold v_bits_New
  show (maxI n 0, []) = _
  unfold maxI
  rw [Int.toNat_of_nonneg h]
  split
  · have : n = 0 := by omega
    rw [this]
  · rfl
theorem alive19 : v_law19_alive = true := by
  have h0 := SetRow.new 70
  have hn : v_bits_New 70 = (((70 : Nat) : Int), []) := new_set (by decide)
  obtain ⟨p1, p2⟩ := h0.put (by decide) (j := 69) (by decide)
  have e1 : ∀ x : Int × List (Int × Int), ∀ i, v_bits_Set_Put x i = putS x i := fun _ _ => rfl
  have e2 : ∀ x : Int × List (Int × Int), ∀ i, v_bits_Set_Has x i = (hasS x i, x) := fun _ _ => rfl
  have e3 : ∀ x : Int × List (Int × Int), v_bits_Set_Count x = (cntF x.2, x) := fun _ => rfl
  have q1 := (p2.put (by decide) (j := 69) (by decide)).1
  have q2 := (p2.put (by decide) (j := 69) (by decide)).2
  have c69 : ((69 : Nat) : Int) = 69 := rfl
  rw [c69] at p1 p2 q1 q2
  obtain ⟨o1, o2⟩ := q2.out (by decide) (i := 70) (by decide)
  have hh := q2.has (by decide) 69
  have hc := q2.count (by decide)
  have hs := q2.ok.size
  unfold v_law19_alive
  simp only [hn, e1, e2, e3, p1, q1, o2, hh, hc, hs]
  decide +kernel
end Go.Ev
end

section
set_option linter.unusedSectionVars false
set_option linter.unusedVariables false
set_option linter.unusedSimpArgs false
set_option maxRecDepth 100000
set_option linter.unusedVariables false
set_option linter.unusedSimpArgs false
open Go
namespace Go.Ev
def v_law19_BitsPlays (n : Int) (acts : List (El T_law19_Act)) : Bool := true
def k_law19_BitsPlays (n : Int) (acts : List (El T_law19_Act)) : Bool := true
theorem dec_in {k m : Int} (h : k ≥ 0) : decide (k < m) = decide (0 ≤ k ∧ k < m) := by simp; omega
theorem dec_out {k m : Int} (h : ¬ k ≥ 0) : false = decide (0 ≤ k ∧ k < m) := by simp; omega
theorem g_law19_BitsPlays (n : Int) (acts : List (El T_law19_Act)) (hk : k_law19_BitsPlays n acts = true) : Goes (T_law19_BitsPlays n acts) (T0_law19_BitsPlays n acts) (v_law19_BitsPlays n acts) := by
  obtain ⟨k1, n0, n1⟩ := pick_lt (n := n) (m := 200) (by decide) (by decide)
  obtain ⟨T, hT⟩ : ∃ T, T = T_law19_BitsPlays n acts := ⟨_, rfl⟩
  rw [← hT]
  have hN : ∃ N, v_book_Pick n 200 = N := ⟨_, rfl⟩
  obtain ⟨N, hN⟩ := hN
  rw [hN] at n0 n1
  obtain ⟨m, rfl⟩ := Int.eq_ofNat_of_zero_le n0
  have hm : m < 200 := by omega
  have e1 : ∀ x : Int × List (Int × Int), ∀ i, v_bits_Set_Put x i = putS x i := fun _ _ => rfl
  have e2 : ∀ x : Int × List (Int × Int), ∀ i, v_bits_Set_Has x i = (hasS x i, x) := fun _ _ => rfl
  have e3 : ∀ x : Int × List (Int × Int), v_bits_Set_Count x = (cntF x.2, x) := fun _ => rfl
  have e4 : ∀ x : Int × List (Int × Int), v_bits_Set_List x = (listS x, x) := fun _ => rfl
  have e5 : ∀ is, v_law19_list is = listFrom 0 is := fun _ => rfl
  have fin : ∀ (i : Int) (s : Int × List (Int × Int)) (is : List Bool), SetRow s m is → Goes T (.jmp (.l11 false i s.1 is s.2)) true := by
    intro i s is h
    obtain ⟨a1, a2, a3⟩ := h.same (by omega)
    have hl := h.list (by omega)
    have hc := h.count (by omega)
    rw [goes_jmp, hT, T_law19_BitsPlays, ← hT, goes_br, if_neg (by decide), goes_br, hN, h.ok.size, if_pos (by simp), e4, e5, e3]
    have hs : ((m : Int), s.2) = s := by rw [← h.ok.size]
    rw [hs, hl, goes_br, if_pos (h.klist (by omega)), goes_br, if_pos a1, goes_br, if_pos a2, goes_br, if_pos a3, goes_br, if_pos a1, goes_br, hc, if_pos (by simp), alive19]
    exact .leaf
  have step : ∀ (i : Nat) (k : Int) (in_ : Bool) (s : Int × List (Int × Int)) (is : List Bool), i < 60 → in_ = decide (0 ≤ k ∧ k < (m : Int)) → SetRow s m is →
      (∀ s is, SetRow s m is → Goes T (.jmp (.l9 ((i + 1 : Nat) : Int) s.1 is s.2)) true) → Goes T (.jmp (.l16 k in_ (i : Int) s.1 is s.2)) true := by
    intro i k in_ s is hi hin h ih
    rw [goes_jmp, hT, T_law19_BitsPlays, ← hT]
    have hs : (s.1, s.2) = s := rfl
    simp only [e1, e2]
    cases in_ with
    | false =>
      have hout : ¬ (0 ≤ k ∧ k < (m : Int)) := of_decide_eq_false hin.symm
      obtain ⟨o1, o2⟩ := h.out (by omega) hout
      simp only [o1, o2, goes_br, Bool.false_eq_true, if_false, beq_self_eq_true, Bool.not_true, wrap_succ (k := i) (by omega)]
      exact ih s is h
    | true =>
      obtain ⟨k0, kl⟩ := of_decide_eq_true hin.symm
      obtain ⟨j, rfl⟩ := Int.eq_ofNat_of_zero_le k0
      have hj : j < m := by omega
      obtain ⟨p1, p2⟩ := h.put (by omega) hj
      have hh := h.has (by omega) (j : Int)
      rw [decide_eq_true ⟨k0, kl⟩, Bool.true_and, Int.toNat_natCast] at hh
      have hh2 := p2.has (by omega) (j : Int)
      rw [decide_eq_true ⟨k0, kl⟩, Bool.true_and, Int.toNat_natCast, List.getD_eq_getElem?_getD, List.getElem?_set_self (by have := h.len; omega), Option.getD_some] at hh2
      have hb : (decide ((0 : Int) ≤ (j : Int)) && decide ((j : Int) < Int.ofNat is.length)) = true := bound_len (by have := h.len; omega)
      have hd : List.getD is j (dflt .bool) = is.getD j false := rfl
      simp only [goes_br, if_true, hb, Int.toNat_natCast, hh, hd, p1, hh2, beq_self_eq_true, Bool.not_true, Bool.false_eq_true, if_false, wrap_succ (k := i) (by omega)]
      exact ih _ _ p2
  have loop : ∀ d i : Nat, i + d = 60 → ∀ (s : Int × List (Int × Int)) (is : List Bool), SetRow s m is → Goes T (.jmp (.l9 (i : Int) s.1 is s.2)) true := by
    intro d
    induction d with
    | zero =>
      intro i hi s is h
      have h60 : i = 60 := by omega
      subst h60
      rw [goes_jmp, hT, T_law19_BitsPlays, ← hT, goes_br]
      split
      · exact fin _ s is h
      · exact fin _ s is h
    | succ d ih =>
      intro i hi s is h
      rw [goes_jmp, hT, T_law19_BitsPlays, ← hT, goes_br]
      by_cases hl : i < acts.length
      · rw [if_pos (lt_len hl), decide_eq_true (show (i : Int) < 60 by omega), goes_jmp, hT, T_law19_BitsPlays, ← hT, goes_br, if_pos rfl, goes_br, if_pos (bound_len hl), goes_br, if_pos (bound_len hl), goes_br, Int.toNat_natCast, hN]
        have ih' := ih (i + 1) (by omega)
        have hw : IntKind.i64.wrap ((m : Int) + 2) = ((m + 2 : Nat) : Int) := by rw [wrap_i64 (by omega) (by omega)]; omega
        rw [hw]
        generalize (List.getD acts i (dflt T_law19_Act)).2 = k
        split
        · obtain ⟨q1, q2, q3⟩ := pick_lt (n := k) (m := ((m + 2 : Nat) : Int)) (by omega) (by omega)
          rw [goes_br, if_pos q1]
          generalize v_book_Pick k ((m + 2 : Nat) : Int) = c at *
          rw [show IntKind.i64.wrap (c - 1) = c - 1 from wrap_i64 (by omega) (by omega), goes_br]
          by_cases hc : c - 1 ≥ 0
          · rw [if_pos (decide_eq_true hc)]
            exact step i _ _ s is (by omega) (by simp; omega) h ih'
          · rw [if_neg (by simpa using hc)]
            exact step i _ _ s is (by omega) (by simp; omega) h ih'
        · rw [goes_br]
          by_cases hc : k ≥ 0
          · rw [if_pos (decide_eq_true hc)]
            exact step i _ _ s is (by omega) (dec_in hc) h ih'
          · rw [if_neg (by simpa using hc)]
            exact step i _ _ s is (by omega) (dec_out hc) h ih'
      · rw [if_neg (by rw [lt_len_not hl]; decide)]
        exact fin _ s is h
  unfold T0_law19_BitsPlays v_law19_BitsPlays
  rw [goes_br, if_pos k1, hN, goes_br, if_pos (by simp [limit]; omega), new_set (by omega), Int.toNat_natCast]
  exact loop 60 0 rfl (((m : Nat) : Int), []) _ (SetRow.new m)
end Go.Ev
end

section
set_option linter.unusedSectionVars false
set_option linter.unusedVariables false
set_option linter.unusedSimpArgs false
set_option maxRecDepth 100000
set_option linter.unusedVariables false
open Go Go.Ev
namespace Go.Ev
noncomputable section
noncomputable def e_law19_BitsPlays : Run := entG sg_law19_BitsPlays R_law19_BitsPlays (fun a => k_law19_BitsPlays a.1 a.2.1) (fun a => v_law19_BitsPlays a.1 a.2.1)
theorem ok_law19_BitsPlays : EntOK Go.Proofs.Try.prog 3 e_law19_BitsPlays := entG_ok (tb := tb_law19_BitsPlays) (c := c_law19_BitsPlays) tk_law19_BitsPlays (by kernel_rfl) (by kernel_rfl) (by kernel_rfl) (fun a => by kernel_rfl) fun ⟨n, acts, _⟩ hk => evF_goes (c := c_law19_BitsPlays) (K := fun v => (R_law19_BitsPlays v, tps (toForms sg_law19_BitsPlays (n, acts, ())))) (S := S_law19_BitsPlays n acts) (by kernel_rfl) (en_law19_BitsPlays n acts) (lp_law19_BitsPlays n acts) (g_law19_BitsPlays n acts hk)
theorem co_law19_BitsPlays (n : Int) (acts : List (El T_law19_Act)) (hk : k_law19_BitsPlays n acts = true) : CallOK Go.Proofs.Try.prog 3 (toForms sg_law19_BitsPlays (n, acts, ())) (R_law19_BitsPlays (v_law19_BitsPlays n acts), tps (toForms sg_law19_BitsPlays (n, acts, ()))) := by
  obtain ⟨h1, h2⟩ := clOf_ok tk_law19_BitsPlays
  obtain ⟨n, hn⟩ := evF_goes (c := c_law19_BitsPlays) (K := fun v => (R_law19_BitsPlays v, tps (toForms sg_law19_BitsPlays (n, acts, ())))) (S := S_law19_BitsPlays n acts) (by kernel_rfl) (en_law19_BitsPlays n acts) (lp_law19_BitsPlays n acts) (g_law19_BitsPlays n acts hk)
  exact evF_sound (f := 3) (c := c_law19_BitsPlays) h1 h2 (by kernel_rfl) (by kernel_rfl) (by kernel_rfl) hn
end
end Go.Ev
end

section
set_option linter.unusedSectionVars false
set_option linter.unusedVariables false
set_option linter.unusedSimpArgs false
set_option maxRecDepth 100000
set_option linter.unusedVariables false
namespace Go.Ev
open Go
theorem call_law19_BitsPlays (a : Args sg_law19_BitsPlays) (ha : smallArgs sg_law19_BitsPlays a) : CallOK Go.Proofs.Try.prog fid_law19_BitsPlays (toForms sg_law19_BitsPlays a) (.d .bool true, tps (toForms sg_law19_BitsPlays a)) := by
  obtain ⟨n, acts, _⟩ := a
  exact co_law19_BitsPlays n acts rfl
end Go.Ev
end

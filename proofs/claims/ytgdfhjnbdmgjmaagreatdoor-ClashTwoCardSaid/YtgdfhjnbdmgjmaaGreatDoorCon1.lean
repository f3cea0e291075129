/- Part of the proof of: With two threads a chain leads back just where two accesses of the other one, the second of which follows the first one or is it, clash with the two: for every input the law answers true. -/
import Derived.Test.YtgdfhjnbdmgjmaaGreatDoorCon0
section
set_option linter.unusedSectionVars false
set_option linter.unusedVariables false
set_option linter.unusedSimpArgs false
set_option maxRecDepth 100000
set_option linter.unusedVariables false
open Go Go.Ev
namespace Go.Ev
noncomputable section
/-! ### paling/palingref1.conds -/
def sg_ref1_conds : Sig := []
noncomputable def t_ref1_conds : Tbl := []
theorem tk_ref1_conds : ∀ p ∈ t_ref1_conds, EntOK Go.Proofs.Tryz.prog p.1 p.2 := tbl_nil
noncomputable def c_ref1_conds : Code := Go.Proofs.Tryz.f114.body.getD .skip
def tb_ref1_conds : Tb := []
def T_ref1_conds : Empty → JT Empty (List ByteArray) := fun j => nomatch j
def T0_ref1_conds : JT Empty (List ByteArray) :=
  .leaf ([(bs []), (bs [106, 101]), (bs [106, 110, 101]), (bs [106, 108]), (bs [106, 108, 101]), (bs [106, 103]), (bs [106, 103, 101]), (bs [106, 98]), (bs [106, 98, 101]), (bs [106, 97]), (bs [106, 97, 101])])
def v_ref1_conds : List ByteArray :=
  ([(bs []), (bs [106, 101]), (bs [106, 110, 101]), (bs [106, 108]), (bs [106, 108, 101]), (bs [106, 103]), (bs [106, 103, 101]), (bs [106, 98]), (bs [106, 98, 101]), (bs [106, 97]), (bs [106, 97, 101])])
theorem g_ref1_conds : Goes (T_ref1_conds) (T0_ref1_conds) (v_ref1_conds) :=
  Goes.leaf
def R_ref1_conds : List ByteArray → AV := fun (r : List ByteArray) => .rw 9 .str r
def S_ref1_conds : Empty → Nat × St := fun j => nomatch j
theorem en_ref1_conds (L : Lt) : entryA Go.Proofs.Tryz.prog (clOf t_ref1_conds) tb_ref1_conds Go.Proofs.Tryz.f114 c_ref1_conds L (toForms sg_ref1_conds (())) = (T0_ref1_conds).run (fun v => some (R_ref1_conds v, tps (toForms sg_ref1_conds (())))) fun j => L (S_ref1_conds j).1 (S_ref1_conds j).2 := by kernel_rfl
theorem lp_ref1_conds : ∀ (L : Lt) (j : Empty), procOf (procsF Go.Proofs.Tryz.prog (clOf t_ref1_conds) tb_ref1_conds Go.Proofs.Tryz.f114 c_ref1_conds (toForms sg_ref1_conds (()))) (S_ref1_conds j).1 L (S_ref1_conds j).2 = (T_ref1_conds j).run (fun v => some (R_ref1_conds v, tps (toForms sg_ref1_conds (())))) fun j => L (S_ref1_conds j).1 (S_ref1_conds j).2 := fun L j => nomatch j
noncomputable def e_ref1_conds : Run := entT sg_ref1_conds R_ref1_conds (fun a => v_ref1_conds)
theorem ok_ref1_conds : EntOK Go.Proofs.Tryz.prog 114 e_ref1_conds := entT_ok (tb := tb_ref1_conds) (c := c_ref1_conds) tk_ref1_conds (by kernel_rfl) (by kernel_rfl) (by kernel_rfl) (fun a => by kernel_rfl) fun _ => evF_goes (c := c_ref1_conds) (K := fun v => (R_ref1_conds v, tps (toForms sg_ref1_conds (())))) (S := S_ref1_conds) (by kernel_rfl) (en_ref1_conds) (lp_ref1_conds) (g_ref1_conds)
end
end Go.Ev
end

section
set_option linter.unusedSectionVars false
set_option linter.unusedVariables false
set_option linter.unusedSimpArgs false
set_option maxRecDepth 100000
set_option linter.unusedVariables false
open Go Go.Ev
namespace Go.Ev
noncomputable section
/-! ### paling/palingref1.Word -/
def sg_ref1_Word : Sig := [(false, .str)]
noncomputable def t_ref1_Word : Tbl := [(112, e_ref1_Regs), (89, e_ref1_index), (113, e_ref1_ops), (114, e_ref1_conds)]
theorem tk_ref1_Word : ∀ p ∈ t_ref1_Word, EntOK Go.Proofs.Tryz.prog p.1 p.2 := tbl_cons ok_ref1_Regs (tbl_cons ok_ref1_index (tbl_cons ok_ref1_ops (tbl_cons ok_ref1_conds (tbl_nil))))
noncomputable def c_ref1_Word : Code := Go.Proofs.Tryz.f85.body.getD .skip
def tb_ref1_Word : Tb := []
def T_ref1_Word (s : ByteArray) : Empty → JT Empty (Bool) := fun j => nomatch j
def T0_ref1_Word (s : ByteArray) : JT Empty (Bool) :=
  .br (! (eqB s (bs [])))
    (.br (eqB s (bs [115, 121, 109]))
      (.leaf true)
    (.br (eqB s (bs [116, 104, 114, 101, 97, 100]))
      (.leaf true)
    (.br (eqB s (bs [108, 111, 99, 107]))
      (.leaf true)
    (.br (k_ref1_index v_ref1_Regs s)
      (.br (decide ((v_ref1_index v_ref1_Regs s) ≥ (0 : Int)))
        (.leaf true)
      (.br (k_ref1_index v_ref1_ops s)
        (.br (decide ((v_ref1_index v_ref1_ops s) > (0 : Int)))
          (.leaf true)
        (.br (k_ref1_index v_ref1_conds s)
          (.leaf (decide ((v_ref1_index v_ref1_conds s) > (0 : Int))))
        (.no)))
      (.no)))
    (.no)))))
  (.leaf false)
def u_ref1_Word (s : ByteArray) : Bool :=
  bif (! (eqB s (bs []))) then
    bif (eqB s (bs [115, 121, 109])) then
      true
    else bif (eqB s (bs [116, 104, 114, 101, 97, 100])) then
      true
    else bif (eqB s (bs [108, 111, 99, 107])) then
      true
    else bif (k_ref1_index v_ref1_Regs s) then
      bif (decide ((v_ref1_index v_ref1_Regs s) ≥ (0 : Int))) then
        true
      else bif (k_ref1_index v_ref1_ops s) then
        bif (decide ((v_ref1_index v_ref1_ops s) > (0 : Int))) then
          true
        else bif (k_ref1_index v_ref1_conds s) then
          (decide ((v_ref1_index v_ref1_conds s) > (0 : Int)))
        else false
      else false
    else false
  else false
def ku_ref1_Word (s : ByteArray) : Bool :=
  bif (! (eqB s (bs []))) then
    bif (eqB s (bs [115, 121, 109])) then
      true
    else bif (eqB s (bs [116, 104, 114, 101, 97, 100])) then
      true
    else bif (eqB s (bs [108, 111, 99, 107])) then
      true
    else bif (k_ref1_index v_ref1_Regs s) then
      bif (decide ((v_ref1_index v_ref1_Regs s) ≥ (0 : Int))) then
        true
      else bif (k_ref1_index v_ref1_ops s) then
        bif (decide ((v_ref1_index v_ref1_ops s) > (0 : Int))) then
          true
        else bif (k_ref1_index v_ref1_conds s) then
          true
        else false
      else false
    else false
  else true
theorem gu_ref1_Word (s : ByteArray) (hk : ku_ref1_Word s = true) : Goes (T_ref1_Word s) (T0_ref1_Word s) (u_ref1_Word s) :=
  Goes.brk hk (fun hk =>
    Goes.brk hk (fun hk =>
      Goes.leaf) (fun hk =>
      Goes.brk hk (fun hk =>
        Goes.leaf) (fun hk =>
        Goes.brk hk (fun hk =>
          Goes.leaf) (fun hk =>
          Goes.brk hk (fun hk =>
            Goes.brk hk (fun hk =>
              Goes.leaf) (fun hk =>
              Goes.brk hk (fun hk =>
                Goes.brk hk (fun hk =>
                  Goes.leaf) (fun hk =>
                  Goes.brk hk (fun hk =>
                    Goes.leaf) (fun hk =>
                    Goes.nok hk))) (fun hk =>
                Goes.nok hk))) (fun hk =>
            Goes.nok hk))))) (fun hk =>
    Goes.leaf)
def R_ref1_Word : Bool → AV := fun (r : Bool) => .d .bool r
def S_ref1_Word (s : ByteArray) : Empty → Nat × St := fun j => nomatch j
theorem en_ref1_Word (s : ByteArray) (L : Lt) : entryA Go.Proofs.Tryz.prog (clOf t_ref1_Word) tb_ref1_Word Go.Proofs.Tryz.f85 c_ref1_Word L (toForms sg_ref1_Word (s, ())) = (T0_ref1_Word s).run (fun v => some (R_ref1_Word v, tps (toForms sg_ref1_Word (s, ())))) fun j => L (S_ref1_Word s j).1 (S_ref1_Word s j).2 := by kernel_rfl
theorem lp_ref1_Word (s : ByteArray) : ∀ (L : Lt) (j : Empty), procOf (procsF Go.Proofs.Tryz.prog (clOf t_ref1_Word) tb_ref1_Word Go.Proofs.Tryz.f85 c_ref1_Word (toForms sg_ref1_Word (s, ()))) (S_ref1_Word s j).1 L (S_ref1_Word s j).2 = (T_ref1_Word s j).run (fun v => some (R_ref1_Word v, tps (toForms sg_ref1_Word (s, ())))) fun j => L (S_ref1_Word s j).1 (S_ref1_Word s j).2 := fun L j => nomatch j
end
end Go.Ev
end

section
set_option linter.unusedSectionVars false
set_option linter.unusedVariables false
set_option linter.unusedSimpArgs false
set_option linter.unusedVariables false
set_option linter.unusedSimpArgs false
open Go
namespace Go.Ev
def v_ref1_Word (s : ByteArray) : Bool := v_names_Word s
theorem g_ref1_Word (s : ByteArray) : Goes (T_ref1_Word s) (T0_ref1_Word s) (v_ref1_Word s) := by
  have hk : ∀ l : List ByteArray, l.length < 100 → k_ref1_index l s = true := fun l h => decide_eq_true (by omega)
  have h1 : k_ref1_index v_ref1_Regs s = true := hk _ (by decide)
  have h2 : k_ref1_index v_ref1_ops s = true := hk _ (by decide)
  have h3 : k_ref1_index v_ref1_conds s = true := hk _ (by decide)
  have hku : ku_ref1_Word s = true := by
    unfold ku_ref1_Word
    simp only [h1, h2, h3, cond_true]
    cases eqB s (bs []) <;> cases eqB s (bs [115, 121, 109]) <;> cases eqB s (bs [116, 104, 114, 101, 97, 100]) <;> cases eqB s (bs [108, 111, 99, 107]) <;> cases decide (v_ref1_index v_ref1_Regs s ≥ 0) <;> cases decide (v_ref1_index v_ref1_ops s > 0) <;> rfl
  have hv : v_ref1_Word s = u_ref1_Word s := by
    unfold v_ref1_Word u_ref1_Word v_names_Word
    simp only [h1, h2, h3, cond_true, eqB_eq]
    have hr : decide (v_ref1_index v_ref1_Regs s ≥ 0) = (findFrom s v_names_regs 0).isSome := by
      unfold v_ref1_index
      rw [show v_ref1_Regs = v_names_regs from rfl]
      cases findFrom s v_names_regs 0 <;> simp
    have hR : (v_names_Reg s).2 = (findFrom s v_names_regs 0).isSome := by
      unfold v_names_Reg
      cases findFrom s v_names_regs 0 <;> rfl
    rw [hr, hR]
    by_cases h0 : s = bs []
    · subst h0
      decide
    have hidx : ∀ l : List ByteArray, decide (v_ref1_index (bs [] :: l) s > 0) = (findFrom s l 0).isSome := by
      intro l
      unfold v_ref1_index
      rw [show findFrom s (bs [] :: l) 0 = findFrom s l (0 + 1) by rw [findFrom, if_neg (fun e => h0 e.symm)], findFrom_shift (k := 0) (j := 0 + 1)]
      cases h : findFrom s l (0 + 1) with
      | none => simp
      | some n => have := findFrom_some h; simp; omega
    have ho := hidx v_names_ops
    have hj := hidx v_names_jumps
    rw [show v_ref1_ops = bs [] :: v_names_ops from rfl, ho, show v_ref1_conds = bs [] :: v_names_jumps from rfl, hj]
    have hO : (v_names_Op s).2.2 = ((findFrom s v_names_ops 0).isSome || (findFrom s v_names_jumps 0).isSome) := by
      unfold v_names_Op
      rw [if_neg h0]
      cases findFrom s v_names_ops 0 with
      | some k => rfl
      | none => cases findFrom s v_names_jumps 0 <;> rfl
    rw [hO]
    simp only [h0, decide_false, Bool.not_false, cond_true]
    cases (findFrom s v_names_ops 0).isSome <;> cases (findFrom s v_names_jumps 0).isSome <;> rfl
  rw [hv]
  exact gu_ref1_Word s hku

end Go.Ev
end

section
set_option linter.unusedSectionVars false
set_option linter.unusedVariables false
set_option linter.unusedSimpArgs false
set_option maxRecDepth 100000
set_option linter.unusedVariables false
open Go Go.Ev
namespace Go.Ev
noncomputable section
noncomputable def e_ref1_Word : Run := entT sg_ref1_Word R_ref1_Word (fun a => v_ref1_Word a.1)
theorem ok_ref1_Word : EntOK Go.Proofs.Tryz.prog 85 e_ref1_Word := entT_ok (tb := tb_ref1_Word) (c := c_ref1_Word) tk_ref1_Word (by kernel_rfl) (by kernel_rfl) (by kernel_rfl) (fun a => by kernel_rfl) fun ⟨s, _⟩ => evF_goes (c := c_ref1_Word) (K := fun v => (R_ref1_Word v, tps (toForms sg_ref1_Word (s, ())))) (S := S_ref1_Word s) (by kernel_rfl) (en_ref1_Word s) (lp_ref1_Word s) (g_ref1_Word s)
end
end Go.Ev
end

section
set_option linter.unusedSectionVars false
set_option linter.unusedVariables false
set_option linter.unusedSimpArgs false
set_option maxRecDepth 100000
set_option linter.unusedVariables false
open Go Go.Ev
namespace Go.Ev
noncomputable section
/-! ### paling/palingref1.Letter -/
def sg_ref1_Letter : Sig := [(false, (.int .i32))]
noncomputable def t_ref1_Letter : Tbl := []
theorem tk_ref1_Letter : ∀ p ∈ t_ref1_Letter, EntOK Go.Proofs.Tryz.prog p.1 p.2 := tbl_nil
noncomputable def c_ref1_Letter : Code := Go.Proofs.Tryz.f86.body.getD .skip
def tb_ref1_Letter : Tb := []
def T_ref1_Letter (r : Int) : Empty → JT Empty (Bool) := fun j => nomatch j
def T0_ref1_Letter (r : Int) : JT Empty (Bool) :=
  .br (decide (r ≥ (97 : Int)))
    (.br (decide (r ≤ (122 : Int)))
      (.leaf true)
    (.br (decide (r ≥ (65 : Int)))
      (.br (decide (r ≤ (90 : Int)))
        (.leaf true)
      (.br (r == (95 : Int))
        (.leaf true)
      (.br (decide (r ≥ (161 : Int)))
        (.leaf (decide (r ≤ (1114111 : Int))))
      (.leaf false))))
    (.br (r == (95 : Int))
      (.leaf true)
    (.br (decide (r ≥ (161 : Int)))
      (.leaf (decide (r ≤ (1114111 : Int))))
    (.leaf false)))))
  (.br (decide (r ≥ (65 : Int)))
    (.br (decide (r ≤ (90 : Int)))
      (.leaf true)
    (.br (r == (95 : Int))
      (.leaf true)
    (.br (decide (r ≥ (161 : Int)))
      (.leaf (decide (r ≤ (1114111 : Int))))
    (.leaf false))))
  (.br (r == (95 : Int))
    (.leaf true)
  (.br (decide (r ≥ (161 : Int)))
    (.leaf (decide (r ≤ (1114111 : Int))))
  (.leaf false))))
def v_ref1_Letter (r : Int) : Bool :=
  bif (decide (r ≥ (97 : Int))) then
    bif (decide (r ≤ (122 : Int))) then
      true
    else bif (decide (r ≥ (65 : Int))) then
      bif (decide (r ≤ (90 : Int))) then
        true
      else bif (r == (95 : Int)) then
        true
      else bif (decide (r ≥ (161 : Int))) then
        (decide (r ≤ (1114111 : Int)))
      else false
    else bif (r == (95 : Int)) then
      true
    else bif (decide (r ≥ (161 : Int))) then
      (decide (r ≤ (1114111 : Int)))
    else false
  else bif (decide (r ≥ (65 : Int))) then
    bif (decide (r ≤ (90 : Int))) then
      true
    else bif (r == (95 : Int)) then
      true
    else bif (decide (r ≥ (161 : Int))) then
      (decide (r ≤ (1114111 : Int)))
    else false
  else bif (r == (95 : Int)) then
    true
  else bif (decide (r ≥ (161 : Int))) then
    (decide (r ≤ (1114111 : Int)))
  else false
theorem g_ref1_Letter (r : Int) : Goes (T_ref1_Letter r) (T0_ref1_Letter r) (v_ref1_Letter r) :=
  Goes.br (
    Goes.br (
      Goes.leaf) (
      Goes.br (
        Goes.br (
          Goes.leaf) (
          Goes.br (
            Goes.leaf) (
            Goes.br (
              Goes.leaf) (
              Goes.leaf)))) (
        Goes.br (
          Goes.leaf) (
          Goes.br (
            Goes.leaf) (
            Goes.leaf))))) (
    Goes.br (
      Goes.br (
        Goes.leaf) (
        Goes.br (
          Goes.leaf) (
          Goes.br (
            Goes.leaf) (
            Goes.leaf)))) (
      Goes.br (
        Goes.leaf) (
        Goes.br (
          Goes.leaf) (
          Goes.leaf))))
def R_ref1_Letter : Bool → AV := fun (r : Bool) => .d .bool r
def S_ref1_Letter (r : Int) : Empty → Nat × St := fun j => nomatch j
theorem en_ref1_Letter (r : Int) (L : Lt) : entryA Go.Proofs.Tryz.prog (clOf t_ref1_Letter) tb_ref1_Letter Go.Proofs.Tryz.f86 c_ref1_Letter L (toForms sg_ref1_Letter (r, ())) = (T0_ref1_Letter r).run (fun v => some (R_ref1_Letter v, tps (toForms sg_ref1_Letter (r, ())))) fun j => L (S_ref1_Letter r j).1 (S_ref1_Letter r j).2 := by kernel_rfl
theorem lp_ref1_Letter (r : Int) : ∀ (L : Lt) (j : Empty), procOf (procsF Go.Proofs.Tryz.prog (clOf t_ref1_Letter) tb_ref1_Letter Go.Proofs.Tryz.f86 c_ref1_Letter (toForms sg_ref1_Letter (r, ()))) (S_ref1_Letter r j).1 L (S_ref1_Letter r j).2 = (T_ref1_Letter r j).run (fun v => some (R_ref1_Letter v, tps (toForms sg_ref1_Letter (r, ())))) fun j => L (S_ref1_Letter r j).1 (S_ref1_Letter r j).2 := fun L j => nomatch j
noncomputable def e_ref1_Letter : Run := entT sg_ref1_Letter R_ref1_Letter (fun a => v_ref1_Letter a.1)
theorem ok_ref1_Letter : EntOK Go.Proofs.Tryz.prog 86 e_ref1_Letter := entT_ok (tb := tb_ref1_Letter) (c := c_ref1_Letter) tk_ref1_Letter (by kernel_rfl) (by kernel_rfl) (by kernel_rfl) (fun a => by kernel_rfl) fun ⟨r, _⟩ => evF_goes (c := c_ref1_Letter) (K := fun v => (R_ref1_Letter v, tps (toForms sg_ref1_Letter (r, ())))) (S := S_ref1_Letter r) (by kernel_rfl) (en_ref1_Letter r) (lp_ref1_Letter r) (g_ref1_Letter r)
end
end Go.Ev
end

section
set_option linter.unusedSectionVars false
set_option linter.unusedVariables false
set_option linter.unusedSimpArgs false
set_option maxRecDepth 100000
set_option linter.unusedVariables false
open Go Go.Ev
namespace Go.Ev
noncomputable section
/-! ### paling/palingref1.Digit -/
def sg_ref1_Digit : Sig := [(false, (.int .i32))]
noncomputable def t_ref1_Digit : Tbl := []
theorem tk_ref1_Digit : ∀ p ∈ t_ref1_Digit, EntOK Go.Proofs.Tryz.prog p.1 p.2 := tbl_nil
noncomputable def c_ref1_Digit : Code := Go.Proofs.Tryz.f87.body.getD .skip
def tb_ref1_Digit : Tb := []
def T_ref1_Digit (r : Int) : Empty → JT Empty (Bool) := fun j => nomatch j
def T0_ref1_Digit (r : Int) : JT Empty (Bool) :=
  .br (decide (r ≥ (48 : Int)))
    (.leaf (decide (r ≤ (57 : Int))))
  (.leaf false)
def v_ref1_Digit (r : Int) : Bool :=
  bif (decide (r ≥ (48 : Int))) then
    (decide (r ≤ (57 : Int)))
  else false
theorem g_ref1_Digit (r : Int) : Goes (T_ref1_Digit r) (T0_ref1_Digit r) (v_ref1_Digit r) :=
  Goes.br (
    Goes.leaf) (
    Goes.leaf)
def R_ref1_Digit : Bool → AV := fun (r : Bool) => .d .bool r
def S_ref1_Digit (r : Int) : Empty → Nat × St := fun j => nomatch j
theorem en_ref1_Digit (r : Int) (L : Lt) : entryA Go.Proofs.Tryz.prog (clOf t_ref1_Digit) tb_ref1_Digit Go.Proofs.Tryz.f87 c_ref1_Digit L (toForms sg_ref1_Digit (r, ())) = (T0_ref1_Digit r).run (fun v => some (R_ref1_Digit v, tps (toForms sg_ref1_Digit (r, ())))) fun j => L (S_ref1_Digit r j).1 (S_ref1_Digit r j).2 := by kernel_rfl
theorem lp_ref1_Digit (r : Int) : ∀ (L : Lt) (j : Empty), procOf (procsF Go.Proofs.Tryz.prog (clOf t_ref1_Digit) tb_ref1_Digit Go.Proofs.Tryz.f87 c_ref1_Digit (toForms sg_ref1_Digit (r, ()))) (S_ref1_Digit r j).1 L (S_ref1_Digit r j).2 = (T_ref1_Digit r j).run (fun v => some (R_ref1_Digit v, tps (toForms sg_ref1_Digit (r, ())))) fun j => L (S_ref1_Digit r j).1 (S_ref1_Digit r j).2 := fun L j => nomatch j
noncomputable def e_ref1_Digit : Run := entT sg_ref1_Digit R_ref1_Digit (fun a => v_ref1_Digit a.1)
theorem ok_ref1_Digit : EntOK Go.Proofs.Tryz.prog 87 e_ref1_Digit := entT_ok (tb := tb_ref1_Digit) (c := c_ref1_Digit) tk_ref1_Digit (by kernel_rfl) (by kernel_rfl) (by kernel_rfl) (fun a => by kernel_rfl) fun ⟨r, _⟩ => evF_goes (c := c_ref1_Digit) (K := fun v => (R_ref1_Digit v, tps (toForms sg_ref1_Digit (r, ())))) (S := S_ref1_Digit r) (by kernel_rfl) (en_ref1_Digit r) (lp_ref1_Digit r) (g_ref1_Digit r)
end
end Go.Ev
end

section
set_option linter.unusedSectionVars false
set_option linter.unusedVariables false
set_option linter.unusedSimpArgs false
set_option maxRecDepth 100000
set_option linter.unusedVariables false
open Go Go.Ev
namespace Go.Ev
noncomputable section
/-! ### paling/palingref1.Right -/
def sg_ref1_Right : Sig := [(false, .str)]
noncomputable def t_ref1_Right : Tbl := [(84, e_ref1_Spots), (85, e_ref1_Word), (86, e_ref1_Letter), (87, e_ref1_Digit)]
theorem tk_ref1_Right : ∀ p ∈ t_ref1_Right, EntOK Go.Proofs.Tryz.prog p.1 p.2 := tbl_cons ok_ref1_Spots (tbl_cons ok_ref1_Word (tbl_cons ok_ref1_Letter (tbl_cons ok_ref1_Digit (tbl_nil))))
noncomputable def c_ref1_Right : Code := Go.Proofs.Tryz.f68.body.getD .skip
def tb_ref1_Right : Tb := [(7, ⟨[3, 4], []⟩)]
inductive J_ref1_Right where
  | l7 (i : Int)
def T_ref1_Right (s : ByteArray) : J_ref1_Right → JT J_ref1_Right (Bool)
  | .l7 i =>
    .br (decide (i < (Int.ofNat (List.length (v_ref1_Spots s)))))
      (.br ((decide ((0 : Int) ≤ i)) && (decide (i < (Int.ofNat (List.length (v_ref1_Spots s))))))
        (.br (List.getD (v_ref1_Spots s) (Int.toNat i) (dflt T_ref1_Spot)).2.2.2.2.2
          (.leaf false)
        (.br ((decide ((0 : Int) ≤ i)) && (decide (i < (Int.ofNat (List.length (v_ref1_Spots s))))))
          (.br (! (v_ref1_Letter (List.getD (v_ref1_Spots s) (Int.toNat i) (dflt T_ref1_Spot)).1))
            (.br (i == (0 : Int))
              (.leaf false)
            (.br ((decide ((0 : Int) ≤ i)) && (decide (i < (Int.ofNat (List.length (v_ref1_Spots s))))))
              (.br (! (v_ref1_Digit (List.getD (v_ref1_Spots s) (Int.toNat i) (dflt T_ref1_Spot)).1))
                (.leaf false)
              (.jmp (.l7 (IntKind.i64.wrap (i + (1 : Int))))))
            (.no)))
          (.jmp (.l7 (IntKind.i64.wrap (i + (1 : Int))))))
        (.no)))
      (.no))
    (.leaf true)
def T0_ref1_Right (s : ByteArray) : JT J_ref1_Right (Bool) :=
  .br (k_ref1_Spots s)
    (.br (decide ((Int.ofNat (List.length (v_ref1_Spots s))) < (1 : Int)))
      (.leaf false)
    (.br (decide ((Int.ofNat (List.length (v_ref1_Spots s))) > (16 : Int)))
      (.leaf false)
    (.br (v_ref1_Word s)
      (.leaf false)
    (.jmp (.l7 (0 : Int))))))
  (.no)
def R_ref1_Right : Bool → AV := fun (r : Bool) => .d .bool r
def S_ref1_Right (s : ByteArray) : J_ref1_Right → Nat × St
  | .l7 i => (7, ⟨mkTm 52 [(3, .own 4 0 none), (4, .d (.int .i64) i)], [(4, 0, .row 114 T_ref1_Spot (v_ref1_Spots s) false)]⟩)
theorem en_ref1_Right (s : ByteArray) (L : Lt) : entryA Go.Proofs.Tryz.prog (clOf t_ref1_Right) tb_ref1_Right Go.Proofs.Tryz.f68 c_ref1_Right L (toForms sg_ref1_Right (s, ())) = (T0_ref1_Right s).run (fun v => some (R_ref1_Right v, tps (toForms sg_ref1_Right (s, ())))) fun j => L (S_ref1_Right s j).1 (S_ref1_Right s j).2 := by kernel_rfl
theorem lp_ref1_Right (s : ByteArray) : ∀ (L : Lt) (j : J_ref1_Right), procOf (procsF Go.Proofs.Tryz.prog (clOf t_ref1_Right) tb_ref1_Right Go.Proofs.Tryz.f68 c_ref1_Right (toForms sg_ref1_Right (s, ()))) (S_ref1_Right s j).1 L (S_ref1_Right s j).2 = (T_ref1_Right s j).run (fun v => some (R_ref1_Right v, tps (toForms sg_ref1_Right (s, ())))) fun j => L (S_ref1_Right s j).1 (S_ref1_Right s j).2
  | L, .l7 i => by kernel_rfl
end
end Go.Ev
end

section
set_option linter.unusedSectionVars false
set_option linter.unusedVariables false
set_option linter.unusedSimpArgs false
set_option linter.unusedVariables false
set_option linter.unusedSimpArgs false
open Go
namespace Go.Ev
def v_ref1_Right (s : ByteArray) : Bool := nameRight s
def k_ref1_Right (s : ByteArray) : Bool := smallText s
theorem g_ref1_Right (s : ByteArray) (hk : k_ref1_Right s = true) : Goes (T_ref1_Right s) (T0_ref1_Right s) (v_ref1_Right s) := by
  have hs : s.size < 549755813888 := of_decide_eq_true hk
  have hl : (v_ref1_Spots s).length ≤ s.size := spots_length s
  have loop : ∀ k, k ≤ (v_ref1_Spots s).length → Goes (T_ref1_Right s) (.jmp (.l7 (k : Int))) (spotsOK k ((v_ref1_Spots s).drop k)) := by
    refine down ?_ fun k hk ih => ?_
    · rw [goes_jmp]
      simp [T_ref1_Right, goes_br, goes_leaf, spotsOK]
    · rw [goes_jmp]
      dsimp only [T_ref1_Right]
      simp only [goes_br, goes_leaf, lt_len hk, nng, Bool.and_self, if_true, Int.toNat_natCast, getD_lt hk, wrap_succ (k := k) (by omega)]
      rw [drop_cons hk, spotsOK]
      generalize (v_ref1_Spots s)[k] = x at *
      unfold spotOK
      rw [show v_ref1_Letter = v_glyph_Letter from rfl, show v_ref1_Digit = v_glyph_Digit from rfl]
      cases x.2.2.2.2.2
      · cases v_glyph_Letter x.1
        · by_cases h0 : k = 0
          · subst h0; simp
          · have e1 : ((k : Int) == 0) = false := by rw [Bool.eq_false_iff]; simp; omega
            have e2 : (k == 0) = false := by rw [Bool.eq_false_iff]; simpa using h0
            cases v_glyph_Digit x.1
            · simp [e1, e2]
            · simpa [e1, e2] using ih
        · simpa using ih
      · simp
  have hv : v_ref1_Right s = (spotsOK 0 (v_ref1_Spots s) && (decide (1 ≤ (v_ref1_Spots s).length) && (decide ((v_ref1_Spots s).length ≤ 16) && !v_names_Word s))) := rfl
  rw [hv]
  unfold T0_ref1_Right
  simp only [goes_br, show k_ref1_Spots s = true from hk, if_true, v_ref1_Word, goes_leaf]
  by_cases h1 : 1 ≤ (v_ref1_Spots s).length
  · by_cases h2 : (v_ref1_Spots s).length ≤ 16
    · cases v_names_Word s
      · rw [if_neg (by simp <;> omega), if_neg (by simp <;> omega)]
        simpa [h1, h2] using loop 0 (Nat.zero_le _)
      · rw [if_neg (by simp <;> omega), if_neg (by simp <;> omega)]
        simp
    · rw [if_neg (by simp <;> omega), if_pos (by simp <;> omega)]
      simp [h2]
  · rw [if_pos (by simp <;> omega)]
    simp [h1]

end Go.Ev
end

section
set_option linter.unusedSectionVars false
set_option linter.unusedVariables false
set_option linter.unusedSimpArgs false
set_option maxRecDepth 100000
set_option linter.unusedVariables false
open Go Go.Ev
namespace Go.Ev
noncomputable section
noncomputable def e_ref1_Right : Run := entG sg_ref1_Right R_ref1_Right (fun a => k_ref1_Right a.1) (fun a => v_ref1_Right a.1)
theorem ok_ref1_Right : EntOK Go.Proofs.Tryz.prog 68 e_ref1_Right := entG_ok (tb := tb_ref1_Right) (c := c_ref1_Right) tk_ref1_Right (by kernel_rfl) (by kernel_rfl) (by kernel_rfl) (fun a => by kernel_rfl) fun ⟨s, _⟩ hk => evF_goes (c := c_ref1_Right) (K := fun v => (R_ref1_Right v, tps (toForms sg_ref1_Right (s, ())))) (S := S_ref1_Right s) (by kernel_rfl) (en_ref1_Right s) (lp_ref1_Right s) (g_ref1_Right s hk)
end
end Go.Ev
end

section
set_option linter.unusedSectionVars false
set_option linter.unusedVariables false
set_option linter.unusedSimpArgs false
set_option maxRecDepth 100000
set_option linter.unusedVariables false
open Go Go.Ev
namespace Go.Ev
noncomputable section
/-! ### paling/palingref1.Count -/
def sg_ref1_Count : Sig := [(true, (.sl T_api_Ins))]
noncomputable def t_ref1_Count : Tbl := []
theorem tk_ref1_Count : ∀ p ∈ t_ref1_Count, EntOK Go.Proofs.Tryz.prog p.1 p.2 := tbl_nil
noncomputable def c_ref1_Count : Code := Go.Proofs.Tryz.f88.body.getD .skip
def tb_ref1_Count : Tb := [(4, ⟨[1, 3, 4], []⟩)]
inductive J_ref1_Count where
  | l4 (n : Int) (i : Int)
def T_ref1_Count (t : List (El T_api_Ins)) : J_ref1_Count → JT J_ref1_Count (Int)
  | .l4 n i =>
    .br (decide (i < (Int.ofNat (List.length t))))
      (.br ((decide ((0 : Int) ≤ i)) && (decide (i < (Int.ofNat (List.length t)))))
        (.br ((List.getD t (Int.toNat i) (dflt T_api_Ins)).1 != (12 : Int))
          (.jmp (.l4 (IntKind.i64.wrap (n + (1 : Int))) (IntKind.i64.wrap (i + (1 : Int)))))
        (.jmp (.l4 n (IntKind.i64.wrap (i + (1 : Int))))))
      (.no))
    (.leaf n)
def T0_ref1_Count (t : List (El T_api_Ins)) : JT J_ref1_Count (Int) :=
  .jmp (.l4 (0 : Int) (0 : Int))
def R_ref1_Count : Int → AV := fun (r : Int) => .d (.int .i64) r
def S_ref1_Count (t : List (El T_api_Ins)) : J_ref1_Count → Nat × St
  | .l4 n i => (4, ⟨mkTm 22 [(1, .pt 2 0 0), (3, .d (.int .i64) n), (4, .d (.int .i64) i)], [(2, 0, .box 48 [.d (.sl T_api_Ins) t] none)]⟩)
theorem en_ref1_Count (t : List (El T_api_Ins)) (L : Lt) : entryA Go.Proofs.Tryz.prog (clOf t_ref1_Count) tb_ref1_Count Go.Proofs.Tryz.f88 c_ref1_Count L (toForms sg_ref1_Count (t, ())) = (T0_ref1_Count t).run (fun v => some (R_ref1_Count v, tps (toForms sg_ref1_Count (t, ())))) fun j => L (S_ref1_Count t j).1 (S_ref1_Count t j).2 := by kernel_rfl
theorem lp_ref1_Count (t : List (El T_api_Ins)) : ∀ (L : Lt) (j : J_ref1_Count), procOf (procsF Go.Proofs.Tryz.prog (clOf t_ref1_Count) tb_ref1_Count Go.Proofs.Tryz.f88 c_ref1_Count (toForms sg_ref1_Count (t, ()))) (S_ref1_Count t j).1 L (S_ref1_Count t j).2 = (T_ref1_Count t j).run (fun v => some (R_ref1_Count v, tps (toForms sg_ref1_Count (t, ())))) fun j => L (S_ref1_Count t j).1 (S_ref1_Count t j).2
  | L, .l4 n i => by kernel_rfl
end
end Go.Ev
end

section
set_option linter.unusedSectionVars false
set_option linter.unusedVariables false
set_option linter.unusedSimpArgs false
set_option linter.unusedVariables false
set_option linter.unusedSimpArgs false
open Go
namespace Go.Ev
def v_ref1_Count (t : List (El T_api_Ins)) : Int := (countM t : Int)
def k_ref1_Count (t : List (El T_api_Ins)) : Bool := decide (t.length < 1099511627776)
theorem g_ref1_Count (t : List (El T_api_Ins)) (hk : k_ref1_Count t = true) : Goes (T_ref1_Count t) (T0_ref1_Count t) (v_ref1_Count t) := by
  have hn : t.length < 1099511627776 := of_decide_eq_true hk
  have loop : ∀ k, k ≤ t.length → ∀ n : Nat, n ≤ k → Goes (T_ref1_Count t) (.jmp (.l4 (n : Int) (k : Int))) ((n + countM (t.drop k) : Nat) : Int) := by
    refine down ?_ fun k hk ih => ?_
    · intro n hnk
      rw [goes_jmp]
      simp only [T_ref1_Count, goes_br, lt_len_not (Nat.lt_irrefl _), goes_leaf, List.drop_length]
      simp [countM]
    · intro n hnk
      rw [goes_jmp]
      simp only [T_ref1_Count, goes_br, lt_len hk, nng, Bool.and_self, if_true, Int.toNat_natCast, getD_lt hk, wrap_succ (k := k) (by omega), wrap_succ (k := n) (by omega)]
      rw [drop_cons hk]
      unfold countM
      rw [List.filter_cons]
      split
      · rename_i h
        have := ih (n + 1) (by omega)
        unfold countM at this
        rw [List.length_cons, show n + ((List.filter (fun i => i.1 != (12 : Int)) (List.drop (k + 1) t)).length + 1) = n + 1 + (List.filter (fun i => i.1 != (12 : Int)) (List.drop (k + 1) t)).length by omega]
        exact this
      · exact ih n (by omega)
  have := loop 0 (Nat.zero_le _) 0 (Nat.le_refl _)
  unfold T0_ref1_Count v_ref1_Count
  simpa using this
end Go.Ev
end

section
set_option linter.unusedSectionVars false
set_option linter.unusedVariables false
set_option linter.unusedSimpArgs false
set_option maxRecDepth 100000
set_option linter.unusedVariables false
open Go Go.Ev
namespace Go.Ev
noncomputable section
noncomputable def e_ref1_Count : Run := entG sg_ref1_Count R_ref1_Count (fun a => k_ref1_Count a.1) (fun a => v_ref1_Count a.1)
theorem ok_ref1_Count : EntOK Go.Proofs.Tryz.prog 88 e_ref1_Count := entG_ok (tb := tb_ref1_Count) (c := c_ref1_Count) tk_ref1_Count (by kernel_rfl) (by kernel_rfl) (by kernel_rfl) (fun a => by kernel_rfl) fun ⟨t, _⟩ hk => evF_goes (c := c_ref1_Count) (K := fun v => (R_ref1_Count v, tps (toForms sg_ref1_Count (t, ())))) (S := S_ref1_Count t) (by kernel_rfl) (en_ref1_Count t) (lp_ref1_Count t) (g_ref1_Count t hk)
end
end Go.Ev
end

section
set_option linter.unusedSectionVars false
set_option linter.unusedVariables false
set_option linter.unusedSimpArgs false
set_option maxRecDepth 100000
set_option linter.unusedVariables false
open Go Go.Ev
namespace Go.Ev
noncomputable section
/-! ### paling/palingref1.InsRight -/
def sg_ref1_InsRight : Sig := [(true, T_api_Ins)]
noncomputable def t_ref1_InsRight : Tbl := [(78, e_ref1_row), (79, e_ref1_Jumps), (68, e_ref1_Right)]
theorem tk_ref1_InsRight : ∀ p ∈ t_ref1_InsRight, EntOK Go.Proofs.Tryz.prog p.1 p.2 := tbl_cons ok_ref1_row (tbl_cons ok_ref1_Jumps (tbl_cons ok_ref1_Right (tbl_nil)))
noncomputable def c_ref1_InsRight : Code := Go.Proofs.Tryz.f57.body.getD .skip
def tb_ref1_InsRight : Tb := [(2, ⟨[1, 26, 34, 37, 44, 47], []⟩), (5, ⟨[1, 49], []⟩)]
inductive J_ref1_InsRight where
  | l2 (h : Bool)
  | l5 (h : Bool)
def T_ref1_InsRight (i : El T_api_Ins) : J_ref1_InsRight → JT J_ref1_InsRight (Int)
  | .l2 h =>
    .br h
      (.leaf (4 : Int))
    (.br (i.1 == (11 : Int))
      (.br (decide (i.2.2.1 < (1 : Int)))
        (.jmp (.l5 true))
      (.br (decide (i.2.2.1 > (10 : Int)))
        (.jmp (.l5 true))
      (.br (i.1 != (11 : Int))
        (.jmp (.l5 (i.2.2.1 != (0 : Int))))
      (.jmp (.l5 false)))))
    (.br (i.1 != (11 : Int))
      (.jmp (.l5 (i.2.2.1 != (0 : Int))))
    (.jmp (.l5 false))))
  | .l5 h =>
    .br h
      (.leaf (4 : Int))
    (.br (v_ref1_Jumps i.1)
      (.br (k_ref1_Right i.2.2.2.2.2.1)
        (.br (! (v_ref1_Right i.2.2.2.2.2.1))
          (.leaf (3 : Int))
        (.leaf (0 : Int)))
      (.no))
    (.leaf (0 : Int)))
def T0_ref1_InsRight (i : El T_api_Ins) : JT J_ref1_InsRight (Int) :=
  .br (decide (i.1 < (1 : Int)))
    (.jmp (.l2 true))
  (.br (decide (i.1 > (14 : Int)))
    (.jmp (.l2 true))
  (.br (! (v_ref1_row i))
    (.jmp (.l2 true))
  (.br (! (v_ref1_Jumps i.1))
    (.jmp (.l2 (! (eqB i.2.2.2.2.2.1 (bs [])))))
  (.jmp (.l2 false)))))
def v_ref1_InsRight_l5 (i : El T_api_Ins) (h : Bool) : Int :=
  bif h then
    (4 : Int)
  else bif (v_ref1_Jumps i.1) then
    bif (k_ref1_Right i.2.2.2.2.2.1) then
      bif (! (v_ref1_Right i.2.2.2.2.2.1)) then
        (3 : Int)
      else (0 : Int)
    else (0 : Int)
  else (0 : Int)
def k_ref1_InsRight_l5 (i : El T_api_Ins) (h : Bool) : Bool :=
  bif h then
    true
  else bif (v_ref1_Jumps i.1) then
    bif (k_ref1_Right i.2.2.2.2.2.1) then
      bif (! (v_ref1_Right i.2.2.2.2.2.1)) then
        true
      else true
    else false
  else true
theorem g_ref1_InsRight_l5 (i : El T_api_Ins) (h : Bool) (hk : k_ref1_InsRight_l5 i h = true) : Goes (T_ref1_InsRight i) (.jmp (.l5 h)) (v_ref1_InsRight_l5 i h) :=
  Goes.jmp (Goes.brk hk (fun hk =>
    Goes.leaf) (fun hk =>
    Goes.brk hk (fun hk =>
      Goes.brk hk (fun hk =>
        Goes.brk hk (fun hk =>
          Goes.leaf) (fun hk =>
          Goes.leaf)) (fun hk =>
        Goes.nok hk)) (fun hk =>
      Goes.leaf)))
def v_ref1_InsRight_l2 (i : El T_api_Ins) (h : Bool) : Int :=
  bif h then
    (4 : Int)
  else bif (i.1 == (11 : Int)) then
    bif (decide (i.2.2.1 < (1 : Int))) then
      v_ref1_InsRight_l5 i true
    else bif (decide (i.2.2.1 > (10 : Int))) then
      v_ref1_InsRight_l5 i true
    else bif (i.1 != (11 : Int)) then
      v_ref1_InsRight_l5 i (i.2.2.1 != (0 : Int))
    else v_ref1_InsRight_l5 i false
  else bif (i.1 != (11 : Int)) then
    v_ref1_InsRight_l5 i (i.2.2.1 != (0 : Int))
  else v_ref1_InsRight_l5 i false
def k_ref1_InsRight_l2 (i : El T_api_Ins) (h : Bool) : Bool :=
  bif h then
    true
  else bif (i.1 == (11 : Int)) then
    bif (decide (i.2.2.1 < (1 : Int))) then
      k_ref1_InsRight_l5 i true
    else bif (decide (i.2.2.1 > (10 : Int))) then
      k_ref1_InsRight_l5 i true
    else bif (i.1 != (11 : Int)) then
      k_ref1_InsRight_l5 i (i.2.2.1 != (0 : Int))
    else k_ref1_InsRight_l5 i false
  else bif (i.1 != (11 : Int)) then
    k_ref1_InsRight_l5 i (i.2.2.1 != (0 : Int))
  else k_ref1_InsRight_l5 i false
theorem g_ref1_InsRight_l2 (i : El T_api_Ins) (h : Bool) (hk : k_ref1_InsRight_l2 i h = true) : Goes (T_ref1_InsRight i) (.jmp (.l2 h)) (v_ref1_InsRight_l2 i h) :=
  Goes.jmp (Goes.brk hk (fun hk =>
    Goes.leaf) (fun hk =>
    Goes.brk hk (fun hk =>
      Goes.brk hk (fun hk =>
        g_ref1_InsRight_l5 i true hk) (fun hk =>
        Goes.brk hk (fun hk =>
          g_ref1_InsRight_l5 i true hk) (fun hk =>
          Goes.brk hk (fun hk =>
            g_ref1_InsRight_l5 i (i.2.2.1 != (0 : Int)) hk) (fun hk =>
            g_ref1_InsRight_l5 i false hk)))) (fun hk =>
      Goes.brk hk (fun hk =>
        g_ref1_InsRight_l5 i (i.2.2.1 != (0 : Int)) hk) (fun hk =>
        g_ref1_InsRight_l5 i false hk))))
def u_ref1_InsRight (i : El T_api_Ins) : Int :=
  bif (decide (i.1 < (1 : Int))) then
    v_ref1_InsRight_l2 i true
  else bif (decide (i.1 > (14 : Int))) then
    v_ref1_InsRight_l2 i true
  else bif (! (v_ref1_row i)) then
    v_ref1_InsRight_l2 i true
  else bif (! (v_ref1_Jumps i.1)) then
    v_ref1_InsRight_l2 i (! (eqB i.2.2.2.2.2.1 (bs [])))
  else v_ref1_InsRight_l2 i false
def ku_ref1_InsRight (i : El T_api_Ins) : Bool :=
  bif (decide (i.1 < (1 : Int))) then
    k_ref1_InsRight_l2 i true
  else bif (decide (i.1 > (14 : Int))) then
    k_ref1_InsRight_l2 i true
  else bif (! (v_ref1_row i)) then
    k_ref1_InsRight_l2 i true
  else bif (! (v_ref1_Jumps i.1)) then
    k_ref1_InsRight_l2 i (! (eqB i.2.2.2.2.2.1 (bs [])))
  else k_ref1_InsRight_l2 i false
theorem gu_ref1_InsRight (i : El T_api_Ins) (hk : ku_ref1_InsRight i = true) : Goes (T_ref1_InsRight i) (T0_ref1_InsRight i) (u_ref1_InsRight i) :=
  Goes.brk hk (fun hk =>
    g_ref1_InsRight_l2 i true hk) (fun hk =>
    Goes.brk hk (fun hk =>
      g_ref1_InsRight_l2 i true hk) (fun hk =>
      Goes.brk hk (fun hk =>
        g_ref1_InsRight_l2 i true hk) (fun hk =>
        Goes.brk hk (fun hk =>
          g_ref1_InsRight_l2 i (! (eqB i.2.2.2.2.2.1 (bs []))) hk) (fun hk =>
          g_ref1_InsRight_l2 i false hk))))
def R_ref1_InsRight : Int → AV := fun (r : Int) => .d (.int .i64) r
def S_ref1_InsRight (i : El T_api_Ins) : J_ref1_InsRight → Nat × St
  | .l2 h => (2, ⟨mkTm 59 [(1, .pt 2 0 0), (26, .d .bool h)], [(2, 0, .box 61 [.d (.int .i64) i.1, .d .bool i.2.1, .d (.int .i64) i.2.2.1, .d (.int .i64) i.2.2.2.1.1, .d (.int .i64) i.2.2.2.1.2.1, .d (.int .i64) i.2.2.2.1.2.2.1, .d (.int .i64) i.2.2.2.1.2.2.2, .d (.int .i64) i.2.2.2.2.1.1, .d (.int .i64) i.2.2.2.2.1.2.1, .d (.int .i64) i.2.2.2.2.1.2.2.1, .d (.int .i64) i.2.2.2.2.1.2.2.2, .d .str i.2.2.2.2.2.1, .d (.sl .str) i.2.2.2.2.2.2] none)]⟩)
  | .l5 h => (5, ⟨mkTm 59 [(1, .pt 2 0 0), (49, .d .bool h)], [(2, 0, .box 61 [.d (.int .i64) i.1, .d .bool i.2.1, .d (.int .i64) i.2.2.1, .d (.int .i64) i.2.2.2.1.1, .d (.int .i64) i.2.2.2.1.2.1, .d (.int .i64) i.2.2.2.1.2.2.1, .d (.int .i64) i.2.2.2.1.2.2.2, .d (.int .i64) i.2.2.2.2.1.1, .d (.int .i64) i.2.2.2.2.1.2.1, .d (.int .i64) i.2.2.2.2.1.2.2.1, .d (.int .i64) i.2.2.2.2.1.2.2.2, .d .str i.2.2.2.2.2.1, .d (.sl .str) i.2.2.2.2.2.2] none)]⟩)
theorem en_ref1_InsRight (i : El T_api_Ins) (L : Lt) : entryA Go.Proofs.Tryz.prog (clOf t_ref1_InsRight) tb_ref1_InsRight Go.Proofs.Tryz.f57 c_ref1_InsRight L (toForms sg_ref1_InsRight (i, ())) = (T0_ref1_InsRight i).run (fun v => some (R_ref1_InsRight v, tps (toForms sg_ref1_InsRight (i, ())))) fun j => L (S_ref1_InsRight i j).1 (S_ref1_InsRight i j).2 := by kernel_rfl
theorem lp_ref1_InsRight (i : El T_api_Ins) : ∀ (L : Lt) (j : J_ref1_InsRight), procOf (procsF Go.Proofs.Tryz.prog (clOf t_ref1_InsRight) tb_ref1_InsRight Go.Proofs.Tryz.f57 c_ref1_InsRight (toForms sg_ref1_InsRight (i, ()))) (S_ref1_InsRight i j).1 L (S_ref1_InsRight i j).2 = (T_ref1_InsRight i j).run (fun v => some (R_ref1_InsRight v, tps (toForms sg_ref1_InsRight (i, ())))) fun j => L (S_ref1_InsRight i j).1 (S_ref1_InsRight i j).2
  | L, .l2 h => by kernel_rfl
  | L, .l5 h => by kernel_rfl
end
end Go.Ev
end

section
set_option linter.unusedSectionVars false
set_option linter.unusedVariables false
set_option linter.unusedSimpArgs false
set_option linter.unusedVariables false
set_option linter.unusedSimpArgs false
open Go
namespace Go.Ev
def refRB_l5 (op cond : Int) (row nm te : Bool) (h : Bool) : Int :=
  bif h then
    (4 : Int)
  else bif (bif (op == (10 : Int)) then true else (op == (11 : Int))) then
    bif true then
      bif (! nm) then
        (3 : Int)
      else (0 : Int)
    else (0 : Int)
  else (0 : Int)
def refRB_l2 (op cond : Int) (row nm te : Bool) (h : Bool) : Int :=
  bif h then
    (4 : Int)
  else bif (op == (11 : Int)) then
    bif (decide (cond < (1 : Int))) then
      refRB_l5 op cond row nm te true
    else bif (decide (cond > (10 : Int))) then
      refRB_l5 op cond row nm te true
    else bif (op != (11 : Int)) then
      refRB_l5 op cond row nm te (cond != (0 : Int))
    else refRB_l5 op cond row nm te false
  else bif (op != (11 : Int)) then
    refRB_l5 op cond row nm te (cond != (0 : Int))
  else refRB_l5 op cond row nm te false
def refRB (op cond : Int) (row nm te : Bool) : Int :=
  bif (decide (op < (1 : Int))) then
    refRB_l2 op cond row nm te true
  else bif (decide (op > (14 : Int))) then
    refRB_l2 op cond row nm te true
  else bif (! row) then
    refRB_l2 op cond row nm te true
  else bif (! (bif (op == (10 : Int)) then true else (op == (11 : Int)))) then
    refRB_l2 op cond row nm te (! te)
  else refRB_l2 op cond row nm te false
def insRB (op cond : Int) (row nm te : Bool) : Int :=
  bif (op == (10 : Int)) then
    bif (! (decide (1 ≤ op) && (decide (op ≤ 14) && (row && condOK op cond)))) then
      (4 : Int)
    else bif true then
      bif (! nm) then
        (3 : Int)
      else (0 : Int)
    else (0 : Int)
  else bif (! (decide (1 ≤ op) && (decide (op ≤ 14) && (row && condOK op cond)))) then
    (4 : Int)
  else bif (! (op == (11 : Int))) then
    bif (! te) then
      (4 : Int)
    else bif (op == (11 : Int)) then
      bif true then
        bif (! nm) then
          (3 : Int)
        else (0 : Int)
      else (0 : Int)
    else (0 : Int)
  else bif (op == (11 : Int)) then
    bif true then
      bif (! nm) then
        (3 : Int)
      else (0 : Int)
    else (0 : Int)
  else (0 : Int)

theorem rightB (op cond : Int) (row nm te : Bool) : refRB op cond row nm te = insRB op cond row nm te := by
  unfold refRB refRB_l2 refRB_l5 insRB condOK
  have beqs : ∀ (k c : Int), (k == c) = decide (k = c) := fun k c => by rw [Bool.eq_iff_iff]; simp
  have bnes : ∀ (k c : Int), (k != c) = !decide (k = c) := fun k c => by rw [Bool.eq_iff_iff]; simp
  simp only [beqs, bnes]
  by_cases h1 : op < 1
  · have e1 : decide (op = 10) = false := by simp; omega
    have e2 : decide (op = 11) = false := by simp; omega
    have e3 : decide (1 ≤ op) = false := by simp; omega
    simp [h1, e1, e2, e3]
  by_cases h2 : op > 14
  · have e1 : decide (op = 10) = false := by simp; omega
    have e2 : decide (op = 11) = false := by simp; omega
    have e3 : decide (op ≤ 14) = false := by simp; omega
    simp [h1, h2, e1, e2, e3]
  have e3 : decide (1 ≤ op) = true := by simp; omega
  have e4 : decide (op ≤ 14) = true := by simp; omega
  by_cases h10 : op = 10
  · subst h10
    by_cases hc : cond = 0 <;> cases row <;> cases nm <;> simp [hc]
  by_cases h11 : op = 11
  · subst h11
    have f1 : decide (1 ≤ cond) = !decide (cond < 1) := by by_cases h : cond < 1 <;> simp [h] <;> omega
    have f2 : decide (cond ≤ 10) = !decide (cond > 10) := by by_cases h : cond > 10 <;> simp [h] <;> omega
    rw [f1, f2]
    by_cases hc : cond < 1 <;> by_cases hd : cond > 10 <;> cases row <;> cases nm <;> simp [hc, hd]
  by_cases hc : cond = 0 <;> cases row <;> cases te <;> simp [h1, h2, h10, h11, e3, e4, hc]
def v_ref1_InsRight (i : El T_api_Ins) : Int := v_ins_Right i
def k_ref1_InsRight (i : El T_api_Ins) : Bool := smallText i.2.2.2.2.2.1
theorem g_ref1_InsRight (i : El T_api_Ins) (hk : k_ref1_InsRight i = true) : Goes (T_ref1_InsRight i) (T0_ref1_InsRight i) (v_ref1_InsRight i) := by
  have h1 : k_ref1_Right i.2.2.2.2.2.1 = true := hk
  have h2 : k_names_Right i.2.2.2.2.2.1 = true := hk
  have hku : ku_ref1_InsRight i = true := by
    unfold ku_ref1_InsRight k_ref1_InsRight_l2 k_ref1_InsRight_l5
    simp only [h1, cond_true, Bool.cond_self]
  have hr : u_ref1_InsRight i = refRB i.1 i.2.2.1 (v_ref1_row i) (nameRight i.2.2.2.2.2.1) (eqB i.2.2.2.2.2.1 (bs [])) := by
    unfold u_ref1_InsRight v_ref1_InsRight_l2 v_ref1_InsRight_l5
    simp only [h1]
    rfl
  have hp : u_ins_Right i = insRB i.1 i.2.2.1 (v_ref1_row i) (nameRight i.2.2.2.2.2.1) (eqB i.2.2.2.2.2.1 (bs [])) := by
    unfold u_ins_Right
    simp only [h2, fits_row]
    rfl
  have e : v_ref1_InsRight i = u_ref1_InsRight i := by
    rw [hr, rightB, ← hp]
    rfl
  rw [e]
  exact gu_ref1_InsRight i hku
end Go.Ev
end

section
set_option linter.unusedSectionVars false
set_option linter.unusedVariables false
set_option linter.unusedSimpArgs false
set_option maxRecDepth 100000
set_option linter.unusedVariables false
open Go Go.Ev
namespace Go.Ev
noncomputable section
noncomputable def e_ref1_InsRight : Run := entG sg_ref1_InsRight R_ref1_InsRight (fun a => k_ref1_InsRight a.1) (fun a => v_ref1_InsRight a.1)
theorem ok_ref1_InsRight : EntOK Go.Proofs.Tryz.prog 57 e_ref1_InsRight := entG_ok (tb := tb_ref1_InsRight) (c := c_ref1_InsRight) tk_ref1_InsRight (by kernel_rfl) (by kernel_rfl) (by kernel_rfl) (fun a => by kernel_rfl) fun ⟨i, _⟩ hk => evF_goes (c := c_ref1_InsRight) (K := fun v => (R_ref1_InsRight v, tps (toForms sg_ref1_InsRight (i, ())))) (S := S_ref1_InsRight i) (by kernel_rfl) (en_ref1_InsRight i) (lp_ref1_InsRight i) (g_ref1_InsRight i hk)
end
end Go.Ev
end

section
set_option linter.unusedSectionVars false
set_option linter.unusedVariables false
set_option linter.unusedSimpArgs false
set_option maxRecDepth 100000
set_option linter.unusedVariables false
open Go Go.Ev
namespace Go.Ev
noncomputable section
/-! ### paling/palingref1.operand -/
def sg_ref1_operand : Sig := [(true, T_api_Prog), (true, T_api_Opd)]
noncomputable def t_ref1_operand : Tbl := [(58, e_ref1_Memory)]
theorem tk_ref1_operand : ∀ p ∈ t_ref1_operand, EntOK Go.Proofs.Tryz.prog p.1 p.2 := tbl_cons ok_ref1_Memory (tbl_nil)
noncomputable def c_ref1_operand : Code := Go.Proofs.Tryz.f90.body.getD .skip
def tb_ref1_operand : Tb := []
def T_ref1_operand (p : El T_api_Prog) (o : El T_api_Opd) : Empty → JT Empty (Int) := fun j => nomatch j
def T0_ref1_operand (p : El T_api_Prog) (o : El T_api_Opd) : JT Empty (Int) :=
  .br (! (v_ref1_Memory o))
    (.leaf (0 : Int))
  (.br (decide (o.2.2.1 ≥ (Int.ofNat (List.length p.1))))
    (.leaf (7 : Int))
  (.br (o.1 == (3 : Int))
    (.br ((decide ((0 : Int) ≤ o.2.2.1)) && (decide (o.2.2.1 < (Int.ofNat (List.length p.1)))))
      (.br (decide (o.2.2.2 ≥ (List.getD p.1 (Int.toNat o.2.2.1) (dflt T_api_Sym)).2.1))
        (.leaf (8 : Int))
      (.leaf (0 : Int)))
    (.no))
  (.leaf (0 : Int))))
def v_ref1_operand (p : El T_api_Prog) (o : El T_api_Opd) : Int :=
  bif (! (v_ref1_Memory o)) then
    (0 : Int)
  else bif (decide (o.2.2.1 ≥ (Int.ofNat (List.length p.1)))) then
    (7 : Int)
  else bif (o.1 == (3 : Int)) then
    bif ((decide ((0 : Int) ≤ o.2.2.1)) && (decide (o.2.2.1 < (Int.ofNat (List.length p.1))))) then
      bif (decide (o.2.2.2 ≥ (List.getD p.1 (Int.toNat o.2.2.1) (dflt T_api_Sym)).2.1)) then
        (8 : Int)
      else (0 : Int)
    else (0 : Int)
  else (0 : Int)
def k_ref1_operand (p : El T_api_Prog) (o : El T_api_Opd) : Bool :=
  bif (! (v_ref1_Memory o)) then
    true
  else bif (decide (o.2.2.1 ≥ (Int.ofNat (List.length p.1)))) then
    true
  else bif (o.1 == (3 : Int)) then
    bif ((decide ((0 : Int) ≤ o.2.2.1)) && (decide (o.2.2.1 < (Int.ofNat (List.length p.1))))) then
      bif (decide (o.2.2.2 ≥ (List.getD p.1 (Int.toNat o.2.2.1) (dflt T_api_Sym)).2.1)) then
        true
      else true
    else false
  else true
theorem g_ref1_operand (p : El T_api_Prog) (o : El T_api_Opd) (hk : k_ref1_operand p o = true) : Goes (T_ref1_operand p o) (T0_ref1_operand p o) (v_ref1_operand p o) :=
  Goes.brk hk (fun hk =>
    Goes.leaf) (fun hk =>
    Goes.brk hk (fun hk =>
      Goes.leaf) (fun hk =>
      Goes.brk hk (fun hk =>
        Goes.brk hk (fun hk =>
          Goes.brk hk (fun hk =>
            Goes.leaf) (fun hk =>
            Goes.leaf)) (fun hk =>
          Goes.nok hk)) (fun hk =>
        Goes.leaf)))
def R_ref1_operand : Int → AV := fun (r : Int) => .d (.int .i64) r
def S_ref1_operand (p : El T_api_Prog) (o : El T_api_Opd) : Empty → Nat × St := fun j => nomatch j
theorem en_ref1_operand (p : El T_api_Prog) (o : El T_api_Opd) (L : Lt) : entryA Go.Proofs.Tryz.prog (clOf t_ref1_operand) tb_ref1_operand Go.Proofs.Tryz.f90 c_ref1_operand L (toForms sg_ref1_operand (p, o, ())) = (T0_ref1_operand p o).run (fun v => some (R_ref1_operand v, tps (toForms sg_ref1_operand (p, o, ())))) fun j => L (S_ref1_operand p o j).1 (S_ref1_operand p o j).2 := by kernel_rfl
theorem lp_ref1_operand (p : El T_api_Prog) (o : El T_api_Opd) : ∀ (L : Lt) (j : Empty), procOf (procsF Go.Proofs.Tryz.prog (clOf t_ref1_operand) tb_ref1_operand Go.Proofs.Tryz.f90 c_ref1_operand (toForms sg_ref1_operand (p, o, ()))) (S_ref1_operand p o j).1 L (S_ref1_operand p o j).2 = (T_ref1_operand p o j).run (fun v => some (R_ref1_operand v, tps (toForms sg_ref1_operand (p, o, ())))) fun j => L (S_ref1_operand p o j).1 (S_ref1_operand p o j).2 := fun L j => nomatch j
noncomputable def e_ref1_operand : Run := entG sg_ref1_operand R_ref1_operand (fun a => k_ref1_operand a.1 a.2.1) (fun a => v_ref1_operand a.1 a.2.1)
theorem ok_ref1_operand : EntOK Go.Proofs.Tryz.prog 90 e_ref1_operand := entG_ok (tb := tb_ref1_operand) (c := c_ref1_operand) tk_ref1_operand (by kernel_rfl) (by kernel_rfl) (by kernel_rfl) (fun a => by kernel_rfl) fun ⟨p, o, _⟩ hk => evF_goes (c := c_ref1_operand) (K := fun v => (R_ref1_operand v, tps (toForms sg_ref1_operand (p, o, ())))) (S := S_ref1_operand p o) (by kernel_rfl) (en_ref1_operand p o) (lp_ref1_operand p o) (g_ref1_operand p o hk)
end
end Go.Ev
end

section
set_option linter.unusedSectionVars false
set_option linter.unusedVariables false
set_option linter.unusedSimpArgs false
set_option maxRecDepth 100000
set_option linter.unusedVariables false
open Go Go.Ev
namespace Go.Ev
noncomputable section
/-! ### paling/palingref1.Find -/
def sg_ref1_Find : Sig := [(true, (.sl T_api_Ins)), (false, .str)]
noncomputable def t_ref1_Find : Tbl := [(89, e_ref1_index)]
theorem tk_ref1_Find : ∀ p ∈ t_ref1_Find, EntOK Go.Proofs.Tryz.prog p.1 p.2 := tbl_cons ok_ref1_index (tbl_nil)
noncomputable def c_ref1_Find : Code := Go.Proofs.Tryz.f91.body.getD .skip
def tb_ref1_Find : Tb := [(3, ⟨[1, 2, 5], []⟩)]
inductive J_ref1_Find where
  | l3 (i : Int)
def T_ref1_Find (t : List (El T_api_Ins)) (label : ByteArray) : J_ref1_Find → JT J_ref1_Find (Int)
  | .l3 i =>
    .br (decide (i < (Int.ofNat (List.length t))))
      (.br ((decide ((0 : Int) ≤ i)) && (decide (i < (Int.ofNat (List.length t)))))
        (.br (k_ref1_index (List.getD t (Int.toNat i) (dflt T_api_Ins)).2.2.2.2.2.2 label)
          (.br (decide ((v_ref1_index (List.getD t (Int.toNat i) (dflt T_api_Ins)).2.2.2.2.2.2 label) ≥ (0 : Int)))
            (.leaf i)
          (.jmp (.l3 (IntKind.i64.wrap (i + (1 : Int))))))
        (.no))
      (.no))
    (.leaf (-1 : Int))
def T0_ref1_Find (t : List (El T_api_Ins)) (label : ByteArray) : JT J_ref1_Find (Int) :=
  .jmp (.l3 (0 : Int))
def R_ref1_Find : Int → AV := fun (r : Int) => .d (.int .i64) r
def S_ref1_Find (t : List (El T_api_Ins)) (label : ByteArray) : J_ref1_Find → Nat × St
  | .l3 i => (3, ⟨mkTm 23 [(1, .d .str label), (2, .pt 3 0 0), (5, .d (.int .i64) i)], [(3, 0, .box 48 [.d (.sl T_api_Ins) t] none)]⟩)
theorem en_ref1_Find (t : List (El T_api_Ins)) (label : ByteArray) (L : Lt) : entryA Go.Proofs.Tryz.prog (clOf t_ref1_Find) tb_ref1_Find Go.Proofs.Tryz.f91 c_ref1_Find L (toForms sg_ref1_Find (t, label, ())) = (T0_ref1_Find t label).run (fun v => some (R_ref1_Find v, tps (toForms sg_ref1_Find (t, label, ())))) fun j => L (S_ref1_Find t label j).1 (S_ref1_Find t label j).2 := by kernel_rfl
theorem lp_ref1_Find (t : List (El T_api_Ins)) (label : ByteArray) : ∀ (L : Lt) (j : J_ref1_Find), procOf (procsF Go.Proofs.Tryz.prog (clOf t_ref1_Find) tb_ref1_Find Go.Proofs.Tryz.f91 c_ref1_Find (toForms sg_ref1_Find (t, label, ()))) (S_ref1_Find t label j).1 L (S_ref1_Find t label j).2 = (T_ref1_Find t label j).run (fun v => some (R_ref1_Find v, tps (toForms sg_ref1_Find (t, label, ())))) fun j => L (S_ref1_Find t label j).1 (S_ref1_Find t label j).2
  | L, .l3 i => by kernel_rfl
end
end Go.Ev
end

section
set_option linter.unusedSectionVars false
set_option linter.unusedVariables false
set_option linter.unusedSimpArgs false
set_option linter.unusedVariables false
set_option linter.unusedSimpArgs false
open Go
namespace Go.Ev
def v_ref1_Find (t : List (El T_api_Ins)) (label : ByteArray) : Int := findI label t 0
def k_ref1_Find (t : List (El T_api_Ins)) (label : ByteArray) : Bool := decide (t.length < 1099511627776) && t.all fun i => decide (i.2.2.2.2.2.2.length < 1099511627776)
theorem g_ref1_Find (t : List (El T_api_Ins)) (label : ByteArray) (hk : k_ref1_Find t label = true) : Goes (T_ref1_Find t label) (T0_ref1_Find t label) (v_ref1_Find t label) := by
  unfold k_ref1_Find at hk
  simp only [Bool.and_eq_true, decide_eq_true_eq, List.all_eq_true] at hk
  obtain ⟨hn, hl⟩ := hk
  have loop : ∀ k, k ≤ t.length → Goes (T_ref1_Find t label) (.jmp (.l3 (k : Int))) (findI label (t.drop k) k) := by
    refine down ?_ fun k hk ih => ?_
    · rw [goes_jmp]
      simp only [T_ref1_Find, goes_br, lt_len_not (Nat.lt_irrefl _), goes_leaf, List.drop_length]
      simp [findI]
    · have hli := hl t[k] (List.getElem_mem hk)
      have hki : k_ref1_index t[k].2.2.2.2.2.2 label = true := decide_eq_true (by omega)
      rw [goes_jmp]
      simp only [T_ref1_Find, goes_br, lt_len hk, nng, Bool.and_self, if_true, Int.toNat_natCast, getD_lt hk, wrap_succ (k := k) (by omega), hki]
      rw [drop_cons hk]
      unfold findI
      have hi : decide (v_ref1_index t[k].2.2.2.2.2.2 label ≥ 0) = t[k].2.2.2.2.2.2.contains label := by
        rw [← findFrom_contains (k := 0)]
        unfold v_ref1_index
        cases h : findFrom label t[k].2.2.2.2.2.2 0 with
        | none => rfl
        | some n => simp
      rw [hi]
      split
      · exact .leaf
      · exact ih
  unfold T0_ref1_Find v_ref1_Find
  simpa using loop 0 (Nat.zero_le _)
end Go.Ev
end

section
set_option linter.unusedSectionVars false
set_option linter.unusedVariables false
set_option linter.unusedSimpArgs false
set_option maxRecDepth 100000
set_option linter.unusedVariables false
open Go Go.Ev
namespace Go.Ev
noncomputable section
noncomputable def e_ref1_Find : Run := entG sg_ref1_Find R_ref1_Find (fun a => k_ref1_Find a.1 a.2.1) (fun a => v_ref1_Find a.1 a.2.1)
theorem ok_ref1_Find : EntOK Go.Proofs.Tryz.prog 91 e_ref1_Find := entG_ok (tb := tb_ref1_Find) (c := c_ref1_Find) tk_ref1_Find (by kernel_rfl) (by kernel_rfl) (by kernel_rfl) (fun a => by kernel_rfl) fun ⟨t, label, _⟩ hk => evF_goes (c := c_ref1_Find) (K := fun v => (R_ref1_Find v, tps (toForms sg_ref1_Find (t, label, ())))) (S := S_ref1_Find t label) (by kernel_rfl) (en_ref1_Find t label) (lp_ref1_Find t label) (g_ref1_Find t label hk)
end
end Go.Ev
end

section
set_option linter.unusedSectionVars false
set_option linter.unusedVariables false
set_option linter.unusedSimpArgs false
set_option maxRecDepth 100000
set_option linter.unusedVariables false
open Go Go.Ev
namespace Go.Ev
noncomputable section
/-! ### paling/palingref1.thread -/
def sg_ref1_thread : Sig := [(true, T_api_Prog), (true, (.sl T_api_Ins))]
noncomputable def t_ref1_thread : Tbl := [(88, e_ref1_Count), (68, e_ref1_Right), (89, e_ref1_index), (57, e_ref1_InsRight), (90, e_ref1_operand), (79, e_ref1_Jumps), (91, e_ref1_Find)]
theorem tk_ref1_thread : ∀ p ∈ t_ref1_thread, EntOK Go.Proofs.Tryz.prog p.1 p.2 := tbl_cons ok_ref1_Count (tbl_cons ok_ref1_Right (tbl_cons ok_ref1_index (tbl_cons ok_ref1_InsRight (tbl_cons ok_ref1_operand (tbl_cons ok_ref1_Jumps (tbl_cons ok_ref1_Find (tbl_nil)))))))
noncomputable def c_ref1_thread : Code := Go.Proofs.Tryz.f69.body.getD .skip
def tb_ref1_thread : Tb := [(7, ⟨[2, 3, 5, 6], [(6, 118)]⟩), (14, ⟨[2, 3, 5, 6, 7, 8], [(6, 118)]⟩), (44, ⟨[3, 13], []⟩)]
inductive J_ref1_thread where
  | l7 (i : Int) (seen : List ByteArray)
  | l14 (x : Int) (x1 : Bool) (x2 : Int) (x3 : Int) (x4 : Int) (x5 : Int) (x6 : Int) (x7 : Int) (x8 : Int) (x9 : Int) (x10 : Int) (x11 : ByteArray) (x12 : List ByteArray) (k : Int) (seen : List ByteArray) (i : Int)
  | l44 (i : Int)
def T_ref1_thread (p : El T_api_Prog) (t : List (El T_api_Ins)) : J_ref1_thread → JT J_ref1_thread (Int)
  | .l7 i seen =>
    .br (decide (i < (Int.ofNat (List.length t))))
      (.br ((decide ((0 : Int) ≤ i)) && (decide (i < (Int.ofNat (List.length t)))))
        (.jmp (.l14 (List.getD t (Int.toNat i) (dflt T_api_Ins)).1 (List.getD t (Int.toNat i) (dflt T_api_Ins)).2.1 (List.getD t (Int.toNat i) (dflt T_api_Ins)).2.2.1 (List.getD t (Int.toNat i) (dflt T_api_Ins)).2.2.2.1.1 (List.getD t (Int.toNat i) (dflt T_api_Ins)).2.2.2.1.2.1 (List.getD t (Int.toNat i) (dflt T_api_Ins)).2.2.2.1.2.2.1 (List.getD t (Int.toNat i) (dflt T_api_Ins)).2.2.2.1.2.2.2 (List.getD t (Int.toNat i) (dflt T_api_Ins)).2.2.2.2.1.1 (List.getD t (Int.toNat i) (dflt T_api_Ins)).2.2.2.2.1.2.1 (List.getD t (Int.toNat i) (dflt T_api_Ins)).2.2.2.2.1.2.2.1 (List.getD t (Int.toNat i) (dflt T_api_Ins)).2.2.2.2.1.2.2.2 (List.getD t (Int.toNat i) (dflt T_api_Ins)).2.2.2.2.2.1 (List.getD t (Int.toNat i) (dflt T_api_Ins)).2.2.2.2.2.2 (0 : Int) seen i))
      (.no))
    (.br ((Int.ofNat (List.length t)) == (0 : Int))
      (.leaf (9 : Int))
    (.br ((decide ((0 : Int) ≤ (IntKind.i64.wrap ((Int.ofNat (List.length t)) - (1 : Int))))) && (decide ((IntKind.i64.wrap ((Int.ofNat (List.length t)) - (1 : Int))) < (Int.ofNat (List.length t)))))
      (.br ((List.getD t (Int.toNat (IntKind.i64.wrap ((Int.ofNat (List.length t)) - (1 : Int)))) (dflt T_api_Ins)).1 != (10 : Int))
        (.br ((List.getD t (Int.toNat (IntKind.i64.wrap ((Int.ofNat (List.length t)) - (1 : Int)))) (dflt T_api_Ins)).1 != (14 : Int))
          (.leaf (9 : Int))
        (.jmp (.l44 (0 : Int))))
      (.jmp (.l44 (0 : Int))))
    (.no)))
  | .l14 x x1 x2 x3 x4 x5 x6 x7 x8 x9 x10 x11 x12 k seen i =>
    .br (decide (k < (Int.ofNat (List.length x12))))
      (.br ((decide ((0 : Int) ≤ k)) && (decide (k < (Int.ofNat (List.length x12)))))
        (.br (k_ref1_Right (List.getD x12 (Int.toNat k) (dflt .str)))
          (.br (! (v_ref1_Right (List.getD x12 (Int.toNat k) (dflt .str))))
            (.leaf (3 : Int))
          (.br ((decide ((0 : Int) ≤ k)) && (decide (k < (Int.ofNat (List.length x12)))))
            (.br (k_ref1_index seen (List.getD x12 (Int.toNat k) (dflt .str)))
              (.br (decide ((v_ref1_index seen (List.getD x12 (Int.toNat k) (dflt .str))) ≥ (0 : Int)))
                (.leaf (6 : Int))
              (.br ((decide ((0 : Int) ≤ k)) && (decide (k < (Int.ofNat (List.length x12)))))
                (.br (Nat.ble (((List.length seen) + 1) * 16) limit)
                  (.jmp (.l14 x x1 x2 x3 x4 x5 x6 x7 x8 x9 x10 x11 x12 (IntKind.i64.wrap (k + (1 : Int))) (seen ++ [(List.getD x12 (Int.toNat k) (dflt .str))]) i))
                (.no))
              (.no)))
            (.no))
          (.no)))
        (.no))
      (.no))
    (.br (k_ref1_InsRight (x, (x1, (x2, ((x3, (x4, (x5, x6))), ((x7, (x8, (x9, x10))), (x11, x12)))))))
      (.br ((v_ref1_InsRight (x, (x1, (x2, ((x3, (x4, (x5, x6))), ((x7, (x8, (x9, x10))), (x11, x12))))))) != (0 : Int))
        (.leaf (v_ref1_InsRight (x, (x1, (x2, ((x3, (x4, (x5, x6))), ((x7, (x8, (x9, x10))), (x11, x12))))))))
      (.br (k_ref1_operand p (x3, (x4, (x5, x6))))
        (.br ((v_ref1_operand p (x3, (x4, (x5, x6)))) != (0 : Int))
          (.leaf (v_ref1_operand p (x3, (x4, (x5, x6)))))
        (.br (k_ref1_operand p (x7, (x8, (x9, x10))))
          (.br ((v_ref1_operand p (x7, (x8, (x9, x10)))) != (0 : Int))
            (.leaf (v_ref1_operand p (x7, (x8, (x9, x10)))))
          (.jmp (.l7 (IntKind.i64.wrap (i + (1 : Int))) seen)))
        (.no)))
      (.no)))
    (.no))
  | .l44 i =>
    .br (decide (i < (Int.ofNat (List.length t))))
      (.br ((decide ((0 : Int) ≤ i)) && (decide (i < (Int.ofNat (List.length t)))))
        (.br (v_ref1_Jumps (List.getD t (Int.toNat i) (dflt T_api_Ins)).1)
          (.br ((decide ((0 : Int) ≤ i)) && (decide (i < (Int.ofNat (List.length t)))))
            (.br (k_ref1_Find t (List.getD t (Int.toNat i) (dflt T_api_Ins)).2.2.2.2.2.1)
              (.br (decide ((v_ref1_Find t (List.getD t (Int.toNat i) (dflt T_api_Ins)).2.2.2.2.2.1) < (0 : Int)))
                (.leaf (7 : Int))
              (.jmp (.l44 (IntKind.i64.wrap (i + (1 : Int))))))
            (.no))
          (.no))
        (.jmp (.l44 (IntKind.i64.wrap (i + (1 : Int))))))
      (.no))
    (.leaf (0 : Int))
def T0_ref1_thread (p : El T_api_Prog) (t : List (El T_api_Ins)) : JT J_ref1_thread (Int) :=
  .br (k_ref1_Count t)
    (.br (decide ((v_ref1_Count t) > (4096 : Int)))
      (.leaf (10 : Int))
    (.jmp (.l7 (0 : Int) [])))
  (.no)
def R_ref1_thread : Int → AV := fun (r : Int) => .d (.int .i64) r
def S_ref1_thread (p : El T_api_Prog) (t : List (El T_api_Ins)) : J_ref1_thread → Nat × St
  | .l7 i seen => (7, ⟨mkTm 122 [(2, .pt 3 0 0), (3, .pt 4 0 0), (5, .own 6 0 none), (6, .d (.int .i64) i)], [(3, 0, .box 26 [.d (.sl T_api_Sym) p.1, .d (.sl (.sl T_api_Ins)) p.2] none), (4, 0, .box 48 [.d (.sl T_api_Ins) t] none), (6, 0, .row 9 .str seen false)]⟩)
  | .l14 x x1 x2 x3 x4 x5 x6 x7 x8 x9 x10 x11 x12 k seen i => (14, ⟨mkTm 122 [(2, .pt 3 0 0), (3, .pt 4 0 0), (5, .own 6 0 none), (6, .d (.int .i64) i), (7, .pt 8 0 0), (8, .d (.int .i64) k)], [(3, 0, .box 26 [.d (.sl T_api_Sym) p.1, .d (.sl (.sl T_api_Ins)) p.2] none), (4, 0, .box 48 [.d (.sl T_api_Ins) t] none), (6, 0, .row 9 .str seen false), (8, 0, .box 61 [.d (.int .i64) x, .d .bool x1, .d (.int .i64) x2, .d (.int .i64) x3, .d (.int .i64) x4, .d (.int .i64) x5, .d (.int .i64) x6, .d (.int .i64) x7, .d (.int .i64) x8, .d (.int .i64) x9, .d (.int .i64) x10, .d .str x11, .d (.sl .str) x12] none)]⟩)
  | .l44 i => (44, ⟨mkTm 122 [(3, .pt 4 0 0), (13, .d (.int .i64) i)], [(4, 0, .box 48 [.d (.sl T_api_Ins) t] none)]⟩)
theorem en_ref1_thread (p : El T_api_Prog) (t : List (El T_api_Ins)) (L : Lt) : entryA Go.Proofs.Tryz.prog (clOf t_ref1_thread) tb_ref1_thread Go.Proofs.Tryz.f69 c_ref1_thread L (toForms sg_ref1_thread (p, t, ())) = (T0_ref1_thread p t).run (fun v => some (R_ref1_thread v, tps (toForms sg_ref1_thread (p, t, ())))) fun j => L (S_ref1_thread p t j).1 (S_ref1_thread p t j).2 := by kernel_rfl
theorem lp_ref1_thread (p : El T_api_Prog) (t : List (El T_api_Ins)) : ∀ (L : Lt) (j : J_ref1_thread), procOf (procsF Go.Proofs.Tryz.prog (clOf t_ref1_thread) tb_ref1_thread Go.Proofs.Tryz.f69 c_ref1_thread (toForms sg_ref1_thread (p, t, ()))) (S_ref1_thread p t j).1 L (S_ref1_thread p t j).2 = (T_ref1_thread p t j).run (fun v => some (R_ref1_thread v, tps (toForms sg_ref1_thread (p, t, ())))) fun j => L (S_ref1_thread p t j).1 (S_ref1_thread p t j).2
  | L, .l7 i seen => by kernel_rfl
  | L, .l14 x x1 x2 x3 x4 x5 x6 x7 x8 x9 x10 x11 x12 k seen i => by kernel_rfl
  | L, .l44 i => by kernel_rfl
end
end Go.Ev
end

section
set_option linter.unusedSectionVars false
set_option linter.unusedVariables false
set_option linter.unusedSimpArgs false
set_option linter.unusedVariables false
set_option linter.unusedSimpArgs false
open Go
namespace Go.Ev
def v_ref1_thread (p : El T_api_Prog) (t : List (El T_api_Ins)) : Int := threadC p t
def k_ref1_thread (p : El T_api_Prog) (t : List (El T_api_Ins)) : Bool := smallThread t
theorem operand_eq' (len : Nat) (size : Int → Int) (k s n : Int) (h : (k = 3 ∨ k = 4) → 0 ≤ s) :
  (bif (! (decide (k = 3) || decide (k = 4))) then
    (0 : Int)
  else bif (decide (s ≥ (Int.ofNat len))) then
    (7 : Int)
  else bif (k == (3 : Int)) then
    bif ((decide ((0 : Int) ≤ s)) && (decide (s < (Int.ofNat len)))) then
      bif (decide (n ≥ size s)) then
        (8 : Int)
      else (0 : Int)
    else (0 : Int)
  else (0 : Int)) = placeN len size k s n ∧
  (bif (! (decide (k = 3) || decide (k = 4))) then
    true
  else bif (decide (s ≥ (Int.ofNat len))) then
    true
  else bif (k == (3 : Int)) then
    bif ((decide ((0 : Int) ≤ s)) && (decide (s < (Int.ofNat len)))) then
      bif (decide (n ≥ size s)) then
        true
      else true
    else false
  else true) = true := by
  unfold placeN
  by_cases h3 : k = 3
  · have h0 := h (.inl h3)
    subst h3
    by_cases hl : (len : Int) ≤ s
    · simp [hl]
    have h2 : s < (len : Int) := by omega
    have h1 : ¬ s < 0 := by omega
    by_cases hn : size s ≤ n
    · simp [hl, hn, h0, h1, h2]
    · simp [hl, hn, h0, h1, h2]
  by_cases h4 : k = 4
  · have h0 := h (.inr h4)
    subst h4
    have h1 : ¬ s < 0 := by omega
    by_cases hl : (len : Int) ≤ s
    · simp [hl]
    simp [hl, h1]
  simp [h3, h4]
theorem operand_eq (p : El T_api_Prog) (o : El T_api_Opd) (h : ∀ k s : Int, o.1 = k → o.2.2.1 = s → (k = 3 ∨ k = 4) → 0 ≤ s) : v_ref1_operand p o = placeC p o ∧ k_ref1_operand p o = true := by
  have := operand_eq' p.1.length (fun s => (List.getD p.1 s.toNat (dflt T_api_Sym)).2.1) o.1 o.2.2.1 o.2.2.2 (h _ _ rfl rfl)
  unfold v_ref1_operand k_ref1_operand
  rw [refMemory_eq]
  exact this
theorem right_sym' {k r s n : Int} (h : v_opnd_Right (k, r, s, n) = true) (hk : k = 3 ∨ k = 4) : 0 ≤ s := by
  unfold v_opnd_Right at h
  rcases hk with rfl | rfl
  · by_cases hs : 0 ≤ s
    · exact hs
    · simp [hs] at h
  · by_cases hs : 0 ≤ s
    · exact hs
    · simp [hs] at h
theorem opds_ok {i : El T_api_Ins} (hr : v_ins_Right i = 0) : (∀ k s : Int, i.2.2.2.1.1 = k → i.2.2.2.1.2.2.1 = s → (k = 3 ∨ k = 4) → 0 ≤ s) ∧ ∀ k s : Int, i.2.2.2.2.1.1 = k → i.2.2.2.2.1.2.2.1 = s → (k = 3 ∨ k = 4) → 0 ≤ s := by
  obtain ⟨h1, h14, hrow⟩ := right0_row hr
  rcases nine i.1 with ⟨h9, _⟩ | ⟨h9, _⟩
  · obtain ⟨a, b⟩ := row_low hrow h1 h9
    exact ⟨fun k s hk hs h => hs ▸ right_sym' (k := i.2.2.2.1.1) (r := i.2.2.2.1.2.1) (s := i.2.2.2.1.2.2.1) (n := i.2.2.2.1.2.2.2) a (hk ▸ h), fun k s hk hs h => hs ▸ right_sym' (k := i.2.2.2.2.1.1) (r := i.2.2.2.2.1.2.1) (s := i.2.2.2.2.1.2.2.1) (n := i.2.2.2.2.1.2.2.2) b (hk ▸ h)⟩
  · obtain ⟨a, b⟩ := row_high hrow h9
    refine ⟨fun k s hk hs h => ?_, fun k s hk hs h => ?_⟩
    · have : k = 0 := hk ▸ a
      omega
    · have : k = 0 := hk ▸ b
      omega
theorem g_ref1_thread (p : El T_api_Prog) (t : List (El T_api_Ins)) (hk : k_ref1_thread p t = true) : Goes (T_ref1_thread p t) (T0_ref1_thread p t) (v_ref1_thread p t) := by
  have hS := smallT hk
  have hn := hS.len
  have hkf : ∀ l, k_ref1_Find t l = true := fun l => by
    unfold k_ref1_Find
    simp only [Bool.and_eq_true, decide_eq_true_eq, List.all_eq_true]
    exact ⟨hn, fun i hi => Nat.lt_of_le_of_lt (labels_mem hi) hS.labs⟩
  have jmps : ∀ k, k ≤ t.length → Goes (T_ref1_thread p t) (.jmp (.l44 (k : Int))) (jumpC (labels t) (t.drop k)) := by
    refine down ?_ fun k hk ih => ?_
    · rw [goes_jmp]
      simp only [T_ref1_thread, goes_br, lt_len_not (Nat.lt_irrefl _), goes_leaf, List.drop_length]
      simp [jumpC]
    · rw [goes_jmp]
      simp only [T_ref1_thread, goes_br, lt_len hk, nng, Bool.and_self, if_true, Int.toNat_natCast, getD_lt hk, wrap_succ (k := k) (by omega), hkf, jumps_eq]
      have hfi : decide (v_ref1_Find t t[k].2.2.2.2.2.1 < 0) = ! (labels t).contains t[k].2.2.2.2.2.1 := findI_neg
      rw [hfi, drop_cons hk]
      unfold jumpC
      by_cases h1 : ((t[k].1 == (10 : Int)) || (t[k].1 == (11 : Int))) = true
      · rw [if_pos h1, if_pos h1]
        by_cases h2 : (labels t).contains t[k].2.2.2.2.2.1 = true
        · rw [if_pos h2, if_neg (by rw [h2]; decide)]; exact ih
        · rw [if_neg h2, if_pos (by rw [Bool.eq_false_iff.2 h2]; rfl)]; exact .leaf
      · rw [if_neg h1, if_neg h1]; exact ih
  have main : ∀ k, k ≤ t.length → Goes (T_ref1_thread p t) (.jmp (.l7 (k : Int) (labels (t.take k)))) (scanI p (fun seen => endC t (jumpC seen t)) (labels (t.take k)) (t.drop k)) := by
    refine down ?_ fun k hk ih => ?_
    · have hj := jmps 0 (Nat.zero_le _)
      rw [List.drop_zero] at hj
      rw [goes_jmp, List.drop_length, List.take_length]
      unfold scanI
      simp only [T_ref1_thread, goes_br, lt_len_not (Nat.lt_irrefl _)]
      rw [if_neg (by decide)]
      by_cases h0 : t.length = 0
      · have : t = [] := List.eq_nil_of_length_eq_zero h0
        rw [this]; simp [goes_leaf, endC]
      · have hp : 0 < t.length := by omega
        rw [if_neg (by simp; exact fun e => h0 (by rw [e]; rfl)), endC_eq hp]
        rw [show Int.ofNat t.length = (t.length : Int) from rfl, wrap_pred (k := t.length) (by omega) hp]
        have hb : (decide (0 ≤ ((t.length - 1 : Nat) : Int)) && decide (((t.length - 1 : Nat) : Int) < (t.length : Int))) = true := by simp; omega
        simp only [hb, if_true, Int.toNat_natCast, getD_lt (show t.length - 1 < t.length by omega)]
        unfold bne
        cases h10 : (t[t.length - 1].1 == (10 : Int)) with
        | true => simpa using hj
        | false =>
          cases h14 : (t[t.length - 1].1 == (14 : Int)) with
          | true => simpa using hj
          | false => simp [goes_leaf]
    · have hmem : t[k] ∈ t := List.getElem_mem hk
      have hto := hS.to _ hmem
      have hlab := hS.lab _ hmem
      have hlen := Nat.lt_of_le_of_lt (labels_mem hmem) hS.labs
      have htk : labels (t.take (k + 1)) = labels (t.take k) ++ t[k].2.2.2.2.2.2 := by
        unfold labels
        rw [List.take_add_one, List.getElem?_eq_getElem hk, List.flatMap_append]
        simp
      have hall : labels t = labels (t.take (k + 1)) ++ labels (t.drop (k + 1)) := by
        unfold labels
        rw [← List.flatMap_append, List.take_append_drop]
      have hlt : (labels (t.take (k + 1))).length < 1099511627776 := by
        have := hS.labs
        rw [hall, List.length_append] at this
        omega
      rw [goes_jmp]
      simp only [T_ref1_thread, goes_br, lt_len hk, nng, Bool.and_self, if_true, Int.toNat_natCast, getD_lt hk]
      rw [drop_cons hk]
      unfold scanI
      rw [htk] at ih hlt
      generalize t[k] = i at hto hlab hlen htk ih hlt
      obtain ⟨op, lock, cond, ⟨ak, ar, ay, an⟩, ⟨bk, br, bz, bn⟩, to, ls⟩ := i
      dsimp only at hto hlab hlen htk ih hlt ⊢
      have inner : ∀ j, j ≤ ls.length → Goes (T_ref1_thread p t) (.jmp (.l14 op lock cond ak ar ay an bk br bz bn to ls (j : Int) (labels (t.take k) ++ ls.take j) (k : Int))) (scanL (labels (t.take k) ++ ls.take j) (fun seen => if insC p (op, (lock, (cond, ((ak, (ar, (ay, an))), ((bk, (br, (bz, bn))), (to, ls)))))) ≠ 0 then insC p (op, (lock, (cond, ((ak, (ar, (ay, an))), ((bk, (br, (bz, bn))), (to, ls)))))) else scanI p (fun seen => endC t (jumpC seen t)) seen (t.drop (k + 1))) (ls.drop j)) := by
        refine down ?_ fun j hj ihj => ?_
        · rw [goes_jmp, List.drop_length, List.take_length]
          unfold scanL
          have hkr : k_ref1_InsRight (op, (lock, (cond, ((ak, (ar, (ay, an))), ((bk, (br, (bz, bn))), (to, ls)))))) = true := hto
          simp only [T_ref1_thread, goes_br, lt_len_not (Nat.lt_irrefl _), hkr, if_true, wrap_succ (k := k) (by omega)]
          rw [if_neg (by decide)]
          unfold insC v_ref1_InsRight
          dsimp only
          by_cases hr : v_ins_Right (op, (lock, (cond, ((ak, (ar, (ay, an))), ((bk, (br, (bz, bn))), (to, ls)))))) = 0
          · obtain ⟨oa, ob⟩ := opds_ok hr
            obtain ⟨a1, a2⟩ := operand_eq p (ak, (ar, (ay, an))) oa
            obtain ⟨b1, b2⟩ := operand_eq p (bk, (br, (bz, bn))) ob
            by_cases ha : placeC p (ak, (ar, (ay, an))) = 0
            · by_cases hb : placeC p (bk, (br, (bz, bn))) = 0
              · simp [hr, ha, hb, a1, a2, b1, b2]; exact ih
              · simp [hr, ha, hb, a1, a2, b1, b2, goes_leaf]
            · simp [hr, ha, a1, a2, goes_leaf]
          · simp [hr, goes_leaf]
        · have hl := hlab ls[j] (List.getElem_mem hj)
          have hkn : k_ref1_Right ls[j] = true := hl
          have hsl : (labels (t.take k) ++ ls.take j).length < 1099511627776 := by
            rw [List.length_append] at hlt ⊢
            rw [List.length_take]
            omega
          have hki : k_ref1_index (labels (t.take k) ++ ls.take j) ls[j] = true := decide_eq_true (by omega)
          have hap : Nat.ble (((labels (t.take k) ++ ls.take j).length + 1) * 16) limit = true := by apply Nat.ble_eq_true_of_le; unfold limit; omega
          have htj : labels (t.take k) ++ ls.take (j + 1) = (labels (t.take k) ++ ls.take j) ++ [ls[j]] := by
            rw [List.take_add_one, List.getElem?_eq_getElem hj, List.append_assoc]; rfl
          rw [htj] at ihj
          rw [goes_jmp]
          simp only [T_ref1_thread, goes_br, lt_len hj, nng, Bool.and_self, if_true, Int.toNat_natCast, getD_lt hj, wrap_succ (k := j) (by omega), hkn, hki, hap, index_contains]
          rw [drop_cons hj]
          unfold scanL
          by_cases h1 : nameRight ls[j] = false
          · rw [if_pos h1, if_pos (by show (! nameRight ls[j]) = true; rw [h1]; rfl)]; exact .leaf
          · rw [if_neg h1, if_neg (by show ¬ (! nameRight ls[j]) = true; simpa using h1)]
            by_cases h2 : (labels (t.take k) ++ ls.take j).contains ls[j] = true
            · rw [if_pos h2, if_pos h2]; exact .leaf
            · rw [if_neg h2, if_neg h2]; exact ihj
      have := inner 0 (Nat.zero_le _)
      rw [List.drop_zero, List.take_zero, List.append_nil] at this
      exact this
  unfold T0_ref1_thread v_ref1_thread
  have hkc : k_ref1_Count t = true := decide_eq_true hn
  simp only [goes_br, hkc, if_true]
  unfold threadC v_ref1_Count
  by_cases h : 4096 < countM t
  · rw [if_pos (by simp; omega), if_pos h]; exact .leaf
  · rw [if_neg (by simp; omega), if_neg h]
    exact main 0 (Nat.zero_le _)
end Go.Ev
end

section
set_option linter.unusedSectionVars false
set_option linter.unusedVariables false
set_option linter.unusedSimpArgs false
set_option maxRecDepth 100000
set_option linter.unusedVariables false
open Go Go.Ev
namespace Go.Ev
noncomputable section
noncomputable def e_ref1_thread : Run := entG sg_ref1_thread R_ref1_thread (fun a => k_ref1_thread a.1 a.2.1) (fun a => v_ref1_thread a.1 a.2.1)
theorem ok_ref1_thread : EntOK Go.Proofs.Tryz.prog 69 e_ref1_thread := entG_ok (tb := tb_ref1_thread) (c := c_ref1_thread) tk_ref1_thread (by kernel_rfl) (by kernel_rfl) (by kernel_rfl) (fun a => by kernel_rfl) fun ⟨p, t, _⟩ hk => evF_goes (c := c_ref1_thread) (K := fun v => (R_ref1_thread v, tps (toForms sg_ref1_thread (p, t, ())))) (S := S_ref1_thread p t) (by kernel_rfl) (en_ref1_thread p t) (lp_ref1_thread p t) (g_ref1_thread p t hk)
end
end Go.Ev
end

section
set_option linter.unusedSectionVars false
set_option linter.unusedVariables false
set_option linter.unusedSimpArgs false
set_option maxRecDepth 100000
set_option linter.unusedVariables false
open Go Go.Ev
namespace Go.Ev
noncomputable section
/-! ### paling/palingref1.Check -/
def sg_ref1_Check : Sig := [(true, T_api_Prog)]
noncomputable def t_ref1_Check : Tbl := [(68, e_ref1_Right), (69, e_ref1_thread)]
theorem tk_ref1_Check : ∀ p ∈ t_ref1_Check, EntOK Go.Proofs.Tryz.prog p.1 p.2 := tbl_cons ok_ref1_Right (tbl_cons ok_ref1_thread (tbl_nil))
noncomputable def c_ref1_Check : Code := Go.Proofs.Tryz.f39.body.getD .skip
def tb_ref1_Check : Tb := [(6, ⟨[1, 3], []⟩), (16, ⟨[1, 3, 4, 5], []⟩), (26, ⟨[1, 6], []⟩)]
inductive J_ref1_Check where
  | l6 (i : Int)
  | l16 (x : ByteArray) (x1 : Int) (x2 : List Int) (i : Int) (k : Int)
  | l26 (i : Int)
def T_ref1_Check (p : El T_api_Prog) : J_ref1_Check → JT J_ref1_Check (Int)
  | .l6 i =>
    .br (decide (i < (Int.ofNat (List.length p.1))))
      (.br ((decide ((0 : Int) ≤ i)) && (decide (i < (Int.ofNat (List.length p.1)))))
        (.br (k_ref1_Right (List.getD p.1 (Int.toNat i) (dflt T_api_Sym)).1)
          (.br (! (v_ref1_Right (List.getD p.1 (Int.toNat i) (dflt T_api_Sym)).1))
            (.leaf (3 : Int))
          (.jmp (.l16 (List.getD p.1 (Int.toNat i) (dflt T_api_Sym)).1 (List.getD p.1 (Int.toNat i) (dflt T_api_Sym)).2.1 (List.getD p.1 (Int.toNat i) (dflt T_api_Sym)).2.2 i (0 : Int))))
        (.no))
      (.no))
    (.jmp (.l26 (0 : Int)))
  | .l16 x x1 x2 i k =>
    .br (decide (k < i))
      (.br ((decide ((0 : Int) ≤ k)) && (decide (k < (Int.ofNat (List.length p.1)))))
        (.br (eqB (List.getD p.1 (Int.toNat k) (dflt T_api_Sym)).1 x)
          (.leaf (6 : Int))
        (.jmp (.l16 x x1 x2 i (IntKind.i64.wrap (k + (1 : Int))))))
      (.no))
    (.br (decide (x1 < (1 : Int)))
      (.leaf (5 : Int))
    (.br (decide (x1 > (64 : Int)))
      (.leaf (5 : Int))
    (.br (decide ((Int.ofNat (List.length x2)) > x1))
      (.leaf (5 : Int))
    (.jmp (.l6 (IntKind.i64.wrap (i + (1 : Int))))))))
  | .l26 i =>
    .br (decide (i < (Int.ofNat (List.length p.2))))
      (.br ((decide ((0 : Int) ≤ i)) && (decide (i < (Int.ofNat (List.length p.2)))))
        (.br (k_ref1_thread p (List.getD p.2 (Int.toNat i) (dflt (.sl T_api_Ins))))
          (.br ((v_ref1_thread p (List.getD p.2 (Int.toNat i) (dflt (.sl T_api_Ins)))) != (0 : Int))
            (.leaf (v_ref1_thread p (List.getD p.2 (Int.toNat i) (dflt (.sl T_api_Ins)))))
          (.jmp (.l26 (IntKind.i64.wrap (i + (1 : Int))))))
        (.no))
      (.no))
    (.leaf (0 : Int))
def T0_ref1_Check (p : El T_api_Prog) : JT J_ref1_Check (Int) :=
  .br (decide ((Int.ofNat (List.length p.1)) > (64 : Int)))
    (.leaf (10 : Int))
  (.br (decide ((Int.ofNat (List.length p.2)) > (64 : Int)))
    (.leaf (10 : Int))
  (.jmp (.l6 (0 : Int))))
def R_ref1_Check : Int → AV := fun (r : Int) => .d (.int .i64) r
def S_ref1_Check (p : El T_api_Prog) : J_ref1_Check → Nat × St
  | .l6 i => (6, ⟨mkTm 81 [(1, .pt 2 0 0), (3, .d (.int .i64) i)], [(2, 0, .box 26 [.d (.sl T_api_Sym) p.1, .d (.sl (.sl T_api_Ins)) p.2] none)]⟩)
  | .l16 x x1 x2 i k => (16, ⟨mkTm 81 [(1, .pt 2 0 0), (3, .d (.int .i64) i), (4, .pt 5 0 0), (5, .d (.int .i64) k)], [(2, 0, .box 26 [.d (.sl T_api_Sym) p.1, .d (.sl (.sl T_api_Ins)) p.2] none), (5, 0, .box 67 [.d .str x, .d (.int .i64) x1, .d (.sl (.int .i64)) x2] none)]⟩)
  | .l26 i => (26, ⟨mkTm 81 [(1, .pt 2 0 0), (6, .d (.int .i64) i)], [(2, 0, .box 26 [.d (.sl T_api_Sym) p.1, .d (.sl (.sl T_api_Ins)) p.2] none)]⟩)
theorem en_ref1_Check (p : El T_api_Prog) (L : Lt) : entryA Go.Proofs.Tryz.prog (clOf t_ref1_Check) tb_ref1_Check Go.Proofs.Tryz.f39 c_ref1_Check L (toForms sg_ref1_Check (p, ())) = (T0_ref1_Check p).run (fun v => some (R_ref1_Check v, tps (toForms sg_ref1_Check (p, ())))) fun j => L (S_ref1_Check p j).1 (S_ref1_Check p j).2 := by kernel_rfl
theorem lp_ref1_Check (p : El T_api_Prog) : ∀ (L : Lt) (j : J_ref1_Check), procOf (procsF Go.Proofs.Tryz.prog (clOf t_ref1_Check) tb_ref1_Check Go.Proofs.Tryz.f39 c_ref1_Check (toForms sg_ref1_Check (p, ()))) (S_ref1_Check p j).1 L (S_ref1_Check p j).2 = (T_ref1_Check p j).run (fun v => some (R_ref1_Check v, tps (toForms sg_ref1_Check (p, ())))) fun j => L (S_ref1_Check p j).1 (S_ref1_Check p j).2
  | L, .l6 i => by kernel_rfl
  | L, .l16 x x1 x2 i k => by kernel_rfl
  | L, .l26 i => by kernel_rfl
end
end Go.Ev
end

section
set_option linter.unusedSectionVars false
set_option linter.unusedVariables false
set_option linter.unusedSimpArgs false
set_option linter.unusedVariables false
set_option linter.unusedSimpArgs false
open Go
namespace Go.Ev
def v_ref1_Check (p : El T_api_Prog) : Int := checkC p
def k_ref1_Check (p : El T_api_Prog) : Bool := smallProg p
theorem g_ref1_Check (p : El T_api_Prog) (hk : k_ref1_Check p = true) : Goes (T_ref1_Check p) (T0_ref1_Check p) (v_ref1_Check p) := by
  have hth : ∀ t ∈ p.2, smallThread t = true := by
    unfold k_ref1_Check smallProg at hk
    simp only [Bool.and_eq_true, List.all_eq_true] at hk
    exact hk.2
  have hsy : ∀ s ∈ p.1, smallText s.1 = true := by
    unfold k_ref1_Check smallProg at hk
    simp only [Bool.and_eq_true, List.all_eq_true] at hk
    exact hk.1
  obtain ⟨sy, th⟩ := p
  dsimp only at hth hsy
  have ths : th.length ≤ 64 → ∀ k, k ≤ th.length → Goes (T_ref1_Check (sy, th)) (.jmp (.l26 (k : Int))) (thsC (sy, th) (th.drop k)) := by
    intro hn
    refine down ?_ fun k hk ih => ?_
    · rw [goes_jmp]
      simp only [T_ref1_Check, goes_br, lt_len_not (Nat.lt_irrefl _), goes_leaf, List.drop_length]
      simp [thsC]
    · have hkt : k_ref1_thread (sy, th) th[k] = true := hth _ (List.getElem_mem hk)
      rw [goes_jmp]
      simp only [T_ref1_Check, goes_br, lt_len hk, nng, Bool.and_self, if_true, Int.toNat_natCast, getD_lt hk, wrap_succ (k := k) (by omega), hkt]
      rw [drop_cons hk]
      unfold thsC
      show (if (threadC (sy, th) th[k] != 0) = true then _ else _)
      by_cases h : threadC (sy, th) th[k] = 0
      · rw [if_neg (by simp [h]), if_neg (by simp [h])]; exact ih
      · rw [if_pos (by simp [h]), if_pos h]; exact .leaf

  have main : sy.length ≤ 64 → th.length ≤ 64 → ∀ k, k ≤ sy.length → Goes (T_ref1_Check (sy, th)) (.jmp (.l6 (k : Int))) (symsC (thsC (sy, th) th) ((sy.take k).map fun s => s.1) (sy.drop k)) := by
    intro hn hm
    refine down ?_ fun k hk ih => ?_
    · rw [goes_jmp, List.drop_length]
      unfold symsC
      simp only [T_ref1_Check, goes_br, lt_len_not (Nat.lt_irrefl _)]
      rw [if_neg (by decide)]
      simpa using ths hm 0 (Nat.zero_le _)
    · have hkn : k_ref1_Right sy[k].1 = true := hsy _ (List.getElem_mem hk)
      have htk : (sy.take (k + 1)).map (fun s => s.1) = (sy.take k).map (fun s => s.1) ++ [sy[k].1] := by
        rw [List.take_add_one, List.getElem?_eq_getElem hk, List.map_append]; rfl
      rw [htk] at ih
      rw [goes_jmp]
      simp only [T_ref1_Check, goes_br, lt_len hk, nng, Bool.and_self, if_true, Int.toNat_natCast, getD_lt hk, hkn]
      rw [drop_cons hk]
      unfold symsC
      generalize sy[k] = s at ih hkn
      obtain ⟨nm, size, init⟩ := s
      dsimp only at ih hkn ⊢
      change Int at size
      by_cases h1 : nameRight nm = false
      · rw [if_pos h1, if_pos (by show (! nameRight nm) = true; rw [h1]; rfl)]; exact .leaf
      rw [if_neg h1, if_neg (by show ¬ (! nameRight nm) = true; simpa using h1)]
      have inner : ∀ j, j ≤ k → Goes (T_ref1_Check (sy, th)) (.jmp (.l16 nm size init (k : Int) (j : Int))) (if (((sy.take k).drop j).map (fun s => s.1)).contains nm = true then 6 else if size < (1 : Int) ∨ (64 : Int) < size ∨ size < (List.length init : Int) then 5 else symsC (thsC (sy, th) th) ((sy.take k).map (fun s => s.1) ++ [nm]) (sy.drop (k + 1))) := by
        refine down ?_ fun j hj ihj => ?_
        · rw [goes_jmp]
          have : (sy.take k).drop k = [] := List.drop_eq_nil_of_le (by rw [List.length_take]; omega)
          rw [this]
          simp only [T_ref1_Check, goes_br, wrap_succ (k := k) (by omega)]
          rw [if_neg (by simp)]
          simp only [List.map_nil, List.contains_nil, Bool.false_eq_true, if_false]
          by_cases h3 : size < 1
          · rw [if_pos (decide_eq_true h3), if_pos (.inl h3)]; exact .leaf
          rw [if_neg (by simpa using h3)]
          by_cases h4 : 64 < size
          · rw [if_pos (decide_eq_true h4), if_pos (.inr (.inl h4))]; exact .leaf
          rw [if_neg (by simpa using h4)]
          by_cases h5 : size < (List.length init : Int)
          · rw [if_pos (show decide (Int.ofNat (List.length init) > size) = true from decide_eq_true h5), if_pos (.inr (.inr h5))]; exact .leaf
          rw [if_neg (show ¬ decide (Int.ofNat (List.length init) > size) = true by simpa using h5), if_neg (by rintro (h | h | h) <;> contradiction)]
          exact ih
        · have hjs : j < sy.length := by omega
          have hjt : j < (sy.take k).length := by rw [List.length_take]; omega
          rw [goes_jmp, drop_cons hjt, List.map_cons, List.contains_cons, List.getElem_take]
          simp only [T_ref1_Check, goes_br, lt_len hjs, nng, Bool.and_self, if_true, Int.toNat_natCast, getD_lt hjs, wrap_succ (k := j) (by omega), eqB_iff]
          rw [if_pos (by simp; omega)]
          by_cases h2 : sy[j].1 = nm
          · rw [if_pos h2, if_pos (by rw [h2]; simp)]; exact .leaf
          · rw [if_neg h2, beq_false_of_ne (Ne.symm h2), Bool.false_or]; exact ihj
      simpa using inner 0 (Nat.zero_le _)
  unfold T0_ref1_Check v_ref1_Check checkC
  simp only [goes_br]
  by_cases h : 64 < sy.length
  · rw [if_pos (by simp; omega), if_pos (.inl h)]; exact .leaf
  rw [if_neg (by simp; omega)]
  by_cases h2 : 64 < th.length
  · rw [if_pos (by simp; omega), if_pos (.inr h2)]; exact .leaf
  rw [if_neg (by simp; omega), if_neg (by rintro (h | h) <;> contradiction)]
  exact main (by omega) (by omega) 0 (Nat.zero_le _)
end Go.Ev
end

section
set_option linter.unusedSectionVars false
set_option linter.unusedVariables false
set_option linter.unusedSimpArgs false
set_option maxRecDepth 100000
set_option linter.unusedVariables false
open Go Go.Ev
namespace Go.Ev
noncomputable section
noncomputable def e_ref1_Check : Run := entG sg_ref1_Check R_ref1_Check (fun a => k_ref1_Check a.1) (fun a => v_ref1_Check a.1)
theorem ok_ref1_Check : EntOK Go.Proofs.Tryz.prog 39 e_ref1_Check := entG_ok (tb := tb_ref1_Check) (c := c_ref1_Check) tk_ref1_Check (by kernel_rfl) (by kernel_rfl) (by kernel_rfl) (fun a => by kernel_rfl) fun ⟨p, _⟩ hk => evF_goes (c := c_ref1_Check) (K := fun v => (R_ref1_Check v, tps (toForms sg_ref1_Check (p, ())))) (S := S_ref1_Check p) (by kernel_rfl) (en_ref1_Check p) (lp_ref1_Check p) (g_ref1_Check p hk)
end
end Go.Ev
end

section
set_option linter.unusedSectionVars false
set_option linter.unusedVariables false
set_option linter.unusedSimpArgs false
set_option maxRecDepth 100000
set_option linter.unusedVariables false
open Go Go.Ev
namespace Go.Ev
noncomputable section
/-! ### paling/palingref1.Reads -/
def sg_ref1_Reads : Sig := [(true, T_api_Ins)]
noncomputable def t_ref1_Reads : Tbl := [(57, e_ref1_InsRight), (58, e_ref1_Memory)]
theorem tk_ref1_Reads : ∀ p ∈ t_ref1_Reads, EntOK Go.Proofs.Tryz.prog p.1 p.2 := tbl_cons ok_ref1_InsRight (tbl_cons ok_ref1_Memory (tbl_nil))
noncomputable def c_ref1_Reads : Code := Go.Proofs.Tryz.f40.body.getD .skip
def tb_ref1_Reads : Tb := []
def T_ref1_Reads (i : El T_api_Ins) : Empty → JT Empty ((El T_api_Opd) × Bool) := fun j => nomatch j
def T0_ref1_Reads (i : El T_api_Ins) : JT Empty ((El T_api_Opd) × Bool) :=
  .br (k_ref1_InsRight i)
    (.br ((v_ref1_InsRight i) != (0 : Int))
      (.leaf (((0 : Int), ((0 : Int), ((0 : Int), (0 : Int)))), false))
    (.br (decide (i.1 > (9 : Int)))
      (.leaf (((0 : Int), ((0 : Int), ((0 : Int), (0 : Int)))), false))
    (.br (v_ref1_Memory i.2.2.2.2.1)
      (.leaf (i.2.2.2.2.1, true))
    (.br (v_ref1_Memory i.2.2.2.1)
      (.br (i.1 != (1 : Int))
        (.leaf (i.2.2.2.1, true))
      (.leaf (((0 : Int), ((0 : Int), ((0 : Int), (0 : Int)))), false)))
    (.leaf (((0 : Int), ((0 : Int), ((0 : Int), (0 : Int)))), false))))))
  (.no)
def v_ref1_Reads (i : El T_api_Ins) : (El T_api_Opd) × Bool :=
  bif (k_ref1_InsRight i) then
    bif ((v_ref1_InsRight i) != (0 : Int)) then
      (((0 : Int), ((0 : Int), ((0 : Int), (0 : Int)))), false)
    else bif (decide (i.1 > (9 : Int))) then
      (((0 : Int), ((0 : Int), ((0 : Int), (0 : Int)))), false)
    else bif (v_ref1_Memory i.2.2.2.2.1) then
      (i.2.2.2.2.1, true)
    else bif (v_ref1_Memory i.2.2.2.1) then
      bif (i.1 != (1 : Int)) then
        (i.2.2.2.1, true)
      else (((0 : Int), ((0 : Int), ((0 : Int), (0 : Int)))), false)
    else (((0 : Int), ((0 : Int), ((0 : Int), (0 : Int)))), false)
  else (((0 : Int), ((0 : Int), ((0 : Int), (0 : Int)))), false)
def k_ref1_Reads (i : El T_api_Ins) : Bool :=
  bif (k_ref1_InsRight i) then
    bif ((v_ref1_InsRight i) != (0 : Int)) then
      true
    else bif (decide (i.1 > (9 : Int))) then
      true
    else bif (v_ref1_Memory i.2.2.2.2.1) then
      true
    else bif (v_ref1_Memory i.2.2.2.1) then
      bif (i.1 != (1 : Int)) then
        true
      else true
    else true
  else false
theorem g_ref1_Reads (i : El T_api_Ins) (hk : k_ref1_Reads i = true) : Goes (T_ref1_Reads i) (T0_ref1_Reads i) (v_ref1_Reads i) :=
  Goes.brk hk (fun hk =>
    Goes.brk hk (fun hk =>
      Goes.leaf) (fun hk =>
      Goes.brk hk (fun hk =>
        Goes.leaf) (fun hk =>
        Goes.brk hk (fun hk =>
          Goes.leaf) (fun hk =>
          Goes.brk hk (fun hk =>
            Goes.brk hk (fun hk =>
              Goes.leaf) (fun hk =>
              Goes.leaf)) (fun hk =>
            Goes.leaf))))) (fun hk =>
    Goes.nok hk)
def R_ref1_Reads : (El T_api_Opd) × Bool → AV := fun (r : (El T_api_Opd) × Bool) => .tu [.ag [.d (.int .i64) r.1.1, .d (.int .i64) r.1.2.1, .d (.int .i64) r.1.2.2.1, .d (.int .i64) r.1.2.2.2], .d .bool r.2]
def S_ref1_Reads (i : El T_api_Ins) : Empty → Nat × St := fun j => nomatch j
theorem en_ref1_Reads (i : El T_api_Ins) (L : Lt) : entryA Go.Proofs.Tryz.prog (clOf t_ref1_Reads) tb_ref1_Reads Go.Proofs.Tryz.f40 c_ref1_Reads L (toForms sg_ref1_Reads (i, ())) = (T0_ref1_Reads i).run (fun v => some (R_ref1_Reads v, tps (toForms sg_ref1_Reads (i, ())))) fun j => L (S_ref1_Reads i j).1 (S_ref1_Reads i j).2 := by kernel_rfl
theorem lp_ref1_Reads (i : El T_api_Ins) : ∀ (L : Lt) (j : Empty), procOf (procsF Go.Proofs.Tryz.prog (clOf t_ref1_Reads) tb_ref1_Reads Go.Proofs.Tryz.f40 c_ref1_Reads (toForms sg_ref1_Reads (i, ()))) (S_ref1_Reads i j).1 L (S_ref1_Reads i j).2 = (T_ref1_Reads i j).run (fun v => some (R_ref1_Reads v, tps (toForms sg_ref1_Reads (i, ())))) fun j => L (S_ref1_Reads i j).1 (S_ref1_Reads i j).2 := fun L j => nomatch j
noncomputable def e_ref1_Reads : Run := entG sg_ref1_Reads R_ref1_Reads (fun a => k_ref1_Reads a.1) (fun a => v_ref1_Reads a.1)
theorem ok_ref1_Reads : EntOK Go.Proofs.Tryz.prog 40 e_ref1_Reads := entG_ok (tb := tb_ref1_Reads) (c := c_ref1_Reads) tk_ref1_Reads (by kernel_rfl) (by kernel_rfl) (by kernel_rfl) (fun a => by kernel_rfl) fun ⟨i, _⟩ hk => evF_goes (c := c_ref1_Reads) (K := fun v => (R_ref1_Reads v, tps (toForms sg_ref1_Reads (i, ())))) (S := S_ref1_Reads i) (by kernel_rfl) (en_ref1_Reads i) (lp_ref1_Reads i) (g_ref1_Reads i hk)
end
end Go.Ev
end

section
set_option linter.unusedSectionVars false
set_option linter.unusedVariables false
set_option linter.unusedSimpArgs false
set_option maxRecDepth 100000
set_option linter.unusedVariables false
open Go Go.Ev
namespace Go.Ev
noncomputable section
/-! ### paling/palingref1.Writes -/
def sg_ref1_Writes : Sig := [(true, T_api_Ins)]
noncomputable def t_ref1_Writes : Tbl := [(57, e_ref1_InsRight), (58, e_ref1_Memory)]
theorem tk_ref1_Writes : ∀ p ∈ t_ref1_Writes, EntOK Go.Proofs.Tryz.prog p.1 p.2 := tbl_cons ok_ref1_InsRight (tbl_cons ok_ref1_Memory (tbl_nil))
noncomputable def c_ref1_Writes : Code := Go.Proofs.Tryz.f32.body.getD .skip
def tb_ref1_Writes : Tb := []
def T_ref1_Writes (i : El T_api_Ins) : Empty → JT Empty ((El T_api_Opd) × Bool) := fun j => nomatch j
def T0_ref1_Writes (i : El T_api_Ins) : JT Empty ((El T_api_Opd) × Bool) :=
  .br (k_ref1_InsRight i)
    (.br ((v_ref1_InsRight i) != (0 : Int))
      (.leaf (((0 : Int), ((0 : Int), ((0 : Int), (0 : Int)))), false))
    (.br (decide (i.1 > (9 : Int)))
      (.leaf (((0 : Int), ((0 : Int), ((0 : Int), (0 : Int)))), false))
    (.br (i.1 == (7 : Int))
      (.leaf (((0 : Int), ((0 : Int), ((0 : Int), (0 : Int)))), false))
    (.br (! (v_ref1_Memory i.2.2.2.1))
      (.leaf (((0 : Int), ((0 : Int), ((0 : Int), (0 : Int)))), false))
    (.leaf (i.2.2.2.1, true))))))
  (.no)
def v_ref1_Writes (i : El T_api_Ins) : (El T_api_Opd) × Bool :=
  bif (k_ref1_InsRight i) then
    bif ((v_ref1_InsRight i) != (0 : Int)) then
      (((0 : Int), ((0 : Int), ((0 : Int), (0 : Int)))), false)
    else bif (decide (i.1 > (9 : Int))) then
      (((0 : Int), ((0 : Int), ((0 : Int), (0 : Int)))), false)
    else bif (i.1 == (7 : Int)) then
      (((0 : Int), ((0 : Int), ((0 : Int), (0 : Int)))), false)
    else bif (! (v_ref1_Memory i.2.2.2.1)) then
      (((0 : Int), ((0 : Int), ((0 : Int), (0 : Int)))), false)
    else (i.2.2.2.1, true)
  else (((0 : Int), ((0 : Int), ((0 : Int), (0 : Int)))), false)
def k_ref1_Writes (i : El T_api_Ins) : Bool :=
  bif (k_ref1_InsRight i) then
    bif ((v_ref1_InsRight i) != (0 : Int)) then
      true
    else bif (decide (i.1 > (9 : Int))) then
      true
    else bif (i.1 == (7 : Int)) then
      true
    else bif (! (v_ref1_Memory i.2.2.2.1)) then
      true
    else true
  else false
theorem g_ref1_Writes (i : El T_api_Ins) (hk : k_ref1_Writes i = true) : Goes (T_ref1_Writes i) (T0_ref1_Writes i) (v_ref1_Writes i) :=
  Goes.brk hk (fun hk =>
    Goes.brk hk (fun hk =>
      Goes.leaf) (fun hk =>
      Goes.brk hk (fun hk =>
        Goes.leaf) (fun hk =>
        Goes.brk hk (fun hk =>
          Goes.leaf) (fun hk =>
          Goes.brk hk (fun hk =>
            Goes.leaf) (fun hk =>
            Goes.leaf))))) (fun hk =>
    Goes.nok hk)
def R_ref1_Writes : (El T_api_Opd) × Bool → AV := fun (r : (El T_api_Opd) × Bool) => .tu [.ag [.d (.int .i64) r.1.1, .d (.int .i64) r.1.2.1, .d (.int .i64) r.1.2.2.1, .d (.int .i64) r.1.2.2.2], .d .bool r.2]
def S_ref1_Writes (i : El T_api_Ins) : Empty → Nat × St := fun j => nomatch j
theorem en_ref1_Writes (i : El T_api_Ins) (L : Lt) : entryA Go.Proofs.Tryz.prog (clOf t_ref1_Writes) tb_ref1_Writes Go.Proofs.Tryz.f32 c_ref1_Writes L (toForms sg_ref1_Writes (i, ())) = (T0_ref1_Writes i).run (fun v => some (R_ref1_Writes v, tps (toForms sg_ref1_Writes (i, ())))) fun j => L (S_ref1_Writes i j).1 (S_ref1_Writes i j).2 := by kernel_rfl
theorem lp_ref1_Writes (i : El T_api_Ins) : ∀ (L : Lt) (j : Empty), procOf (procsF Go.Proofs.Tryz.prog (clOf t_ref1_Writes) tb_ref1_Writes Go.Proofs.Tryz.f32 c_ref1_Writes (toForms sg_ref1_Writes (i, ()))) (S_ref1_Writes i j).1 L (S_ref1_Writes i j).2 = (T_ref1_Writes i j).run (fun v => some (R_ref1_Writes v, tps (toForms sg_ref1_Writes (i, ())))) fun j => L (S_ref1_Writes i j).1 (S_ref1_Writes i j).2 := fun L j => nomatch j
noncomputable def e_ref1_Writes : Run := entG sg_ref1_Writes R_ref1_Writes (fun a => k_ref1_Writes a.1) (fun a => v_ref1_Writes a.1)
theorem ok_ref1_Writes : EntOK Go.Proofs.Tryz.prog 32 e_ref1_Writes := entG_ok (tb := tb_ref1_Writes) (c := c_ref1_Writes) tk_ref1_Writes (by kernel_rfl) (by kernel_rfl) (by kernel_rfl) (fun a => by kernel_rfl) fun ⟨i, _⟩ hk => evF_goes (c := c_ref1_Writes) (K := fun v => (R_ref1_Writes v, tps (toForms sg_ref1_Writes (i, ())))) (S := S_ref1_Writes i) (by kernel_rfl) (en_ref1_Writes i) (lp_ref1_Writes i) (g_ref1_Writes i hk)
end
end Go.Ev
end

section
set_option linter.unusedSectionVars false
set_option linter.unusedVariables false
set_option linter.unusedSimpArgs false
set_option maxRecDepth 100000
set_option linter.unusedVariables false
open Go Go.Ev
namespace Go.Ev
noncomputable section
/-! ### paling/palingref1.Locked -/
def sg_ref1_Locked : Sig := [(true, T_api_Ins)]
noncomputable def t_ref1_Locked : Tbl := [(57, e_ref1_InsRight)]
theorem tk_ref1_Locked : ∀ p ∈ t_ref1_Locked, EntOK Go.Proofs.Tryz.prog p.1 p.2 := tbl_cons ok_ref1_InsRight (tbl_nil)
noncomputable def c_ref1_Locked : Code := Go.Proofs.Tryz.f41.body.getD .skip
def tb_ref1_Locked : Tb := []
def T_ref1_Locked (i : El T_api_Ins) : Empty → JT Empty (Bool) := fun j => nomatch j
def T0_ref1_Locked (i : El T_api_Ins) : JT Empty (Bool) :=
  .br (k_ref1_InsRight i)
    (.br ((v_ref1_InsRight i) == (0 : Int))
      (.br (i.1 == (8 : Int))
        (.leaf true)
      (.leaf i.2.1))
    (.leaf false))
  (.no)
def v_ref1_Locked (i : El T_api_Ins) : Bool :=
  bif (k_ref1_InsRight i) then
    bif ((v_ref1_InsRight i) == (0 : Int)) then
      bif (i.1 == (8 : Int)) then
        true
      else i.2.1
    else false
  else false
def k_ref1_Locked (i : El T_api_Ins) : Bool :=
  bif (k_ref1_InsRight i) then
    bif ((v_ref1_InsRight i) == (0 : Int)) then
      bif (i.1 == (8 : Int)) then
        true
      else true
    else true
  else false
theorem g_ref1_Locked (i : El T_api_Ins) (hk : k_ref1_Locked i = true) : Goes (T_ref1_Locked i) (T0_ref1_Locked i) (v_ref1_Locked i) :=
  Goes.brk hk (fun hk =>
    Goes.brk hk (fun hk =>
      Goes.brk hk (fun hk =>
        Goes.leaf) (fun hk =>
        Goes.leaf)) (fun hk =>
      Goes.leaf)) (fun hk =>
    Goes.nok hk)
def R_ref1_Locked : Bool → AV := fun (r : Bool) => .d .bool r
def S_ref1_Locked (i : El T_api_Ins) : Empty → Nat × St := fun j => nomatch j
theorem en_ref1_Locked (i : El T_api_Ins) (L : Lt) : entryA Go.Proofs.Tryz.prog (clOf t_ref1_Locked) tb_ref1_Locked Go.Proofs.Tryz.f41 c_ref1_Locked L (toForms sg_ref1_Locked (i, ())) = (T0_ref1_Locked i).run (fun v => some (R_ref1_Locked v, tps (toForms sg_ref1_Locked (i, ())))) fun j => L (S_ref1_Locked i j).1 (S_ref1_Locked i j).2 := by kernel_rfl
theorem lp_ref1_Locked (i : El T_api_Ins) : ∀ (L : Lt) (j : Empty), procOf (procsF Go.Proofs.Tryz.prog (clOf t_ref1_Locked) tb_ref1_Locked Go.Proofs.Tryz.f41 c_ref1_Locked (toForms sg_ref1_Locked (i, ()))) (S_ref1_Locked i j).1 L (S_ref1_Locked i j).2 = (T_ref1_Locked i j).run (fun v => some (R_ref1_Locked v, tps (toForms sg_ref1_Locked (i, ())))) fun j => L (S_ref1_Locked i j).1 (S_ref1_Locked i j).2 := fun L j => nomatch j
noncomputable def e_ref1_Locked : Run := entG sg_ref1_Locked R_ref1_Locked (fun a => k_ref1_Locked a.1) (fun a => v_ref1_Locked a.1)
theorem ok_ref1_Locked : EntOK Go.Proofs.Tryz.prog 41 e_ref1_Locked := entG_ok (tb := tb_ref1_Locked) (c := c_ref1_Locked) tk_ref1_Locked (by kernel_rfl) (by kernel_rfl) (by kernel_rfl) (fun a => by kernel_rfl) fun ⟨i, _⟩ hk => evF_goes (c := c_ref1_Locked) (K := fun v => (R_ref1_Locked v, tps (toForms sg_ref1_Locked (i, ())))) (S := S_ref1_Locked i) (by kernel_rfl) (en_ref1_Locked i) (lp_ref1_Locked i) (g_ref1_Locked i hk)
end
end Go.Ev
end

section
set_option linter.unusedSectionVars false
set_option linter.unusedVariables false
set_option linter.unusedSimpArgs false
set_option maxRecDepth 100000
set_option linter.unusedVariables false
open Go Go.Ev
namespace Go.Ev
noncomputable section
/-! ### paling/palingref3.Accesses -/
def sg_ref3_Accesses : Sig := [(true, T_api_Prog)]
noncomputable def t_ref3_Accesses : Tbl := [(39, e_ref1_Check), (40, e_ref1_Reads), (32, e_ref1_Writes), (41, e_ref1_Locked)]
theorem tk_ref3_Accesses : ∀ p ∈ t_ref3_Accesses, EntOK Go.Proofs.Tryz.prog p.1 p.2 := tbl_cons ok_ref1_Check (tbl_cons ok_ref1_Reads (tbl_cons ok_ref1_Writes (tbl_cons ok_ref1_Locked (tbl_nil))))
noncomputable def c_ref3_Accesses : Code := Go.Proofs.Tryz.f17.body.getD .skip
def tb_ref3_Accesses : Tb := [(7, ⟨[1, 3, 4], [(4, 68)]⟩), (12, ⟨[1, 3, 4, 5], [(4, 68)]⟩), (hintK, ⟨[], [(1, 68)]⟩)]
inductive J_ref3_Accesses where
  | l7 (t : Int) (out : List (El T_api_Access))
  | l12 (i : Int) (out : List (El T_api_Access)) (t : Int)
def T_ref3_Accesses (p : El T_api_Prog) : J_ref3_Accesses → JT J_ref3_Accesses (List (El T_api_Access))
  | .l7 t out =>
    .br (decide (t < (Int.ofNat (List.length p.2))))
      (.jmp (.l12 (0 : Int) out t))
    (.leaf out)
  | .l12 i out t =>
    .br ((decide ((0 : Int) ≤ t)) && (decide (t < (Int.ofNat (List.length p.2)))))
      (.br (decide (i < (Int.ofNat (List.length (List.getD p.2 (Int.toNat t) (dflt (.sl T_api_Ins)))))))
        (.br ((decide ((0 : Int) ≤ t)) && (decide (t < (Int.ofNat (List.length p.2)))))
          (.br ((decide ((0 : Int) ≤ i)) && (decide (i < (Int.ofNat (List.length (List.getD p.2 (Int.toNat t) (dflt (.sl T_api_Ins))))))))
            (.br (k_ref1_Reads (List.getD (List.getD p.2 (Int.toNat t) (dflt (.sl T_api_Ins))) (Int.toNat i) (dflt T_api_Ins)))
              (.br (k_ref1_Writes (List.getD (List.getD p.2 (Int.toNat t) (dflt (.sl T_api_Ins))) (Int.toNat i) (dflt T_api_Ins)))
                (.br (v_ref1_Reads (List.getD (List.getD p.2 (Int.toNat t) (dflt (.sl T_api_Ins))) (Int.toNat i) (dflt T_api_Ins))).2
                  (.br (k_ref1_Locked (List.getD (List.getD p.2 (Int.toNat t) (dflt (.sl T_api_Ins))) (Int.toNat i) (dflt T_api_Ins)))
                    (.br (Nat.ble (((List.length out) + 1) * 40) limit)
                      (.br (v_ref1_Writes (List.getD (List.getD p.2 (Int.toNat t) (dflt (.sl T_api_Ins))) (Int.toNat i) (dflt T_api_Ins))).2
                        (.br (k_ref1_Locked (List.getD (List.getD p.2 (Int.toNat t) (dflt (.sl T_api_Ins))) (Int.toNat i) (dflt T_api_Ins)))
                          (.br (Nat.ble (((List.length (out ++ [(t, (i, ((0 : Int), ((v_ref1_Reads (List.getD (List.getD p.2 (Int.toNat t) (dflt (.sl T_api_Ins))) (Int.toNat i) (dflt T_api_Ins))).1.2.2.1, (false, (v_ref1_Locked (List.getD (List.getD p.2 (Int.toNat t) (dflt (.sl T_api_Ins))) (Int.toNat i) (dflt T_api_Ins))))))))])) + 1) * 40) limit)
                            (.jmp (.l12 (IntKind.i64.wrap (i + (1 : Int))) ((out ++ [(t, (i, ((0 : Int), ((v_ref1_Reads (List.getD (List.getD p.2 (Int.toNat t) (dflt (.sl T_api_Ins))) (Int.toNat i) (dflt T_api_Ins))).1.2.2.1, (false, (v_ref1_Locked (List.getD (List.getD p.2 (Int.toNat t) (dflt (.sl T_api_Ins))) (Int.toNat i) (dflt T_api_Ins))))))))]) ++ [(t, (i, ((1 : Int), ((v_ref1_Writes (List.getD (List.getD p.2 (Int.toNat t) (dflt (.sl T_api_Ins))) (Int.toNat i) (dflt T_api_Ins))).1.2.2.1, (true, (v_ref1_Locked (List.getD (List.getD p.2 (Int.toNat t) (dflt (.sl T_api_Ins))) (Int.toNat i) (dflt T_api_Ins))))))))]) t))
                          (.no))
                        (.no))
                      (.jmp (.l12 (IntKind.i64.wrap (i + (1 : Int))) (out ++ [(t, (i, ((0 : Int), ((v_ref1_Reads (List.getD (List.getD p.2 (Int.toNat t) (dflt (.sl T_api_Ins))) (Int.toNat i) (dflt T_api_Ins))).1.2.2.1, (false, (v_ref1_Locked (List.getD (List.getD p.2 (Int.toNat t) (dflt (.sl T_api_Ins))) (Int.toNat i) (dflt T_api_Ins))))))))]) t)))
                    (.no))
                  (.no))
                (.br (v_ref1_Writes (List.getD (List.getD p.2 (Int.toNat t) (dflt (.sl T_api_Ins))) (Int.toNat i) (dflt T_api_Ins))).2
                  (.br (k_ref1_Locked (List.getD (List.getD p.2 (Int.toNat t) (dflt (.sl T_api_Ins))) (Int.toNat i) (dflt T_api_Ins)))
                    (.br (Nat.ble (((List.length out) + 1) * 40) limit)
                      (.jmp (.l12 (IntKind.i64.wrap (i + (1 : Int))) (out ++ [(t, (i, ((0 : Int), ((v_ref1_Writes (List.getD (List.getD p.2 (Int.toNat t) (dflt (.sl T_api_Ins))) (Int.toNat i) (dflt T_api_Ins))).1.2.2.1, (true, (v_ref1_Locked (List.getD (List.getD p.2 (Int.toNat t) (dflt (.sl T_api_Ins))) (Int.toNat i) (dflt T_api_Ins))))))))]) t))
                    (.no))
                  (.no))
                (.jmp (.l12 (IntKind.i64.wrap (i + (1 : Int))) out t))))
              (.no))
            (.no))
          (.no))
        (.no))
      (.jmp (.l7 (IntKind.i64.wrap (t + (1 : Int))) out)))
    (.no)
def T0_ref3_Accesses (p : El T_api_Prog) : JT J_ref3_Accesses (List (El T_api_Access)) :=
  .br (k_ref1_Check p)
    (.br ((v_ref1_Check p) != (0 : Int))
      (.leaf [])
    (.jmp (.l7 (0 : Int) [])))
  (.no)
def R_ref3_Accesses : List (El T_api_Access) → AV := fun (r : List (El T_api_Access)) => .rw 43 T_api_Access r
def S_ref3_Accesses (p : El T_api_Prog) : J_ref3_Accesses → Nat × St
  | .l7 t out => (7, ⟨mkTm 76 [(1, .pt 2 0 0), (3, .own 4 0 none), (4, .d (.int .i64) t)], [(2, 0, .box 26 [.d (.sl T_api_Sym) p.1, .d (.sl (.sl T_api_Ins)) p.2] none), (4, 0, .row 43 T_api_Access out false)]⟩)
  | .l12 i out t => (12, ⟨mkTm 76 [(1, .pt 2 0 0), (3, .own 4 0 none), (4, .d (.int .i64) t), (5, .d (.int .i64) i)], [(2, 0, .box 26 [.d (.sl T_api_Sym) p.1, .d (.sl (.sl T_api_Ins)) p.2] none), (4, 0, .row 43 T_api_Access out false)]⟩)
theorem en_ref3_Accesses (p : El T_api_Prog) (L : Lt) : entryA Go.Proofs.Tryz.prog (clOf t_ref3_Accesses) tb_ref3_Accesses Go.Proofs.Tryz.f17 c_ref3_Accesses L (toForms sg_ref3_Accesses (p, ())) = (T0_ref3_Accesses p).run (fun v => some (R_ref3_Accesses v, tps (toForms sg_ref3_Accesses (p, ())))) fun j => L (S_ref3_Accesses p j).1 (S_ref3_Accesses p j).2 := by kernel_rfl
theorem lp_ref3_Accesses (p : El T_api_Prog) : ∀ (L : Lt) (j : J_ref3_Accesses), procOf (procsF Go.Proofs.Tryz.prog (clOf t_ref3_Accesses) tb_ref3_Accesses Go.Proofs.Tryz.f17 c_ref3_Accesses (toForms sg_ref3_Accesses (p, ()))) (S_ref3_Accesses p j).1 L (S_ref3_Accesses p j).2 = (T_ref3_Accesses p j).run (fun v => some (R_ref3_Accesses v, tps (toForms sg_ref3_Accesses (p, ())))) fun j => L (S_ref3_Accesses p j).1 (S_ref3_Accesses p j).2
  | L, .l7 t out => by kernel_rfl
  | L, .l12 i out t => by kernel_rfl
end
end Go.Ev
end

section
set_option linter.unusedSectionVars false
set_option linter.unusedVariables false
set_option linter.unusedSimpArgs false
set_option maxRecDepth 100000
set_option linter.unusedVariables false
open Go Go.Ev
namespace Go.Ev
noncomputable section
/-! ### paling/ins.Reads -/
def sg_ins_Reads : Sig := [(true, T_api_Ins)]
noncomputable def t_ins_Reads : Tbl := [(82, e_ins_Right), (83, e_ins_memory)]
theorem tk_ins_Reads : ∀ p ∈ t_ins_Reads, EntOK Go.Proofs.Tryz.prog p.1 p.2 := tbl_cons ok_ins_Right (tbl_cons ok_ins_memory (tbl_nil))
noncomputable def c_ins_Reads : Code := Go.Proofs.Tryz.f65.body.getD .skip
def tb_ins_Reads : Tb := []
def T_ins_Reads (i : El T_api_Ins) : Empty → JT Empty ((El T_api_Opd) × Bool) := fun j => nomatch j
def T0_ins_Reads (i : El T_api_Ins) : JT Empty ((El T_api_Opd) × Bool) :=
  .br (k_ins_Right i)
    (.br ((v_ins_Right i) != (0 : Int))
      (.leaf (((0 : Int), ((0 : Int), ((0 : Int), (0 : Int)))), false))
    (.br (v_ins_memory i.2.2.2.2.1)
      (.leaf (i.2.2.2.2.1, true))
    (.br (v_ins_memory i.2.2.2.1)
      (.br (i.1 != (1 : Int))
        (.leaf (i.2.2.2.1, true))
      (.leaf (((0 : Int), ((0 : Int), ((0 : Int), (0 : Int)))), false)))
    (.leaf (((0 : Int), ((0 : Int), ((0 : Int), (0 : Int)))), false)))))
  (.no)
def v_ins_Reads (i : El T_api_Ins) : (El T_api_Opd) × Bool :=
  bif (k_ins_Right i) then
    bif ((v_ins_Right i) != (0 : Int)) then
      (((0 : Int), ((0 : Int), ((0 : Int), (0 : Int)))), false)
    else bif (v_ins_memory i.2.2.2.2.1) then
      (i.2.2.2.2.1, true)
    else bif (v_ins_memory i.2.2.2.1) then
      bif (i.1 != (1 : Int)) then
        (i.2.2.2.1, true)
      else (((0 : Int), ((0 : Int), ((0 : Int), (0 : Int)))), false)
    else (((0 : Int), ((0 : Int), ((0 : Int), (0 : Int)))), false)
  else (((0 : Int), ((0 : Int), ((0 : Int), (0 : Int)))), false)
def k_ins_Reads (i : El T_api_Ins) : Bool :=
  bif (k_ins_Right i) then
    bif ((v_ins_Right i) != (0 : Int)) then
      true
    else bif (v_ins_memory i.2.2.2.2.1) then
      true
    else bif (v_ins_memory i.2.2.2.1) then
      bif (i.1 != (1 : Int)) then
        true
      else true
    else true
  else false
theorem g_ins_Reads (i : El T_api_Ins) (hk : k_ins_Reads i = true) : Goes (T_ins_Reads i) (T0_ins_Reads i) (v_ins_Reads i) :=
  Goes.brk hk (fun hk =>
    Goes.brk hk (fun hk =>
      Goes.leaf) (fun hk =>
      Goes.brk hk (fun hk =>
        Goes.leaf) (fun hk =>
        Goes.brk hk (fun hk =>
          Goes.brk hk (fun hk =>
            Goes.leaf) (fun hk =>
            Goes.leaf)) (fun hk =>
          Goes.leaf)))) (fun hk =>
    Goes.nok hk)
def R_ins_Reads : (El T_api_Opd) × Bool → AV := fun (r : (El T_api_Opd) × Bool) => .tu [.ag [.d (.int .i64) r.1.1, .d (.int .i64) r.1.2.1, .d (.int .i64) r.1.2.2.1, .d (.int .i64) r.1.2.2.2], .d .bool r.2]
def S_ins_Reads (i : El T_api_Ins) : Empty → Nat × St := fun j => nomatch j
theorem en_ins_Reads (i : El T_api_Ins) (L : Lt) : entryA Go.Proofs.Tryz.prog (clOf t_ins_Reads) tb_ins_Reads Go.Proofs.Tryz.f65 c_ins_Reads L (toForms sg_ins_Reads (i, ())) = (T0_ins_Reads i).run (fun v => some (R_ins_Reads v, tps (toForms sg_ins_Reads (i, ())))) fun j => L (S_ins_Reads i j).1 (S_ins_Reads i j).2 := by kernel_rfl
theorem lp_ins_Reads (i : El T_api_Ins) : ∀ (L : Lt) (j : Empty), procOf (procsF Go.Proofs.Tryz.prog (clOf t_ins_Reads) tb_ins_Reads Go.Proofs.Tryz.f65 c_ins_Reads (toForms sg_ins_Reads (i, ()))) (S_ins_Reads i j).1 L (S_ins_Reads i j).2 = (T_ins_Reads i j).run (fun v => some (R_ins_Reads v, tps (toForms sg_ins_Reads (i, ())))) fun j => L (S_ins_Reads i j).1 (S_ins_Reads i j).2 := fun L j => nomatch j
noncomputable def e_ins_Reads : Run := entG sg_ins_Reads R_ins_Reads (fun a => k_ins_Reads a.1) (fun a => v_ins_Reads a.1)
theorem ok_ins_Reads : EntOK Go.Proofs.Tryz.prog 65 e_ins_Reads := entG_ok (tb := tb_ins_Reads) (c := c_ins_Reads) tk_ins_Reads (by kernel_rfl) (by kernel_rfl) (by kernel_rfl) (fun a => by kernel_rfl) fun ⟨i, _⟩ hk => evF_goes (c := c_ins_Reads) (K := fun v => (R_ins_Reads v, tps (toForms sg_ins_Reads (i, ())))) (S := S_ins_Reads i) (by kernel_rfl) (en_ins_Reads i) (lp_ins_Reads i) (g_ins_Reads i hk)
end
end Go.Ev
end

section
set_option linter.unusedSectionVars false
set_option linter.unusedVariables false
set_option linter.unusedSimpArgs false
set_option maxRecDepth 100000
set_option linter.unusedVariables false
open Go Go.Ev
namespace Go.Ev
noncomputable section
/-! ### paling/ins.Writes -/
def sg_ins_Writes : Sig := [(true, T_api_Ins)]
noncomputable def t_ins_Writes : Tbl := [(82, e_ins_Right), (83, e_ins_memory)]
theorem tk_ins_Writes : ∀ p ∈ t_ins_Writes, EntOK Go.Proofs.Tryz.prog p.1 p.2 := tbl_cons ok_ins_Right (tbl_cons ok_ins_memory (tbl_nil))
noncomputable def c_ins_Writes : Code := Go.Proofs.Tryz.f66.body.getD .skip
def tb_ins_Writes : Tb := []
def T_ins_Writes (i : El T_api_Ins) : Empty → JT Empty ((El T_api_Opd) × Bool) := fun j => nomatch j
def T0_ins_Writes (i : El T_api_Ins) : JT Empty ((El T_api_Opd) × Bool) :=
  .br (k_ins_Right i)
    (.br ((v_ins_Right i) != (0 : Int))
      (.leaf (((0 : Int), ((0 : Int), ((0 : Int), (0 : Int)))), false))
    (.br (! (v_ins_memory i.2.2.2.1))
      (.leaf (((0 : Int), ((0 : Int), ((0 : Int), (0 : Int)))), false))
    (.br (i.1 == (7 : Int))
      (.leaf (((0 : Int), ((0 : Int), ((0 : Int), (0 : Int)))), false))
    (.leaf (i.2.2.2.1, true)))))
  (.no)
def v_ins_Writes (i : El T_api_Ins) : (El T_api_Opd) × Bool :=
  bif (k_ins_Right i) then
    bif ((v_ins_Right i) != (0 : Int)) then
      (((0 : Int), ((0 : Int), ((0 : Int), (0 : Int)))), false)
    else bif (! (v_ins_memory i.2.2.2.1)) then
      (((0 : Int), ((0 : Int), ((0 : Int), (0 : Int)))), false)
    else bif (i.1 == (7 : Int)) then
      (((0 : Int), ((0 : Int), ((0 : Int), (0 : Int)))), false)
    else (i.2.2.2.1, true)
  else (((0 : Int), ((0 : Int), ((0 : Int), (0 : Int)))), false)
def k_ins_Writes (i : El T_api_Ins) : Bool :=
  bif (k_ins_Right i) then
    bif ((v_ins_Right i) != (0 : Int)) then
      true
    else bif (! (v_ins_memory i.2.2.2.1)) then
      true
    else bif (i.1 == (7 : Int)) then
      true
    else true
  else false
theorem g_ins_Writes (i : El T_api_Ins) (hk : k_ins_Writes i = true) : Goes (T_ins_Writes i) (T0_ins_Writes i) (v_ins_Writes i) :=
  Goes.brk hk (fun hk =>
    Goes.brk hk (fun hk =>
      Goes.leaf) (fun hk =>
      Goes.brk hk (fun hk =>
        Goes.leaf) (fun hk =>
        Goes.brk hk (fun hk =>
          Goes.leaf) (fun hk =>
          Goes.leaf)))) (fun hk =>
    Goes.nok hk)
def R_ins_Writes : (El T_api_Opd) × Bool → AV := fun (r : (El T_api_Opd) × Bool) => .tu [.ag [.d (.int .i64) r.1.1, .d (.int .i64) r.1.2.1, .d (.int .i64) r.1.2.2.1, .d (.int .i64) r.1.2.2.2], .d .bool r.2]
def S_ins_Writes (i : El T_api_Ins) : Empty → Nat × St := fun j => nomatch j
theorem en_ins_Writes (i : El T_api_Ins) (L : Lt) : entryA Go.Proofs.Tryz.prog (clOf t_ins_Writes) tb_ins_Writes Go.Proofs.Tryz.f66 c_ins_Writes L (toForms sg_ins_Writes (i, ())) = (T0_ins_Writes i).run (fun v => some (R_ins_Writes v, tps (toForms sg_ins_Writes (i, ())))) fun j => L (S_ins_Writes i j).1 (S_ins_Writes i j).2 := by kernel_rfl
theorem lp_ins_Writes (i : El T_api_Ins) : ∀ (L : Lt) (j : Empty), procOf (procsF Go.Proofs.Tryz.prog (clOf t_ins_Writes) tb_ins_Writes Go.Proofs.Tryz.f66 c_ins_Writes (toForms sg_ins_Writes (i, ()))) (S_ins_Writes i j).1 L (S_ins_Writes i j).2 = (T_ins_Writes i j).run (fun v => some (R_ins_Writes v, tps (toForms sg_ins_Writes (i, ())))) fun j => L (S_ins_Writes i j).1 (S_ins_Writes i j).2 := fun L j => nomatch j
noncomputable def e_ins_Writes : Run := entG sg_ins_Writes R_ins_Writes (fun a => k_ins_Writes a.1) (fun a => v_ins_Writes a.1)
theorem ok_ins_Writes : EntOK Go.Proofs.Tryz.prog 66 e_ins_Writes := entG_ok (tb := tb_ins_Writes) (c := c_ins_Writes) tk_ins_Writes (by kernel_rfl) (by kernel_rfl) (by kernel_rfl) (fun a => by kernel_rfl) fun ⟨i, _⟩ hk => evF_goes (c := c_ins_Writes) (K := fun v => (R_ins_Writes v, tps (toForms sg_ins_Writes (i, ())))) (S := S_ins_Writes i) (by kernel_rfl) (en_ins_Writes i) (lp_ins_Writes i) (g_ins_Writes i hk)
end
end Go.Ev
end

section
set_option linter.unusedSectionVars false
set_option linter.unusedVariables false
set_option linter.unusedSimpArgs false
set_option maxRecDepth 100000
set_option linter.unusedVariables false
open Go Go.Ev
namespace Go.Ev
noncomputable section
/-! ### paling/ins.Locked -/
def sg_ins_Locked : Sig := [(true, T_api_Ins)]
noncomputable def t_ins_Locked : Tbl := [(82, e_ins_Right)]
theorem tk_ins_Locked : ∀ p ∈ t_ins_Locked, EntOK Go.Proofs.Tryz.prog p.1 p.2 := tbl_cons ok_ins_Right (tbl_nil)
noncomputable def c_ins_Locked : Code := Go.Proofs.Tryz.f64.body.getD .skip
def tb_ins_Locked : Tb := []
def T_ins_Locked (i : El T_api_Ins) : Empty → JT Empty (Bool) := fun j => nomatch j
def T0_ins_Locked (i : El T_api_Ins) : JT Empty (Bool) :=
  .br (k_ins_Right i)
    (.br ((v_ins_Right i) == (0 : Int))
      (.br (i.1 == (8 : Int))
        (.leaf true)
      (.leaf i.2.1))
    (.leaf false))
  (.no)
def v_ins_Locked (i : El T_api_Ins) : Bool :=
  bif (k_ins_Right i) then
    bif ((v_ins_Right i) == (0 : Int)) then
      bif (i.1 == (8 : Int)) then
        true
      else i.2.1
    else false
  else false
def k_ins_Locked (i : El T_api_Ins) : Bool :=
  bif (k_ins_Right i) then
    bif ((v_ins_Right i) == (0 : Int)) then
      bif (i.1 == (8 : Int)) then
        true
      else true
    else true
  else false
theorem g_ins_Locked (i : El T_api_Ins) (hk : k_ins_Locked i = true) : Goes (T_ins_Locked i) (T0_ins_Locked i) (v_ins_Locked i) :=
  Goes.brk hk (fun hk =>
    Goes.brk hk (fun hk =>
      Goes.brk hk (fun hk =>
        Goes.leaf) (fun hk =>
        Goes.leaf)) (fun hk =>
      Goes.leaf)) (fun hk =>
    Goes.nok hk)
def R_ins_Locked : Bool → AV := fun (r : Bool) => .d .bool r
def S_ins_Locked (i : El T_api_Ins) : Empty → Nat × St := fun j => nomatch j
theorem en_ins_Locked (i : El T_api_Ins) (L : Lt) : entryA Go.Proofs.Tryz.prog (clOf t_ins_Locked) tb_ins_Locked Go.Proofs.Tryz.f64 c_ins_Locked L (toForms sg_ins_Locked (i, ())) = (T0_ins_Locked i).run (fun v => some (R_ins_Locked v, tps (toForms sg_ins_Locked (i, ())))) fun j => L (S_ins_Locked i j).1 (S_ins_Locked i j).2 := by kernel_rfl
theorem lp_ins_Locked (i : El T_api_Ins) : ∀ (L : Lt) (j : Empty), procOf (procsF Go.Proofs.Tryz.prog (clOf t_ins_Locked) tb_ins_Locked Go.Proofs.Tryz.f64 c_ins_Locked (toForms sg_ins_Locked (i, ()))) (S_ins_Locked i j).1 L (S_ins_Locked i j).2 = (T_ins_Locked i j).run (fun v => some (R_ins_Locked v, tps (toForms sg_ins_Locked (i, ())))) fun j => L (S_ins_Locked i j).1 (S_ins_Locked i j).2 := fun L j => nomatch j
noncomputable def e_ins_Locked : Run := entG sg_ins_Locked R_ins_Locked (fun a => k_ins_Locked a.1) (fun a => v_ins_Locked a.1)
theorem ok_ins_Locked : EntOK Go.Proofs.Tryz.prog 64 e_ins_Locked := entG_ok (tb := tb_ins_Locked) (c := c_ins_Locked) tk_ins_Locked (by kernel_rfl) (by kernel_rfl) (by kernel_rfl) (fun a => by kernel_rfl) fun ⟨i, _⟩ hk => evF_goes (c := c_ins_Locked) (K := fun v => (R_ins_Locked v, tps (toForms sg_ins_Locked (i, ())))) (S := S_ins_Locked i) (by kernel_rfl) (en_ins_Locked i) (lp_ins_Locked i) (g_ins_Locked i hk)
end
end Go.Ev
end

section
set_option linter.unusedSectionVars false
set_option linter.unusedVariables false
set_option linter.unusedSimpArgs false
/- What is told of an instruction: the guards. -/
set_option maxRecDepth 100000
set_option linter.unusedVariables false
set_option linter.unusedSimpArgs false
namespace Go.Ev
open Go
theorem k_reads {i : El T_api_Ins} (h : smallText i.2.2.2.2.2.1 = true) : k_ins_Reads i = true ∧ k_ins_Writes i = true ∧ k_ins_Leads i = true ∧ k_ins_Locked i = true := by
  have h0 : k_ins_Right i = true := h
  unfold k_ins_Reads k_ins_Writes k_ins_Leads k_ins_Locked
  simp only [h0, cond_true, Bool.cond_self, and_self]
end Go.Ev
end

section
set_option linter.unusedSectionVars false
set_option linter.unusedVariables false
set_option linter.unusedSimpArgs false
/- Chapter 22's accesses, over lists. -/
set_option linter.unusedVariables false
set_option linter.unusedSimpArgs false
namespace Go.Ev
open Go
/-- The accesses of an instruction. -/
def accI (t k : Nat) (i : El T_api_Ins) : List (El T_api_Access) :=
  (if (v_ins_Reads i).2 then [((t : Int), ((k : Int), ((0 : Int), ((v_ins_Reads i).1.2.2.1, (false, v_ins_Locked i)))))] else []) ++
  (if (v_ins_Writes i).2 then [((t : Int), ((k : Int), ((if (v_ins_Reads i).2 then (1 : Int) else 0), ((v_ins_Writes i).1.2.2.1, (true, v_ins_Locked i)))))] else [])
def accT (t : Nat) : Nat → List (El T_api_Ins) → List (El T_api_Access)
  | _, [] => []
  | k, i :: r => accI t k i ++ accT t (k + 1) r
def accP : Nat → List (List (El T_api_Ins)) → List (El T_api_Access)
  | _, [] => []
  | t, x :: r => accT t 0 x ++ accP (t + 1) r
def ofC (p : El T_api_Prog) : List (El T_api_Access) := if checkC p = 0 then accP 0 p.2 else []
theorem accI_len (t k : Nat) (i : El T_api_Ins) : (accI t k i).length ≤ 2 := by
  unfold accI
  rw [List.length_append]
  split <;> split <;> simp
theorem accT_len (t : Nat) : ∀ (k : Nat) (l : List (El T_api_Ins)), (accT t k l).length ≤ 2 * l.length
  | _, [] => Nat.le_refl _
  | k, i :: r => by
    have := accT_len t (k + 1) r
    have := accI_len t k i
    unfold accT
    rw [List.length_append, List.length_cons]
    omega
/-- All instructions of a program. -/
def total (l : List (List (El T_api_Ins))) : Nat := (l.map List.length).sum
theorem accP_len : ∀ (t : Nat) (l : List (List (El T_api_Ins))), (accP t l).length ≤ 2 * total l
  | _, [] => Nat.le_refl _
  | t, x :: r => by
    have := accP_len (t + 1) r
    have := accT_len t 0 x
    unfold accP
    rw [List.length_append]
    unfold total at *
    rw [List.map_cons, List.sum_cons]
    omega
/-- Small, all in all. -/
def smallAll (p : El T_api_Prog) : Bool := smallProg p && (decide (p.2.length < 1073741824) && decide (total p.2 < 1073741824))
theorem total_drop {l : List (List (El T_api_Ins))} {k : Nat} (h : k < l.length) : total (l.drop k) = (List.length l[k]) + total (l.drop (k + 1)) := by
  rw [drop_cons h]; unfold total; rw [List.map_cons, List.sum_cons]
theorem ble40 {n : Nat} (h : n < 8589934592) : Nat.ble ((n + 1) * 40) limit = true := by apply Nat.ble_eq_true_of_le; unfold limit; omega
structure SmallA (p : El T_api_Prog) : Prop where
  prog : smallProg p = true
  len : p.2.length < 1073741824
  tot : total p.2 < 1073741824
  thr : ∀ t ∈ p.2, smallThread t = true
theorem smallA {p : El T_api_Prog} (h : smallAll p = true) : SmallA p := by
  unfold smallAll at h
  simp only [Bool.and_eq_true, decide_eq_true_eq] at h
  refine ⟨h.1, h.2.1, h.2.2, ?_⟩
  have h1 := h.1
  unfold smallProg at h1
  simp only [Bool.and_eq_true, List.all_eq_true] at h1
  exact h1.2
theorem ofC_len {p : El T_api_Prog} (h : smallAll p = true) : (ofC p).length < 2147483648 := by
  have := accP_len 0 p.2
  have := (smallA h).tot
  unfold ofC
  split
  · omega
  · exact Nat.zero_lt_succ _
end Go.Ev
end

section
set_option linter.unusedSectionVars false
set_option linter.unusedVariables false
set_option linter.unusedSimpArgs false
/- What is told of an instruction: `tells` is true. -/
set_option maxRecDepth 100000
set_option linter.unusedVariables false
set_option linter.unusedSimpArgs false
namespace Go.Ev
open Go
theorem k_refR {i : El T_api_Ins} (h : smallText i.2.2.2.2.2.1 = true) : k_ref1_Reads i = true ∧ k_ref1_Writes i = true ∧ k_ref1_Locked i = true := by
  have h0 : k_ref1_InsRight i = true := h
  unfold k_ref1_Reads k_ref1_Writes k_ref1_Locked
  simp only [h0, cond_true, Bool.cond_self, and_self]
theorem reads_eq {i : El T_api_Ins} (h : smallText i.2.2.2.2.2.1 = true) : v_ref1_Reads i = v_ins_Reads i := by
  have h0 : k_ins_Right i = true := h
  have h1 : k_ref1_InsRight i = true := h
  unfold v_ref1_Reads v_ins_Reads v_ref1_InsRight
  simp only [h0, h1, cond_true]
  by_cases hr : v_ins_Right i = 0
  · simp only [hr, bne_self_eq_false, cond_false]
    rcases nine i.1 with ⟨h9, e⟩ | ⟨h9, e⟩
    · obtain ⟨a, b⟩ := mem_low hr h9
      rw [a, b, e, cond_false]
    · obtain ⟨a, b⟩ := mem_high hr h9
      rw [a, b, e]
      simp only [cond_true, cond_false]
  · have e : (v_ins_Right i != 0) = true := by simp [hr]
    simp only [e, cond_true]
theorem writes_eq {i : El T_api_Ins} (h : smallText i.2.2.2.2.2.1 = true) : v_ref1_Writes i = v_ins_Writes i := by
  have h0 : k_ins_Right i = true := h
  have h1 : k_ref1_InsRight i = true := h
  unfold v_ref1_Writes v_ins_Writes v_ref1_InsRight
  simp only [h0, h1, cond_true]
  by_cases hr : v_ins_Right i = 0
  · simp only [hr, bne_self_eq_false, cond_false]
    rcases nine i.1 with ⟨h9, e⟩ | ⟨h9, e⟩
    · obtain ⟨a, b⟩ := mem_low hr h9
      rw [a, e, cond_false]
      cases v_ref1_Memory i.2.2.2.1 <;> simp only [Bool.not_true, Bool.not_false, cond_true, cond_false, Bool.cond_self]
    · obtain ⟨a, b⟩ := mem_high hr h9
      rw [a, e]
      simp only [cond_true, Bool.not_false]
  · have e : (v_ins_Right i != 0) = true := by simp [hr]
    simp only [e, cond_true]
theorem locked_eq {i : El T_api_Ins} (h : smallText i.2.2.2.2.2.1 = true) : v_ref1_Locked i = v_ins_Locked i := by
  have h0 : k_ins_Right i = true := h
  have h1 : k_ref1_InsRight i = true := h
  unfold v_ref1_Locked v_ins_Locked v_ref1_InsRight
  simp only [h0, h1]
end Go.Ev
end

section
set_option linter.unusedSectionVars false
set_option linter.unusedVariables false
set_option linter.unusedSimpArgs false
set_option linter.unusedVariables false
set_option linter.unusedSimpArgs false
open Go
namespace Go.Ev
def v_ref3_Accesses (p : El T_api_Prog) : List (El T_api_Access) := ofC p
def k_ref3_Accesses (p : El T_api_Prog) : Bool := smallAll p
theorem g_ref3_Accesses (p : El T_api_Prog) (hk : k_ref3_Accesses p = true) : Goes (T_ref3_Accesses p) (T0_ref3_Accesses p) (v_ref3_Accesses p) := by
  have hA := smallA hk
  obtain ⟨sy, th⟩ := p
  have hkc : k_ref1_Check (sy, th) = true := hA.prog
  have hlen : th.length < 1073741824 := hA.len
  have htot : total th < 1073741824 := hA.tot
  have main : ∀ k, k ≤ th.length → ∀ out : List (El T_api_Access), out.length + 2 * total (th.drop k) < 4294967296 → Goes (T_ref3_Accesses (sy, th)) (.jmp (.l7 (k : Int) out)) (out ++ accP k (th.drop k)) := by
    refine down ?_ fun k hk ih => ?_
    · intro out ho
      rw [goes_jmp]
      simp only [T_ref3_Accesses, goes_br, lt_len_not (Nat.lt_irrefl _), goes_leaf, List.drop_length]
      simp [accP]
    · intro out ho
      rw [total_drop hk] at ho
      have hS := smallT (hA.thr _ (List.getElem_mem hk))
      rw [goes_jmp]
      simp only [T_ref3_Accesses, goes_br, lt_len hk, if_true]
      rw [drop_cons hk]
      unfold accP
      obtain ⟨x, hx0⟩ : ∃ x, th[k] = x := ⟨_, rfl⟩
      rw [hx0] at ho hS ⊢
      have inner : ∀ j, j ≤ List.length x → ∀ out : List (El T_api_Access), out.length + 2 * (List.length x - j) + 2 * total (th.drop (k + 1)) < 4294967296 → Goes (T_ref3_Accesses (sy, th)) (.jmp (.l12 (j : Int) out (k : Int))) (out ++ (accT k j (List.drop j x) ++ accP (k + 1) (th.drop (k + 1)))) := by
        refine down ?_ fun j hj ihj => ?_
        · intro out ho
          rw [goes_jmp]
          simp only [T_ref3_Accesses, goes_br, lt_len hk, nng, Bool.and_self, if_true, Int.toNat_natCast, getD_lt hk, hx0, lt_len_not (Nat.lt_irrefl _), wrap_succ (k := k) (by omega), List.drop_length]
          have := ih out (by omega)
          simpa [accT] using this
        · intro out ho
          have hto := hS.to _ (List.getElem_mem hj)
          obtain ⟨a1, a2, a4⟩ := k_refR hto
          have hx : List.length x < 1099511627776 := hS.len
          rw [goes_jmp]
          have b1 : Nat.ble ((out.length + 1) * 40) limit = true := ble40 (by omega)
          have b2 : ∀ y : El T_api_Access, Nat.ble (((out ++ [y]).length + 1) * 40) limit = true := fun y => ble40 (by rw [List.length_append]; simp; omega)
          simp only [T_ref3_Accesses, goes_br, lt_len hk, getD_lt hk, hx0, lt_len hj, nng, Bool.and_self, if_true, Int.toNat_natCast, getD_lt hj, wrap_succ (k := j) (by omega), a1, a2, a4, b1, b2, reads_eq hto, writes_eq hto, locked_eq hto]
          rw [drop_cons hj]
          unfold accT accI
          have hs : ∀ y : List (El T_api_Access), y.length ≤ 2 → Goes (T_ref3_Accesses (sy, th)) (.jmp (.l12 ((j + 1 : Nat) : Int) (out ++ y) (k : Int))) (out ++ ((y ++ accT k (j + 1) (List.drop (j + 1) x)) ++ accP (k + 1) (th.drop (k + 1)))) := fun y hy => by
            have := ihj (out ++ y) (by rw [List.length_append]; omega)
            rw [List.append_assoc] at this
            rw [List.append_assoc]
            exact this
          by_cases hr : (v_ins_Reads x[j]).2 = true <;> by_cases hw : (v_ins_Writes x[j]).2 = true
          · simp only [hr, hw, if_true]
            rw [List.append_assoc out]
            exact hs _ (by simp)
          · simp only [hr, hw, if_true, if_false]
            exact hs _ (by simp)
          · simp only [hr, hw, if_true, if_false]
            exact hs _ (by simp)
          · simp only [hr, hw, if_false]
            have := hs [] (by simp)
            rw [List.append_nil] at this
            exact this
      exact inner 0 (Nat.zero_le _) out (by omega)
  unfold T0_ref3_Accesses v_ref3_Accesses ofC
  simp only [goes_br, hkc, if_true, v_ref1_Check]
  by_cases h : checkC (sy, th) = 0
  · rw [if_neg (by simp [h]), if_pos h]
    have := main 0 (Nat.zero_le _) [] (by simp; omega)
    simpa using this
  · rw [if_pos (by simp [h]), if_neg h]
    exact .leaf
end Go.Ev
end

section
set_option linter.unusedSectionVars false
set_option linter.unusedVariables false
set_option linter.unusedSimpArgs false
set_option maxRecDepth 100000
set_option linter.unusedVariables false
open Go Go.Ev
namespace Go.Ev
noncomputable section
noncomputable def e_ref3_Accesses : Run := entG sg_ref3_Accesses R_ref3_Accesses (fun a => k_ref3_Accesses a.1) (fun a => v_ref3_Accesses a.1)
theorem ok_ref3_Accesses : EntOK Go.Proofs.Tryz.prog 17 e_ref3_Accesses := entG_ok (tb := tb_ref3_Accesses) (c := c_ref3_Accesses) tk_ref3_Accesses (by kernel_rfl) (by kernel_rfl) (by kernel_rfl) (fun a => by kernel_rfl) fun ⟨p, _⟩ hk => evF_goes (c := c_ref3_Accesses) (K := fun v => (R_ref3_Accesses v, tps (toForms sg_ref3_Accesses (p, ())))) (S := S_ref3_Accesses p) (by kernel_rfl) (en_ref3_Accesses p) (lp_ref3_Accesses p) (g_ref3_Accesses p hk)
end
end Go.Ev
end

section
set_option linter.unusedSectionVars false
set_option linter.unusedVariables false
set_option linter.unusedSimpArgs false
set_option maxRecDepth 100000
set_option linter.unusedVariables false
open Go Go.Ev
namespace Go.Ev
noncomputable section
/-! ### paling/valid.Count -/
def sg_valid_Count : Sig := [(true, (.sl T_api_Ins))]
noncomputable def t_valid_Count : Tbl := []
theorem tk_valid_Count : ∀ p ∈ t_valid_Count, EntOK Go.Proofs.Tryz.prog p.1 p.2 := tbl_nil
noncomputable def c_valid_Count : Code := Go.Proofs.Tryz.f107.body.getD .skip
def tb_valid_Count : Tb := [(4, ⟨[3, 7, 8, 9], []⟩)]
inductive J_valid_Count where
  | l4 (n : Int) (h : Int)
def T_valid_Count (t : List (El T_api_Ins)) : J_valid_Count → JT J_valid_Count (Int)
  | .l4 n h =>
    .br (decide (h < (Int.ofNat (List.length t))))
      (.br ((decide ((0 : Int) ≤ h)) && (decide (h < (Int.ofNat (List.length t)))))
        (.br ((List.getD t (Int.toNat h) (dflt T_api_Ins)).1 != (12 : Int))
          (.jmp (.l4 (IntKind.i64.wrap (n + (1 : Int))) (IntKind.i64.wrap (h + (1 : Int)))))
        (.jmp (.l4 n (IntKind.i64.wrap (h + (1 : Int))))))
      (.no))
    (.leaf n)
def T0_valid_Count (t : List (El T_api_Ins)) : JT J_valid_Count (Int) :=
  .jmp (.l4 (0 : Int) (0 : Int))
def R_valid_Count : Int → AV := fun (r : Int) => .d (.int .i64) r
def S_valid_Count (t : List (El T_api_Ins)) : J_valid_Count → Nat × St
  | .l4 n h => (4, ⟨mkTm 20 [(3, .d (.int .i64) n), (7, .d (.sl T_api_Ins) t), (8, .d (.int .i64) (Int.ofNat (List.length t))), (9, .d (.int .i64) h)], []⟩)
theorem en_valid_Count (t : List (El T_api_Ins)) (L : Lt) : entryA Go.Proofs.Tryz.prog (clOf t_valid_Count) tb_valid_Count Go.Proofs.Tryz.f107 c_valid_Count L (toForms sg_valid_Count (t, ())) = (T0_valid_Count t).run (fun v => some (R_valid_Count v, tps (toForms sg_valid_Count (t, ())))) fun j => L (S_valid_Count t j).1 (S_valid_Count t j).2 := by kernel_rfl
theorem lp_valid_Count (t : List (El T_api_Ins)) : ∀ (L : Lt) (j : J_valid_Count), procOf (procsF Go.Proofs.Tryz.prog (clOf t_valid_Count) tb_valid_Count Go.Proofs.Tryz.f107 c_valid_Count (toForms sg_valid_Count (t, ()))) (S_valid_Count t j).1 L (S_valid_Count t j).2 = (T_valid_Count t j).run (fun v => some (R_valid_Count v, tps (toForms sg_valid_Count (t, ())))) fun j => L (S_valid_Count t j).1 (S_valid_Count t j).2
  | L, .l4 n h => by kernel_rfl
end
end Go.Ev
end

section
set_option linter.unusedSectionVars false
set_option linter.unusedVariables false
set_option linter.unusedSimpArgs false
set_option linter.unusedVariables false
set_option linter.unusedSimpArgs false
open Go
namespace Go.Ev
def v_valid_Count (t : List (El T_api_Ins)) : Int := (countM t : Int)
def k_valid_Count (t : List (El T_api_Ins)) : Bool := decide (t.length < 1099511627776)
theorem g_valid_Count (t : List (El T_api_Ins)) (hk : k_valid_Count t = true) : Goes (T_valid_Count t) (T0_valid_Count t) (v_valid_Count t) := by
  have hn : t.length < 1099511627776 := of_decide_eq_true hk
  have loop : ∀ k, k ≤ t.length → ∀ n : Nat, n ≤ k → Goes (T_valid_Count t) (.jmp (.l4 (n : Int) (k : Int))) ((n + countM (t.drop k) : Nat) : Int) := by
    refine down ?_ fun k hk ih => ?_
    · intro n hnk
      rw [goes_jmp]
      simp only [T_valid_Count, goes_br, lt_len_not (Nat.lt_irrefl _), goes_leaf, List.drop_length]
      simp [countM]
    · intro n hnk
      rw [goes_jmp]
      simp only [T_valid_Count, goes_br, lt_len hk, nng, Bool.and_self, if_true, Int.toNat_natCast, getD_lt hk, wrap_succ (k := k) (by omega), wrap_succ (k := n) (by omega)]
      rw [drop_cons hk]
      unfold countM
      rw [List.filter_cons]
      split
      · rename_i h
        have := ih (n + 1) (by omega)
        unfold countM at this
        rw [List.length_cons, show n + ((List.filter (fun i => i.1 != (12 : Int)) (List.drop (k + 1) t)).length + 1) = n + 1 + (List.filter (fun i => i.1 != (12 : Int)) (List.drop (k + 1) t)).length by omega]
        exact this
      · exact ih n (by omega)
  have := loop 0 (Nat.zero_le _) 0 (Nat.le_refl _)
  unfold T0_valid_Count v_valid_Count
  simpa using this
end Go.Ev
end

section
set_option linter.unusedSectionVars false
set_option linter.unusedVariables false
set_option linter.unusedSimpArgs false
set_option maxRecDepth 100000
set_option linter.unusedVariables false
open Go Go.Ev
namespace Go.Ev
noncomputable section
noncomputable def e_valid_Count : Run := entG sg_valid_Count R_valid_Count (fun a => k_valid_Count a.1) (fun a => v_valid_Count a.1)
theorem ok_valid_Count : EntOK Go.Proofs.Tryz.prog 107 e_valid_Count := entG_ok (tb := tb_valid_Count) (c := c_valid_Count) tk_valid_Count (by kernel_rfl) (by kernel_rfl) (by kernel_rfl) (fun a => by kernel_rfl) fun ⟨t, _⟩ hk => evF_goes (c := c_valid_Count) (K := fun v => (R_valid_Count v, tps (toForms sg_valid_Count (t, ())))) (S := S_valid_Count t) (by kernel_rfl) (en_valid_Count t) (lp_valid_Count t) (g_valid_Count t hk)
end
end Go.Ev
end

section
set_option linter.unusedSectionVars false
set_option linter.unusedVariables false
set_option linter.unusedSimpArgs false
set_option maxRecDepth 100000
set_option linter.unusedVariables false
open Go Go.Ev
namespace Go.Ev
noncomputable section
/-! ### paling/valid.place -/
def sg_valid_place : Sig := [(true, T_api_Prog), (true, T_api_Opd)]
noncomputable def t_valid_place : Tbl := []
theorem tk_valid_place : ∀ p ∈ t_valid_place, EntOK Go.Proofs.Tryz.prog p.1 p.2 := tbl_nil
noncomputable def c_valid_place : Code := Go.Proofs.Tryz.f108.body.getD .skip
def tb_valid_place : Tb := [(5, ⟨[2, 3, 23], []⟩)]
inductive J_valid_place where
  | l5 (h : Bool)
def T_valid_place (p : El T_api_Prog) (o : El T_api_Opd) : J_valid_place → JT J_valid_place (Int)
  | .l5 h =>
    .br h
      (.leaf (7 : Int))
    (.br (o.1 == (3 : Int))
      (.br ((decide ((0 : Int) ≤ o.2.2.1)) && (decide (o.2.2.1 < (Int.ofNat (List.length p.1)))))
        (.br (decide (o.2.2.2 ≥ (List.getD p.1 (Int.toNat o.2.2.1) (dflt T_api_Sym)).2.1))
          (.leaf (8 : Int))
        (.leaf (0 : Int)))
      (.no))
    (.leaf (0 : Int)))
def T0_valid_place (p : El T_api_Prog) (o : El T_api_Opd) : JT J_valid_place (Int) :=
  .br (o.1 != (3 : Int))
    (.br (o.1 != (4 : Int))
      (.leaf (0 : Int))
    (.br (decide (o.2.2.1 < (0 : Int)))
      (.jmp (.l5 true))
    (.jmp (.l5 (decide (o.2.2.1 ≥ (Int.ofNat (List.length p.1))))))))
  (.br (decide (o.2.2.1 < (0 : Int)))
    (.jmp (.l5 true))
  (.jmp (.l5 (decide (o.2.2.1 ≥ (Int.ofNat (List.length p.1)))))))
def v_valid_place_l5 (p : El T_api_Prog) (o : El T_api_Opd) (h : Bool) : Int :=
  bif h then
    (7 : Int)
  else bif (o.1 == (3 : Int)) then
    bif ((decide ((0 : Int) ≤ o.2.2.1)) && (decide (o.2.2.1 < (Int.ofNat (List.length p.1))))) then
      bif (decide (o.2.2.2 ≥ (List.getD p.1 (Int.toNat o.2.2.1) (dflt T_api_Sym)).2.1)) then
        (8 : Int)
      else (0 : Int)
    else (0 : Int)
  else (0 : Int)
def k_valid_place_l5 (p : El T_api_Prog) (o : El T_api_Opd) (h : Bool) : Bool :=
  bif h then
    true
  else bif (o.1 == (3 : Int)) then
    bif ((decide ((0 : Int) ≤ o.2.2.1)) && (decide (o.2.2.1 < (Int.ofNat (List.length p.1))))) then
      bif (decide (o.2.2.2 ≥ (List.getD p.1 (Int.toNat o.2.2.1) (dflt T_api_Sym)).2.1)) then
        true
      else true
    else false
  else true
theorem g_valid_place_l5 (p : El T_api_Prog) (o : El T_api_Opd) (h : Bool) (hk : k_valid_place_l5 p o h = true) : Goes (T_valid_place p o) (.jmp (.l5 h)) (v_valid_place_l5 p o h) :=
  Goes.jmp (Goes.brk hk (fun hk =>
    Goes.leaf) (fun hk =>
    Goes.brk hk (fun hk =>
      Goes.brk hk (fun hk =>
        Goes.brk hk (fun hk =>
          Goes.leaf) (fun hk =>
          Goes.leaf)) (fun hk =>
        Goes.nok hk)) (fun hk =>
      Goes.leaf)))
def u_valid_place (p : El T_api_Prog) (o : El T_api_Opd) : Int :=
  bif (o.1 != (3 : Int)) then
    bif (o.1 != (4 : Int)) then
      (0 : Int)
    else bif (decide (o.2.2.1 < (0 : Int))) then
      v_valid_place_l5 p o true
    else v_valid_place_l5 p o (decide (o.2.2.1 ≥ (Int.ofNat (List.length p.1))))
  else bif (decide (o.2.2.1 < (0 : Int))) then
    v_valid_place_l5 p o true
  else v_valid_place_l5 p o (decide (o.2.2.1 ≥ (Int.ofNat (List.length p.1))))
def ku_valid_place (p : El T_api_Prog) (o : El T_api_Opd) : Bool :=
  bif (o.1 != (3 : Int)) then
    bif (o.1 != (4 : Int)) then
      true
    else bif (decide (o.2.2.1 < (0 : Int))) then
      k_valid_place_l5 p o true
    else k_valid_place_l5 p o (decide (o.2.2.1 ≥ (Int.ofNat (List.length p.1))))
  else bif (decide (o.2.2.1 < (0 : Int))) then
    k_valid_place_l5 p o true
  else k_valid_place_l5 p o (decide (o.2.2.1 ≥ (Int.ofNat (List.length p.1))))
theorem gu_valid_place (p : El T_api_Prog) (o : El T_api_Opd) (hk : ku_valid_place p o = true) : Goes (T_valid_place p o) (T0_valid_place p o) (u_valid_place p o) :=
  Goes.brk hk (fun hk =>
    Goes.brk hk (fun hk =>
      Goes.leaf) (fun hk =>
      Goes.brk hk (fun hk =>
        g_valid_place_l5 p o true hk) (fun hk =>
        g_valid_place_l5 p o (decide (o.2.2.1 ≥ (Int.ofNat (List.length p.1)))) hk))) (fun hk =>
    Goes.brk hk (fun hk =>
      g_valid_place_l5 p o true hk) (fun hk =>
      g_valid_place_l5 p o (decide (o.2.2.1 ≥ (Int.ofNat (List.length p.1)))) hk))
def R_valid_place : Int → AV := fun (r : Int) => .d (.int .i64) r
def S_valid_place (p : El T_api_Prog) (o : El T_api_Opd) : J_valid_place → Nat × St
  | .l5 h => (5, ⟨mkTm 39 [(2, .pt 3 0 0), (3, .pt 4 0 0), (23, .d .bool h)], [(3, 0, .box 26 [.d (.sl T_api_Sym) p.1, .d (.sl (.sl T_api_Ins)) p.2] none), (4, 0, .box 58 [.d (.int .i64) o.1, .d (.int .i64) o.2.1, .d (.int .i64) o.2.2.1, .d (.int .i64) o.2.2.2] none)]⟩)
theorem en_valid_place (p : El T_api_Prog) (o : El T_api_Opd) (L : Lt) : entryA Go.Proofs.Tryz.prog (clOf t_valid_place) tb_valid_place Go.Proofs.Tryz.f108 c_valid_place L (toForms sg_valid_place (p, o, ())) = (T0_valid_place p o).run (fun v => some (R_valid_place v, tps (toForms sg_valid_place (p, o, ())))) fun j => L (S_valid_place p o j).1 (S_valid_place p o j).2 := by kernel_rfl
theorem lp_valid_place (p : El T_api_Prog) (o : El T_api_Opd) : ∀ (L : Lt) (j : J_valid_place), procOf (procsF Go.Proofs.Tryz.prog (clOf t_valid_place) tb_valid_place Go.Proofs.Tryz.f108 c_valid_place (toForms sg_valid_place (p, o, ()))) (S_valid_place p o j).1 L (S_valid_place p o j).2 = (T_valid_place p o j).run (fun v => some (R_valid_place v, tps (toForms sg_valid_place (p, o, ())))) fun j => L (S_valid_place p o j).1 (S_valid_place p o j).2
  | L, .l5 h => by kernel_rfl
end
end Go.Ev
end

section
set_option linter.unusedSectionVars false
set_option linter.unusedVariables false
set_option linter.unusedSimpArgs false
set_option linter.unusedVariables false
set_option linter.unusedSimpArgs false
open Go
namespace Go.Ev
def v_valid_place (p : El T_api_Prog) (o : El T_api_Opd) : Int := placeC p o
theorem place_eq' (len : Nat) (size : Int → Int) (k s n : Int) :
  (bif (k != (3 : Int)) then
    bif (k != (4 : Int)) then
      (0 : Int)
    else bif (decide (s < (0 : Int))) then (7 : Int)
    else bif (decide (s ≥ (Int.ofNat len))) then
    (7 : Int)
  else bif (k == (3 : Int)) then
    bif ((decide ((0 : Int) ≤ s)) && (decide (s < (Int.ofNat len)))) then
      bif (decide (n ≥ size s)) then
        (8 : Int)
      else (0 : Int)
    else (0 : Int)
  else (0 : Int)
  else bif (decide (s < (0 : Int))) then (7 : Int)
    else bif (decide (s ≥ (Int.ofNat len))) then
    (7 : Int)
  else bif (k == (3 : Int)) then
    bif ((decide ((0 : Int) ≤ s)) && (decide (s < (Int.ofNat len)))) then
      bif (decide (n ≥ size s)) then
        (8 : Int)
      else (0 : Int)
    else (0 : Int)
  else (0 : Int)) = placeN len size k s n := by
  unfold placeN
  by_cases h3 : k = 3
  · subst h3
    by_cases hs : s < 0
    · simp [hs]
    by_cases hl : (len : Int) ≤ s
    · simp [hs, hl]
    have h1 : 0 ≤ s := by omega
    have h2 : s < (len : Int) := by omega
    by_cases hn : size s ≤ n
    · simp [hs, hl, hn, h1, h2]
    · simp [hs, hl, hn, h1, h2]
  by_cases h4 : k = 4
  · subst h4
    by_cases hs : s < 0
    · simp [hs]
    by_cases hl : (len : Int) ≤ s
    · simp [hs, hl]
    simp [hs, hl]
  have e3 : (k != (3 : Int)) = true := by simp [h3]
  have e4 : (k != (4 : Int)) = true := by simp [h4]
  rw [e3, e4]
  simp [h3, h4]
theorem place_k' (len : Nat) (size : Int → Int) (k s n : Int) :
  (bif (k != (3 : Int)) then
    bif (k != (4 : Int)) then
      true
    else bif (decide (s < (0 : Int))) then true
    else bif (decide (s ≥ (Int.ofNat len))) then
    true
  else bif (k == (3 : Int)) then
    bif ((decide ((0 : Int) ≤ s)) && (decide (s < (Int.ofNat len)))) then
      bif (decide (n ≥ size s)) then
        true
      else true
    else false
  else true
  else bif (decide (s < (0 : Int))) then true
    else bif (decide (s ≥ (Int.ofNat len))) then
    true
  else bif (k == (3 : Int)) then
    bif ((decide ((0 : Int) ≤ s)) && (decide (s < (Int.ofNat len)))) then
      bif (decide (n ≥ size s)) then
        true
      else true
    else false
  else true) = true := by
  by_cases h3 : k = 3
  · subst h3
    by_cases hs : s < 0
    · simp [hs]
    by_cases hl : (len : Int) ≤ s
    · simp [hs, hl]
    have h1 : 0 ≤ s := by omega
    have h2 : s < (len : Int) := by omega
    by_cases hn : size s ≤ n
    · simp [hs, hl, hn, h1, h2]
    · simp [hs, hl, hn, h1, h2]
  by_cases h4 : k = 4
  · subst h4
    by_cases hs : s < 0
    · simp [hs]
    by_cases hl : (len : Int) ≤ s
    · simp [hs, hl]
    simp [hs, hl]
  have e3 : (k != (3 : Int)) = true := by simp [h3]
  have e4 : (k != (4 : Int)) = true := by simp [h4]
  rw [e3, e4]
  simp [h3, h4]
theorem g_valid_place (p : El T_api_Prog) (o : El T_api_Opd) : Goes (T_valid_place p o) (T0_valid_place p o) (v_valid_place p o) := by
  have hk : ku_valid_place p o = true := place_k' p.1.length (fun s => (List.getD p.1 s.toNat (dflt T_api_Sym)).2.1) o.1 o.2.2.1 o.2.2.2
  have he : u_valid_place p o = v_valid_place p o := place_eq' p.1.length (fun s => (List.getD p.1 s.toNat (dflt T_api_Sym)).2.1) o.1 o.2.2.1 o.2.2.2
  rw [← he]
  exact gu_valid_place p o hk
end Go.Ev
end

section
set_option linter.unusedSectionVars false
set_option linter.unusedVariables false
set_option linter.unusedSimpArgs false
set_option maxRecDepth 100000
set_option linter.unusedVariables false
open Go Go.Ev
namespace Go.Ev
noncomputable section
noncomputable def e_valid_place : Run := entT sg_valid_place R_valid_place (fun a => v_valid_place a.1 a.2.1)
theorem ok_valid_place : EntOK Go.Proofs.Tryz.prog 108 e_valid_place := entT_ok (tb := tb_valid_place) (c := c_valid_place) tk_valid_place (by kernel_rfl) (by kernel_rfl) (by kernel_rfl) (fun a => by kernel_rfl) fun ⟨p, o, _⟩ => evF_goes (c := c_valid_place) (K := fun v => (R_valid_place v, tps (toForms sg_valid_place (p, o, ())))) (S := S_valid_place p o) (by kernel_rfl) (en_valid_place p o) (lp_valid_place p o) (g_valid_place p o)
end
end Go.Ev
end

section
set_option linter.unusedSectionVars false
set_option linter.unusedVariables false
set_option linter.unusedSimpArgs false
set_option maxRecDepth 100000
set_option linter.unusedVariables false
open Go Go.Ev
namespace Go.Ev
noncomputable section
/-! ### paling/valid.thread -/
def sg_valid_thread : Sig := [(true, T_api_Prog), (true, (.sl T_api_Ins))]
noncomputable def t_valid_thread : Tbl := [(107, e_valid_Count), (80, e_names_Right), (82, e_ins_Right), (108, e_valid_place), (95, e_ins_Leads)]
theorem tk_valid_thread : ∀ p ∈ t_valid_thread, EntOK Go.Proofs.Tryz.prog p.1 p.2 := tbl_cons ok_valid_Count (tbl_cons ok_names_Right (tbl_cons ok_ins_Right (tbl_cons ok_valid_place (tbl_cons ok_ins_Leads (tbl_nil)))))
noncomputable def c_valid_thread : Code := Go.Proofs.Tryz.f81.body.getD .skip
def tb_valid_thread : Tb := [(7, ⟨[2, 3, 5, 21, 22, 23, 75, 83], []⟩), (14, ⟨[2, 3, 5, 7, 21, 22, 23, 28, 29, 30, 75, 83], []⟩), (38, ⟨[5, 87, 88, 89], []⟩)]
inductive J_valid_thread where
  | l7 (h : Int) (seen : List (ByteArray × Bool))
  | l14 (h : List ByteArray) (h1 : Int) (i : Int) (i1 : Bool) (i2 : Int) (i3 : Int) (i4 : Int) (i5 : Int) (i6 : Int) (i7 : Int) (i8 : Int) (i9 : Int) (i10 : Int) (i11 : ByteArray) (i12 : List ByteArray) (h2 : Int) (seen : List (ByteArray × Bool)) (h3 : Int)
  | l38 (h : Int) (seen : List (ByteArray × Bool))
def T_valid_thread (p : El T_api_Prog) (t : List (El T_api_Ins)) : J_valid_thread → JT J_valid_thread (Int)
  | .l7 h seen =>
    .br (decide (h < (Int.ofNat (List.length t))))
      (.br ((decide ((0 : Int) ≤ h)) && (decide (h < (Int.ofNat (List.length t)))))
        (.jmp (.l14 (List.getD t (Int.toNat h) (dflt T_api_Ins)).2.2.2.2.2.2 (Int.ofNat (List.length (List.getD t (Int.toNat h) (dflt T_api_Ins)).2.2.2.2.2.2)) (List.getD t (Int.toNat h) (dflt T_api_Ins)).1 (List.getD t (Int.toNat h) (dflt T_api_Ins)).2.1 (List.getD t (Int.toNat h) (dflt T_api_Ins)).2.2.1 (List.getD t (Int.toNat h) (dflt T_api_Ins)).2.2.2.1.1 (List.getD t (Int.toNat h) (dflt T_api_Ins)).2.2.2.1.2.1 (List.getD t (Int.toNat h) (dflt T_api_Ins)).2.2.2.1.2.2.1 (List.getD t (Int.toNat h) (dflt T_api_Ins)).2.2.2.1.2.2.2 (List.getD t (Int.toNat h) (dflt T_api_Ins)).2.2.2.2.1.1 (List.getD t (Int.toNat h) (dflt T_api_Ins)).2.2.2.2.1.2.1 (List.getD t (Int.toNat h) (dflt T_api_Ins)).2.2.2.2.1.2.2.1 (List.getD t (Int.toNat h) (dflt T_api_Ins)).2.2.2.2.1.2.2.2 (List.getD t (Int.toNat h) (dflt T_api_Ins)).2.2.2.2.2.1 (List.getD t (Int.toNat h) (dflt T_api_Ins)).2.2.2.2.2.2 (0 : Int) seen h))
      (.no))
    (.br ((Int.ofNat (List.length t)) == (0 : Int))
      (.leaf (9 : Int))
    (.br ((decide ((0 : Int) ≤ (IntKind.i64.wrap ((Int.ofNat (List.length t)) - (1 : Int))))) && (decide ((IntKind.i64.wrap ((Int.ofNat (List.length t)) - (1 : Int))) < (Int.ofNat (List.length t)))))
      (.br ((List.getD t (Int.toNat (IntKind.i64.wrap ((Int.ofNat (List.length t)) - (1 : Int)))) (dflt T_api_Ins)).1 != (10 : Int))
        (.br ((decide ((0 : Int) ≤ (IntKind.i64.wrap ((Int.ofNat (List.length t)) - (1 : Int))))) && (decide ((IntKind.i64.wrap ((Int.ofNat (List.length t)) - (1 : Int))) < (Int.ofNat (List.length t)))))
          (.br ((List.getD t (Int.toNat (IntKind.i64.wrap ((Int.ofNat (List.length t)) - (1 : Int)))) (dflt T_api_Ins)).1 != (14 : Int))
            (.leaf (9 : Int))
          (.jmp (.l38 (0 : Int) seen)))
        (.no))
      (.jmp (.l38 (0 : Int) seen)))
    (.no)))
  | .l14 h h1 i i1 i2 i3 i4 i5 i6 i7 i8 i9 i10 i11 i12 h2 seen h3 =>
    .br (decide (h2 < h1))
      (.br ((decide ((0 : Int) ≤ h2)) && (decide (h2 < (Int.ofNat (List.length h)))))
        (.br (k_names_Right (List.getD h (Int.toNat h2) (dflt .str)))
          (.br (! (v_names_Right (List.getD h (Int.toNat h2) (dflt .str))))
            (.leaf (3 : Int))
          (.br (Option.getD (mget (kt := .str) (List.getD h (Int.toNat h2) (dflt .str)) seen) false)
            (.leaf (6 : Int))
          (.jmp (.l14 h h1 i i1 i2 i3 i4 i5 i6 i7 i8 i9 i10 i11 i12 (IntKind.i64.wrap (h2 + (1 : Int))) (mput (kt := .str) (List.getD h (Int.toNat h2) (dflt .str)) true seen) h3))))
        (.no))
      (.no))
    (.br (k_ins_Right (i, (i1, (i2, ((i3, (i4, (i5, i6))), ((i7, (i8, (i9, i10))), (i11, i12)))))))
      (.br ((v_ins_Right (i, (i1, (i2, ((i3, (i4, (i5, i6))), ((i7, (i8, (i9, i10))), (i11, i12))))))) == (0 : Int))
        (.br ((v_valid_place p (i3, (i4, (i5, i6)))) == (0 : Int))
          (.br ((v_valid_place p (i7, (i8, (i9, i10)))) != (0 : Int))
            (.leaf (v_valid_place p (i7, (i8, (i9, i10)))))
          (.jmp (.l7 (IntKind.i64.wrap (h3 + (1 : Int))) seen)))
        (.br ((v_valid_place p (i3, (i4, (i5, i6)))) != (0 : Int))
          (.leaf (v_valid_place p (i3, (i4, (i5, i6)))))
        (.jmp (.l7 (IntKind.i64.wrap (h3 + (1 : Int))) seen))))
      (.br ((v_ins_Right (i, (i1, (i2, ((i3, (i4, (i5, i6))), ((i7, (i8, (i9, i10))), (i11, i12))))))) == (0 : Int))
        (.br ((v_valid_place p (i7, (i8, (i9, i10)))) != (0 : Int))
          (.leaf (v_valid_place p (i7, (i8, (i9, i10)))))
        (.jmp (.l7 (IntKind.i64.wrap (h3 + (1 : Int))) seen)))
      (.br ((v_ins_Right (i, (i1, (i2, ((i3, (i4, (i5, i6))), ((i7, (i8, (i9, i10))), (i11, i12))))))) != (0 : Int))
        (.leaf (v_ins_Right (i, (i1, (i2, ((i3, (i4, (i5, i6))), ((i7, (i8, (i9, i10))), (i11, i12))))))))
      (.jmp (.l7 (IntKind.i64.wrap (h3 + (1 : Int))) seen)))))
    (.no))
  | .l38 h seen =>
    .br (decide (h < (Int.ofNat (List.length t))))
      (.br ((decide ((0 : Int) ≤ h)) && (decide (h < (Int.ofNat (List.length t)))))
        (.br (k_ins_Leads (List.getD t (Int.toNat h) (dflt T_api_Ins)))
          (.br (v_ins_Leads (List.getD t (Int.toNat h) (dflt T_api_Ins))).2
            (.br (! (Option.getD (mget (kt := .str) (List.getD t (Int.toNat h) (dflt T_api_Ins)).2.2.2.2.2.1 seen) false))
              (.leaf (7 : Int))
            (.jmp (.l38 (IntKind.i64.wrap (h + (1 : Int))) seen)))
          (.jmp (.l38 (IntKind.i64.wrap (h + (1 : Int))) seen)))
        (.no))
      (.no))
    (.leaf (0 : Int))
def T0_valid_thread (p : El T_api_Prog) (t : List (El T_api_Ins)) : JT J_valid_thread (Int) :=
  .br (k_valid_Count t)
    (.br (decide ((v_valid_Count t) > (4096 : Int)))
      (.leaf (10 : Int))
    (.jmp (.l7 (0 : Int) [])))
  (.no)
def R_valid_thread : Int → AV := fun (r : Int) => .d (.int .i64) r
def S_valid_thread (p : El T_api_Prog) (t : List (El T_api_Ins)) : J_valid_thread → Nat × St
  | .l7 h seen => (7, ⟨mkTm 107 [(2, .pt 3 0 0), (3, .pt 4 0 0), (5, .mp 6 0), (21, .d (.sl T_api_Ins) t), (22, .d (.int .i64) (Int.ofNat (List.length t))), (23, .d (.int .i64) h)], [(3, 0, .box 26 [.d (.sl T_api_Sym) p.1, .d (.sl (.sl T_api_Ins)) p.2] none), (4, 0, .box 48 [.d (.sl T_api_Ins) t] none), (6, 0, .map .str .bool seen)]⟩)
  | .l14 h h1 i i1 i2 i3 i4 i5 i6 i7 i8 i9 i10 i11 i12 h2 seen h3 => (14, ⟨mkTm 107 [(2, .pt 3 0 0), (3, .pt 4 0 0), (5, .mp 6 0), (7, .pt 8 0 0), (21, .d (.sl T_api_Ins) t), (22, .d (.int .i64) (Int.ofNat (List.length t))), (23, .d (.int .i64) h3), (28, .d (.sl .str) h), (29, .d (.int .i64) h1), (30, .d (.int .i64) h2)], [(3, 0, .box 26 [.d (.sl T_api_Sym) p.1, .d (.sl (.sl T_api_Ins)) p.2] none), (4, 0, .box 48 [.d (.sl T_api_Ins) t] none), (6, 0, .map .str .bool seen), (8, 0, .box 61 [.d (.int .i64) i, .d .bool i1, .d (.int .i64) i2, .d (.int .i64) i3, .d (.int .i64) i4, .d (.int .i64) i5, .d (.int .i64) i6, .d (.int .i64) i7, .d (.int .i64) i8, .d (.int .i64) i9, .d (.int .i64) i10, .d .str i11, .d (.sl .str) i12] none)]⟩)
  | .l38 h seen => (38, ⟨mkTm 107 [(5, .mp 6 0), (87, .d (.sl T_api_Ins) t), (88, .d (.int .i64) (Int.ofNat (List.length t))), (89, .d (.int .i64) h)], [(6, 0, .map .str .bool seen)]⟩)
theorem en_valid_thread (p : El T_api_Prog) (t : List (El T_api_Ins)) (L : Lt) : entryA Go.Proofs.Tryz.prog (clOf t_valid_thread) tb_valid_thread Go.Proofs.Tryz.f81 c_valid_thread L (toForms sg_valid_thread (p, t, ())) = (T0_valid_thread p t).run (fun v => some (R_valid_thread v, tps (toForms sg_valid_thread (p, t, ())))) fun j => L (S_valid_thread p t j).1 (S_valid_thread p t j).2 := by kernel_rfl
theorem lp_valid_thread (p : El T_api_Prog) (t : List (El T_api_Ins)) : ∀ (L : Lt) (j : J_valid_thread), procOf (procsF Go.Proofs.Tryz.prog (clOf t_valid_thread) tb_valid_thread Go.Proofs.Tryz.f81 c_valid_thread (toForms sg_valid_thread (p, t, ()))) (S_valid_thread p t j).1 L (S_valid_thread p t j).2 = (T_valid_thread p t j).run (fun v => some (R_valid_thread v, tps (toForms sg_valid_thread (p, t, ())))) fun j => L (S_valid_thread p t j).1 (S_valid_thread p t j).2
  | L, .l7 h seen => by kernel_rfl
  | L, .l14 h h1 i i1 i2 i3 i4 i5 i6 i7 i8 i9 i10 i11 i12 h2 seen h3 => by kernel_rfl
  | L, .l38 h seen => by kernel_rfl
end
end Go.Ev
end

section
set_option linter.unusedSectionVars false
set_option linter.unusedVariables false
set_option linter.unusedSimpArgs false
set_option linter.unusedVariables false
set_option linter.unusedSimpArgs false
open Go
namespace Go.Ev
def v_valid_thread (p : El T_api_Prog) (t : List (El T_api_Ins)) : Int := threadC p t
def k_valid_thread (p : El T_api_Prog) (t : List (El T_api_Ins)) : Bool := smallThread t
theorem g_valid_thread (p : El T_api_Prog) (t : List (El T_api_Ins)) (hk : k_valid_thread p t = true) : Goes (T_valid_thread p t) (T0_valid_thread p t) (v_valid_thread p t) := by
  have hS := smallT hk
  have hn := hS.len
  have jmps : ∀ m seen, Seen m seen → (∀ i ∈ t, v_ins_Right i = 0) → ∀ k, k ≤ t.length → Goes (T_valid_thread p t) (.jmp (.l38 (k : Int) m)) (jumpC seen (t.drop k)) := by
    intro m seen hm hr
    refine down ?_ fun k hk ih => ?_
    · rw [goes_jmp]
      simp only [T_valid_thread, goes_br, lt_len_not (Nat.lt_irrefl _), goes_leaf, List.drop_length]
      simp [jumpC]
    · have hmem : t[k] ∈ t := List.getElem_mem hk
      have hto := hS.to _ hmem
      rw [goes_jmp]
      simp only [T_valid_thread, goes_br, lt_len hk, nng, Bool.and_self, if_true, Int.toNat_natCast, getD_lt hk, wrap_succ (k := k) (by omega), k_leads hto, jumps_is hto (hr _ hmem), hm t[k].2.2.2.2.2.1]
      rw [drop_cons hk]
      unfold jumpC
      by_cases h1 : ((t[k].1 == (10 : Int)) || (t[k].1 == (11 : Int))) = true
      · rw [if_pos h1, if_pos h1]
        by_cases h2 : seen.contains t[k].2.2.2.2.2.1 = true
        · rw [if_pos h2, if_neg (by rw [h2]; decide)]; exact ih
        · rw [if_neg h2, if_pos (by rw [Bool.eq_false_iff.2 h2]; rfl)]; exact .leaf
      · rw [if_neg h1, if_neg h1]; exact ih
  have main : ∀ k, k ≤ t.length → ∀ m seen, Seen m seen → (∀ i ∈ t.take k, v_ins_Right i = 0) → Goes (T_valid_thread p t) (.jmp (.l7 (k : Int) m)) (scanI p (fun seen => endC t (jumpC seen t)) seen (t.drop k)) := by
    refine down ?_ fun k hk ih => ?_
    · intro m seen hm hr
      rw [List.take_length] at hr
      have hj := jmps m seen hm hr 0 (Nat.zero_le _)
      rw [List.drop_zero] at hj
      rw [goes_jmp, List.drop_length]
      unfold scanI
      simp only [T_valid_thread, goes_br, lt_len_not (Nat.lt_irrefl _)]
      rw [if_neg (by decide)]
      by_cases h0 : t.length = 0
      · have : t = [] := List.eq_nil_of_length_eq_zero h0
        rw [this]; simp [goes_leaf, endC]
      · have hp : 0 < t.length := by omega
        rw [if_neg (by simp; exact fun e => h0 (by rw [e]; rfl)), endC_eq hp]
        rw [show Int.ofNat t.length = (t.length : Int) from rfl, wrap_pred (k := t.length) (by omega) hp]
        have hb : (decide (0 ≤ ((t.length - 1 : Nat) : Int)) && decide (((t.length - 1 : Nat) : Int) < (t.length : Int))) = true := by simp; omega
        simp only [hb, if_true, Int.toNat_natCast, getD_lt (show t.length - 1 < t.length by omega)]
        unfold bne
        cases h10 : (t[t.length - 1].1 == (10 : Int)) with
        | true => simpa using hj
        | false =>
          cases h14 : (t[t.length - 1].1 == (14 : Int)) with
          | true => simpa using hj
          | false => simp [goes_leaf]
    · intro m seen hm hr
      have hmem : t[k] ∈ t := List.getElem_mem hk
      have hto := hS.to _ hmem
      have hlab := hS.lab _ hmem
      have hlen := Nat.lt_of_le_of_lt (labels_mem hmem) hS.labs
      have hr' : v_ins_Right t[k] = 0 → ∀ i ∈ t.take (k + 1), v_ins_Right i = 0 := fun h i hi => by
        rw [List.take_add_one, List.getElem?_eq_getElem hk] at hi
        rcases List.mem_append.1 hi with hi | hi
        · exact hr i hi
        · rw [Option.toList_some, List.mem_singleton] at hi; rw [hi]; exact h
      rw [goes_jmp]
      simp only [T_valid_thread, goes_br, lt_len hk, nng, Bool.and_self, if_true, Int.toNat_natCast, getD_lt hk]
      rw [drop_cons hk]
      unfold scanI
      generalize t[k] = i at hto hlab hlen hr'
      obtain ⟨op, lock, cond, ⟨ak, ar, ay, an⟩, ⟨bk, br, bz, bn⟩, to, ls⟩ := i
      dsimp only at hto hlab hlen hr' ⊢
      have inner : ∀ j, j ≤ ls.length → ∀ m seen, Seen m seen → Goes (T_valid_thread p t) (.jmp (.l14 ls (Int.ofNat ls.length) op lock cond ak ar ay an bk br bz bn to ls (j : Int) m (k : Int))) (scanL seen (fun seen => if insC p (op, (lock, (cond, ((ak, (ar, (ay, an))), ((bk, (br, (bz, bn))), (to, ls)))))) ≠ 0 then insC p (op, (lock, (cond, ((ak, (ar, (ay, an))), ((bk, (br, (bz, bn))), (to, ls)))))) else scanI p (fun seen => endC t (jumpC seen t)) seen (t.drop (k + 1))) (ls.drop j)) := by
        refine down ?_ fun j hj ihj => ?_
        · intro m seen hm
          rw [goes_jmp, List.drop_length]
          unfold scanL
          have hkr : k_ins_Right (op, (lock, (cond, ((ak, (ar, (ay, an))), ((bk, (br, (bz, bn))), (to, ls)))))) = true := hto
          simp only [T_valid_thread, goes_br, lt_len_not (Nat.lt_irrefl _), hkr, if_true, v_valid_place, wrap_succ (k := k) (by omega)]
          rw [if_neg (by decide)]
          unfold insC
          dsimp only
          by_cases hr : v_ins_Right (op, (lock, (cond, ((ak, (ar, (ay, an))), ((bk, (br, (bz, bn))), (to, ls)))))) = 0
          · have ih' := ih m seen hm (hr' hr)
            by_cases ha : placeC p (ak, (ar, (ay, an))) = 0
            · by_cases hb : placeC p (bk, (br, (bz, bn))) = 0
              · simp [hr, ha, hb]; exact ih'
              · simp [hr, ha, hb, goes_leaf]
            · simp [hr, ha, goes_leaf]
          · simp [hr, goes_leaf]
        · intro m seen hm
          have hl := hlab ls[j] (List.getElem_mem hj)
          have hkn : k_names_Right ls[j] = true := hl
          rw [goes_jmp]
          simp only [T_valid_thread, goes_br, lt_len hj, nng, Bool.and_self, if_true, Int.toNat_natCast, getD_lt hj, wrap_succ (k := j) (by omega), hkn, hm ls[j]]
          rw [drop_cons hj]
          unfold scanL
          by_cases h1 : nameRight ls[j] = false
          · rw [if_pos h1, if_pos (by show (! nameRight ls[j]) = true; rw [h1]; rfl)]; exact .leaf
          · rw [if_neg h1, if_neg (by show ¬ (! nameRight ls[j]) = true; simpa using h1)]
            by_cases h2 : seen.contains ls[j] = true
            · rw [if_pos h2, if_pos h2]; exact .leaf
            · rw [if_neg h2, if_neg h2]; exact ihj _ _ (hm.put _)
      have := inner 0 (Nat.zero_le _) m seen hm
      rw [List.drop_zero] at this
      exact this
  unfold T0_valid_thread v_valid_thread
  have hkc : k_valid_Count t = true := decide_eq_true hn
  simp only [goes_br, hkc, if_true]
  unfold threadC v_valid_Count
  by_cases h : 4096 < countM t
  · rw [if_pos (by simp; omega), if_pos h]; exact .leaf
  · rw [if_neg (by simp; omega), if_neg h]
    exact main 0 (Nat.zero_le _) [] [] Seen.nil (fun i hi => by simp at hi)
end Go.Ev
end

section
set_option linter.unusedSectionVars false
set_option linter.unusedVariables false
set_option linter.unusedSimpArgs false
set_option maxRecDepth 100000
set_option linter.unusedVariables false
open Go Go.Ev
namespace Go.Ev
noncomputable section
noncomputable def e_valid_thread : Run := entG sg_valid_thread R_valid_thread (fun a => k_valid_thread a.1 a.2.1) (fun a => v_valid_thread a.1 a.2.1)
theorem ok_valid_thread : EntOK Go.Proofs.Tryz.prog 81 e_valid_thread := entG_ok (tb := tb_valid_thread) (c := c_valid_thread) tk_valid_thread (by kernel_rfl) (by kernel_rfl) (by kernel_rfl) (fun a => by kernel_rfl) fun ⟨p, t, _⟩ hk => evF_goes (c := c_valid_thread) (K := fun v => (R_valid_thread v, tps (toForms sg_valid_thread (p, t, ())))) (S := S_valid_thread p t) (by kernel_rfl) (en_valid_thread p t) (lp_valid_thread p t) (g_valid_thread p t hk)
end
end Go.Ev
end

section
set_option linter.unusedSectionVars false
set_option linter.unusedVariables false
set_option linter.unusedSimpArgs false
set_option maxRecDepth 100000
set_option linter.unusedVariables false
open Go Go.Ev
namespace Go.Ev
noncomputable section
/-! ### paling/valid.Check -/
def sg_valid_Check : Sig := [(true, T_api_Prog)]
noncomputable def t_valid_Check : Tbl := [(80, e_names_Right), (81, e_valid_thread)]
theorem tk_valid_Check : ∀ p ∈ t_valid_Check, EntOK Go.Proofs.Tryz.prog p.1 p.2 := tbl_cons ok_names_Right (tbl_cons ok_valid_thread (tbl_nil))
noncomputable def c_valid_Check : Code := Go.Proofs.Tryz.f63.body.getD .skip
def tb_valid_Check : Tb := [(7, ⟨[1, 3, 21, 22, 23], []⟩), (21, ⟨[1, 59, 60, 61], []⟩)]
inductive J_valid_Check where
  | l7 (h : Int) (seen : List (ByteArray × Bool))
  | l21 (h : Int)
def T_valid_Check (p : El T_api_Prog) : J_valid_Check → JT J_valid_Check (Int)
  | .l7 h seen =>
    .br (decide (h < (Int.ofNat (List.length p.1))))
      (.br ((decide ((0 : Int) ≤ h)) && (decide (h < (Int.ofNat (List.length p.1)))))
        (.br (k_names_Right (List.getD p.1 (Int.toNat h) (dflt T_api_Sym)).1)
          (.br (! (v_names_Right (List.getD p.1 (Int.toNat h) (dflt T_api_Sym)).1))
            (.leaf (3 : Int))
          (.br (Option.getD (mget (kt := .str) (List.getD p.1 (Int.toNat h) (dflt T_api_Sym)).1 seen) false)
            (.leaf (6 : Int))
          (.br (decide ((List.getD p.1 (Int.toNat h) (dflt T_api_Sym)).2.1 < (1 : Int)))
            (.leaf (5 : Int))
          (.br (decide ((List.getD p.1 (Int.toNat h) (dflt T_api_Sym)).2.1 > (64 : Int)))
            (.leaf (5 : Int))
          (.br (decide ((Int.ofNat (List.length (List.getD p.1 (Int.toNat h) (dflt T_api_Sym)).2.2)) > (List.getD p.1 (Int.toNat h) (dflt T_api_Sym)).2.1))
            (.leaf (5 : Int))
          (.jmp (.l7 (IntKind.i64.wrap (h + (1 : Int))) (mput (kt := .str) (List.getD p.1 (Int.toNat h) (dflt T_api_Sym)).1 true seen))))))))
        (.no))
      (.no))
    (.jmp (.l21 (0 : Int)))
  | .l21 h =>
    .br (decide (h < (Int.ofNat (List.length p.2))))
      (.br ((decide ((0 : Int) ≤ h)) && (decide (h < (Int.ofNat (List.length p.2)))))
        (.br (k_valid_thread p (List.getD p.2 (Int.toNat h) (dflt (.sl T_api_Ins))))
          (.br ((v_valid_thread p (List.getD p.2 (Int.toNat h) (dflt (.sl T_api_Ins)))) != (0 : Int))
            (.leaf (v_valid_thread p (List.getD p.2 (Int.toNat h) (dflt (.sl T_api_Ins)))))
          (.jmp (.l21 (IntKind.i64.wrap (h + (1 : Int))))))
        (.no))
      (.no))
    (.leaf (0 : Int))
def T0_valid_Check (p : El T_api_Prog) : JT J_valid_Check (Int) :=
  .br (decide ((Int.ofNat (List.length p.1)) > (64 : Int)))
    (.leaf (10 : Int))
  (.br (decide ((Int.ofNat (List.length p.2)) > (64 : Int)))
    (.leaf (10 : Int))
  (.jmp (.l7 (0 : Int) [])))
def R_valid_Check : Int → AV := fun (r : Int) => .d (.int .i64) r
def S_valid_Check (p : El T_api_Prog) : J_valid_Check → Nat × St
  | .l7 h seen => (7, ⟨mkTm 72 [(1, .pt 2 0 0), (3, .mp 4 0), (21, .d (.sl T_api_Sym) p.1), (22, .d (.int .i64) (Int.ofNat (List.length p.1))), (23, .d (.int .i64) h)], [(2, 0, .box 26 [.d (.sl T_api_Sym) p.1, .d (.sl (.sl T_api_Ins)) p.2] none), (4, 0, .map .str .bool seen)]⟩)
  | .l21 h => (21, ⟨mkTm 72 [(1, .pt 2 0 0), (59, .d (.sl (.sl T_api_Ins)) p.2), (60, .d (.int .i64) (Int.ofNat (List.length p.2))), (61, .d (.int .i64) h)], [(2, 0, .box 26 [.d (.sl T_api_Sym) p.1, .d (.sl (.sl T_api_Ins)) p.2] none)]⟩)
theorem en_valid_Check (p : El T_api_Prog) (L : Lt) : entryA Go.Proofs.Tryz.prog (clOf t_valid_Check) tb_valid_Check Go.Proofs.Tryz.f63 c_valid_Check L (toForms sg_valid_Check (p, ())) = (T0_valid_Check p).run (fun v => some (R_valid_Check v, tps (toForms sg_valid_Check (p, ())))) fun j => L (S_valid_Check p j).1 (S_valid_Check p j).2 := by kernel_rfl
theorem lp_valid_Check (p : El T_api_Prog) : ∀ (L : Lt) (j : J_valid_Check), procOf (procsF Go.Proofs.Tryz.prog (clOf t_valid_Check) tb_valid_Check Go.Proofs.Tryz.f63 c_valid_Check (toForms sg_valid_Check (p, ()))) (S_valid_Check p j).1 L (S_valid_Check p j).2 = (T_valid_Check p j).run (fun v => some (R_valid_Check v, tps (toForms sg_valid_Check (p, ())))) fun j => L (S_valid_Check p j).1 (S_valid_Check p j).2
  | L, .l7 h seen => by kernel_rfl
  | L, .l21 h => by kernel_rfl
end
end Go.Ev
end

section
set_option linter.unusedSectionVars false
set_option linter.unusedVariables false
set_option linter.unusedSimpArgs false
set_option linter.unusedVariables false
set_option linter.unusedSimpArgs false
open Go
namespace Go.Ev
def v_valid_Check (p : El T_api_Prog) : Int := checkC p
def k_valid_Check (p : El T_api_Prog) : Bool := smallProg p
theorem g_valid_Check (p : El T_api_Prog) (hk : k_valid_Check p = true) : Goes (T_valid_Check p) (T0_valid_Check p) (v_valid_Check p) := by
  have hth : ∀ t ∈ p.2, smallThread t = true := by
    unfold k_valid_Check smallProg at hk
    simp only [Bool.and_eq_true, List.all_eq_true] at hk
    exact hk.2
  have hsy : ∀ s ∈ p.1, smallText s.1 = true := by
    unfold k_valid_Check smallProg at hk
    simp only [Bool.and_eq_true, List.all_eq_true] at hk
    exact hk.1
  obtain ⟨sy, th⟩ := p
  dsimp only at hth hsy
  have ths : th.length ≤ 64 → ∀ k, k ≤ th.length → Goes (T_valid_Check (sy, th)) (.jmp (.l21 (k : Int))) (thsC (sy, th) (th.drop k)) := by
    intro hn
    refine down ?_ fun k hk ih => ?_
    · rw [goes_jmp]
      simp only [T_valid_Check, goes_br, lt_len_not (Nat.lt_irrefl _), goes_leaf, List.drop_length]
      simp [thsC]
    · have hkt : k_valid_thread (sy, th) th[k] = true := hth _ (List.getElem_mem hk)
      rw [goes_jmp]
      simp only [T_valid_Check, goes_br, lt_len hk, nng, Bool.and_self, if_true, Int.toNat_natCast, getD_lt hk, wrap_succ (k := k) (by omega), hkt]
      rw [drop_cons hk]
      unfold thsC
      show (if (threadC (sy, th) th[k] != 0) = true then _ else _)
      by_cases h : threadC (sy, th) th[k] = 0
      · rw [if_neg (by simp [h]), if_neg (by simp [h])]; exact ih
      · rw [if_pos (by simp [h]), if_pos h]; exact .leaf

  have main : sy.length ≤ 64 → th.length ≤ 64 → ∀ k, k ≤ sy.length → ∀ m seen, Seen m seen → Goes (T_valid_Check (sy, th)) (.jmp (.l7 (k : Int) m)) (symsC (thsC (sy, th) th) seen (sy.drop k)) := by
    intro hn hm
    refine down ?_ fun k hk ih => ?_
    · intro m seen hs
      rw [goes_jmp, List.drop_length]
      unfold symsC
      simp only [T_valid_Check, goes_br, lt_len_not (Nat.lt_irrefl _)]
      rw [if_neg (by decide)]
      simpa using ths hm 0 (Nat.zero_le _)
    · intro m seen hs
      have hkn : k_names_Right sy[k].1 = true := hsy _ (List.getElem_mem hk)
      rw [goes_jmp]
      simp only [T_valid_Check, goes_br, lt_len hk, nng, Bool.and_self, if_true, Int.toNat_natCast, getD_lt hk, wrap_succ (k := k) (by omega), hkn, hs sy[k].1]
      rw [drop_cons hk]
      unfold symsC
      generalize sy[k] = s at *
      obtain ⟨nm, size, init⟩ := s
      dsimp only
      change Int at size
      by_cases h1 : nameRight nm = false
      · rw [if_pos h1, if_pos (by show (! nameRight nm) = true; rw [h1]; rfl)]; exact .leaf
      rw [if_neg h1, if_neg (by show ¬ (! nameRight nm) = true; simpa using h1)]
      by_cases h2 : seen.contains nm = true
      · rw [if_pos h2, if_pos h2]; exact .leaf
      rw [if_neg h2, if_neg h2]
      by_cases h3 : size < 1
      · rw [if_pos (decide_eq_true h3), if_pos (.inl h3)]; exact .leaf
      rw [if_neg (by simpa using h3)]
      by_cases h4 : 64 < size
      · rw [if_pos (decide_eq_true h4), if_pos (.inr (.inl h4))]; exact .leaf
      rw [if_neg (by simpa using h4)]
      by_cases h5 : size < (List.length init : Int)
      · rw [if_pos (show decide (Int.ofNat (List.length init) > size) = true from decide_eq_true h5), if_pos (.inr (.inr h5))]; exact .leaf
      rw [if_neg (show ¬ decide (Int.ofNat (List.length init) > size) = true by simpa using h5), if_neg (by rintro (h | h | h) <;> contradiction)]
      exact ih _ _ (hs.put nm)
  unfold T0_valid_Check v_valid_Check checkC
  simp only [goes_br]
  by_cases h : 64 < sy.length
  · rw [if_pos (by simp; omega), if_pos (.inl h)]; exact .leaf
  rw [if_neg (by simp; omega)]
  by_cases h2 : 64 < th.length
  · rw [if_pos (by simp; omega), if_pos (.inr h2)]; exact .leaf
  rw [if_neg (by simp; omega), if_neg (by rintro (h | h) <;> contradiction)]
  exact main (by omega) (by omega) 0 (Nat.zero_le _) [] [] Seen.nil
end Go.Ev
end

section
set_option linter.unusedSectionVars false
set_option linter.unusedVariables false
set_option linter.unusedSimpArgs false
set_option maxRecDepth 100000
set_option linter.unusedVariables false
open Go Go.Ev
namespace Go.Ev
noncomputable section
noncomputable def e_valid_Check : Run := entG sg_valid_Check R_valid_Check (fun a => k_valid_Check a.1) (fun a => v_valid_Check a.1)
theorem ok_valid_Check : EntOK Go.Proofs.Tryz.prog 63 e_valid_Check := entG_ok (tb := tb_valid_Check) (c := c_valid_Check) tk_valid_Check (by kernel_rfl) (by kernel_rfl) (by kernel_rfl) (fun a => by kernel_rfl) fun ⟨p, _⟩ hk => evF_goes (c := c_valid_Check) (K := fun v => (R_valid_Check v, tps (toForms sg_valid_Check (p, ())))) (S := S_valid_Check p) (by kernel_rfl) (en_valid_Check p) (lp_valid_Check p) (g_valid_Check p hk)
end
end Go.Ev
end

section
set_option linter.unusedSectionVars false
set_option linter.unusedVariables false
set_option linter.unusedSimpArgs false
set_option maxRecDepth 100000
set_option linter.unusedVariables false
open Go Go.Ev
namespace Go.Ev
noncomputable section
/-! ### paling/touch.Of -/
def sg_touch_Of : Sig := [(true, T_api_Prog)]
noncomputable def t_touch_Of : Tbl := [(63, e_valid_Check), (64, e_ins_Locked), (65, e_ins_Reads), (66, e_ins_Writes)]
theorem tk_touch_Of : ∀ p ∈ t_touch_Of, EntOK Go.Proofs.Tryz.prog p.1 p.2 := tbl_cons ok_valid_Check (tbl_cons ok_ins_Locked (tbl_cons ok_ins_Reads (tbl_cons ok_ins_Writes (tbl_nil))))
noncomputable def c_touch_Of : Code := Go.Proofs.Tryz.f35.body.getD .skip
def tb_touch_Of : Tb := [(7, ⟨[3, 17, 18, 19], [(4, 68)]⟩), (13, ⟨[3, 4, 17, 18, 19, 25, 26, 27], [(4, 68)]⟩), (hintK, ⟨[1], [(1, 69)]⟩)]
inductive J_touch_Of where
  | l7 (h : Int) (out : List (El T_api_Access))
  | l13 (h : List (El T_api_Ins)) (h1 : Int) (h2 : Int) (out : List (El T_api_Access)) (t : Int) (h3 : Int)
def T_touch_Of (p : El T_api_Prog) : J_touch_Of → JT J_touch_Of (List (El T_api_Access))
  | .l7 h out =>
    .br (decide (h < (Int.ofNat (List.length p.2))))
      (.br ((decide ((0 : Int) ≤ h)) && (decide (h < (Int.ofNat (List.length p.2)))))
        (.jmp (.l13 (List.getD p.2 (Int.toNat h) (dflt (.sl T_api_Ins))) (Int.ofNat (List.length (List.getD p.2 (Int.toNat h) (dflt (.sl T_api_Ins))))) (0 : Int) out h h))
      (.no))
    (.leaf out)
  | .l13 h h1 h2 out t h3 =>
    .br (decide (h2 < h1))
      (.br ((decide ((0 : Int) ≤ h2)) && (decide (h2 < (Int.ofNat (List.length h)))))
        (.br (k_ins_Locked (List.getD h (Int.toNat h2) (dflt T_api_Ins)))
          (.br (k_ins_Reads (List.getD h (Int.toNat h2) (dflt T_api_Ins)))
            (.br (v_ins_Reads (List.getD h (Int.toNat h2) (dflt T_api_Ins))).2
              (.br (Nat.ble (((List.length out) + 1) * 40) limit)
                (.br (k_ins_Writes (List.getD h (Int.toNat h2) (dflt T_api_Ins)))
                  (.br (v_ins_Writes (List.getD h (Int.toNat h2) (dflt T_api_Ins))).2
                    (.br (Nat.ble (((List.length (out ++ [(t, (h2, ((0 : Int), ((v_ins_Reads (List.getD h (Int.toNat h2) (dflt T_api_Ins))).1.2.2.1, (false, (v_ins_Locked (List.getD h (Int.toNat h2) (dflt T_api_Ins))))))))])) + 1) * 40) limit)
                      (.jmp (.l13 h h1 (IntKind.i64.wrap (h2 + (1 : Int))) ((out ++ [(t, (h2, ((0 : Int), ((v_ins_Reads (List.getD h (Int.toNat h2) (dflt T_api_Ins))).1.2.2.1, (false, (v_ins_Locked (List.getD h (Int.toNat h2) (dflt T_api_Ins))))))))]) ++ [(t, (h2, ((1 : Int), ((v_ins_Writes (List.getD h (Int.toNat h2) (dflt T_api_Ins))).1.2.2.1, (true, (v_ins_Locked (List.getD h (Int.toNat h2) (dflt T_api_Ins))))))))]) t h3))
                    (.no))
                  (.jmp (.l13 h h1 (IntKind.i64.wrap (h2 + (1 : Int))) (out ++ [(t, (h2, ((0 : Int), ((v_ins_Reads (List.getD h (Int.toNat h2) (dflt T_api_Ins))).1.2.2.1, (false, (v_ins_Locked (List.getD h (Int.toNat h2) (dflt T_api_Ins))))))))]) t h3)))
                (.no))
              (.no))
            (.br (k_ins_Writes (List.getD h (Int.toNat h2) (dflt T_api_Ins)))
              (.br (v_ins_Writes (List.getD h (Int.toNat h2) (dflt T_api_Ins))).2
                (.br (Nat.ble (((List.length out) + 1) * 40) limit)
                  (.jmp (.l13 h h1 (IntKind.i64.wrap (h2 + (1 : Int))) (out ++ [(t, (h2, ((0 : Int), ((v_ins_Writes (List.getD h (Int.toNat h2) (dflt T_api_Ins))).1.2.2.1, (true, (v_ins_Locked (List.getD h (Int.toNat h2) (dflt T_api_Ins))))))))]) t h3))
                (.no))
              (.jmp (.l13 h h1 (IntKind.i64.wrap (h2 + (1 : Int))) out t h3)))
            (.no)))
          (.no))
        (.no))
      (.no))
    (.jmp (.l7 (IntKind.i64.wrap (h3 + (1 : Int))) out))
def T0_touch_Of (p : El T_api_Prog) : JT J_touch_Of (List (El T_api_Access)) :=
  .br (k_valid_Check p)
    (.br ((v_valid_Check p) != (0 : Int))
      (.leaf [])
    (.jmp (.l7 (0 : Int) [])))
  (.no)
def R_touch_Of : List (El T_api_Access) → AV := fun (r : List (El T_api_Access)) => .d (.sl T_api_Access) r
def S_touch_Of (p : El T_api_Prog) : J_touch_Of → Nat × St
  | .l7 h out => (7, ⟨mkTm 68 [(3, .own 4 0 none), (17, .d (.sl (.sl T_api_Ins)) p.2), (18, .d (.int .i64) (Int.ofNat (List.length p.2))), (19, .d (.int .i64) h)], [(4, 0, .row 43 T_api_Access out false)]⟩)
  | .l13 h h1 h2 out t h3 => (13, ⟨mkTm 68 [(3, .own 4 0 none), (4, .d (.int .i64) t), (17, .d (.sl (.sl T_api_Ins)) p.2), (18, .d (.int .i64) (Int.ofNat (List.length p.2))), (19, .d (.int .i64) h3), (25, .d (.sl T_api_Ins) h), (26, .d (.int .i64) h1), (27, .d (.int .i64) h2)], [(4, 0, .row 43 T_api_Access out false)]⟩)
theorem en_touch_Of (p : El T_api_Prog) (L : Lt) : entryA Go.Proofs.Tryz.prog (clOf t_touch_Of) tb_touch_Of Go.Proofs.Tryz.f35 c_touch_Of L (toForms sg_touch_Of (p, ())) = (T0_touch_Of p).run (fun v => some (R_touch_Of v, tps (toForms sg_touch_Of (p, ())))) fun j => L (S_touch_Of p j).1 (S_touch_Of p j).2 := by kernel_rfl
theorem lp_touch_Of (p : El T_api_Prog) : ∀ (L : Lt) (j : J_touch_Of), procOf (procsF Go.Proofs.Tryz.prog (clOf t_touch_Of) tb_touch_Of Go.Proofs.Tryz.f35 c_touch_Of (toForms sg_touch_Of (p, ()))) (S_touch_Of p j).1 L (S_touch_Of p j).2 = (T_touch_Of p j).run (fun v => some (R_touch_Of v, tps (toForms sg_touch_Of (p, ())))) fun j => L (S_touch_Of p j).1 (S_touch_Of p j).2
  | L, .l7 h out => by kernel_rfl
  | L, .l13 h h1 h2 out t h3 => by kernel_rfl
end
end Go.Ev
end

section
set_option linter.unusedSectionVars false
set_option linter.unusedVariables false
set_option linter.unusedSimpArgs false
set_option linter.unusedVariables false
set_option linter.unusedSimpArgs false
open Go
namespace Go.Ev
def v_touch_Of (p : El T_api_Prog) : List (El T_api_Access) := ofC p
def k_touch_Of (p : El T_api_Prog) : Bool := smallAll p
theorem g_touch_Of (p : El T_api_Prog) (hk : k_touch_Of p = true) : Goes (T_touch_Of p) (T0_touch_Of p) (v_touch_Of p) := by
  have hA := smallA hk
  obtain ⟨sy, th⟩ := p
  have hkc : k_valid_Check (sy, th) = true := hA.prog
  have hlen : th.length < 1073741824 := hA.len
  have htot : total th < 1073741824 := hA.tot
  have main : ∀ k, k ≤ th.length → ∀ out : List (El T_api_Access), out.length + 2 * total (th.drop k) < 4294967296 → Goes (T_touch_Of (sy, th)) (.jmp (.l7 (k : Int) out)) (out ++ accP k (th.drop k)) := by
    refine down ?_ fun k hk ih => ?_
    · intro out ho
      rw [goes_jmp]
      simp only [T_touch_Of, goes_br, lt_len_not (Nat.lt_irrefl _), goes_leaf, List.drop_length]
      simp [accP]
    · intro out ho
      rw [total_drop hk] at ho
      have hS := smallT (hA.thr _ (List.getElem_mem hk))
      rw [goes_jmp]
      simp only [T_touch_Of, goes_br, lt_len hk, nng, Bool.and_self, if_true, Int.toNat_natCast, getD_lt hk]
      rw [drop_cons hk]
      unfold accP
      generalize th[k] = x at ho hS
      have inner : ∀ j, j ≤ List.length x → ∀ out : List (El T_api_Access), out.length + 2 * (List.length x - j) + 2 * total (th.drop (k + 1)) < 4294967296 → Goes (T_touch_Of (sy, th)) (.jmp (.l13 x (Int.ofNat (List.length x)) (j : Int) out (k : Int) (k : Int))) (out ++ (accT k j (List.drop j x) ++ accP (k + 1) (th.drop (k + 1)))) := by
        refine down ?_ fun j hj ihj => ?_
        · intro out ho
          rw [goes_jmp]
          simp only [T_touch_Of, goes_br, lt_len_not (Nat.lt_irrefl _), wrap_succ (k := k) (by omega), List.drop_length]
          have := ih out (by omega)
          simpa [accT] using this
        · intro out ho
          have hto := hS.to _ (List.getElem_mem hj)
          obtain ⟨a1, a2, a3, a4⟩ := k_reads hto
          have hx : List.length x < 1099511627776 := hS.len
          rw [goes_jmp]
          have b1 : Nat.ble ((out.length + 1) * 40) limit = true := ble40 (by omega)
          have b2 : ∀ y : El T_api_Access, Nat.ble (((out ++ [y]).length + 1) * 40) limit = true := fun y => ble40 (by rw [List.length_append]; simp; omega)
          simp only [T_touch_Of, goes_br, lt_len hj, nng, Bool.and_self, if_true, Int.toNat_natCast, getD_lt hj, wrap_succ (k := j) (by omega), a1, a2, a4, b1, b2]
          rw [drop_cons hj]
          unfold accT accI
          have hs : ∀ y : List (El T_api_Access), y.length ≤ 2 → Goes (T_touch_Of (sy, th)) (.jmp (.l13 x (Int.ofNat (List.length x)) ((j + 1 : Nat) : Int) (out ++ y) (k : Int) (k : Int))) (out ++ ((y ++ accT k (j + 1) (List.drop (j + 1) x)) ++ accP (k + 1) (th.drop (k + 1)))) := fun y hy => by
            have := ihj (out ++ y) (by rw [List.length_append]; omega)
            rw [List.append_assoc] at this
            rw [List.append_assoc]
            exact this
          by_cases hr : (v_ins_Reads x[j]).2 = true <;> by_cases hw : (v_ins_Writes x[j]).2 = true
          · simp only [hr, hw, if_true]
            rw [List.append_assoc out]
            exact hs _ (by simp)
          · simp only [hr, hw, if_true, if_false]
            exact hs _ (by simp)
          · simp only [hr, hw, if_true, if_false]
            exact hs _ (by simp)
          · simp only [hr, hw, if_false]
            have := hs [] (by simp)
            rw [List.append_nil] at this
            exact this
      exact inner 0 (Nat.zero_le _) out (by omega)
  unfold T0_touch_Of v_touch_Of ofC
  simp only [goes_br, hkc, if_true, v_valid_Check]
  by_cases h : checkC (sy, th) = 0
  · rw [if_neg (by simp [h]), if_pos h]
    have := main 0 (Nat.zero_le _) [] (by simp; omega)
    simpa using this
  · rw [if_pos (by simp [h]), if_neg h]
    exact .leaf
end Go.Ev
end

section
set_option linter.unusedSectionVars false
set_option linter.unusedVariables false
set_option linter.unusedSimpArgs false
set_option maxRecDepth 100000
set_option linter.unusedVariables false
open Go Go.Ev
namespace Go.Ev
noncomputable section
noncomputable def e_touch_Of : Run := entG sg_touch_Of R_touch_Of (fun a => k_touch_Of a.1) (fun a => v_touch_Of a.1)
theorem ok_touch_Of : EntOK Go.Proofs.Tryz.prog 35 e_touch_Of := entG_ok (tb := tb_touch_Of) (c := c_touch_Of) tk_touch_Of (by kernel_rfl) (by kernel_rfl) (by kernel_rfl) (fun a => by kernel_rfl) fun ⟨p, _⟩ hk => evF_goes (c := c_touch_Of) (K := fun v => (R_touch_Of v, tps (toForms sg_touch_Of (p, ())))) (S := S_touch_Of p) (by kernel_rfl) (en_touch_Of p) (lp_touch_Of p) (g_touch_Of p hk)
end
end Go.Ev
end

section
set_option linter.unusedSectionVars false
set_option linter.unusedVariables false
set_option linter.unusedSimpArgs false
set_option maxRecDepth 100000
set_option linter.unusedVariables false
open Go Go.Ev
namespace Go.Ev
noncomputable section
/-! ### paling/bits.New -/
def sg_bits_New : Sig := [(false, (.int .i64))]
noncomputable def t_bits_New : Tbl := []
theorem tk_bits_New : ∀ p ∈ t_bits_New, EntOK Go.Proofs.Tryz.prog p.1 p.2 := tbl_nil
noncomputable def c_bits_New : Code := Go.Proofs.Tryz.f42.body.getD .skip
def tb_bits_New : Tb := []
def T_bits_New (n : Int) : Empty → JT Empty (Int × List (Int × Int)) := fun j => nomatch j
def T0_bits_New (n : Int) : JT Empty (Int × List (Int × Int)) :=
  .leaf ((maxI n (0 : Int)), [])
def v_bits_New (n : Int) : Int × List (Int × Int) :=
  ((maxI n (0 : Int)), [])
theorem g_bits_New (n : Int) : Goes (T_bits_New n) (T0_bits_New n) (v_bits_New n) :=
  Goes.leaf
def R_bits_New : Int × List (Int × Int) → AV := fun (r : Int × List (Int × Int)) => .bx 102 [.d (.int .i64) r.1, .mv (.int .i64) (.int .u64) r.2]
def S_bits_New (n : Int) : Empty → Nat × St := fun j => nomatch j
theorem en_bits_New (n : Int) (L : Lt) : entryA Go.Proofs.Tryz.prog (clOf t_bits_New) tb_bits_New Go.Proofs.Tryz.f42 c_bits_New L (toForms sg_bits_New (n, ())) = (T0_bits_New n).run (fun v => some (R_bits_New v, tps (toForms sg_bits_New (n, ())))) fun j => L (S_bits_New n j).1 (S_bits_New n j).2 := by kernel_rfl
theorem lp_bits_New (n : Int) : ∀ (L : Lt) (j : Empty), procOf (procsF Go.Proofs.Tryz.prog (clOf t_bits_New) tb_bits_New Go.Proofs.Tryz.f42 c_bits_New (toForms sg_bits_New (n, ()))) (S_bits_New n j).1 L (S_bits_New n j).2 = (T_bits_New n j).run (fun v => some (R_bits_New v, tps (toForms sg_bits_New (n, ())))) fun j => L (S_bits_New n j).1 (S_bits_New n j).2 := fun L j => nomatch j
noncomputable def e_bits_New : Run := entT sg_bits_New R_bits_New (fun a => v_bits_New a.1)
theorem ok_bits_New : EntOK Go.Proofs.Tryz.prog 42 e_bits_New := entT_ok (tb := tb_bits_New) (c := c_bits_New) tk_bits_New (by kernel_rfl) (by kernel_rfl) (by kernel_rfl) (fun a => by kernel_rfl) fun ⟨n, _⟩ => evF_goes (c := c_bits_New) (K := fun v => (R_bits_New v, tps (toForms sg_bits_New (n, ())))) (S := S_bits_New n) (by kernel_rfl) (en_bits_New n) (lp_bits_New n) (g_bits_New n)
end
end Go.Ev
end

section
set_option linter.unusedSectionVars false
set_option linter.unusedVariables false
set_option linter.unusedSimpArgs false
set_option maxRecDepth 100000
set_option linter.unusedVariables false
open Go Go.Ev
namespace Go.Ev
noncomputable section
/-! ### paling/clash.clash -/
def sg_clash_clash : Sig := [(true, T_api_Access), (true, T_api_Access)]
noncomputable def t_clash_clash : Tbl := []
theorem tk_clash_clash : ∀ p ∈ t_clash_clash, EntOK Go.Proofs.Tryz.prog p.1 p.2 := tbl_nil
noncomputable def c_clash_clash : Code := Go.Proofs.Tryz.f36.body.getD .skip
def tb_clash_clash : Tb := []
def T_clash_clash (a : El T_api_Access) (b : El T_api_Access) : Empty → JT Empty (Bool) := fun j => nomatch j
def T0_clash_clash (a : El T_api_Access) (b : El T_api_Access) : JT Empty (Bool) :=
  .br (a.1 != b.1)
    (.br (a.2.2.2.1 == b.2.2.2.1)
      (.br a.2.2.2.2.1
        (.leaf true)
      (.leaf b.2.2.2.2.1))
    (.leaf false))
  (.leaf false)
def v_clash_clash (a : El T_api_Access) (b : El T_api_Access) : Bool :=
  bif (a.1 != b.1) then
    bif (a.2.2.2.1 == b.2.2.2.1) then
      bif a.2.2.2.2.1 then
        true
      else b.2.2.2.2.1
    else false
  else false
theorem g_clash_clash (a : El T_api_Access) (b : El T_api_Access) : Goes (T_clash_clash a b) (T0_clash_clash a b) (v_clash_clash a b) :=
  Goes.br (
    Goes.br (
      Goes.br (
        Goes.leaf) (
        Goes.leaf)) (
      Goes.leaf)) (
    Goes.leaf)
def R_clash_clash : Bool → AV := fun (r : Bool) => .d .bool r
def S_clash_clash (a : El T_api_Access) (b : El T_api_Access) : Empty → Nat × St := fun j => nomatch j
theorem en_clash_clash (a : El T_api_Access) (b : El T_api_Access) (L : Lt) : entryA Go.Proofs.Tryz.prog (clOf t_clash_clash) tb_clash_clash Go.Proofs.Tryz.f36 c_clash_clash L (toForms sg_clash_clash (a, b, ())) = (T0_clash_clash a b).run (fun v => some (R_clash_clash v, tps (toForms sg_clash_clash (a, b, ())))) fun j => L (S_clash_clash a b j).1 (S_clash_clash a b j).2 := by kernel_rfl
theorem lp_clash_clash (a : El T_api_Access) (b : El T_api_Access) : ∀ (L : Lt) (j : Empty), procOf (procsF Go.Proofs.Tryz.prog (clOf t_clash_clash) tb_clash_clash Go.Proofs.Tryz.f36 c_clash_clash (toForms sg_clash_clash (a, b, ()))) (S_clash_clash a b j).1 L (S_clash_clash a b j).2 = (T_clash_clash a b j).run (fun v => some (R_clash_clash v, tps (toForms sg_clash_clash (a, b, ())))) fun j => L (S_clash_clash a b j).1 (S_clash_clash a b j).2 := fun L j => nomatch j
noncomputable def e_clash_clash : Run := entT sg_clash_clash R_clash_clash (fun a => v_clash_clash a.1 a.2.1)
theorem ok_clash_clash : EntOK Go.Proofs.Tryz.prog 36 e_clash_clash := entT_ok (tb := tb_clash_clash) (c := c_clash_clash) tk_clash_clash (by kernel_rfl) (by kernel_rfl) (by kernel_rfl) (fun a => by kernel_rfl) fun ⟨a, b, _⟩ => evF_goes (c := c_clash_clash) (K := fun v => (R_clash_clash v, tps (toForms sg_clash_clash (a, b, ())))) (S := S_clash_clash a b) (by kernel_rfl) (en_clash_clash a b) (lp_clash_clash a b) (g_clash_clash a b)
end
end Go.Ev
end

section
set_option linter.unusedSectionVars false
set_option linter.unusedVariables false
set_option linter.unusedSimpArgs false
set_option maxRecDepth 100000
set_option linter.unusedVariables false
open Go Go.Ev
namespace Go.Ev
noncomputable section
/-! ### (*paling/bits.Set).Size -/
noncomputable def t_bits_Set_Size : Tbl := []
theorem tk_bits_Set_Size : ∀ p ∈ t_bits_Set_Size, EntOK Go.Proofs.Tryz.prog p.1 p.2 := tbl_nil
noncomputable def c_bits_Set_Size : Code := Go.Proofs.Tryz.f70.body.getD .skip
noncomputable def e_bits_Set_Size : Run := entE Go.Proofs.Tryz.prog t_bits_Set_Size Go.Proofs.Tryz.f70 c_bits_Set_Size
theorem ok_bits_Set_Size : EntOK Go.Proofs.Tryz.prog 70 e_bits_Set_Size := entE_ok tk_bits_Set_Size (by kernel_rfl) (by kernel_rfl) (by kernel_rfl) (fun xs => by kernel_rfl)
end
end Go.Ev
end

section
set_option linter.unusedSectionVars false
set_option linter.unusedVariables false
set_option linter.unusedSimpArgs false
set_option maxRecDepth 100000
set_option linter.unusedVariables false
open Go Go.Ev
namespace Go.Ev
noncomputable section
/-! ### (*paling/bits.Set).Has -/
def sg_bits_Set_Has : PSig := [.obj 102 [(.d (.int .i64)), (.m (.int .i64) (.int .u64))], .dat false (.int .i64)]
noncomputable def t_bits_Set_Has : Tbl := [(70, e_bits_Set_Size)]
theorem tk_bits_Set_Has : ∀ p ∈ t_bits_Set_Has, EntOK Go.Proofs.Tryz.prog p.1 p.2 := tbl_cons ok_bits_Set_Size (tbl_nil)
noncomputable def c_bits_Set_Has : Code := Go.Proofs.Tryz.f52.body.getD .skip
def tb_bits_Set_Has : Tb := []
def T_bits_Set_Has (s : Int × List (Int × Int)) (i : Int) : Empty → JT Empty (Bool × Int × List (Int × Int)) := fun j => nomatch j
def T0_bits_Set_Has (s : Int × List (Int × Int)) (i : Int) : JT Empty (Bool × Int × List (Int × Int)) :=
  .br (decide (i ≥ (0 : Int)))
    (.br (decide (i < s.1))
      (.br (decide ((IntKind.u64.wrap (Int.tmod i (64 : Int))) < (0 : Int)))
        (.no)
      (.leaf (((bitAnd IntKind.u64 (Int.fdiv (Option.getD (mget (kt := (.int .i64)) (IntKind.i64.wrap (Int.tdiv i (64 : Int))) s.2) (0 : Int)) (2 ^ (min (Int.toNat (IntKind.u64.wrap (Int.tmod i (64 : Int)))) (IntKind.u64).bits))) (1 : Int)) == (1 : Int)), s)))
    (.leaf (false, s)))
  (.leaf (false, s))
def K_bits_Set_Has : Bool × Int × List (Int × Int) → Ans := fun (r : Bool × Int × List (Int × Int)) => (.d .bool r.1, [.bx 102 [.d (.int .i64) r.2.1, .mv (.int .i64) (.int .u64) r.2.2], .top])
def S_bits_Set_Has (s : Int × List (Int × Int)) (i : Int) : Empty → Nat × St := fun j => nomatch j
theorem en_bits_Set_Has (s : Int × List (Int × Int)) (i : Int) (L : Lt) : entryA Go.Proofs.Tryz.prog (clOf t_bits_Set_Has) tb_bits_Set_Has Go.Proofs.Tryz.f52 c_bits_Set_Has L (toPs sg_bits_Set_Has (s, i, ())) = (T0_bits_Set_Has s i).run (fun v => some (K_bits_Set_Has v)) fun j => L (S_bits_Set_Has s i j).1 (S_bits_Set_Has s i j).2 := by kernel_rfl
theorem lp_bits_Set_Has (s : Int × List (Int × Int)) (i : Int) : ∀ (L : Lt) (j : Empty), procOf (procsF Go.Proofs.Tryz.prog (clOf t_bits_Set_Has) tb_bits_Set_Has Go.Proofs.Tryz.f52 c_bits_Set_Has (toPs sg_bits_Set_Has (s, i, ()))) (S_bits_Set_Has s i j).1 L (S_bits_Set_Has s i j).2 = (T_bits_Set_Has s i j).run (fun v => some (K_bits_Set_Has v)) fun j => L (S_bits_Set_Has s i j).1 (S_bits_Set_Has s i j).2 := fun L j => nomatch j
end
end Go.Ev
end

section
set_option linter.unusedSectionVars false
set_option linter.unusedVariables false
set_option linter.unusedSimpArgs false
/- Sets of small numbers, by words of 64. -/
set_option linter.unusedVariables false
open Go
namespace Go.Ev
/-- The word at a place. -/
def wordAt (m : List (Int × Int)) (k : Int) : Int := Option.getD (mget (kt := (.int .i64)) k m) (0 : Int)
/-- A bit of a word. -/
def bitE (w : Int) (i : Int) : Bool := (bitAnd IntKind.u64 (Int.fdiv w (2 ^ (min (Int.toNat (IntKind.u64.wrap i)) (IntKind.u64).bits))) (1 : Int)) == (1 : Int)
def numE (k i : Int) : Int := IntKind.i64.wrap ((IntKind.i64.wrap (k * (64 : Int))) + i)
def wordList (m : List (Int × Int)) (k : Int) (i n : Nat) : List Int := ((List.range' i n).filter fun i => bitE (wordAt m k) (i : Nat)).map fun i => numE k (i : Nat)
/-- The numbers by the words at these places. -/
def listAt (m : List (Int × Int)) (places : List Int) : List Int := places.flatMap fun k => wordList m k 0 64
/-- What a set lists. -/
def listS (s : Int × List (Int × Int)) : List Int := listAt s.2 ((s.2.map Prod.fst).mergeSort fun x y => decide (x ≤ y))

theorem wrapU_small {i : Nat} (h : i < 64) : IntKind.u64.wrap (i : Int) = (i : Int) := by
  unfold IntKind.wrap
  simp [IntKind.signed, IntKind.bits]
  omega
theorem wordList_length (m : List (Int × Int)) (k : Int) (i n : Nat) : (wordList m k i n).length ≤ n := by
  unfold wordList
  rw [List.length_map]
  exact Nat.le_trans (List.length_filter_le _ _) (by simp)
end Go.Ev
namespace Go.Ev
/-! ### Has and Put -/
def placeOf (i : Int) : Int := IntKind.i64.wrap (Int.tdiv i (64 : Int))
def hasS (s : Int × List (Int × Int)) (i : Int) : Bool := decide (i ≥ (0 : Int)) && (decide (i < s.1) && bitE (wordAt s.2 (placeOf i)) (Int.tmod i (64 : Int)))
def withBit (w i : Int) : Int := bitOr IntKind.u64 w (IntKind.u64.wrap ((1 : Int) * (2 ^ (min (Int.toNat (IntKind.u64.wrap i)) (IntKind.u64).bits))))
def putS (s : Int × List (Int × Int)) (i : Int) : Bool × Int × List (Int × Int) :=
  if i < 0 ∨ s.1 ≤ i ∨ hasS s i = true then (false, s) else (true, s.1, mput (kt := (.int .i64)) (placeOf i) (withBit (wordAt s.2 (placeOf i)) (Int.tmod i (64 : Int))) s.2)
theorem wrapU_nonneg (n : Int) : decide (IntKind.u64.wrap n < (0 : Int)) = false := by
  apply decide_eq_false
  unfold IntKind.wrap
  simp only [IntKind.signed, IntKind.bits, Bool.false_and, Bool.false_eq_true, if_false]
  have : (0 : Int) ≤ n % 18446744073709551616 := Int.emod_nonneg _ (by decide)
  simp at *
  omega
end Go.Ev
end

section
set_option linter.unusedSectionVars false
set_option linter.unusedVariables false
set_option linter.unusedSimpArgs false
set_option linter.unusedVariables false
open Go
namespace Go.Ev
def v_bits_Set_Has (s : Int × List (Int × Int)) (i : Int) : Bool × Int × List (Int × Int) := (hasS s i, s)
theorem g_bits_Set_Has (s : Int × List (Int × Int)) (i : Int) : Goes (T_bits_Set_Has s i) (T0_bits_Set_Has s i) (v_bits_Set_Has s i) := by
  unfold T0_bits_Set_Has v_bits_Set_Has hasS
  rw [goes_br]
  by_cases h0 : i ≥ 0
  · rw [if_pos (decide_eq_true h0), goes_br, decide_eq_true h0, Bool.true_and]
    by_cases h1 : i < s.1
    · rw [if_pos (decide_eq_true h1), goes_br, if_neg (by rw [wrapU_nonneg]; decide), decide_eq_true h1, Bool.true_and]
      exact .leaf
    · rw [if_neg (by simpa using h1), decide_eq_false h1, Bool.false_and]
      exact .leaf
  · rw [if_neg (by simpa using h0), decide_eq_false h0, Bool.false_and]
    exact .leaf
end Go.Ev
end

section
set_option linter.unusedSectionVars false
set_option linter.unusedVariables false
set_option linter.unusedSimpArgs false
set_option maxRecDepth 100000
set_option linter.unusedVariables false
open Go Go.Ev
namespace Go.Ev
noncomputable section
noncomputable def e_bits_Set_Has : Run := entO sg_bits_Set_Has K_bits_Set_Has (fun a => true) (fun a => v_bits_Set_Has a.1 a.2.1)
theorem ok_bits_Set_Has : EntOK Go.Proofs.Tryz.prog 52 e_bits_Set_Has := entO_ok (tb := tb_bits_Set_Has) (c := c_bits_Set_Has) (noRun_ok (known_of (fn := Go.Proofs.Tryz.f52) (c := c_bits_Set_Has) (by kernel_rfl) (by kernel_rfl) (by kernel_rfl))) tk_bits_Set_Has (by kernel_rfl) (by kernel_rfl) (fun a => by kernel_rfl) fun ⟨s, i, _⟩ hk => evF_goes (c := c_bits_Set_Has) (K := K_bits_Set_Has) (S := S_bits_Set_Has s i) (by kernel_rfl) (en_bits_Set_Has s i) (lp_bits_Set_Has s i) (g_bits_Set_Has s i)
end
end Go.Ev
end

section
set_option linter.unusedSectionVars false
set_option linter.unusedVariables false
set_option linter.unusedSimpArgs false
set_option maxRecDepth 100000
set_option linter.unusedVariables false
open Go Go.Ev
namespace Go.Ev
noncomputable section
/-! ### (*paling/bits.Set).Put -/
def sg_bits_Set_Put : PSig := [.obj 102 [(.d (.int .i64)), (.m (.int .i64) (.int .u64))], .dat false (.int .i64)]
noncomputable def t_bits_Set_Put : Tbl := [(70, e_bits_Set_Size), (52, e_bits_Set_Has)]
theorem tk_bits_Set_Put : ∀ p ∈ t_bits_Set_Put, EntOK Go.Proofs.Tryz.prog p.1 p.2 := tbl_cons ok_bits_Set_Size (tbl_cons ok_bits_Set_Has (tbl_nil))
noncomputable def c_bits_Set_Put : Code := Go.Proofs.Tryz.f44.body.getD .skip
def tb_bits_Set_Put : Tb := []
def T_bits_Set_Put (s : Int × List (Int × Int)) (i : Int) : Empty → JT Empty (Bool × Int × List (Int × Int)) := fun j => nomatch j
def T0_bits_Set_Put (s : Int × List (Int × Int)) (i : Int) : JT Empty (Bool × Int × List (Int × Int)) :=
  .br (decide (i < (0 : Int)))
    (.leaf (false, s))
  (.br (decide (i ≥ s.1))
    (.leaf (false, s))
  (.br (v_bits_Set_Has s i).1
    (.leaf (false, (v_bits_Set_Has s i).2))
  (.br (decide ((IntKind.u64.wrap (Int.tmod i (64 : Int))) < (0 : Int)))
    (.no)
  (.leaf (true, ((v_bits_Set_Has s i).2.1, (mput (kt := (.int .i64)) (IntKind.i64.wrap (Int.tdiv i (64 : Int))) (bitOr IntKind.u64 (Option.getD (mget (kt := (.int .i64)) (IntKind.i64.wrap (Int.tdiv i (64 : Int))) (v_bits_Set_Has s i).2.2) (0 : Int)) (IntKind.u64.wrap ((1 : Int) * (2 ^ (min (Int.toNat (IntKind.u64.wrap (Int.tmod i (64 : Int)))) (IntKind.u64).bits))))) (v_bits_Set_Has s i).2.2)))))))
def K_bits_Set_Put : Bool × Int × List (Int × Int) → Ans := fun (r : Bool × Int × List (Int × Int)) => (.d .bool r.1, [.bx 102 [.d (.int .i64) r.2.1, .mv (.int .i64) (.int .u64) r.2.2], .top])
def S_bits_Set_Put (s : Int × List (Int × Int)) (i : Int) : Empty → Nat × St := fun j => nomatch j
theorem en_bits_Set_Put (s : Int × List (Int × Int)) (i : Int) (L : Lt) : entryA Go.Proofs.Tryz.prog (clOf t_bits_Set_Put) tb_bits_Set_Put Go.Proofs.Tryz.f44 c_bits_Set_Put L (toPs sg_bits_Set_Put (s, i, ())) = (T0_bits_Set_Put s i).run (fun v => some (K_bits_Set_Put v)) fun j => L (S_bits_Set_Put s i j).1 (S_bits_Set_Put s i j).2 := by kernel_rfl
theorem lp_bits_Set_Put (s : Int × List (Int × Int)) (i : Int) : ∀ (L : Lt) (j : Empty), procOf (procsF Go.Proofs.Tryz.prog (clOf t_bits_Set_Put) tb_bits_Set_Put Go.Proofs.Tryz.f44 c_bits_Set_Put (toPs sg_bits_Set_Put (s, i, ()))) (S_bits_Set_Put s i j).1 L (S_bits_Set_Put s i j).2 = (T_bits_Set_Put s i j).run (fun v => some (K_bits_Set_Put v)) fun j => L (S_bits_Set_Put s i j).1 (S_bits_Set_Put s i j).2 := fun L j => nomatch j
end
end Go.Ev
end

section
set_option linter.unusedSectionVars false
set_option linter.unusedVariables false
set_option linter.unusedSimpArgs false
set_option linter.unusedVariables false
open Go
namespace Go.Ev
def v_bits_Set_Put (s : Int × List (Int × Int)) (i : Int) : Bool × Int × List (Int × Int) := putS s i
theorem g_bits_Set_Put (s : Int × List (Int × Int)) (i : Int) : Goes (T_bits_Set_Put s i) (T0_bits_Set_Put s i) (v_bits_Set_Put s i) := by
  unfold T0_bits_Set_Put v_bits_Set_Put putS
  simp only [v_bits_Set_Has]
  rw [goes_br]
  by_cases h0 : i < 0
  · rw [if_pos (decide_eq_true h0), if_pos (.inl h0)]; exact .leaf
  · rw [if_neg (by simpa using h0), goes_br]
    by_cases h1 : i ≥ s.1
    · rw [if_pos (decide_eq_true h1), if_pos (.inr (.inl h1))]; exact .leaf
    · rw [if_neg (by simpa using h1), goes_br]
      by_cases h2 : hasS s i = true
      · rw [if_pos h2, if_pos (.inr (.inr h2))]; exact .leaf
      · rw [if_neg h2, goes_br, if_neg (by rw [wrapU_nonneg]; decide), if_neg (by intro h; rcases h with h | h | h <;> first | exact h0 h | exact h1 h | exact h2 h)]
        exact .leaf
end Go.Ev
end

section
set_option linter.unusedSectionVars false
set_option linter.unusedVariables false
set_option linter.unusedSimpArgs false
set_option maxRecDepth 100000
set_option linter.unusedVariables false
open Go Go.Ev
namespace Go.Ev
noncomputable section
noncomputable def e_bits_Set_Put : Run := entO sg_bits_Set_Put K_bits_Set_Put (fun a => true) (fun a => v_bits_Set_Put a.1 a.2.1)
theorem ok_bits_Set_Put : EntOK Go.Proofs.Tryz.prog 44 e_bits_Set_Put := entO_ok (tb := tb_bits_Set_Put) (c := c_bits_Set_Put) (noRun_ok (known_of (fn := Go.Proofs.Tryz.f44) (c := c_bits_Set_Put) (by kernel_rfl) (by kernel_rfl) (by kernel_rfl))) tk_bits_Set_Put (by kernel_rfl) (by kernel_rfl) (fun a => by kernel_rfl) fun ⟨s, i, _⟩ hk => evF_goes (c := c_bits_Set_Put) (K := K_bits_Set_Put) (S := S_bits_Set_Put s i) (by kernel_rfl) (en_bits_Set_Put s i) (lp_bits_Set_Put s i) (g_bits_Set_Put s i)
end
end Go.Ev
end

section
set_option linter.unusedSectionVars false
set_option linter.unusedVariables false
set_option linter.unusedSimpArgs false
set_option maxRecDepth 100000
set_option linter.unusedVariables false
open Go Go.Ev
namespace Go.Ev
noncomputable section
/-! ### paling/clash.Back$1 -/
def sg_clash_Back_1 : PSig := [.dat false (.int .i64), .obj 34 [(.d (.sl T_api_Access))], .obj 3 [(.d (.int .i64))], .ptr 78 102 [(.d (.int .i64)), (.m (.int .i64) (.int .u64))], .obj 37 [(.w 3 (.int .i64))], .obj 3 [(.d (.int .i64))], .ptr 78 102 [(.d (.int .i64)), (.m (.int .i64) (.int .u64))]]
noncomputable def t_clash_Back_1 : Tbl := [(36, e_clash_clash), (44, e_bits_Set_Put)]
theorem tk_clash_Back_1 : ∀ p ∈ t_clash_Back_1, EntOK Go.Proofs.Tryz.prog p.1 p.2 := tbl_cons ok_clash_clash (tbl_cons ok_bits_Set_Put (tbl_nil))
noncomputable def c_clash_Back_1 : Code := Go.Proofs.Tryz.f43.body.getD .skip
def tb_clash_Back_1 : Tb := [(1, ⟨[0, 1, 2, 3, 4, 5, 6, 10, 11, 12], []⟩)]
inductive J_clash_Back_1 where
  | l1 (h : Int) (h1 : Int) (h2 : List Int) (h3 : List (Int × Int)) (h4 : Int) (h5 : List (Int × Int))
def T_clash_Back_1 (x : Int) (l : List (El T_api_Access)) (own : Int) (come : Int × List (Int × Int)) (open_ : List Int) (a : Int) (back : Int × List (Int × Int)) : J_clash_Back_1 → JT J_clash_Back_1 ((List (El T_api_Access)) × Int × (Int × List (Int × Int)) × (List Int) × Int × Int × List (Int × Int))
  | .l1 h h1 h2 h3 h4 h5 =>
    .br (decide (h < (Int.ofNat (List.length l))))
      (.br ((decide ((0 : Int) ≤ h)) && (decide (h < (Int.ofNat (List.length l)))))
        (.br ((decide ((0 : Int) ≤ x)) && (decide (x < (Int.ofNat (List.length l)))))
          (.br (! (v_clash_clash (List.getD l (Int.toNat x) (dflt T_api_Access)) (List.getD l (Int.toNat h) (dflt T_api_Access))))
            (.jmp (.l1 (IntKind.i64.wrap (h + (1 : Int))) h1 h2 h3 h4 h5))
          (.br ((List.getD l (Int.toNat h) (dflt T_api_Access)).1 != own)
            (.br (v_bits_Set_Put (h1, h3) h).1
              (.br (Nat.ble (((List.length h2) + 1) * 8) limit)
                (.jmp (.l1 (IntKind.i64.wrap (h + (1 : Int))) (v_bits_Set_Put (h1, h3) h).2.1 (h2 ++ [h]) (v_bits_Set_Put (h1, h3) h).2.2 h4 h5))
              (.no))
            (.jmp (.l1 (IntKind.i64.wrap (h + (1 : Int))) (v_bits_Set_Put (h1, h3) h).2.1 h2 (v_bits_Set_Put (h1, h3) h).2.2 h4 h5)))
          (.br (x != a)
            (.jmp (.l1 (IntKind.i64.wrap (h + (1 : Int))) h1 h2 h3 (v_bits_Set_Put (h4, h5) h).2.1 (v_bits_Set_Put (h4, h5) h).2.2))
          (.jmp (.l1 (IntKind.i64.wrap (h + (1 : Int))) h1 h2 h3 h4 h5)))))
        (.no))
      (.no))
    (.leaf (l, (own, ((h1, h3), (h2, (a, (h4, h5)))))))
def T0_clash_Back_1 (x : Int) (l : List (El T_api_Access)) (own : Int) (come : Int × List (Int × Int)) (open_ : List Int) (a : Int) (back : Int × List (Int × Int)) : JT J_clash_Back_1 ((List (El T_api_Access)) × Int × (Int × List (Int × Int)) × (List Int) × Int × Int × List (Int × Int)) :=
  .jmp (.l1 (0 : Int) come.1 open_ come.2 back.1 back.2)
def K_clash_Back_1 : (List (El T_api_Access)) × Int × (Int × List (Int × Int)) × (List Int) × Int × Int × List (Int × Int) → Ans := fun (r : (List (El T_api_Access)) × Int × (Int × List (Int × Int)) × (List Int) × Int × Int × List (Int × Int)) => (.tu [], [.top, .bx 34 [.d (.sl T_api_Access) r.1], .bx 3 [.d (.int .i64) r.2.1], .bx 78 [.bx 102 [.d (.int .i64) r.2.2.1.1, .mv (.int .i64) (.int .u64) r.2.2.1.2]], .bx 37 [.rw 3 (.int .i64) r.2.2.2.1], .bx 3 [.d (.int .i64) r.2.2.2.2.1], .bx 78 [.bx 102 [.d (.int .i64) r.2.2.2.2.2.1, .mv (.int .i64) (.int .u64) r.2.2.2.2.2.2]]])
def S_clash_Back_1 (x : Int) (l : List (El T_api_Access)) (own : Int) (come : Int × List (Int × Int)) (open_ : List Int) (a : Int) (back : Int × List (Int × Int)) : J_clash_Back_1 → Nat × St
  | .l1 h h1 h2 h3 h4 h5 => (1, ⟨mkTm 42 [(0, .d (.int .i64) x), (1, .pt 2 0 0), (2, .pt 3 0 0), (3, .pt 4 0 0), (4, .pt 5 0 0), (5, .pt 6 0 0), (6, .pt 7 0 0), (10, .d (.sl T_api_Access) l), (11, .d (.int .i64) (Int.ofNat (List.length l))), (12, .d (.int .i64) h)], [(2, 0, .box 34 [.d (.sl T_api_Access) l] (some 1)), (3, 0, .box 3 [.d (.int .i64) own] (some 2)), (4, 0, .box 78 [.pt 4097 0 0] (some 3)), (5, 0, .box 37 [.own 5121 0 none] (some 4)), (6, 0, .box 3 [.d (.int .i64) a] (some 5)), (7, 0, .box 78 [.pt 7169 0 0] (some 6)), (4097, 0, .box 102 [.d (.int .i64) h1, .mp 4195330 0] none), (5121, 0, .row 3 (.int .i64) h2 false), (7169, 0, .box 102 [.d (.int .i64) h4, .mp 7341058 0] none), (4195330, 0, .map (.int .i64) (.int .u64) h3), (7341058, 0, .map (.int .i64) (.int .u64) h5)]⟩)
theorem en_clash_Back_1 (x : Int) (l : List (El T_api_Access)) (own : Int) (come : Int × List (Int × Int)) (open_ : List Int) (a : Int) (back : Int × List (Int × Int)) (L : Lt) : entryA Go.Proofs.Tryz.prog (clOf t_clash_Back_1) tb_clash_Back_1 Go.Proofs.Tryz.f43 c_clash_Back_1 L (toPs sg_clash_Back_1 (x, l, own, come, open_, a, back, ())) = (T0_clash_Back_1 x l own come open_ a back).run (fun v => some (K_clash_Back_1 v)) fun j => L (S_clash_Back_1 x l own come open_ a back j).1 (S_clash_Back_1 x l own come open_ a back j).2 := by kernel_rfl
theorem lp_clash_Back_1 (x : Int) (l : List (El T_api_Access)) (own : Int) (come : Int × List (Int × Int)) (open_ : List Int) (a : Int) (back : Int × List (Int × Int)) : ∀ (L : Lt) (j : J_clash_Back_1), procOf (procsF Go.Proofs.Tryz.prog (clOf t_clash_Back_1) tb_clash_Back_1 Go.Proofs.Tryz.f43 c_clash_Back_1 (toPs sg_clash_Back_1 (x, l, own, come, open_, a, back, ()))) (S_clash_Back_1 x l own come open_ a back j).1 L (S_clash_Back_1 x l own come open_ a back j).2 = (T_clash_Back_1 x l own come open_ a back j).run (fun v => some (K_clash_Back_1 v)) fun j => L (S_clash_Back_1 x l own come open_ a back j).1 (S_clash_Back_1 x l own come open_ a back j).2
  | L, .l1 h h1 h2 h3 h4 h5 => by kernel_rfl
end
end Go.Ev
end

section
set_option linter.unusedSectionVars false
set_option linter.unusedVariables false
set_option linter.unusedSimpArgs false
/- What a set of small numbers has. -/
set_option linter.unusedVariables false
open Go
namespace Go.Ev
theorem wrapU_lt {n : Nat} (h : n < 2 ^ 64) : IntKind.u64.wrap (n : Int) = (n : Int) := by
  unfold IntKind.wrap
  simp only [IntKind.signed, IntKind.bits, Bool.false_and, Bool.false_eq_true, if_false]
  exact Int.emod_eq_of_lt (by omega) (by exact_mod_cast h)
theorem ofIntU {n : Nat} : BitVec.ofInt 64 (n : Int) = BitVec.ofNat 64 n := BitVec.ofInt_natCast 64 n
theorem bitAnd_eq {a b : Nat} (ha : a < 2 ^ 64) (hb : b < 2 ^ 64) : bitAnd IntKind.u64 (a : Int) (b : Int) = ((a &&& b : Nat) : Int) := by
  unfold bitAnd
  show IntKind.u64.wrap (((BitVec.ofInt 64 (a : Int) &&& BitVec.ofInt 64 (b : Int)).toNat : Nat) : Int) = _
  rw [ofIntU, ofIntU, BitVec.toNat_and, BitVec.toNat_ofNat, BitVec.toNat_ofNat, Nat.mod_eq_of_lt ha, Nat.mod_eq_of_lt hb]
  exact wrapU_lt (Nat.lt_of_le_of_lt Nat.and_le_left ha)
theorem bitOr_eq {a b : Nat} (ha : a < 2 ^ 64) (hb : b < 2 ^ 64) : bitOr IntKind.u64 (a : Int) (b : Int) = ((a ||| b : Nat) : Int) := by
  unfold bitOr
  show IntKind.u64.wrap (((BitVec.ofInt 64 (a : Int) ||| BitVec.ofInt 64 (b : Int)).toNat : Nat) : Int) = _
  rw [ofIntU, ofIntU, BitVec.toNat_or, BitVec.toNat_ofNat, BitVec.toNat_ofNat, Nat.mod_eq_of_lt ha, Nat.mod_eq_of_lt hb]
  exact wrapU_lt (Nat.or_lt_two_pow ha hb)
theorem two_pow_int (j : Nat) : (2 : Int) ^ j = ((2 ^ j : Nat) : Int) := by simp
theorem bitE_eq {w j : Nat} (hw : w < 2 ^ 64) (hj : j < 64) : bitE (w : Int) (j : Int) = w.testBit j := by
  unfold bitE
  rw [wrapU_small hj, Int.toNat_natCast, show min j (IntKind.u64).bits = j from Nat.min_eq_left (by show j ≤ 64; omega), two_pow_int, Int.fdiv_eq_ediv_of_nonneg _ (Int.natCast_nonneg _), ← Int.natCast_ediv]
  rw [show (1 : Int) = ((1 : Nat) : Int) from rfl, bitAnd_eq (Nat.lt_of_le_of_lt (Nat.div_le_self _ _) hw) (by decide), Nat.and_one_is_mod, Nat.testBit_eq_decide_div_mod_eq]
  by_cases h : w / 2 ^ j % 2 = 1
  · rw [h]; simp
  · have : w / 2 ^ j % 2 = 0 := by omega
    rw [this]; simp
theorem withBit_eq {w j : Nat} (hw : w < 2 ^ 64) (hj : j < 64) : withBit (w : Int) (j : Int) = ((w ||| 2 ^ j : Nat) : Int) := by
  unfold withBit
  have hp : 2 ^ j < 2 ^ 64 := Nat.pow_lt_pow_right (by decide) hj
  rw [wrapU_small hj, Int.toNat_natCast, show min j (IntKind.u64).bits = j from Nat.min_eq_left (by show j ≤ 64; omega), two_pow_int, Int.one_mul, wrapU_lt hp, bitOr_eq hw hp]

/-! ### Maps -/
theorem mget_mput_self (k v : Int) : ∀ m : List (Int × Int), mget (kt := .int .i64) k (mput (kt := .int .i64) k v m) = some v
  | [] => by simp [mput, mget, keyEq]
  | (x, u) :: r => by
    by_cases h : k = x
    · subst h; simp [mput, mget, keyEq]
    · have hb : keyEq (.int .i64) k x = false := by show (k == x) = false; simpa using h
      simp only [mput, hb, cond_false, mget]
      exact mget_mput_self k v r
theorem mget_mput_other {k k' : Int} (v : Int) (h : k' ≠ k) : ∀ m : List (Int × Int), mget (kt := .int .i64) k' (mput (kt := .int .i64) k v m) = mget (kt := .int .i64) k' m
  | [] => by
    have hb : keyEq (.int .i64) k' k = false := by show (k' == k) = false; simpa using h
    simp [mput, mget, hb]
  | (x, u) :: r => by
    by_cases hx : k = x
    · subst hx
      have hb : keyEq (.int .i64) k' k = false := by show (k' == k) = false; simpa using h
      have hb2 : keyEq (.int .i64) k k = true := by show (k == k) = true; simp
      simp only [mput, hb2, cond_true, mget, hb, cond_false]
    · have hb : keyEq (.int .i64) k x = false := by show (k == x) = false; simpa using hx
      simp only [mput, hb, cond_false, mget, mget_mput_other v h r]
theorem mget_mem_int {k v : Int} : ∀ {m : List (Int × Int)}, mget (kt := .int .i64) k m = some v → (k, v) ∈ m
  | [], h => by cases h
  | (x, u) :: r, h => by
    by_cases hx : k = x
    · subst hx
      have hb2 : keyEq (.int .i64) k k = true := by show (k == k) = true; simp
      simp only [mget, hb2, cond_true, Option.some.injEq] at h
      subst h
      simp
    · have hb : keyEq (.int .i64) k x = false := by show (k == x) = false; simpa using hx
      simp only [mget, hb, cond_false] at h
      exact List.mem_cons_of_mem _ (mget_mem_int h)
theorem mput_mem {k v : Int} {p : Int × Int} : ∀ {m : List (Int × Int)}, p ∈ mput (kt := .int .i64) k v m → p = (k, v) ∨ p ∈ m
  | [], h => by simp [mput] at h; exact .inl h
  | (x, u) :: r, h => by
    by_cases hx : k = x
    · subst hx
      have hb2 : keyEq (.int .i64) k k = true := by show (k == k) = true; simp
      simp only [mput, hb2, cond_true] at h
      rcases List.mem_cons.1 h with h | h
      · exact .inl h
      · exact .inr (List.mem_cons_of_mem _ h)
    · have hb : keyEq (.int .i64) k x = false := by show (k == x) = false; simpa using hx
      simp only [mput, hb, cond_false] at h
      rcases List.mem_cons.1 h with h | h
      · exact .inr (by rw [h]; simp)
      · exact (mput_mem h).imp id (List.mem_cons_of_mem _)
theorem mput_keys_int {k v : Int} : ∀ {m : List (Int × Int)}, (mput (kt := .int .i64) k v m).map Prod.fst = if k ∈ m.map Prod.fst then m.map Prod.fst else m.map Prod.fst ++ [k]
  | [] => by simp [mput]
  | (x, u) :: r => by
    by_cases hx : k = x
    · subst hx
      have hb2 : keyEq (.int .i64) k k = true := by show (k == k) = true; simp
      simp only [mput, hb2, cond_true]
      simp
    · have hb : keyEq (.int .i64) k x = false := by show (k == x) = false; simpa using hx
      simp only [mput, hb, cond_false, List.map_cons, List.mem_cons, hx, false_or]
      rw [@mput_keys_int k v r]
      by_cases h : k ∈ r.map Prod.fst
      · rw [if_pos h, if_pos h]
      · rw [if_neg h, if_neg h]; rfl
theorem mput_nodup_int {k v : Int} {m : List (Int × Int)} (h : (m.map Prod.fst).Nodup) : ((mput (kt := .int .i64) k v m).map Prod.fst).Nodup := by
  rw [mput_keys_int]
  split
  · exact h
  · rename_i hk
    rw [List.nodup_append]
    exact ⟨h, by simp, fun a ha b hb e => by simp at hb; subst hb; subst e; exact hk ha⟩
theorem strict_len : ∀ {l : List Int} {a b : Int}, l.Pairwise (· < ·) → (∀ x ∈ l, a ≤ x ∧ x < b) → a ≤ b → (l.length : Int) ≤ b - a
  | [], a, b, _, _, h => by simp; omega
  | y :: l, a, b, hp, hb, h => by
    rw [List.pairwise_cons] at hp
    have hy := hb y (by simp)
    have := strict_len (l := l) (a := y + 1) (b := b) hp.2 (fun x hx => ⟨hp.1 x hx, (hb x (List.mem_cons_of_mem _ hx)).2⟩) (by omega)
    simp
    omega

/-! ### Sets -/
structure SetOK (s : Int × List (Int × Int)) (n : Nat) (M : Nat → Bool) : Prop where
  size : s.1 = n
  nodup : (s.2.map Prod.fst).Nodup
  words : ∀ p ∈ s.2, ∃ k w : Nat, p = ((k : Int), (w : Int)) ∧ k * 64 < n ∧ w < 2 ^ 64
  bits : ∀ k j : Nat, j < 64 → (wordAt s.2 (k : Int)).toNat.testBit j = M (k * 64 + j)
  lt : ∀ i, M i = true → i < n

theorem SetOK.new (n : Nat) : SetOK ((n : Int), []) n fun _ => false := ⟨rfl, List.nodup_nil, fun p hp => by simp at hp, fun k j _ => by simp [wordAt, mget], fun i h => by cases h⟩
variable {s : Int × List (Int × Int)} {n : Nat} {M : Nat → Bool}
theorem SetOK.word (h : SetOK s n M) (k : Nat) : ∃ w : Nat, wordAt s.2 (k : Int) = (w : Int) ∧ w < 2 ^ 64 := by
  unfold wordAt
  cases hg : mget (kt := .int .i64) (k : Int) s.2 with
  | none => exact ⟨0, rfl, by decide⟩
  | some v =>
    obtain ⟨k', w, e, _, hw⟩ := h.words _ (mget_mem_int hg)
    simp only [Prod.mk.injEq] at e
    exact ⟨w, e.2, hw⟩
theorem placeOf_nat {i : Nat} (hi : i < 4611686018427387904) : placeOf (i : Int) = ((i / 64 : Nat) : Int) := by
  unfold placeOf
  rw [show Int.tdiv (i : Int) 64 = ((i / 64 : Nat) : Int) from rfl, wrap_i64 (by omega) (by omega)]
theorem SetOK.has (h : SetOK s n M) (hn : n < 4611686018427387904) (i : Int) : hasS s i = (decide (0 ≤ i) && M i.toNat) := by
  unfold hasS
  rw [h.size]
  by_cases h0 : 0 ≤ i
  · obtain ⟨j, rfl⟩ := Int.eq_ofNat_of_zero_le h0
    by_cases h1 : j < n
    · rw [decide_eq_true (show (j : Int) ≥ 0 from h0), decide_eq_true (show (j : Int) < (n : Int) by omega), Bool.true_and, Bool.true_and, Bool.true_and, placeOf_nat (by omega)]
      obtain ⟨w, hw, hlt⟩ := h.word (j / 64)
      have hb := h.bits (j / 64) (j % 64) (Nat.mod_lt _ (by decide))
      rw [hw, show Int.tmod (j : Int) 64 = ((j % 64 : Nat) : Int) from rfl, bitE_eq hlt (Nat.mod_lt _ (by decide))]
      rw [hw, Int.toNat_natCast] at hb
      rw [hb, Int.toNat_natCast, Nat.div_add_mod' j 64]
    · rw [decide_eq_false (show ¬ (j : Int) < (n : Int) by omega), Bool.false_and, Bool.and_false]
      have : M (j : Int).toNat = false := by
        rw [Int.toNat_natCast]
        cases hm : M j with
        | true => exact absurd (h.lt j hm) h1
        | false => rfl
      rw [this, Bool.and_false]
  · rw [decide_eq_false (show ¬ i ≥ 0 from h0), Bool.false_and, Bool.false_and]
theorem SetOK.put (h : SetOK s n M) (hn : n < 4611686018427387904) {i : Nat} (hi : i < n) (hM : M i = false) :
    (putS s i).1 = true ∧ SetOK (putS s i).2 n fun j => M j || (j == i) := by
  have hno : ¬ ((i : Int) < 0 ∨ s.1 ≤ (i : Int) ∨ hasS s (i : Int) = true) := by
    rw [h.has hn, h.size, Int.toNat_natCast, hM]
    simp
    omega
  unfold putS
  rw [if_neg hno, placeOf_nat (by omega), show Int.tmod (i : Int) 64 = ((i % 64 : Nat) : Int) from rfl]
  refine ⟨rfl, ?_⟩
  obtain ⟨w, hw, hlt⟩ := h.word (i / 64)
  have hj : i % 64 < 64 := Nat.mod_lt _ (by decide)
  have hp : 2 ^ (i % 64) < 2 ^ 64 := Nat.pow_lt_pow_right (by decide) hj
  rw [hw, withBit_eq hlt hj]
  have hw2 : w ||| 2 ^ (i % 64) < 2 ^ 64 := Nat.or_lt_two_pow hlt hp
  refine ⟨h.size, mput_nodup_int h.nodup, fun p hp => ?_, fun k j hj2 => ?_, fun k hk => ?_⟩
  · rcases mput_mem hp with rfl | hp
    · exact ⟨i / 64, _, rfl, by omega, hw2⟩
    · exact h.words p hp
  · unfold wordAt
    by_cases hk : k = i / 64
    · subst hk
      simp only
      rw [mget_mput_self, Option.getD_some, Int.toNat_natCast, Nat.testBit_or, Nat.testBit_two_pow]
      have hb := h.bits (i / 64) j hj2
      rw [hw, Int.toNat_natCast] at hb
      rw [hb]
      congr 1
      rw [Bool.eq_iff_iff]
      simp
      omega
    · simp only
      rw [mget_mput_other _ (by omega)]
      have hb := h.bits k j hj2
      unfold wordAt at hb
      rw [hb]
      have : (k * 64 + j == i) = false := by simp; omega
      rw [this, Bool.or_false]
  · simp only [Bool.or_eq_true, beq_iff_eq] at hk
    rcases hk with hk | hk
    · exact h.lt k hk
    · omega
theorem SetOK.put_no (h : SetOK s n M) (hn : n < 4611686018427387904) {i : Int} (hi : ¬ (0 ≤ i ∧ i < n ∧ M i.toNat = false)) : putS s i = (false, s) := by
  unfold putS
  rw [if_pos]
  rw [h.has hn, h.size]
  by_cases h0 : i < 0
  · exact .inl h0
  · by_cases h1 : (n : Int) ≤ i
    · exact .inr (.inl h1)
    · refine .inr (.inr ?_)
      have : ¬ M i.toNat = false := fun hf => hi ⟨by omega, by omega, hf⟩
      rw [Bool.not_eq_false] at this
      rw [this, decide_eq_true (by omega)]; rfl

theorem strict_ext : ∀ {l m : List Int}, l.Pairwise (· < ·) → m.Pairwise (· < ·) → (∀ x, x ∈ l ↔ x ∈ m) → l = m
  | [], [], _, _, _ => rfl
  | [], b :: m, _, _, h => by have := (h b).2 (by simp); simp at this
  | a :: l, [], _, _, h => by have := (h a).1 (by simp); simp at this
  | a :: l, b :: m, hl, hm, h => by
    rw [List.pairwise_cons] at hl hm
    have hab : a = b := by
      have h1 := (h a).1 (by simp)
      have h2 := (h b).2 (by simp)
      rcases List.mem_cons.1 h1 with h1 | h1
      · exact h1
      · rcases List.mem_cons.1 h2 with h2 | h2
        · exact h2.symm
        · have := hm.1 a h1; have := hl.1 b h2; omega
    subst hab
    rw [strict_ext hl.2 hm.2 fun x => ⟨fun hx => ?_, fun hx => ?_⟩]
    · have := hl.1 x hx
      rcases List.mem_cons.1 ((h x).1 (List.mem_cons_of_mem _ hx)) with e | e
      · omega
      · exact e
    · have := hm.1 x hx
      rcases List.mem_cons.1 ((h x).2 (List.mem_cons_of_mem _ hx)) with e | e
      · omega
      · exact e

/-- What is so of the first numbers. -/
def listOf (n : Nat) (M : Nat → Bool) : List Int := ((List.range n).filter M).map Int.ofNat
theorem listOf_mem {x : Int} : x ∈ listOf n M ↔ ∃ i : Nat, i < n ∧ M i = true ∧ x = (i : Int) := by
  unfold listOf
  simp only [List.mem_map, List.mem_filter, List.mem_range]
  constructor
  · rintro ⟨i, ⟨h1, h2⟩, rfl⟩; exact ⟨i, h1, h2, rfl⟩
  · rintro ⟨i, h1, h2, rfl⟩; exact ⟨i, ⟨h1, h2⟩, rfl⟩
theorem listOf_strict : (listOf n M).Pairwise (· < ·) := by
  unfold listOf
  rw [List.pairwise_map]
  refine (List.Pairwise.filter M List.pairwise_lt_range).imp fun {a b} h => ?_
  show (a : Int) < (b : Int)
  omega
theorem listOf_congr {M' : Nat → Bool} (h : ∀ i, i < n → M i = M' i) : listOf n M = listOf n M' := by
  unfold listOf
  congr 1
  exact List.filter_congr fun i hi => h i (List.mem_range.1 hi)
theorem SetOK.list (h : SetOK s n M) (hn : n < 4611686018427387904) : listS s = listOf n M := by
  have hkey : ∀ k ∈ s.2.map Prod.fst, ∃ k' : Nat, k = (k' : Int) ∧ k' * 64 < n := fun k hk => by
    obtain ⟨p, hp, rfl⟩ := List.mem_map.1 hk
    obtain ⟨k', w, e, h1, _⟩ := h.words p hp
    exact ⟨k', by rw [e], h1⟩
  have hwl : ∀ k : Nat, k * 64 < n → ∀ x, x ∈ wordList s.2 (k : Int) 0 64 ↔ ∃ j : Nat, j < 64 ∧ M (k * 64 + j) = true ∧ x = ((k * 64 + j : Nat) : Int) := fun k hk x => by
    obtain ⟨w, hw, hlt⟩ := h.word k
    unfold wordList
    rw [hw]
    simp only [List.mem_map, List.mem_filter, List.mem_range'_1]
    have hnum : ∀ j : Nat, j < 64 → numE (k : Int) (j : Int) = ((k * 64 + j : Nat) : Int) := fun j hj => by
      unfold numE
      rw [wrap_i64 (n := (k : Int) * 64) (by omega) (by omega), wrap_i64 (by omega) (by omega)]
      omega
    have hbit : ∀ j : Nat, j < 64 → bitE (w : Int) (j : Int) = M (k * 64 + j) := fun j hj => by
      rw [bitE_eq hlt hj]
      have := h.bits k j hj
      rwa [hw, Int.toNat_natCast] at this
    constructor
    · rintro ⟨j, ⟨hj, hb⟩, rfl⟩
      exact ⟨j, by omega, by rw [← hbit j (by omega)]; exact hb, hnum j (by omega)⟩
    · rintro ⟨j, hj, hb, rfl⟩
      exact ⟨j, ⟨by omega, by rw [hbit j hj]; exact hb⟩, hnum j hj⟩
  have hmem : ∀ {k : Int}, k ∈ (s.2.map Prod.fst).mergeSort (fun x y => decide (x ≤ y)) ↔ k ∈ s.2.map Prod.fst := List.mem_mergeSort
  have tr : ∀ a b c : Int, decide (a ≤ b) = true → decide (b ≤ c) = true → decide (a ≤ c) = true := fun a b c h1 h2 => by simp at *; omega
  have to : ∀ a b : Int, (decide (a ≤ b) || decide (b ≤ a)) = true := fun a b => by simp; omega
  have hs1 := List.pairwise_mergeSort tr to (s.2.map Prod.fst)
  have hs2 : ((s.2.map Prod.fst).mergeSort (fun x y => decide (x ≤ y))).Nodup := (List.mergeSort_perm _ _).nodup_iff.2 h.nodup
  have hst : ((s.2.map Prod.fst).mergeSort (fun x y => decide (x ≤ y))).Pairwise (· < ·) := (hs1.and hs2).imp fun {a b} h => by
    have h1 := h.1; have h2 := h.2; simp at h1; omega
  refine strict_ext ?_ listOf_strict fun x => ?_
  · unfold listS listAt
    rw [List.pairwise_flatMap]
    refine ⟨fun k hk => ?_, ?_⟩
    · obtain ⟨k', rfl, hk'⟩ := hkey k (hmem.1 hk)
      unfold wordList
      rw [List.pairwise_map]
      have hp : ((List.range' 0 64).filter fun i => bitE (wordAt s.2 (k' : Int)) (i : Nat)).Pairwise (· < ·) := List.Pairwise.filter _ (List.pairwise_lt_range' (step := 1) (s := 0) (n := 64) (by omega))
      refine (List.Pairwise.and_mem.1 hp).imp fun {a b} h => ?_
      obtain ⟨ha, hb, hab⟩ := h
      have ha' := (List.mem_range'_1.1 (List.mem_filter.1 ha).1)
      have hb' := (List.mem_range'_1.1 (List.mem_filter.1 hb).1)
      unfold numE
      rw [wrap_i64 (n := (k' : Int) * 64) (by omega) (by omega), wrap_i64 (by omega) (by omega), wrap_i64 (by omega) (by omega)]
      omega
    · refine (List.Pairwise.and_mem.1 hst).imp fun {a b} hab => ?_
      obtain ⟨ha, hb, hlt⟩ := hab
      obtain ⟨a', rfl, ha'⟩ := hkey a (hmem.1 ha)
      obtain ⟨b', rfl, hb'⟩ := hkey b (hmem.1 hb)
      intro x hx y hy
      obtain ⟨j, hj, _, rfl⟩ := (hwl a' ha' x).1 hx
      obtain ⟨j', hj', _, rfl⟩ := (hwl b' hb' y).1 hy
      omega
  · unfold listS listAt
    rw [listOf_mem, List.mem_flatMap]
    constructor
    · rintro ⟨k, hk, hx⟩
      obtain ⟨k', rfl, hk'⟩ := hkey k (hmem.1 hk)
      obtain ⟨j, hj, hM, rfl⟩ := (hwl k' hk' x).1 hx
      exact ⟨_, h.lt _ hM, hM, rfl⟩
    · rintro ⟨i, hi, hM, rfl⟩
      have hb := h.bits (i / 64) (i % 64) (Nat.mod_lt _ (by decide))
      rw [Nat.div_add_mod' i 64, hM] at hb
      refine ⟨((i / 64 : Nat) : Int), hmem.2 ?_, (hwl (i / 64) (by omega) _).2 ⟨i % 64, Nat.mod_lt _ (by decide), by rw [Nat.div_add_mod' i 64]; exact hM, by rw [Nat.div_add_mod' i 64]⟩⟩
      unfold wordAt at hb
      cases hg : mget (kt := .int .i64) ((i / 64 : Nat) : Int) s.2 with
      | none => rw [hg] at hb; simp at hb
      | some v => exact List.mem_map.2 ⟨_, mget_mem_int hg, rfl⟩
/-- So many words. -/
theorem SetOK.few (h : SetOK s n M) : s.2.length ≤ (n + 63) / 64 := by
  have tr : ∀ a b c : Int, decide (a ≤ b) = true → decide (b ≤ c) = true → decide (a ≤ c) = true := fun a b c h1 h2 => by simp at *; omega
  have to : ∀ a b : Int, (decide (a ≤ b) || decide (b ≤ a)) = true := fun a b => by simp; omega
  have hs1 := List.pairwise_mergeSort tr to (s.2.map Prod.fst)
  have hs2 : ((s.2.map Prod.fst).mergeSort (fun x y => decide (x ≤ y))).Nodup := (List.mergeSort_perm _ _).nodup_iff.2 h.nodup
  have hst : ((s.2.map Prod.fst).mergeSort (fun x y => decide (x ≤ y))).Pairwise (· < ·) := (hs1.and hs2).imp fun {a b} h => by
    have h1 := h.1; have h2 := h.2; simp at h1; omega
  have := strict_len (a := 0) (b := (((n + 63) / 64 : Nat) : Int)) hst (fun x hx => by
    obtain ⟨p, hp, rfl⟩ := List.mem_map.1 (List.mem_mergeSort.1 hx)
    obtain ⟨k', w, e, h1, _⟩ := h.words p hp
    rw [e]
    exact ⟨by simp, by simp; omega⟩) (by omega)
  simp at this
  omega
end Go.Ev
end

section
set_option linter.unusedSectionVars false
set_option linter.unusedVariables false
set_option linter.unusedSimpArgs false
/- What follows an instruction: over lists. -/
set_option maxRecDepth 100000
set_option linter.unusedVariables false
set_option linter.unusedSimpArgs false
open Go
namespace Go.Ev
def flowOK (t : List (El T_api_Ins)) : Bool := decide (t.length < 1099511627776) && t.all fun i => smallText i.2.2.2.2.2.1 && decide (i.2.2.2.2.2.2.length < 1099511627776)
theorem flowOK_len {t : List (El T_api_Ins)} (h : flowOK t = true) : t.length < 1099511627776 := by
  unfold flowOK at h; rw [Bool.and_eq_true] at h; exact of_decide_eq_true h.1
theorem flowOK_text {t : List (El T_api_Ins)} (h : flowOK t = true) {i : El T_api_Ins} (hi : i ∈ t) : smallText i.2.2.2.2.2.1 = true := by
  unfold flowOK at h
  rw [Bool.and_eq_true] at h
  have := List.all_eq_true.1 h.2 i hi
  rw [Bool.and_eq_true] at this
  exact this.1
theorem flowOK_find {t : List (El T_api_Ins)} (h : flowOK t = true) : (decide (t.length < 1099511627776) && t.all fun i => decide (i.2.2.2.2.2.2.length < 1099511627776)) = true := by
  unfold flowOK at h
  rw [Bool.and_eq_true] at h ⊢
  refine ⟨h.1, List.all_eq_true.2 fun i hi => ?_⟩
  have := List.all_eq_true.1 h.2 i hi
  rw [Bool.and_eq_true] at this
  exact this.2
theorem findI_lt {label : ByteArray} : ∀ {t : List (El T_api_Ins)} {k : Nat}, findI label t k < ((k + t.length : Nat) : Int) ∨ findI label t k = -1
  | [], k => .inr rfl
  | x :: r, k => by
    unfold findI
    split
    · left; simp; omega
    · rcases @findI_lt label r (k + 1) with h | h
      · left; simp only [List.length_cons]; omega
      · exact .inr h
theorem findI_ge {label : ByteArray} : ∀ {t : List (El T_api_Ins)} {k : Nat}, findI label t k = -1 ∨ (k : Int) ≤ findI label t k
  | [], k => .inl rfl
  | x :: r, k => by
    unfold findI
    split
    · right; omega
    · rcases @findI_ge label r (k + 1) with h | h
      · exact .inl h
      · right; omega

/-- Where one instruction leads: on, and to. -/
def onOf (t : List (El T_api_Ins)) (i : Nat) : Bool := (v_ins_Leads (t.getD i (dflt T_api_Ins))).1
def toOf (t : List (El T_api_Ins)) (i : Nat) : Int := if (v_ins_Leads (t.getD i (dflt T_api_Ins))).2 then findI (t.getD i (dflt T_api_Ins)).2.2.2.2.2.1 t 0 else -1
theorem toOf_lt {t : List (El T_api_Ins)} {i : Nat} : -1 ≤ toOf t i ∧ (toOf t i < (t.length : Int)) := by
  unfold toOf
  split
  · have h1 := @findI_lt (t.getD i (dflt T_api_Ins)).2.2.2.2.2.1 t 0
    have h2 := @findI_ge (t.getD i (dflt T_api_Ins)).2.2.2.2.2.1 t 0
    rw [Nat.zero_add] at h1
    omega
  · omega
/-- Does j follow i? -/
def nextB (t : List (El T_api_Ins)) (i : Int) (j : Nat) : Bool :=
  decide (0 ≤ i ∧ i < (t.length : Int) ∧ j < t.length) && ((onOf t i.toNat && decide ((j : Int) = i + 1)) || decide (toOf t i.toNat = (j : Int)))

theorem nextB_lt {t : List (El T_api_Ins)} {i : Int} {j : Nat} (h : nextB t i j = true) : j < t.length := by
  unfold nextB at h
  rw [Bool.and_eq_true] at h
  exact (of_decide_eq_true h.1).2.2

/-- The code's list. -/
def nextL (n : Nat) (on : Bool) (to i : Int) : List Int :=
  (if 0 ≤ to ∧ to ≤ i then [to] else []) ++ ((if on = true ∧ i + 1 < (n : Int) then [i + 1] else []) ++ (if to > i ∧ ¬ (on = true ∧ i + 1 < (n : Int) ∧ to = i + 1) then [to] else []))
theorem nextL_strict {n : Nat} {on : Bool} {to i : Int} : (nextL n on to i).Pairwise (· < ·) := by
  unfold nextL
  by_cases h1 : 0 ≤ to ∧ to ≤ i
  · rw [if_pos h1, if_neg (c := to > i ∧ _) (fun h => by omega)]
    by_cases h2 : on = true ∧ i + 1 < (n : Int)
    · rw [if_pos h2]; simp; omega
    · rw [if_neg h2]; simp
  · rw [if_neg h1]
    by_cases h2 : on = true ∧ i + 1 < (n : Int)
    · rw [if_pos h2]
      by_cases h3 : to > i ∧ ¬ (on = true ∧ i + 1 < (n : Int) ∧ to = i + 1)
      · rw [if_pos h3]
        have : to ≠ i + 1 := fun e => h3.2 ⟨h2.1, h2.2, e⟩
        simp; omega
      · rw [if_neg h3]; simp
    · rw [if_neg h2]
      by_cases h3 : to > i ∧ ¬ (on = true ∧ i + 1 < (n : Int) ∧ to = i + 1)
      · rw [if_pos h3]; simp
      · rw [if_neg h3]; simp
theorem nextL_eq {t : List (El T_api_Ins)} {i : Nat} (hi : i < t.length) : nextL t.length (onOf t i) (toOf t i) (i : Int) = listOf t.length (nextB t (i : Int)) := by
  refine strict_ext nextL_strict listOf_strict fun x => ?_
  rw [listOf_mem]
  have hb : ∀ j : Nat, nextB t (i : Int) j = true ↔ j < t.length ∧ ((onOf t i = true ∧ (j : Int) = (i : Int) + 1) ∨ toOf t i = (j : Int)) := fun j => by
    unfold nextB
    rw [Int.toNat_natCast]
    simp only [Bool.and_eq_true, Bool.or_eq_true, decide_eq_true_eq]
    constructor
    · rintro ⟨⟨_, _, h⟩, h2⟩; exact ⟨h, h2⟩
    · rintro ⟨h, h2⟩; exact ⟨⟨by omega, by omega, h⟩, h2⟩
  have ht := @toOf_lt t i
  unfold nextL
  constructor
  · intro h
    simp only [List.mem_append] at h
    rcases h with h | h | h
    · split at h
      · rename_i hc
        simp at h
        subst h
        exact ⟨(toOf t i).toNat, by omega, (hb _).2 ⟨by omega, .inr (by omega)⟩, by omega⟩
      · simp at h
    · split at h
      · rename_i hc
        simp at h
        subst h
        exact ⟨i + 1, by omega, (hb _).2 ⟨by omega, .inl ⟨hc.1, by omega⟩⟩, by omega⟩
      · simp at h
    · split at h
      · rename_i hc
        simp at h
        subst h
        exact ⟨(toOf t i).toNat, by omega, (hb _).2 ⟨by omega, .inr (by omega)⟩, by omega⟩
      · simp at h
  · rintro ⟨j, hj, hM, rfl⟩
    obtain ⟨_, h⟩ := (hb j).1 hM
    simp only [List.mem_append]
    rcases h with ⟨h1, h2⟩ | h
    · right; left
      rw [if_pos ⟨h1, by omega⟩]; simp; omega
    · by_cases hle : toOf t i ≤ (i : Int)
      · left; rw [if_pos ⟨by omega, hle⟩]; simp; omega
      · right
        by_cases hc : onOf t i = true ∧ (i : Int) + 1 < (t.length : Int) ∧ toOf t i = (i : Int) + 1
        · left; rw [if_pos ⟨hc.1, hc.2.1⟩]; simp; omega
        · right; rw [if_pos ⟨by omega, hc⟩]; simp; omega
end Go.Ev
end

section
set_option linter.unusedSectionVars false
set_option linter.unusedVariables false
set_option linter.unusedSimpArgs false
/- Where one comes to, over steps of numbers. -/
set_option linter.unusedVariables false
open Go
namespace Go.Ev
inductive Come (N : Nat → Nat → Bool) (A : Nat → Bool) : Nat → Prop
  | start {j : Nat} : A j = true → Come N A j
  | step {k j : Nat} : Come N A k → N k j = true → Come N A j
noncomputable def comeB (N : Nat → Nat → Bool) (A : Nat → Bool) (j : Nat) : Bool := @decide (Come N A j) (Classical.propDecidable _)
theorem comeB_iff {N : Nat → Nat → Bool} {A : Nat → Bool} {j : Nat} : comeB N A j = true ↔ Come N A j := @decide_eq_true_iff _ (Classical.propDecidable _)
/-- What holds the start, is closed, and is come to, is it. -/
theorem comeB_eq {N : Nat → Nat → Bool} {A M : Nat → Bool} (h1 : ∀ j, A j = true → M j = true) (h2 : ∀ k j, M k = true → N k j = true → M j = true) (h3 : ∀ j, M j = true → Come N A j) (j : Nat) : M j = comeB N A j := by
  rw [Bool.eq_iff_iff, comeB_iff]
  refine ⟨h3 j, fun h => ?_⟩
  induction h with
  | start h => exact h1 _ h
  | step _ h ih => exact h2 _ _ ih h
theorem come_lt {N : Nat → Nat → Bool} {A : Nat → Bool} {n : Nat} (hA : ∀ j, A j = true → j < n) (hN : ∀ k j, N k j = true → j < n) {j : Nat} (h : Come N A j) : j < n := by
  cases h with
  | start h => exact hA _ h
  | step _ h => exact hN _ _ h
/-- How many. -/
def card (n : Nat) (M : Nat → Bool) : Nat := (List.range n).countP M
theorem card_le {n : Nat} {M : Nat → Bool} : card n M ≤ n := by
  have := List.countP_le_length (p := M) (l := List.range n)
  simpa [card] using this
theorem card_add {M : Nat → Bool} {i : Nat} (hM : M i = false) : ∀ {n : Nat}, i < n → card n (fun j => M j || (j == i)) = card n M + 1 := by
  intro n
  induction n with
  | zero => intro h; omega
  | succ n ih =>
    intro h
    unfold card at *
    rw [List.range_succ, List.countP_append, List.countP_append]
    by_cases hi : i = n
    · subst hi
      have e : (List.range i).countP (fun j => M j || (j == i)) = (List.range i).countP M := List.countP_congr fun j hj => by
        have := List.mem_range.1 hj
        have : (j == i) = false := by simp; omega
        rw [this, Bool.or_false]
      rw [e]
      simp [hM]
    · rw [ih (by omega)]
      have : (n == i) = false := by simp; omega
      simp [this]
      omega
theorem listOf_length {n : Nat} {M : Nat → Bool} : (listOf n M).length = card n M := by
  unfold listOf card
  rw [List.length_map, List.countP_eq_length_filter]
end Go.Ev
end

section
set_option linter.unusedSectionVars false
set_option linter.unusedVariables false
set_option linter.unusedSimpArgs false
/- To which instructions one comes. -/
set_option linter.unusedVariables false
open Go
namespace Go.Ev
/-- Does one come from i to j? -/
noncomputable def fromB (t : List (El T_api_Ins)) (i : Int) (j : Nat) : Bool := comeB (fun k j => nextB t (k : Int) j) (nextB t i) j
theorem fromB_lt {t : List (El T_api_Ins)} {i : Int} {j : Nat} (h : fromB t i j = true) : j < t.length := come_lt (fun j => nextB_lt) (fun k j => nextB_lt) (comeB_iff.1 h)
end Go.Ev
end

section
set_option linter.unusedSectionVars false
set_option linter.unusedVariables false
set_option linter.unusedSimpArgs false
/- Where one comes to, by rounds: for reckoning. -/
set_option linter.unusedVariables false
open Go
namespace Go.Ev
def roundL (N : Nat → Nat → Bool) (n : Nat) (r : List Bool) : List Bool := (List.range n).map fun j => r.getD j false || (List.range n).any fun k => r.getD k false && N k j
def iterL (N : Nat → Nat → Bool) (n : Nat) : Nat → List Bool → List Bool
  | 0, r => r
  | m + 1, r => iterL N n m (roundL N n r)
def comeL (N : Nat → Nat → Bool) (A : Nat → Bool) (n : Nat) : List Bool := iterL N n n ((List.range n).map A)
theorem row_getD {n : Nat} {M : Nat → Bool} {j : Nat} : ((List.range n).map M).getD j false = (decide (j < n) && M j) := by
  rw [List.getD_eq_getElem?_getD, List.getElem?_map]
  by_cases h : j < n
  · rw [List.getElem?_range h, decide_eq_true h]; rfl
  · rw [List.getElem?_eq_none (by simpa using h), decide_eq_false h]; rfl
theorem roundL_getD {N : Nat → Nat → Bool} {n : Nat} {r : List Bool} {j : Nat} : (roundL N n r).getD j false = true ↔ j < n ∧ (r.getD j false = true ∨ ∃ k, k < n ∧ r.getD k false = true ∧ N k j = true) := by
  unfold roundL
  rw [row_getD]
  simp only [Bool.and_eq_true, decide_eq_true_eq, Bool.or_eq_true, List.any_eq_true, List.mem_range]
theorem iter_sound {N : Nat → Nat → Bool} {A : Nat → Bool} {n : Nat} : ∀ (m : Nat) (r : List Bool), (∀ j, r.getD j false = true → Come N A j) → ∀ j, (iterL N n m r).getD j false = true → Come N A j
  | 0, r, h, j, hj => h j hj
  | m + 1, r, h, j, hj => iter_sound m _ (fun j hj => by
      obtain ⟨_, h1 | ⟨k, _, hk, hN⟩⟩ := roundL_getD.1 hj
      · exact h j h1
      · exact .step (h k hk) hN) j hj
def cnt (n : Nat) (r : List Bool) : Nat := card n fun j => r.getD j false
theorem card_mono {n : Nat} {M M' : Nat → Bool} (h : ∀ j, M j = true → M' j = true) : card n M ≤ card n M' := List.countP_mono_left fun j _ hj => h j hj
theorem card_lt {n : Nat} {M M' : Nat → Bool} (h : ∀ j, M j = true → M' j = true) {i : Nat} (hi : i < n) (h1 : M i = false) (h2 : M' i = true) : card n M + 1 ≤ card n M' := by
  rw [← card_add h1 hi]
  refine card_mono fun j hj => ?_
  rw [Bool.or_eq_true] at hj
  rcases hj with hj | hj
  · exact h j hj
  · rw [beq_iff_eq] at hj; subst hj; exact h2
theorem card_full {n : Nat} {M : Nat → Bool} (h : n ≤ card n M) : ∀ j, j < n → M j = true := by
  intro j hj
  cases hM : M j with
  | true => rfl
  | false =>
    have h1 := card_add hM hj
    have := @card_le n (fun k => M k || (k == j))
    omega
def closedL (N : Nat → Nat → Bool) (n : Nat) (r : List Bool) : Prop := ∀ k j, k < n → j < n → r.getD k false = true → N k j = true → r.getD j false = true
theorem iter_closed {N : Nat → Nat → Bool} {n : Nat} : ∀ (m : Nat) (r : List Bool), closedL N n r ∨ n ≤ cnt n r + m → (closedL N n (iterL N n m r)) ∧ ∀ j, j < n → r.getD j false = true → (iterL N n m r).getD j false = true
  | 0, r, h => by
    refine ⟨?_, fun j _ h => h⟩
    rcases h with h | h
    · exact h
    · exact fun k j _ hj _ _ => card_full (M := fun j => r.getD j false) (by simpa [cnt] using h) j hj
  | m + 1, r, h => by
    have keep : ∀ j, j < n → r.getD j false = true → (roundL N n r).getD j false = true := fun j hj h => roundL_getD.2 ⟨hj, .inl h⟩
    have hrec := iter_closed m (roundL N n r) (by
      rcases h with h | h
      · left
        intro k j hk hj h1 h2
        refine keep j hj ?_
        obtain ⟨_, h3 | ⟨q, hq, h3, h4⟩⟩ := roundL_getD.1 h1
        · exact h k j hk hj h3 h2
        · exact h k j hk hj (h q k hq hk h3 h4) h2
      · by_cases hc : closedL N n (roundL N n r)
        · exact .inl hc
        · right
          -- something is new
          have hnc : ¬ closedL N n r := fun hc' => hc (by
            intro k j hk hj h1 h2
            refine keep j hj ?_
            obtain ⟨_, h3 | ⟨q, hq, h3, h4⟩⟩ := roundL_getD.1 h1
            · exact hc' k j hk hj h3 h2
            · exact hc' k j hk hj (hc' q k hq hk h3 h4) h2)
          have ⟨k, j, hk, hj, h1, h2, h3⟩ : ∃ k j, k < n ∧ j < n ∧ r.getD k false = true ∧ N k j = true ∧ r.getD j false = false := by
            refine Classical.byContradiction fun hn => hnc fun k j hk hj h1 h2 => ?_
            cases hb : r.getD j false with
            | true => rfl
            | false => exact absurd ⟨k, j, hk, hj, h1, h2, hb⟩ hn
          have hlt : card n (fun j => decide (j < n) && r.getD j false) + 1 ≤ cnt n (roundL N n r) := card_lt (M' := fun j => (roundL N n r).getD j false) (fun j hj' => by
            rw [Bool.and_eq_true, decide_eq_true_eq] at hj'
            exact keep j hj'.1 hj'.2) hj (by rw [h3, Bool.and_false]) (roundL_getD.2 ⟨hj, .inr ⟨k, hk, h1, h2⟩⟩)
          have he : card n (fun j => decide (j < n) && r.getD j false) = cnt n r := List.countP_congr fun j hj => by
            have := List.mem_range.1 hj
            simp [this]
          omega)
    exact ⟨hrec.1, fun j hj h1 => hrec.2 j hj (keep j hj h1)⟩
theorem comeL_eq {N : Nat → Nat → Bool} {A : Nat → Bool} {n : Nat} (hA : ∀ j, A j = true → j < n) (hN : ∀ k j, N k j = true → j < n) (j : Nat) : comeB N A j = (comeL N A n).getD j false := by
  obtain ⟨hc, hk⟩ := iter_closed (N := N) (n := n) n ((List.range n).map A) (.inr (Nat.le_add_left _ _))
  have hlt : ∀ m r j, r.length ≤ n → (iterL N n m r).getD j false = true → j < n := by
    intro m
    induction m with
    | zero =>
      intro r j hr h
      have h : r.getD j false = true := h
      rw [List.getD_eq_getElem?_getD] at h
      by_cases hj : j < r.length
      · omega
      · rw [List.getElem?_eq_none (by omega)] at h; cases h
    | succ m ih => intro r j _ h; exact ih _ j (by simp [roundL]) h
  symm
  refine comeB_eq (M := fun j => (comeL N A n).getD j false) (fun j hj => hk j (hA j hj) ?_) (fun k j h1 h2 => ?_) (fun j hj => ?_) j
  · rw [row_getD, decide_eq_true (hA j hj), hj]; rfl
  · exact hc k j (hlt n _ k (by simp) h1) (hN k j h2) h1 h2
  · exact iter_sound n _ (fun j hj => by
      rw [row_getD, Bool.and_eq_true] at hj
      exact .start hj.2) j hj
end Go.Ev
end

section
set_option linter.unusedSectionVars false
set_option linter.unusedVariables false
set_option linter.unusedSimpArgs false
/- Which accesses clash, and over which chains one comes back. -/
set_option maxRecDepth 100000
set_option linter.unusedVariables false
set_option linter.unusedSimpArgs false
open Go
namespace Go.Ev
abbrev Acc := El T_api_Access
def accA (l : List Acc) (i : Nat) : Acc := l.getD i (dflt T_api_Access)
def thA (l : List Acc) (i : Nat) : Int := (accA l i).1
def inA (l : List Acc) (i : Nat) : Int := (accA l i).2.1
def paA (l : List Acc) (i : Nat) : Int := (accA l i).2.2.1
def clB (l : List Acc) (i j : Nat) : Bool := v_clash_clash (accA l i) (accA l j)
/-- The thread of an access. -/
def thrOf (p : El T_api_Prog) (l : List Acc) (c : Nat) : List (El T_api_Ins) := p.2.getD (thA l c).toNat (dflt (.sl T_api_Ins))
/-- Does access d follow c, or is it c? -/
noncomputable def behB (p : El T_api_Prog) (l : List Acc) (c d : Nat) : Bool :=
  decide (d < l.length) && (thA l d == thA l c && (d == c || ((inA l d == inA l c && decide (paA l d > paA l c)) || (decide (0 ≤ inA l d) && fromB (thrOf p l c) (inA l c) (inA l d).toNat))))
theorem behB_lt {p : El T_api_Prog} {l : List Acc} {c d : Nat} (h : behB p l c d = true) : d < l.length ∧ thA l d = thA l c := by
  unfold behB at h
  simp only [Bool.and_eq_true, decide_eq_true_eq, beq_iff_eq] at h
  exact ⟨h.1, h.2.1⟩
theorem behB_self {p : El T_api_Prog} {l : List Acc} {c : Nat} (h : c < l.length) : behB p l c c = true := by
  unfold behB
  simp [h]
theorem from_trans {t : List (El T_api_Ins)} {i : Int} {j k : Nat} (h1 : fromB t i j = true) (h2 : fromB t (j : Int) k = true) : fromB t i k = true := by
  unfold fromB at *
  rw [comeB_iff] at *
  induction h2 with
  | start h => exact .step h1 h
  | step _ h ih => exact .step ih h
theorem behB_trans {p : El T_api_Prog} {l : List Acc} {c d e : Nat} (h1 : behB p l c d = true) (h2 : behB p l d e = true) : behB p l c e = true := by
  unfold behB at *
  have ht : thrOf p l d = thrOf p l c := by
    simp only [Bool.and_eq_true, beq_iff_eq] at h1
    unfold thrOf
    rw [h1.2.1]
  rw [ht] at h2
  simp only [Bool.and_eq_true, Bool.or_eq_true, decide_eq_true_eq, beq_iff_eq] at *
  obtain ⟨a1, a2, a3⟩ := h1
  obtain ⟨b1, b2, b3⟩ := h2
  refine ⟨b1, b2.trans a2, ?_⟩
  rcases a3 with rfl | a3
  · exact b3
  rcases b3 with rfl | b3
  · exact .inr a3
  right
  rcases a3 with ⟨a3, a4⟩ | ⟨a3, a4⟩
  · rcases b3 with ⟨b3, b4⟩ | ⟨b3, b4⟩
    · exact .inl ⟨b3.trans a3, by omega⟩
    · right
      rw [a3] at b4
      exact ⟨b3, b4⟩
  · right
    rcases b3 with ⟨b3, b4⟩ | ⟨b3, b4⟩
    · rw [b3]
      exact ⟨a3, a4⟩
    · refine ⟨b3, from_trans a4 ?_⟩
      rw [Int.toNat_of_nonneg a3]
      exact b4
/-- Chains: to which accesses of other threads one comes from a. -/
noncomputable def chB (p : El T_api_Prog) (l : List Acc) (a i k : Nat) : Bool := decide (k < l.length) && (!(thA l k == thA l a) && (clB l i k || behB p l i k))
def chS (l : List Acc) (a k : Nat) : Bool := decide (k < l.length) && clB l a k
noncomputable def isB (p : El T_api_Prog) (l : List Acc) (a k : Nat) : Bool := comeB (chB p l a) (chS l a) k
noncomputable def backB (p : El T_api_Prog) (l : List Acc) (a b : Nat) : Bool := thA l b == thA l a && (List.range l.length).any fun k => isB p l a k && clB l k b
theorem clB_th {l : List Acc} {i j : Nat} (h : clB l i j = true) : thA l i ≠ thA l j := by
  intro e
  unfold clB v_clash_clash at h
  have : ((accA l i).1 != (accA l j).1) = false := by
    show ((thA l i) != (thA l j)) = false
    rw [e]; simp
  rw [this] at h
  cases h
theorem is_lt {p : El T_api_Prog} {l : List Acc} {a k : Nat} (h : isB p l a k = true) : k < l.length ∧ thA l k ≠ thA l a := by
  have h := comeB_iff.1 h
  cases h with
  | start h =>
    unfold chS at h
    simp only [Bool.and_eq_true, decide_eq_true_eq] at h
    exact ⟨h.1, fun e => clB_th h.2 e.symm⟩
  | step _ h =>
    unfold chB at h
    simp only [Bool.and_eq_true, decide_eq_true_eq, Bool.not_eq_true', beq_eq_false_iff_ne] at h
    exact ⟨h.1, h.2.1⟩
/-- What is gone to, and come to, is what the chains come to. -/
theorem gone_is {p : El T_api_Prog} {l : List Acc} {a : Nat} {C G : Nat → Bool} (hC : ∀ c, C c = true ↔ c < l.length ∧ thA l c ≠ thA l a ∧ (clB l a c = true ∨ ∃ k, G k = true ∧ clB l k c = true)) (hG : ∀ d, G d = true ↔ ∃ c, C c = true ∧ behB p l c d = true)
    (hs : ∀ d, G d = true → isB p l a d = true) (d : Nat) : G d = isB p l a d := by
  refine comeB_eq (fun j hj => ?_) (fun k j hk hj => ?_) (fun j hj => comeB_iff.1 (hs j hj)) d
  · unfold chS at hj
    simp only [Bool.and_eq_true, decide_eq_true_eq] at hj
    exact (hG j).2 ⟨j, (hC j).2 ⟨hj.1, fun e => clB_th hj.2 e.symm, .inl hj.2⟩, behB_self hj.1⟩
  · unfold chB at hj
    simp only [Bool.and_eq_true, decide_eq_true_eq, Bool.not_eq_true', beq_eq_false_iff_ne, Bool.or_eq_true] at hj
    obtain ⟨h1, h2, h3⟩ := hj
    rcases h3 with h3 | h3
    · exact (hG j).2 ⟨j, (hC j).2 ⟨h1, h2, .inr ⟨k, hk, h3⟩⟩, behB_self h1⟩
    · obtain ⟨c, hc, hb⟩ := (hG k).1 hk
      exact (hG j).2 ⟨c, hc, behB_trans hb h3⟩
variable {s : Int × List (Int × Int)} {n : Nat} {M : Nat → Bool}
theorem SetOK.putO (h : SetOK s n M) (hn : n < 4611686018427387904) {j : Nat} (hj : j < n) : (putS s (j : Int)).1 = (!M j) ∧ SetOK (putS s (j : Int)).2 n (fun k => M k || (k == j)) := by
  cases hb : M j with
  | false =>
    obtain ⟨p1, p2⟩ := h.put hn hj hb
    exact ⟨p1, p2⟩
  | true =>
    rw [h.put_no hn (i := (j : Int)) fun hh => by rw [Int.toNat_natCast, hb] at hh; cases hh.2.2]
    refine ⟨rfl, ?_⟩
    rw [show (fun k => M k || (k == j)) = M from funext fun k => by
      by_cases hk : k = j
      · subst hk; rw [hb]; rfl
      · have : (k == j) = false := by simp; omega
        rw [this, Bool.or_false]]
    exact h
theorem SetOK.congr' {M' : Nat → Bool} (h : SetOK s n M) (e : ∀ j, M j = M' j) : SetOK s n M' := by rwa [show M' = M from funext fun j => (e j).symm]
/-- The rest of a list of what is so. -/
def listR (n : Nat) (M : Nat → Bool) (h : Nat) : List Int := ((List.range' h (n - h)).filter M).map Int.ofNat
theorem listR_zero : listR n M 0 = listOf n M := by unfold listR listOf; rw [List.range_eq_range', Nat.sub_zero]
theorem listR_end : listR n M n = [] := by unfold listR; rw [Nat.sub_self]; rfl
theorem listR_step {h : Nat} (hh : h < n) : listR n M h = if M h = true then (h : Int) :: listR n M (h + 1) else listR n M (h + 1) := by
  unfold listR
  rw [show n - h = (n - (h + 1)) + 1 by omega, List.range'_succ, List.filter_cons]
  split <;> rfl
end Go.Ev
end

section
set_option linter.unusedSectionVars false
set_option linter.unusedVariables false
set_option linter.unusedSimpArgs false
set_option maxRecDepth 100000
set_option linter.unusedVariables false
set_option linter.unusedSimpArgs false
open Go
namespace Go.Ev
abbrev SetT := Int × List (Int × Int)
/-- One access is met, or not. -/
def meet1 (l : List Acc) (x own a : Int) (h : Nat) (s : SetT × List Int × SetT) : SetT × List Int × SetT :=
  if clB l x.toNat h = true then
    (if thA l h ≠ own then ((putS s.1 (h : Int)).2, (if (putS s.1 (h : Int)).1 = true then s.2.1 ++ [(h : Int)] else s.2.1), s.2.2)
     else if x ≠ a then (s.1, s.2.1, (putS s.2.2 (h : Int)).2) else s)
  else s
def meetF (l : List Acc) (x own a : Int) : List Nat → SetT × List Int × SetT → SetT × List Int × SetT
  | [], s => s
  | h :: r, s => meetF l x own a r (meet1 l x own a h s)
def v_clash_Back_1 (x : Int) (l : List (El T_api_Access)) (own : Int) (come : SetT) (open_ : List Int) (a : Int) (back : SetT) : (List (El T_api_Access)) × Int × SetT × (List Int) × Int × SetT :=
  (l, own, (meetF l x own a (List.range' 0 l.length) (come, open_, back)).1, (meetF l x own a (List.range' 0 l.length) (come, open_, back)).2.1, a, (meetF l x own a (List.range' 0 l.length) (come, open_, back)).2.2)
def k_clash_Back_1 (x : Int) (l : List (El T_api_Access)) (own : Int) (come : SetT) (open_ : List Int) (a : Int) (back : SetT) : Bool := decide (0 ≤ x ∧ x < (l.length : Int) ∧ l.length < 1099511627776 ∧ open_.length < 1099511627776)
theorem g_clash_Back_1 (x : Int) (l : List (El T_api_Access)) (own : Int) (come : SetT) (open_ : List Int) (a : Int) (back : SetT) (hk : k_clash_Back_1 x l own come open_ a back = true) : Goes (T_clash_Back_1 x l own come open_ a back) (T0_clash_Back_1 x l own come open_ a back) (v_clash_Back_1 x l own come open_ a back) := by
  obtain ⟨x0, x1, hN, hO⟩ := of_decide_eq_true hk
  obtain ⟨T, hT⟩ : ∃ T, T = T_clash_Back_1 x l own come open_ a back := ⟨_, rfl⟩
  rw [← hT]
  have loop : ∀ h, h ≤ l.length → ∀ s : SetT × List Int × SetT, s.2.1.length ≤ open_.length + h → Goes T (.jmp (.l1 (h : Int) s.1.1 s.2.1 s.1.2 s.2.2.1 s.2.2.2)) (l, own, (meetF l x own a (List.range' h (l.length - h)) s).1, (meetF l x own a (List.range' h (l.length - h)) s).2.1, a, (meetF l x own a (List.range' h (l.length - h)) s).2.2) := by
    refine down ?_ fun h hh ih => ?_
    · intro s hs
      rw [goes_jmp, hT, T_clash_Back_1, ← hT, goes_br, if_neg (by rw [lt_len_not (Nat.lt_irrefl _)]; decide), Nat.sub_self]
      exact .leaf
    · intro s hs
      have hx1 : decide ((0 : Int) ≤ x) = true := decide_eq_true x0
      have hx2 : decide (x < Int.ofNat l.length) = true := decide_eq_true x1
      rw [show l.length - h = (l.length - (h + 1)) + 1 by omega, List.range'_succ, meetF]
      have ec : v_clash_clash (List.getD l x.toNat (dflt T_api_Access)) (List.getD l h (dflt T_api_Access)) = clB l x.toNat h := rfl
      have et : (List.getD l h (dflt T_api_Access)).1 = thA l h := rfl
      have hp : v_bits_Set_Put (s.1.1, s.1.2) (h : Int) = putS s.1 (h : Int) := rfl
      have hp2 : v_bits_Set_Put (s.2.2.1, s.2.2.2) (h : Int) = putS s.2.2 (h : Int) := rfl
      have b1 : Nat.ble ((s.2.1.length + 1) * 8) limit = true := Nat.ble_eq_true_of_le (by unfold limit; omega)
      have key := ih (meet1 l x own a h s)
      rw [goes_jmp, hT, T_clash_Back_1, ← hT]
      simp only [goes_br, lt_len hh, nng, hx1, hx2, Bool.and_self, if_true, Int.toNat_natCast, ec, et, hp, hp2, b1, wrap_succ (k := h) (by omega)]
      by_cases c1 : clB l x.toNat h = true
      · rw [if_neg (by rw [c1]; decide)]
        by_cases c2 : thA l h = own
        · rw [if_neg (by simp [c2])]
          by_cases c3 : x = a
          · have hm : meet1 l x own a h s = s := by unfold meet1; rw [if_pos c1, if_neg (by simp [c2]), if_neg (by simp [c3])]
            rw [hm] at key ⊢
            rw [if_neg (by simp [c3])]
            exact key (by omega)
          · have hm : meet1 l x own a h s = (s.1, s.2.1, (putS s.2.2 (h : Int)).2) := by unfold meet1; rw [if_pos c1, if_neg (by simp [c2]), if_pos c3]
            rw [hm] at key ⊢
            rw [if_pos (by simpa using c3)]
            exact key (by show s.2.1.length ≤ _; omega)
        · rw [if_pos (by simpa using c2)]
          by_cases c4 : (putS s.1 (h : Int)).1 = true
          · have hm : meet1 l x own a h s = ((putS s.1 (h : Int)).2, s.2.1 ++ [(h : Int)], s.2.2) := by unfold meet1; rw [if_pos c1, if_pos c2, if_pos c4]
            rw [hm] at key ⊢
            rw [if_pos c4]
            exact key (by show (s.2.1 ++ [(h : Int)]).length ≤ _; simp; omega)
          · have hm : meet1 l x own a h s = ((putS s.1 (h : Int)).2, s.2.1, s.2.2) := by unfold meet1; rw [if_pos c1, if_pos c2, if_neg c4]
            rw [hm] at key ⊢
            rw [if_neg c4]
            exact key (by show s.2.1.length ≤ _; omega)
      · have hm : meet1 l x own a h s = s := by unfold meet1; rw [if_neg c1]
        rw [hm] at key ⊢
        rw [if_pos (by simpa using c1)]
        exact key (by omega)
  exact loop 0 (Nat.zero_le _) (come, open_, back) (by simp)
end Go.Ev
end

section
set_option linter.unusedSectionVars false
set_option linter.unusedVariables false
set_option linter.unusedSimpArgs false
set_option maxRecDepth 100000
set_option linter.unusedVariables false
open Go Go.Ev
namespace Go.Ev
noncomputable section
noncomputable def e_clash_Back_1 : Run := entO sg_clash_Back_1 K_clash_Back_1 (fun a => k_clash_Back_1 a.1 a.2.1 a.2.2.1 a.2.2.2.1 a.2.2.2.2.1 a.2.2.2.2.2.1 a.2.2.2.2.2.2.1) (fun a => v_clash_Back_1 a.1 a.2.1 a.2.2.1 a.2.2.2.1 a.2.2.2.2.1 a.2.2.2.2.2.1 a.2.2.2.2.2.2.1)
theorem ok_clash_Back_1 : EntOK Go.Proofs.Tryz.prog 43 e_clash_Back_1 := entO_ok (tb := tb_clash_Back_1) (c := c_clash_Back_1) (noRun_ok (known_of (fn := Go.Proofs.Tryz.f43) (c := c_clash_Back_1) (by kernel_rfl) (by kernel_rfl) (by kernel_rfl))) tk_clash_Back_1 (by kernel_rfl) (by kernel_rfl) (fun a => by kernel_rfl) fun ⟨x, l, own, come, open_, a, back, _⟩ hk => evF_goes (c := c_clash_Back_1) (K := K_clash_Back_1) (S := S_clash_Back_1 x l own come open_ a back) (by kernel_rfl) (en_clash_Back_1 x l own come open_ a back) (lp_clash_Back_1 x l own come open_ a back) (g_clash_Back_1 x l own come open_ a back hk)
end
end Go.Ev
end

section
set_option linter.unusedSectionVars false
set_option linter.unusedVariables false
set_option linter.unusedSimpArgs false
set_option maxRecDepth 100000
set_option linter.unusedVariables false
open Go Go.Ev
namespace Go.Ev
noncomputable section
/-! ### paling/valid.Find -/
def sg_valid_Find : Sig := [(true, (.sl T_api_Ins)), (false, .str)]
noncomputable def t_valid_Find : Tbl := []
theorem tk_valid_Find : ∀ p ∈ t_valid_Find, EntOK Go.Proofs.Tryz.prog p.1 p.2 := tbl_nil
noncomputable def c_valid_Find : Code := Go.Proofs.Tryz.f96.body.getD .skip
def tb_valid_Find : Tb := [(3, ⟨[1, 10, 11, 12], []⟩), (9, ⟨[1, 5, 10, 11, 12, 18, 19, 20], []⟩)]
inductive J_valid_Find where
  | l3 (h : Int)
  | l9 (h : List ByteArray) (h1 : Int) (h2 : Int) (k : Int) (h3 : Int)
def T_valid_Find (t : List (El T_api_Ins)) (label : ByteArray) : J_valid_Find → JT J_valid_Find (Int)
  | .l3 h =>
    .br (decide (h < (Int.ofNat (List.length t))))
      (.br ((decide ((0 : Int) ≤ h)) && (decide (h < (Int.ofNat (List.length t)))))
        (.jmp (.l9 (List.getD t (Int.toNat h) (dflt T_api_Ins)).2.2.2.2.2.2 (Int.ofNat (List.length (List.getD t (Int.toNat h) (dflt T_api_Ins)).2.2.2.2.2.2)) (0 : Int) h h))
      (.no))
    (.leaf (-1 : Int))
  | .l9 h h1 h2 k h3 =>
    .br (decide (h2 < h1))
      (.br ((decide ((0 : Int) ≤ h2)) && (decide (h2 < (Int.ofNat (List.length h)))))
        (.br (eqB (List.getD h (Int.toNat h2) (dflt .str)) label)
          (.leaf k)
        (.jmp (.l9 h h1 (IntKind.i64.wrap (h2 + (1 : Int))) k h3)))
      (.no))
    (.jmp (.l3 (IntKind.i64.wrap (h3 + (1 : Int)))))
def T0_valid_Find (t : List (El T_api_Ins)) (label : ByteArray) : JT J_valid_Find (Int) :=
  .jmp (.l3 (0 : Int))
def R_valid_Find : Int → AV := fun (r : Int) => .d (.int .i64) r
def S_valid_Find (t : List (El T_api_Ins)) (label : ByteArray) : J_valid_Find → Nat × St
  | .l3 h => (3, ⟨mkTm 30 [(1, .d .str label), (10, .d (.sl T_api_Ins) t), (11, .d (.int .i64) (Int.ofNat (List.length t))), (12, .d (.int .i64) h)], []⟩)
  | .l9 h h1 h2 k h3 => (9, ⟨mkTm 30 [(1, .d .str label), (5, .d (.int .i64) k), (10, .d (.sl T_api_Ins) t), (11, .d (.int .i64) (Int.ofNat (List.length t))), (12, .d (.int .i64) h3), (18, .d (.sl .str) h), (19, .d (.int .i64) h1), (20, .d (.int .i64) h2)], []⟩)
theorem en_valid_Find (t : List (El T_api_Ins)) (label : ByteArray) (L : Lt) : entryA Go.Proofs.Tryz.prog (clOf t_valid_Find) tb_valid_Find Go.Proofs.Tryz.f96 c_valid_Find L (toForms sg_valid_Find (t, label, ())) = (T0_valid_Find t label).run (fun v => some (R_valid_Find v, tps (toForms sg_valid_Find (t, label, ())))) fun j => L (S_valid_Find t label j).1 (S_valid_Find t label j).2 := by kernel_rfl
theorem lp_valid_Find (t : List (El T_api_Ins)) (label : ByteArray) : ∀ (L : Lt) (j : J_valid_Find), procOf (procsF Go.Proofs.Tryz.prog (clOf t_valid_Find) tb_valid_Find Go.Proofs.Tryz.f96 c_valid_Find (toForms sg_valid_Find (t, label, ()))) (S_valid_Find t label j).1 L (S_valid_Find t label j).2 = (T_valid_Find t label j).run (fun v => some (R_valid_Find v, tps (toForms sg_valid_Find (t, label, ())))) fun j => L (S_valid_Find t label j).1 (S_valid_Find t label j).2
  | L, .l3 h => by kernel_rfl
  | L, .l9 h h1 h2 k h3 => by kernel_rfl
end
end Go.Ev
end

section
set_option linter.unusedSectionVars false
set_option linter.unusedVariables false
set_option linter.unusedSimpArgs false
set_option linter.unusedVariables false
set_option linter.unusedSimpArgs false
open Go
namespace Go.Ev
def v_valid_Find (t : List (El T_api_Ins)) (label : ByteArray) : Int := findI label t 0
def k_valid_Find (t : List (El T_api_Ins)) (label : ByteArray) : Bool := decide (t.length < 1099511627776) && t.all fun i => decide (i.2.2.2.2.2.2.length < 1099511627776)
theorem g_valid_Find (t : List (El T_api_Ins)) (label : ByteArray) (hk : k_valid_Find t label = true) : Goes (T_valid_Find t label) (T0_valid_Find t label) (v_valid_Find t label) := by
  unfold k_valid_Find at hk
  simp only [Bool.and_eq_true, decide_eq_true_eq, List.all_eq_true] at hk
  obtain ⟨hn, hl⟩ := hk
  have loop : ∀ k, k ≤ t.length → Goes (T_valid_Find t label) (.jmp (.l3 (k : Int))) (findI label (t.drop k) k) := by
    refine down ?_ fun k hk ih => ?_
    · rw [goes_jmp]
      simp only [T_valid_Find, goes_br, lt_len_not (Nat.lt_irrefl _), goes_leaf, List.drop_length]
      simp [findI]
    · have hli := hl t[k] (List.getElem_mem hk)
      rw [goes_jmp]
      simp only [T_valid_Find, goes_br, lt_len hk, nng, Bool.and_self, if_true, Int.toNat_natCast, getD_lt hk]
      rw [drop_cons hk]
      unfold findI
      generalize t[k].2.2.2.2.2.2 = ls at hli
      have inner : ∀ j, j ≤ ls.length → Goes (T_valid_Find t label) (.jmp (.l9 ls (Int.ofNat ls.length) (j : Int) (k : Int) (k : Int))) (if (ls.drop j).contains label then (k : Int) else findI label (t.drop (k + 1)) (k + 1)) := by
        refine down ?_ fun j hj ihj => ?_
        · rw [goes_jmp]
          simp only [T_valid_Find, goes_br, lt_len_not (Nat.lt_irrefl _), wrap_succ (k := k) (by omega), List.drop_length]
          simpa using ih
        · rw [goes_jmp]
          simp only [T_valid_Find, goes_br, lt_len hj, nng, Bool.and_self, if_true, Int.toNat_natCast, getD_lt hj, wrap_succ (k := j) (by omega), eqB_iff]
          rw [drop_cons hj, List.contains_cons]
          by_cases h : ls[j] = label
          · rw [if_pos h]; subst h; simp [goes_leaf]
          · rw [if_neg h, beq_false_of_ne (Ne.symm h), Bool.false_or]
            exact ihj
      simpa using inner 0 (Nat.zero_le _)
  unfold T0_valid_Find v_valid_Find
  simpa using loop 0 (Nat.zero_le _)
end Go.Ev
end

section
set_option linter.unusedSectionVars false
set_option linter.unusedVariables false
set_option linter.unusedSimpArgs false
set_option maxRecDepth 100000
set_option linter.unusedVariables false
open Go Go.Ev
namespace Go.Ev
noncomputable section
noncomputable def e_valid_Find : Run := entG sg_valid_Find R_valid_Find (fun a => k_valid_Find a.1 a.2.1) (fun a => v_valid_Find a.1 a.2.1)
theorem ok_valid_Find : EntOK Go.Proofs.Tryz.prog 96 e_valid_Find := entG_ok (tb := tb_valid_Find) (c := c_valid_Find) tk_valid_Find (by kernel_rfl) (by kernel_rfl) (by kernel_rfl) (fun a => by kernel_rfl) fun ⟨t, label, _⟩ hk => evF_goes (c := c_valid_Find) (K := fun v => (R_valid_Find v, tps (toForms sg_valid_Find (t, label, ())))) (S := S_valid_Find t label) (by kernel_rfl) (en_valid_Find t label) (lp_valid_Find t label) (g_valid_Find t label hk)
end
end Go.Ev
end

section
set_option linter.unusedSectionVars false
set_option linter.unusedVariables false
set_option linter.unusedSimpArgs false
set_option maxRecDepth 100000
set_option linter.unusedVariables false
open Go Go.Ev
namespace Go.Ev
noncomputable section
/-! ### paling/flow.Next -/
def sg_flow_Next : Sig := [(true, (.sl T_api_Ins)), (false, (.int .i64))]
noncomputable def t_flow_Next : Tbl := [(95, e_ins_Leads), (96, e_valid_Find)]
theorem tk_flow_Next : ∀ p ∈ t_flow_Next, EntOK Go.Proofs.Tryz.prog p.1 p.2 := tbl_cons ok_ins_Leads (tbl_cons ok_valid_Find (tbl_nil))
noncomputable def c_flow_Next : Code := Go.Proofs.Tryz.f74.body.getD .skip
def tb_flow_Next : Tb := [(12, ⟨[1, 5, 8, 55, 68, 76], [(9, 74)]⟩), (14, ⟨[5, 8, 78], []⟩), (hintK, ⟨[], [(1, 74)]⟩)]
inductive J_flow_Next where
  | l12 (to_ : Int) (out : List Int) (h : Bool)
  | l14 (to_ : Int) (out : List Int) (h : Bool)
def T_flow_Next (t : List (El T_api_Ins)) (i : Int) : J_flow_Next → JT J_flow_Next (List Int)
  | .l12 to_ out h =>
    .br h
      (.br (Nat.ble (((List.length out) + 1) * 8) limit)
        (.br (decide (to_ > i))
          (.br ((Int.ofNat (List.length (out ++ [(IntKind.i64.wrap (i + (1 : Int)))]))) == (0 : Int))
            (.jmp (.l14 to_ (out ++ [(IntKind.i64.wrap (i + (1 : Int)))]) true))
          (.br ((decide ((0 : Int) ≤ (IntKind.i64.wrap ((Int.ofNat (List.length (out ++ [(IntKind.i64.wrap (i + (1 : Int)))]))) - (1 : Int))))) && (decide ((IntKind.i64.wrap ((Int.ofNat (List.length (out ++ [(IntKind.i64.wrap (i + (1 : Int)))]))) - (1 : Int))) < (Int.ofNat (List.length (out ++ [(IntKind.i64.wrap (i + (1 : Int)))]))))))
            (.jmp (.l14 to_ (out ++ [(IntKind.i64.wrap (i + (1 : Int)))]) ((List.getD (out ++ [(IntKind.i64.wrap (i + (1 : Int)))]) (Int.toNat (IntKind.i64.wrap ((Int.ofNat (List.length (out ++ [(IntKind.i64.wrap (i + (1 : Int)))]))) - (1 : Int)))) (dflt (.int .i64))) != to_)))
          (.no)))
        (.jmp (.l14 to_ (out ++ [(IntKind.i64.wrap (i + (1 : Int)))]) false)))
      (.no))
    (.br (decide (to_ > i))
      (.br ((Int.ofNat (List.length out)) == (0 : Int))
        (.jmp (.l14 to_ out true))
      (.br ((decide ((0 : Int) ≤ (IntKind.i64.wrap ((Int.ofNat (List.length out)) - (1 : Int))))) && (decide ((IntKind.i64.wrap ((Int.ofNat (List.length out)) - (1 : Int))) < (Int.ofNat (List.length out)))))
        (.jmp (.l14 to_ out ((List.getD out (Int.toNat (IntKind.i64.wrap ((Int.ofNat (List.length out)) - (1 : Int)))) (dflt (.int .i64))) != to_)))
      (.no)))
    (.jmp (.l14 to_ out false)))
  | .l14 to_ out h =>
    .br h
      (.br (Nat.ble (((List.length out) + 1) * 8) limit)
        (.leaf (out ++ [to_]))
      (.no))
    (.leaf out)
def T0_flow_Next (t : List (El T_api_Ins)) (i : Int) : JT J_flow_Next (List Int) :=
  .br (decide (i < (0 : Int)))
    (.leaf [])
  (.br (decide (i ≥ (Int.ofNat (List.length t))))
    (.leaf [])
  (.br ((decide ((0 : Int) ≤ i)) && (decide (i < (Int.ofNat (List.length t)))))
    (.br (k_ins_Leads (List.getD t (Int.toNat i) (dflt T_api_Ins)))
      (.br (v_ins_Leads (List.getD t (Int.toNat i) (dflt T_api_Ins))).2
        (.br ((decide ((0 : Int) ≤ i)) && (decide (i < (Int.ofNat (List.length t)))))
          (.br (k_valid_Find t (List.getD t (Int.toNat i) (dflt T_api_Ins)).2.2.2.2.2.1)
            (.br (decide ((v_valid_Find t (List.getD t (Int.toNat i) (dflt T_api_Ins)).2.2.2.2.2.1) ≥ (0 : Int)))
              (.br (decide ((v_valid_Find t (List.getD t (Int.toNat i) (dflt T_api_Ins)).2.2.2.2.2.1) ≤ i))
                (.br (v_ins_Leads (List.getD t (Int.toNat i) (dflt T_api_Ins))).1
                  (.jmp (.l12 (v_valid_Find t (List.getD t (Int.toNat i) (dflt T_api_Ins)).2.2.2.2.2.1) [(v_valid_Find t (List.getD t (Int.toNat i) (dflt T_api_Ins)).2.2.2.2.2.1)] (decide ((IntKind.i64.wrap (i + (1 : Int))) < (Int.ofNat (List.length t))))))
                (.jmp (.l12 (v_valid_Find t (List.getD t (Int.toNat i) (dflt T_api_Ins)).2.2.2.2.2.1) [(v_valid_Find t (List.getD t (Int.toNat i) (dflt T_api_Ins)).2.2.2.2.2.1)] false)))
              (.br (v_ins_Leads (List.getD t (Int.toNat i) (dflt T_api_Ins))).1
                (.jmp (.l12 (v_valid_Find t (List.getD t (Int.toNat i) (dflt T_api_Ins)).2.2.2.2.2.1) [] (decide ((IntKind.i64.wrap (i + (1 : Int))) < (Int.ofNat (List.length t))))))
              (.jmp (.l12 (v_valid_Find t (List.getD t (Int.toNat i) (dflt T_api_Ins)).2.2.2.2.2.1) [] false))))
            (.br (v_ins_Leads (List.getD t (Int.toNat i) (dflt T_api_Ins))).1
              (.jmp (.l12 (v_valid_Find t (List.getD t (Int.toNat i) (dflt T_api_Ins)).2.2.2.2.2.1) [] (decide ((IntKind.i64.wrap (i + (1 : Int))) < (Int.ofNat (List.length t))))))
            (.jmp (.l12 (v_valid_Find t (List.getD t (Int.toNat i) (dflt T_api_Ins)).2.2.2.2.2.1) [] false))))
          (.no))
        (.no))
      (.br (v_ins_Leads (List.getD t (Int.toNat i) (dflt T_api_Ins))).1
        (.jmp (.l12 (-1 : Int) [] (decide ((IntKind.i64.wrap (i + (1 : Int))) < (Int.ofNat (List.length t))))))
      (.jmp (.l12 (-1 : Int) [] false))))
    (.no))
  (.no)))
def R_flow_Next : List Int → AV := fun (r : List Int) => .rw 3 (.int .i64) r
def S_flow_Next (t : List (El T_api_Ins)) (i : Int) : J_flow_Next → Nat × St
  | .l12 to_ out h => (12, ⟨mkTm 84 [(1, .d (.int .i64) i), (5, .d (.int .i64) to_), (8, .own 9 0 none), (55, .d .bool h)], [(9, 0, .row 3 (.int .i64) out false)]⟩)
  | .l14 to_ out h => (14, ⟨mkTm 84 [(5, .d (.int .i64) to_), (8, .own 9 0 none), (78, .d .bool h)], [(9, 0, .row 3 (.int .i64) out false)]⟩)
theorem en_flow_Next (t : List (El T_api_Ins)) (i : Int) (L : Lt) : entryA Go.Proofs.Tryz.prog (clOf t_flow_Next) tb_flow_Next Go.Proofs.Tryz.f74 c_flow_Next L (toForms sg_flow_Next (t, i, ())) = (T0_flow_Next t i).run (fun v => some (R_flow_Next v, tps (toForms sg_flow_Next (t, i, ())))) fun j => L (S_flow_Next t i j).1 (S_flow_Next t i j).2 := by kernel_rfl
theorem lp_flow_Next (t : List (El T_api_Ins)) (i : Int) : ∀ (L : Lt) (j : J_flow_Next), procOf (procsF Go.Proofs.Tryz.prog (clOf t_flow_Next) tb_flow_Next Go.Proofs.Tryz.f74 c_flow_Next (toForms sg_flow_Next (t, i, ()))) (S_flow_Next t i j).1 L (S_flow_Next t i j).2 = (T_flow_Next t i j).run (fun v => some (R_flow_Next v, tps (toForms sg_flow_Next (t, i, ())))) fun j => L (S_flow_Next t i j).1 (S_flow_Next t i j).2
  | L, .l12 to_ out h => by kernel_rfl
  | L, .l14 to_ out h => by kernel_rfl
end
end Go.Ev
end

section
set_option linter.unusedSectionVars false
set_option linter.unusedVariables false
set_option linter.unusedSimpArgs false
set_option maxRecDepth 100000
set_option linter.unusedVariables false
set_option linter.unusedSimpArgs false
open Go
namespace Go.Ev
def v_flow_Next (t : List (El T_api_Ins)) (i : Int) : List Int := listOf t.length (nextB t i)
def k_flow_Next (t : List (El T_api_Ins)) (i : Int) : Bool := flowOK t
theorem nextB_out {t : List (El T_api_Ins)} {i : Int} (h : ¬ (0 ≤ i ∧ i < (t.length : Int))) : listOf t.length (nextB t i) = [] := by
  unfold listOf
  rw [List.map_eq_nil_iff, List.filter_eq_nil_iff]
  intro j _ hb
  unfold nextB at hb
  rw [Bool.and_eq_true] at hb
  have := of_decide_eq_true hb.1
  exact h ⟨this.1, this.2.1⟩
theorem g_flow_Next (t : List (El T_api_Ins)) (i : Int) (hk : k_flow_Next t i = true) : Goes (T_flow_Next t i) (T0_flow_Next t i) (v_flow_Next t i) := by
  have hlen := flowOK_len hk
  unfold T0_flow_Next v_flow_Next
  rw [goes_br]
  by_cases h0 : i < 0
  · rw [if_pos (decide_eq_true h0), nextB_out (fun h => by omega)]; exact .leaf
  rw [if_neg (by simpa using h0), goes_br]
  obtain ⟨j, rfl⟩ := Int.eq_ofNat_of_zero_le (show 0 ≤ i by omega)
  by_cases h1 : (t.length : Int) ≤ (j : Int)
  · rw [if_pos (decide_eq_true (show (j : Int) ≥ Int.ofNat t.length from h1)), nextB_out (fun h => by omega)]; exact .leaf
  have hj : j < t.length := by omega
  rw [if_neg (by simp; omega), goes_br, if_pos (bound_len hj), goes_br, Int.toNat_natCast]
  rw [← nextL_eq hj]
  have hmem : t.getD j (dflt T_api_Ins) ∈ t := by rw [getD_lt hj]; exact List.getElem_mem hj
  have kl : k_ins_Leads (t.getD j (dflt T_api_Ins)) = true := k_leads (flowOK_text hk hmem)
  have kf : k_valid_Find t (t.getD j (dflt T_api_Ins)).2.2.2.2.2.1 = true := flowOK_find hk
  have vf : v_valid_Find t (t.getD j (dflt T_api_Ins)).2.2.2.2.2.1 = findI (t.getD j (dflt T_api_Ins)).2.2.2.2.2.1 t 0 := rfl
  rw [if_pos kl]
  have hw : IntKind.i64.wrap ((j : Int) + 1) = (j : Int) + 1 := by rw [wrap_i64 (by omega) (by omega)]
  -- the last label
  have l14 : ∀ (to : Int) (out : List Int) (h : Bool), out.length ≤ 3 → Goes (T_flow_Next t (j : Int)) (.jmp (.l14 to out h)) (out ++ if h = true then [to] else []) := by
    intro to out h ho
    rw [goes_jmp, T_flow_Next, goes_br]
    cases h with
    | true =>
      rw [if_pos rfl, goes_br, if_pos (Nat.ble_eq_true_of_le (by unfold limit; omega)), if_pos rfl]; exact .leaf
    | false => rw [if_neg (by decide), if_neg (by decide), List.append_nil]; exact .leaf
  have last : ∀ (out : List Int) (x : Int), out.length ≤ 1 → (decide ((0 : Int) ≤ IntKind.i64.wrap (Int.ofNat (out ++ [x]).length - 1)) && decide (IntKind.i64.wrap (Int.ofNat (out ++ [x]).length - 1) < Int.ofNat (out ++ [x]).length)) = true ∧ List.getD (out ++ [x]) (IntKind.i64.wrap (Int.ofNat (out ++ [x]).length - 1)).toNat (dflt (.int .i64)) = x := by
    intro out x ho
    have e : IntKind.i64.wrap (Int.ofNat (out ++ [x]).length - 1) = (out.length : Int) := by
      rw [List.length_append, List.length_singleton, wrap_i64 (by simp <;> omega) (by simp <;> omega)]
      simp
    rw [e]
    refine ⟨by simp; omega, ?_⟩
    rw [Int.toNat_natCast]
    simp [List.getD]
  have l12 : ∀ (to : Int) (h : Bool), -1 ≤ to → (h = true → (j : Int) + 1 < t.length) → Goes (T_flow_Next t (j : Int)) (.jmp (.l12 to (if 0 ≤ to ∧ to ≤ (j : Int) then [to] else []) h)) (nextL t.length h to (j : Int)) := by
    intro to h hto hh
    rw [goes_jmp, T_flow_Next]
    unfold nextL
    generalize hout : (if 0 ≤ to ∧ to ≤ (j : Int) then [to] else []) = out
    have hol : out.length ≤ 1 := by rw [← hout]; split <;> simp
    rw [goes_br]
    cases h with
    | true =>
      rw [if_pos rfl, goes_br, if_pos (Nat.ble_eq_true_of_le (by unfold limit; omega)), goes_br, hw]
      have hin := hh rfl
      obtain ⟨b1, b2⟩ := last out ((j : Int) + 1) hol
      rw [if_pos (show true = true ∧ (j : Int) + 1 < (t.length : Int) from ⟨rfl, hin⟩)]
      by_cases hgt : to > (j : Int)
      · rw [if_pos (decide_eq_true hgt), goes_br, if_neg (by simp; omega), goes_br, if_pos b1, b2]
        have := l14 to (out ++ [(j : Int) + 1]) ((j : Int) + 1 != to) (by simp; omega)
        rw [List.append_assoc] at this
        by_cases he : to = (j : Int) + 1
        · rw [if_neg (by simp [he]), List.append_nil] at this
          rw [if_neg (fun h => h.2 ⟨rfl, hin, he⟩), List.append_nil]
          exact this
        · rw [if_pos (by simp; omega)] at this
          rw [if_pos ⟨hgt, fun h => he h.2.2⟩]
          exact this
      · rw [if_neg (by simpa using hgt), if_neg (fun h => hgt h.1), List.append_nil]
        have := l14 to (out ++ [(j : Int) + 1]) false (by simp; omega)
        rwa [if_neg (by decide), List.append_nil] at this
    | false =>
      rw [if_neg (by decide), goes_br, if_neg (c := false = true ∧ (j : Int) + 1 < (t.length : Int)) (fun h => by cases h.1), List.nil_append]
      by_cases hgt : to > (j : Int)
      · have he : out = [] := by rw [← hout, if_neg (fun h => by omega)]
        subst he
        rw [if_pos (decide_eq_true hgt), goes_br, if_pos (show (Int.ofNat ([] : List Int).length == 0) = true from rfl), if_pos ⟨hgt, fun h => by cases h.1⟩]
        have := l14 to [] true (by simp)
        rwa [if_pos rfl] at this
      · rw [if_neg (by simpa using hgt), if_neg (fun h => hgt h.1), List.append_nil]
        have := l14 to out false (by omega)
        rwa [if_neg (by decide), List.append_nil] at this
  have key : ∀ (on : Bool) (to : Int), nextL t.length (bif on then decide ((j : Int) + 1 < Int.ofNat t.length) else false) to (j : Int) = nextL t.length on to (j : Int) := by
    intro on to
    cases on with
    | false => rfl
    | true =>
      show nextL t.length (decide ((j : Int) + 1 < Int.ofNat t.length)) to (j : Int) = nextL t.length true to (j : Int)
      by_cases hin : (j : Int) + 1 < (t.length : Int)
      · rw [decide_eq_true (show (j : Int) + 1 < Int.ofNat t.length from hin)]
      · rw [decide_eq_false (show ¬ (j : Int) + 1 < Int.ofNat t.length from hin)]
        unfold nextL
        rw [if_neg (c := false = true ∧ (j : Int) + 1 < (t.length : Int)) (fun h => by cases h.1), if_neg (c := true = true ∧ (j : Int) + 1 < (t.length : Int)) (fun h => hin h.2)]
        by_cases hgt : to > (j : Int)
        · rw [if_pos (c := to > (j : Int) ∧ ¬ (false = true ∧ (j : Int) + 1 < (t.length : Int) ∧ to = (j : Int) + 1)) ⟨hgt, fun h => by cases h.1⟩, if_pos (c := to > (j : Int) ∧ ¬ (true = true ∧ (j : Int) + 1 < (t.length : Int) ∧ to = (j : Int) + 1)) ⟨hgt, fun h => hin h.2.1⟩]
        · rw [if_neg (c := to > (j : Int) ∧ ¬ (false = true ∧ (j : Int) + 1 < (t.length : Int) ∧ to = (j : Int) + 1)) (fun h => hgt h.1), if_neg (c := to > (j : Int) ∧ ¬ (true = true ∧ (j : Int) + 1 < (t.length : Int) ∧ to = (j : Int) + 1)) (fun h => hgt h.1)]
  have both : ∀ (on : Bool) (to : Int) (out : List Int), -1 ≤ to → out = (if 0 ≤ to ∧ to ≤ (j : Int) then [to] else []) → Goes (T_flow_Next t (j : Int)) (.br on (.jmp (.l12 to out (decide (IntKind.i64.wrap ((j : Int) + 1) < Int.ofNat t.length)))) (.jmp (.l12 to out false))) (nextL t.length on to (j : Int)) := by
    intro on to out hto hout
    subst hout
    rw [goes_br, ← key, hw]
    cases on with
    | true =>
      rw [if_pos rfl, cond_true]
      exact l12 to _ hto fun h => of_decide_eq_true h
    | false =>
      rw [if_neg (by decide), cond_false]
      exact l12 to _ hto fun h => by cases h
  have hr := @toOf_lt t j
  rw [goes_br]
  unfold onOf
  by_cases hjmp : (v_ins_Leads (t.getD j (dflt T_api_Ins))).2 = true
  · have hto : toOf t j = findI (t.getD j (dflt T_api_Ins)).2.2.2.2.2.1 t 0 := by unfold toOf; rw [if_pos hjmp]
    rw [hto] at hr
    rw [if_pos hjmp, goes_br, if_pos (bound_len hj), goes_br, if_pos kf, goes_br, vf, hto]
    generalize findI (t.getD j (dflt T_api_Ins)).2.2.2.2.2.1 t 0 = to at hr
    by_cases h2 : to ≥ 0
    · rw [if_pos (decide_eq_true h2), goes_br]
      by_cases h3 : to ≤ (j : Int)
      · rw [if_pos (decide_eq_true h3)]
        exact both _ to _ hr.1 (by rw [if_pos ⟨h2, h3⟩])
      · rw [if_neg (by simpa using h3)]
        exact both _ to _ hr.1 (by rw [if_neg (fun h => h3 h.2)])
    · rw [if_neg (by simpa using h2)]
      exact both _ to _ hr.1 (by rw [if_neg (fun h => h2 h.1)])
  · have hto : toOf t j = -1 := by unfold toOf; rw [if_neg hjmp]
    rw [if_neg hjmp, hto]
    exact both _ (-1) _ (by omega) (by rw [if_neg (fun h => by omega)])
end Go.Ev
end

section
set_option linter.unusedSectionVars false
set_option linter.unusedVariables false
set_option linter.unusedSimpArgs false
set_option maxRecDepth 100000
set_option linter.unusedVariables false
open Go Go.Ev
namespace Go.Ev
noncomputable section
noncomputable def e_flow_Next : Run := entG sg_flow_Next R_flow_Next (fun a => k_flow_Next a.1 a.2.1) (fun a => v_flow_Next a.1 a.2.1)
theorem ok_flow_Next : EntOK Go.Proofs.Tryz.prog 74 e_flow_Next := entG_ok (tb := tb_flow_Next) (c := c_flow_Next) tk_flow_Next (by kernel_rfl) (by kernel_rfl) (by kernel_rfl) (fun a => by kernel_rfl) fun ⟨t, i, _⟩ hk => evF_goes (c := c_flow_Next) (K := fun v => (R_flow_Next v, tps (toForms sg_flow_Next (t, i, ())))) (S := S_flow_Next t i) (by kernel_rfl) (en_flow_Next t i) (lp_flow_Next t i) (g_flow_Next t i hk)
end
end Go.Ev
end

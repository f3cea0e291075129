/- Part of the proof of: A fence laid in ahead of an instruction does what the point ahead of it does: for every input the law answers true. -/
import Derived.Shelf.Slices.In.SortNone
import Derived.Shelf.Sort.Plain
import Derived.Test.YtcojpeeoodchoaaGreatDoorCon0
section
set_option linter.unusedSectionVars false
set_option linter.unusedVariables false
set_option linter.unusedSimpArgs false
set_option maxRecDepth 100000
set_option linter.unusedVariables false
open Go Go.Ev
namespace Go.Ev
noncomputable section
/-! ### paling/palingref1.ops -/
def sg_ref1_ops : Sig := []
noncomputable def t_ref1_ops : Tbl := []
theorem tk_ref1_ops : ∀ p ∈ t_ref1_ops, EntOK Go.Proofs.Tryz.prog p.1 p.2 := tbl_nil
noncomputable def c_ref1_ops : Code := Go.Proofs.Tryz.f49.body.getD .skip
def tb_ref1_ops : Tb := []
def T_ref1_ops : Empty → JT Empty (List ByteArray) := fun j => nomatch j
def T0_ref1_ops : JT Empty (List ByteArray) :=
  .leaf ([(bs []), (bs [109, 111, 118]), (bs [97, 100, 100]), (bs [115, 117, 98]), (bs [97, 110, 100]), (bs [111, 114]), (bs [120, 111, 114]), (bs [99, 109, 112]), (bs [120, 99, 104, 103]), (bs [99, 109, 112, 120, 99, 104, 103]), (bs [106, 109, 112]), (bs []), (bs [109, 102, 101, 110, 99, 101]), (bs [110, 111, 112]), (bs [104, 108, 116])])
def v_ref1_ops : List ByteArray :=
  ([(bs []), (bs [109, 111, 118]), (bs [97, 100, 100]), (bs [115, 117, 98]), (bs [97, 110, 100]), (bs [111, 114]), (bs [120, 111, 114]), (bs [99, 109, 112]), (bs [120, 99, 104, 103]), (bs [99, 109, 112, 120, 99, 104, 103]), (bs [106, 109, 112]), (bs []), (bs [109, 102, 101, 110, 99, 101]), (bs [110, 111, 112]), (bs [104, 108, 116])])
theorem g_ref1_ops : Goes (T_ref1_ops) (T0_ref1_ops) (v_ref1_ops) :=
  Goes.leaf
def R_ref1_ops : List ByteArray → AV := fun (r : List ByteArray) => .rw 9 .str r
def S_ref1_ops : Empty → Nat × St := fun j => nomatch j
theorem en_ref1_ops (L : Lt) : entryA Go.Proofs.Tryz.prog (clOf t_ref1_ops) tb_ref1_ops Go.Proofs.Tryz.f49 c_ref1_ops L (toForms sg_ref1_ops (())) = (T0_ref1_ops).run (fun v => some (R_ref1_ops v, tps (toForms sg_ref1_ops (())))) fun j => L (S_ref1_ops j).1 (S_ref1_ops j).2 := by kernel_rfl
theorem lp_ref1_ops : ∀ (L : Lt) (j : Empty), procOf (procsF Go.Proofs.Tryz.prog (clOf t_ref1_ops) tb_ref1_ops Go.Proofs.Tryz.f49 c_ref1_ops (toForms sg_ref1_ops (()))) (S_ref1_ops j).1 L (S_ref1_ops j).2 = (T_ref1_ops j).run (fun v => some (R_ref1_ops v, tps (toForms sg_ref1_ops (())))) fun j => L (S_ref1_ops j).1 (S_ref1_ops j).2 := fun L j => nomatch j
noncomputable def e_ref1_ops : Run := entT sg_ref1_ops R_ref1_ops (fun a => v_ref1_ops)
theorem ok_ref1_ops : EntOK Go.Proofs.Tryz.prog 49 e_ref1_ops := entT_ok (tb := tb_ref1_ops) (c := c_ref1_ops) tk_ref1_ops (by kernel_rfl) (by kernel_rfl) (by kernel_rfl) (fun a => by kernel_rfl) fun _ => evF_goes (c := c_ref1_ops) (K := fun v => (R_ref1_ops v, tps (toForms sg_ref1_ops (())))) (S := S_ref1_ops) (by kernel_rfl) (en_ref1_ops) (lp_ref1_ops) (g_ref1_ops)
end
end Go.Ev
end

section
set_option linter.unusedSectionVars false
set_option linter.unusedVariables false
set_option linter.unusedSimpArgs false
set_option maxRecDepth 100000
set_option linter.unusedVariables false
open Go Go.Ev
namespace Go.Ev
noncomputable section
/-! ### paling/palingref1.conds -/
def sg_ref1_conds : Sig := []
noncomputable def t_ref1_conds : Tbl := []
theorem tk_ref1_conds : ∀ p ∈ t_ref1_conds, EntOK Go.Proofs.Tryz.prog p.1 p.2 := tbl_nil
noncomputable def c_ref1_conds : Code := Go.Proofs.Tryz.f50.body.getD .skip
def tb_ref1_conds : Tb := []
def T_ref1_conds : Empty → JT Empty (List ByteArray) := fun j => nomatch j
def T0_ref1_conds : JT Empty (List ByteArray) :=
  .leaf ([(bs []), (bs [106, 101]), (bs [106, 110, 101]), (bs [106, 108]), (bs [106, 108, 101]), (bs [106, 103]), (bs [106, 103, 101]), (bs [106, 98]), (bs [106, 98, 101]), (bs [106, 97]), (bs [106, 97, 101])])
def v_ref1_conds : List ByteArray :=
  ([(bs []), (bs [106, 101]), (bs [106, 110, 101]), (bs [106, 108]), (bs [106, 108, 101]), (bs [106, 103]), (bs [106, 103, 101]), (bs [106, 98]), (bs [106, 98, 101]), (bs [106, 97]), (bs [106, 97, 101])])
theorem g_ref1_conds : Goes (T_ref1_conds) (T0_ref1_conds) (v_ref1_conds) :=
  Goes.leaf
def R_ref1_conds : List ByteArray → AV := fun (r : List ByteArray) => .rw 9 .str r
def S_ref1_conds : Empty → Nat × St := fun j => nomatch j
theorem en_ref1_conds (L : Lt) : entryA Go.Proofs.Tryz.prog (clOf t_ref1_conds) tb_ref1_conds Go.Proofs.Tryz.f50 c_ref1_conds L (toForms sg_ref1_conds (())) = (T0_ref1_conds).run (fun v => some (R_ref1_conds v, tps (toForms sg_ref1_conds (())))) fun j => L (S_ref1_conds j).1 (S_ref1_conds j).2 := by kernel_rfl
theorem lp_ref1_conds : ∀ (L : Lt) (j : Empty), procOf (procsF Go.Proofs.Tryz.prog (clOf t_ref1_conds) tb_ref1_conds Go.Proofs.Tryz.f50 c_ref1_conds (toForms sg_ref1_conds (()))) (S_ref1_conds j).1 L (S_ref1_conds j).2 = (T_ref1_conds j).run (fun v => some (R_ref1_conds v, tps (toForms sg_ref1_conds (())))) fun j => L (S_ref1_conds j).1 (S_ref1_conds j).2 := fun L j => nomatch j
noncomputable def e_ref1_conds : Run := entT sg_ref1_conds R_ref1_conds (fun a => v_ref1_conds)
theorem ok_ref1_conds : EntOK Go.Proofs.Tryz.prog 50 e_ref1_conds := entT_ok (tb := tb_ref1_conds) (c := c_ref1_conds) tk_ref1_conds (by kernel_rfl) (by kernel_rfl) (by kernel_rfl) (fun a => by kernel_rfl) fun _ => evF_goes (c := c_ref1_conds) (K := fun v => (R_ref1_conds v, tps (toForms sg_ref1_conds (())))) (S := S_ref1_conds) (by kernel_rfl) (en_ref1_conds) (lp_ref1_conds) (g_ref1_conds)
end
end Go.Ev
end

section
set_option linter.unusedSectionVars false
set_option linter.unusedVariables false
set_option linter.unusedSimpArgs false
set_option maxRecDepth 100000
set_option linter.unusedVariables false
open Go Go.Ev
namespace Go.Ev
noncomputable section
/-! ### paling/palingref1.Word -/
def sg_ref1_Word : Sig := [(false, .str)]
noncomputable def t_ref1_Word : Tbl := [(48, e_ref1_Regs), (37, e_ref1_index), (49, e_ref1_ops), (50, e_ref1_conds)]
theorem tk_ref1_Word : ∀ p ∈ t_ref1_Word, EntOK Go.Proofs.Tryz.prog p.1 p.2 := tbl_cons ok_ref1_Regs (tbl_cons ok_ref1_index (tbl_cons ok_ref1_ops (tbl_cons ok_ref1_conds (tbl_nil))))
noncomputable def c_ref1_Word : Code := Go.Proofs.Tryz.f33.body.getD .skip
def tb_ref1_Word : Tb := []
def T_ref1_Word (s : ByteArray) : Empty → JT Empty (Bool) := fun j => nomatch j
def T0_ref1_Word (s : ByteArray) : JT Empty (Bool) :=
  .br (! (eqB s (bs [])))
    (.br (eqB s (bs [115, 121, 109]))
      (.leaf true)
    (.br (eqB s (bs [116, 104, 114, 101, 97, 100]))
      (.leaf true)
    (.br (eqB s (bs [108, 111, 99, 107]))
      (.leaf true)
    (.br (k_ref1_index v_ref1_Regs s)
      (.br (decide ((v_ref1_index v_ref1_Regs s) ≥ (0 : Int)))
        (.leaf true)
      (.br (k_ref1_index v_ref1_ops s)
        (.br (decide ((v_ref1_index v_ref1_ops s) > (0 : Int)))
          (.leaf true)
        (.br (k_ref1_index v_ref1_conds s)
          (.leaf (decide ((v_ref1_index v_ref1_conds s) > (0 : Int))))
        (.no)))
      (.no)))
    (.no)))))
  (.leaf false)
def u_ref1_Word (s : ByteArray) : Bool :=
  bif (! (eqB s (bs []))) then
    bif (eqB s (bs [115, 121, 109])) then
      true
    else bif (eqB s (bs [116, 104, 114, 101, 97, 100])) then
      true
    else bif (eqB s (bs [108, 111, 99, 107])) then
      true
    else bif (k_ref1_index v_ref1_Regs s) then
      bif (decide ((v_ref1_index v_ref1_Regs s) ≥ (0 : Int))) then
        true
      else bif (k_ref1_index v_ref1_ops s) then
        bif (decide ((v_ref1_index v_ref1_ops s) > (0 : Int))) then
          true
        else bif (k_ref1_index v_ref1_conds s) then
          (decide ((v_ref1_index v_ref1_conds s) > (0 : Int)))
        else false
      else false
    else false
  else false
def ku_ref1_Word (s : ByteArray) : Bool :=
  bif (! (eqB s (bs []))) then
    bif (eqB s (bs [115, 121, 109])) then
      true
    else bif (eqB s (bs [116, 104, 114, 101, 97, 100])) then
      true
    else bif (eqB s (bs [108, 111, 99, 107])) then
      true
    else bif (k_ref1_index v_ref1_Regs s) then
      bif (decide ((v_ref1_index v_ref1_Regs s) ≥ (0 : Int))) then
        true
      else bif (k_ref1_index v_ref1_ops s) then
        bif (decide ((v_ref1_index v_ref1_ops s) > (0 : Int))) then
          true
        else bif (k_ref1_index v_ref1_conds s) then
          true
        else false
      else false
    else false
  else true
theorem gu_ref1_Word (s : ByteArray) (hk : ku_ref1_Word s = true) : Goes (T_ref1_Word s) (T0_ref1_Word s) (u_ref1_Word s) :=
  Goes.brk hk (fun hk =>
    Goes.brk hk (fun hk =>
      Goes.leaf) (fun hk =>
      Goes.brk hk (fun hk =>
        Goes.leaf) (fun hk =>
        Goes.brk hk (fun hk =>
          Goes.leaf) (fun hk =>
          Goes.brk hk (fun hk =>
            Goes.brk hk (fun hk =>
              Goes.leaf) (fun hk =>
              Goes.brk hk (fun hk =>
                Goes.brk hk (fun hk =>
                  Goes.leaf) (fun hk =>
                  Goes.brk hk (fun hk =>
                    Goes.leaf) (fun hk =>
                    Goes.nok hk))) (fun hk =>
                Goes.nok hk))) (fun hk =>
            Goes.nok hk))))) (fun hk =>
    Goes.leaf)
def R_ref1_Word : Bool → AV := fun (r : Bool) => .d .bool r
def S_ref1_Word (s : ByteArray) : Empty → Nat × St := fun j => nomatch j
theorem en_ref1_Word (s : ByteArray) (L : Lt) : entryA Go.Proofs.Tryz.prog (clOf t_ref1_Word) tb_ref1_Word Go.Proofs.Tryz.f33 c_ref1_Word L (toForms sg_ref1_Word (s, ())) = (T0_ref1_Word s).run (fun v => some (R_ref1_Word v, tps (toForms sg_ref1_Word (s, ())))) fun j => L (S_ref1_Word s j).1 (S_ref1_Word s j).2 := by kernel_rfl
theorem lp_ref1_Word (s : ByteArray) : ∀ (L : Lt) (j : Empty), procOf (procsF Go.Proofs.Tryz.prog (clOf t_ref1_Word) tb_ref1_Word Go.Proofs.Tryz.f33 c_ref1_Word (toForms sg_ref1_Word (s, ()))) (S_ref1_Word s j).1 L (S_ref1_Word s j).2 = (T_ref1_Word s j).run (fun v => some (R_ref1_Word v, tps (toForms sg_ref1_Word (s, ())))) fun j => L (S_ref1_Word s j).1 (S_ref1_Word s j).2 := fun L j => nomatch j
end
end Go.Ev
end

section
set_option linter.unusedSectionVars false
set_option linter.unusedVariables false
set_option linter.unusedSimpArgs false
set_option linter.unusedVariables false
set_option linter.unusedSimpArgs false
open Go
namespace Go.Ev

def v_ref1_Word (s : ByteArray) : Bool := v_names_Word s
theorem g_ref1_Word (s : ByteArray) : Goes (T_ref1_Word s) (T0_ref1_Word s) (v_ref1_Word s) := by
  have hk : ∀ l : List ByteArray, l.length < 100 → k_ref1_index l s = true := fun l h => decide_eq_true (by omega)
  have h1 : k_ref1_index v_ref1_Regs s = true := hk _ (by decide)
  have h2 : k_ref1_index v_ref1_ops s = true := hk _ (by decide)
  have h3 : k_ref1_index v_ref1_conds s = true := hk _ (by decide)
  have hku : ku_ref1_Word s = true := by
    unfold ku_ref1_Word
    simp only [h1, h2, h3, cond_true]
    cases eqB s (bs []) <;> cases eqB s (bs [115, 121, 109]) <;> cases eqB s (bs [116, 104, 114, 101, 97, 100]) <;> cases eqB s (bs [108, 111, 99, 107]) <;> cases decide (v_ref1_index v_ref1_Regs s ≥ 0) <;> cases decide (v_ref1_index v_ref1_ops s > 0) <;> rfl
  have hv : v_ref1_Word s = u_ref1_Word s := by
    unfold v_ref1_Word u_ref1_Word v_names_Word
    simp only [h1, h2, h3, cond_true, eqB_eq]
    have hr : decide (v_ref1_index v_ref1_Regs s ≥ 0) = (findFrom s v_names_regs 0).isSome := by
      unfold v_ref1_index
      rw [show v_ref1_Regs = v_names_regs from rfl]
      cases findFrom s v_names_regs 0 <;> simp
    have hR : (v_names_Reg s).2 = (findFrom s v_names_regs 0).isSome := by
      unfold v_names_Reg
      cases findFrom s v_names_regs 0 <;> rfl
    rw [hr, hR]
    by_cases h0 : s = bs []
    · subst h0
      decide
    have hidx : ∀ l : List ByteArray, decide (v_ref1_index (bs [] :: l) s > 0) = (findFrom s l 0).isSome := by
      intro l
      unfold v_ref1_index
      rw [show findFrom s (bs [] :: l) 0 = findFrom s l (0 + 1) by rw [findFrom, if_neg (fun e => h0 e.symm)], findFrom_shift (k := 0) (j := 0 + 1)]
      cases h : findFrom s l (0 + 1) with
      | none => simp
      | some n => have := findFrom_some h; simp; omega
    have ho := hidx v_names_ops
    have hj := hidx v_names_jumps
    rw [show v_ref1_ops = bs [] :: v_names_ops from rfl, ho, show v_ref1_conds = bs [] :: v_names_jumps from rfl, hj]
    have hO : (v_names_Op s).2.2 = ((findFrom s v_names_ops 0).isSome || (findFrom s v_names_jumps 0).isSome) := by
      unfold v_names_Op
      rw [if_neg h0]
      cases findFrom s v_names_ops 0 with
      | some k => rfl
      | none => cases findFrom s v_names_jumps 0 <;> rfl
    rw [hO]
    simp only [h0, decide_false, Bool.not_false, cond_true]
    cases (findFrom s v_names_ops 0).isSome <;> cases (findFrom s v_names_jumps 0).isSome <;> rfl
  rw [hv]
  exact gu_ref1_Word s hku

end Go.Ev
end

section
set_option linter.unusedSectionVars false
set_option linter.unusedVariables false
set_option linter.unusedSimpArgs false
set_option maxRecDepth 100000
set_option linter.unusedVariables false
open Go Go.Ev
namespace Go.Ev
noncomputable section
noncomputable def e_ref1_Word : Run := entT sg_ref1_Word R_ref1_Word (fun a => v_ref1_Word a.1)
theorem ok_ref1_Word : EntOK Go.Proofs.Tryz.prog 33 e_ref1_Word := entT_ok (tb := tb_ref1_Word) (c := c_ref1_Word) tk_ref1_Word (by kernel_rfl) (by kernel_rfl) (by kernel_rfl) (fun a => by kernel_rfl) fun ⟨s, _⟩ => evF_goes (c := c_ref1_Word) (K := fun v => (R_ref1_Word v, tps (toForms sg_ref1_Word (s, ())))) (S := S_ref1_Word s) (by kernel_rfl) (en_ref1_Word s) (lp_ref1_Word s) (g_ref1_Word s)
end
end Go.Ev
end

section
set_option linter.unusedSectionVars false
set_option linter.unusedVariables false
set_option linter.unusedSimpArgs false
set_option maxRecDepth 100000
set_option linter.unusedVariables false
open Go Go.Ev
namespace Go.Ev
noncomputable section
/-! ### paling/palingref1.Letter -/
def sg_ref1_Letter : Sig := [(false, (.int .i32))]
noncomputable def t_ref1_Letter : Tbl := []
theorem tk_ref1_Letter : ∀ p ∈ t_ref1_Letter, EntOK Go.Proofs.Tryz.prog p.1 p.2 := tbl_nil
noncomputable def c_ref1_Letter : Code := Go.Proofs.Tryz.f34.body.getD .skip
def tb_ref1_Letter : Tb := []
def T_ref1_Letter (r : Int) : Empty → JT Empty (Bool) := fun j => nomatch j
def T0_ref1_Letter (r : Int) : JT Empty (Bool) :=
  .br (decide (r ≥ (97 : Int)))
    (.br (decide (r ≤ (122 : Int)))
      (.leaf true)
    (.br (decide (r ≥ (65 : Int)))
      (.br (decide (r ≤ (90 : Int)))
        (.leaf true)
      (.br (r == (95 : Int))
        (.leaf true)
      (.br (decide (r ≥ (161 : Int)))
        (.leaf (decide (r ≤ (1114111 : Int))))
      (.leaf false))))
    (.br (r == (95 : Int))
      (.leaf true)
    (.br (decide (r ≥ (161 : Int)))
      (.leaf (decide (r ≤ (1114111 : Int))))
    (.leaf false)))))
  (.br (decide (r ≥ (65 : Int)))
    (.br (decide (r ≤ (90 : Int)))
      (.leaf true)
    (.br (r == (95 : Int))
      (.leaf true)
    (.br (decide (r ≥ (161 : Int)))
      (.leaf (decide (r ≤ (1114111 : Int))))
    (.leaf false))))
  (.br (r == (95 : Int))
    (.leaf true)
  (.br (decide (r ≥ (161 : Int)))
    (.leaf (decide (r ≤ (1114111 : Int))))
  (.leaf false))))
def v_ref1_Letter (r : Int) : Bool :=
  bif (decide (r ≥ (97 : Int))) then
    bif (decide (r ≤ (122 : Int))) then
      true
    else bif (decide (r ≥ (65 : Int))) then
      bif (decide (r ≤ (90 : Int))) then
        true
      else bif (r == (95 : Int)) then
        true
      else bif (decide (r ≥ (161 : Int))) then
        (decide (r ≤ (1114111 : Int)))
      else false
    else bif (r == (95 : Int)) then
      true
    else bif (decide (r ≥ (161 : Int))) then
      (decide (r ≤ (1114111 : Int)))
    else false
  else bif (decide (r ≥ (65 : Int))) then
    bif (decide (r ≤ (90 : Int))) then
      true
    else bif (r == (95 : Int)) then
      true
    else bif (decide (r ≥ (161 : Int))) then
      (decide (r ≤ (1114111 : Int)))
    else false
  else bif (r == (95 : Int)) then
    true
  else bif (decide (r ≥ (161 : Int))) then
    (decide (r ≤ (1114111 : Int)))
  else false
theorem g_ref1_Letter (r : Int) : Goes (T_ref1_Letter r) (T0_ref1_Letter r) (v_ref1_Letter r) :=
  Goes.br (
    Goes.br (
      Goes.leaf) (
      Goes.br (
        Goes.br (
          Goes.leaf) (
          Goes.br (
            Goes.leaf) (
            Goes.br (
              Goes.leaf) (
              Goes.leaf)))) (
        Goes.br (
          Goes.leaf) (
          Goes.br (
            Goes.leaf) (
            Goes.leaf))))) (
    Goes.br (
      Goes.br (
        Goes.leaf) (
        Goes.br (
          Goes.leaf) (
          Goes.br (
            Goes.leaf) (
            Goes.leaf)))) (
      Goes.br (
        Goes.leaf) (
        Goes.br (
          Goes.leaf) (
          Goes.leaf))))
def R_ref1_Letter : Bool → AV := fun (r : Bool) => .d .bool r
def S_ref1_Letter (r : Int) : Empty → Nat × St := fun j => nomatch j
theorem en_ref1_Letter (r : Int) (L : Lt) : entryA Go.Proofs.Tryz.prog (clOf t_ref1_Letter) tb_ref1_Letter Go.Proofs.Tryz.f34 c_ref1_Letter L (toForms sg_ref1_Letter (r, ())) = (T0_ref1_Letter r).run (fun v => some (R_ref1_Letter v, tps (toForms sg_ref1_Letter (r, ())))) fun j => L (S_ref1_Letter r j).1 (S_ref1_Letter r j).2 := by kernel_rfl
theorem lp_ref1_Letter (r : Int) : ∀ (L : Lt) (j : Empty), procOf (procsF Go.Proofs.Tryz.prog (clOf t_ref1_Letter) tb_ref1_Letter Go.Proofs.Tryz.f34 c_ref1_Letter (toForms sg_ref1_Letter (r, ()))) (S_ref1_Letter r j).1 L (S_ref1_Letter r j).2 = (T_ref1_Letter r j).run (fun v => some (R_ref1_Letter v, tps (toForms sg_ref1_Letter (r, ())))) fun j => L (S_ref1_Letter r j).1 (S_ref1_Letter r j).2 := fun L j => nomatch j
noncomputable def e_ref1_Letter : Run := entT sg_ref1_Letter R_ref1_Letter (fun a => v_ref1_Letter a.1)
theorem ok_ref1_Letter : EntOK Go.Proofs.Tryz.prog 34 e_ref1_Letter := entT_ok (tb := tb_ref1_Letter) (c := c_ref1_Letter) tk_ref1_Letter (by kernel_rfl) (by kernel_rfl) (by kernel_rfl) (fun a => by kernel_rfl) fun ⟨r, _⟩ => evF_goes (c := c_ref1_Letter) (K := fun v => (R_ref1_Letter v, tps (toForms sg_ref1_Letter (r, ())))) (S := S_ref1_Letter r) (by kernel_rfl) (en_ref1_Letter r) (lp_ref1_Letter r) (g_ref1_Letter r)
end
end Go.Ev
end

section
set_option linter.unusedSectionVars false
set_option linter.unusedVariables false
set_option linter.unusedSimpArgs false
set_option maxRecDepth 100000
set_option linter.unusedVariables false
open Go Go.Ev
namespace Go.Ev
noncomputable section
/-! ### paling/palingref1.Digit -/
def sg_ref1_Digit : Sig := [(false, (.int .i32))]
noncomputable def t_ref1_Digit : Tbl := []
theorem tk_ref1_Digit : ∀ p ∈ t_ref1_Digit, EntOK Go.Proofs.Tryz.prog p.1 p.2 := tbl_nil
noncomputable def c_ref1_Digit : Code := Go.Proofs.Tryz.f35.body.getD .skip
def tb_ref1_Digit : Tb := []
def T_ref1_Digit (r : Int) : Empty → JT Empty (Bool) := fun j => nomatch j
def T0_ref1_Digit (r : Int) : JT Empty (Bool) :=
  .br (decide (r ≥ (48 : Int)))
    (.leaf (decide (r ≤ (57 : Int))))
  (.leaf false)
def v_ref1_Digit (r : Int) : Bool :=
  bif (decide (r ≥ (48 : Int))) then
    (decide (r ≤ (57 : Int)))
  else false
theorem g_ref1_Digit (r : Int) : Goes (T_ref1_Digit r) (T0_ref1_Digit r) (v_ref1_Digit r) :=
  Goes.br (
    Goes.leaf) (
    Goes.leaf)
def R_ref1_Digit : Bool → AV := fun (r : Bool) => .d .bool r
def S_ref1_Digit (r : Int) : Empty → Nat × St := fun j => nomatch j
theorem en_ref1_Digit (r : Int) (L : Lt) : entryA Go.Proofs.Tryz.prog (clOf t_ref1_Digit) tb_ref1_Digit Go.Proofs.Tryz.f35 c_ref1_Digit L (toForms sg_ref1_Digit (r, ())) = (T0_ref1_Digit r).run (fun v => some (R_ref1_Digit v, tps (toForms sg_ref1_Digit (r, ())))) fun j => L (S_ref1_Digit r j).1 (S_ref1_Digit r j).2 := by kernel_rfl
theorem lp_ref1_Digit (r : Int) : ∀ (L : Lt) (j : Empty), procOf (procsF Go.Proofs.Tryz.prog (clOf t_ref1_Digit) tb_ref1_Digit Go.Proofs.Tryz.f35 c_ref1_Digit (toForms sg_ref1_Digit (r, ()))) (S_ref1_Digit r j).1 L (S_ref1_Digit r j).2 = (T_ref1_Digit r j).run (fun v => some (R_ref1_Digit v, tps (toForms sg_ref1_Digit (r, ())))) fun j => L (S_ref1_Digit r j).1 (S_ref1_Digit r j).2 := fun L j => nomatch j
noncomputable def e_ref1_Digit : Run := entT sg_ref1_Digit R_ref1_Digit (fun a => v_ref1_Digit a.1)
theorem ok_ref1_Digit : EntOK Go.Proofs.Tryz.prog 35 e_ref1_Digit := entT_ok (tb := tb_ref1_Digit) (c := c_ref1_Digit) tk_ref1_Digit (by kernel_rfl) (by kernel_rfl) (by kernel_rfl) (fun a => by kernel_rfl) fun ⟨r, _⟩ => evF_goes (c := c_ref1_Digit) (K := fun v => (R_ref1_Digit v, tps (toForms sg_ref1_Digit (r, ())))) (S := S_ref1_Digit r) (by kernel_rfl) (en_ref1_Digit r) (lp_ref1_Digit r) (g_ref1_Digit r)
end
end Go.Ev
end

section
set_option linter.unusedSectionVars false
set_option linter.unusedVariables false
set_option linter.unusedSimpArgs false
set_option maxRecDepth 100000
set_option linter.unusedVariables false
open Go Go.Ev
namespace Go.Ev
noncomputable section
/-! ### paling/palingref1.Right -/
def sg_ref1_Right : Sig := [(false, .str)]
noncomputable def t_ref1_Right : Tbl := [(32, e_ref1_Spots), (33, e_ref1_Word), (34, e_ref1_Letter), (35, e_ref1_Digit)]
theorem tk_ref1_Right : ∀ p ∈ t_ref1_Right, EntOK Go.Proofs.Tryz.prog p.1 p.2 := tbl_cons ok_ref1_Spots (tbl_cons ok_ref1_Word (tbl_cons ok_ref1_Letter (tbl_cons ok_ref1_Digit (tbl_nil))))
noncomputable def c_ref1_Right : Code := Go.Proofs.Tryz.f23.body.getD .skip
def tb_ref1_Right : Tb := [(7, ⟨[3, 4], []⟩)]
inductive J_ref1_Right where
  | l7 (i : Int)
def T_ref1_Right (s : ByteArray) : J_ref1_Right → JT J_ref1_Right (Bool)
  | .l7 i =>
    .br (decide (i < (Int.ofNat (List.length (v_ref1_Spots s)))))
      (.br ((decide ((0 : Int) ≤ i)) && (decide (i < (Int.ofNat (List.length (v_ref1_Spots s))))))
        (.br (List.getD (v_ref1_Spots s) (Int.toNat i) (dflt T_ref1_Spot)).2.2.2.2.2
          (.leaf false)
        (.br ((decide ((0 : Int) ≤ i)) && (decide (i < (Int.ofNat (List.length (v_ref1_Spots s))))))
          (.br (! (v_ref1_Letter (List.getD (v_ref1_Spots s) (Int.toNat i) (dflt T_ref1_Spot)).1))
            (.br (i == (0 : Int))
              (.leaf false)
            (.br ((decide ((0 : Int) ≤ i)) && (decide (i < (Int.ofNat (List.length (v_ref1_Spots s))))))
              (.br (! (v_ref1_Digit (List.getD (v_ref1_Spots s) (Int.toNat i) (dflt T_ref1_Spot)).1))
                (.leaf false)
              (.jmp (.l7 (IntKind.i64.wrap (i + (1 : Int))))))
            (.no)))
          (.jmp (.l7 (IntKind.i64.wrap (i + (1 : Int))))))
        (.no)))
      (.no))
    (.leaf true)
def T0_ref1_Right (s : ByteArray) : JT J_ref1_Right (Bool) :=
  .br (k_ref1_Spots s)
    (.br (decide ((Int.ofNat (List.length (v_ref1_Spots s))) < (1 : Int)))
      (.leaf false)
    (.br (decide ((Int.ofNat (List.length (v_ref1_Spots s))) > (16 : Int)))
      (.leaf false)
    (.br (v_ref1_Word s)
      (.leaf false)
    (.jmp (.l7 (0 : Int))))))
  (.no)
def R_ref1_Right : Bool → AV := fun (r : Bool) => .d .bool r
def S_ref1_Right (s : ByteArray) : J_ref1_Right → Nat × St
  | .l7 i => (7, ⟨mkTm 52 [(3, .own 4 0 none), (4, .d (.int .i64) i)], [(4, 0, .row 75 T_ref1_Spot (v_ref1_Spots s) false)]⟩)
theorem en_ref1_Right (s : ByteArray) (L : Lt) : entryA Go.Proofs.Tryz.prog (clOf t_ref1_Right) tb_ref1_Right Go.Proofs.Tryz.f23 c_ref1_Right L (toForms sg_ref1_Right (s, ())) = (T0_ref1_Right s).run (fun v => some (R_ref1_Right v, tps (toForms sg_ref1_Right (s, ())))) fun j => L (S_ref1_Right s j).1 (S_ref1_Right s j).2 := by kernel_rfl
theorem lp_ref1_Right (s : ByteArray) : ∀ (L : Lt) (j : J_ref1_Right), procOf (procsF Go.Proofs.Tryz.prog (clOf t_ref1_Right) tb_ref1_Right Go.Proofs.Tryz.f23 c_ref1_Right (toForms sg_ref1_Right (s, ()))) (S_ref1_Right s j).1 L (S_ref1_Right s j).2 = (T_ref1_Right s j).run (fun v => some (R_ref1_Right v, tps (toForms sg_ref1_Right (s, ())))) fun j => L (S_ref1_Right s j).1 (S_ref1_Right s j).2
  | L, .l7 i => by kernel_rfl
end
end Go.Ev
end

section
set_option linter.unusedSectionVars false
set_option linter.unusedVariables false
set_option linter.unusedSimpArgs false
set_option linter.unusedVariables false
set_option linter.unusedSimpArgs false
open Go
namespace Go.Ev

def v_ref1_Right (s : ByteArray) : Bool := nameRight s
def k_ref1_Right (s : ByteArray) : Bool := smallText s
theorem g_ref1_Right (s : ByteArray) (hk : k_ref1_Right s = true) : Goes (T_ref1_Right s) (T0_ref1_Right s) (v_ref1_Right s) := by
  have hs : s.size < 549755813888 := of_decide_eq_true hk
  have hl : (v_ref1_Spots s).length ≤ s.size := spots_length s
  have loop : ∀ k, k ≤ (v_ref1_Spots s).length → Goes (T_ref1_Right s) (.jmp (.l7 (k : Int))) (spotsOK k ((v_ref1_Spots s).drop k)) := by
    refine down ?_ fun k hk ih => ?_
    · rw [goes_jmp]
      simp [T_ref1_Right, goes_br, goes_leaf, spotsOK]
    · rw [goes_jmp]
      dsimp only [T_ref1_Right]
      simp only [goes_br, goes_leaf, lt_len hk, nng, Bool.and_self, if_true, Int.toNat_natCast, getD_lt hk, wrap_succ (k := k) (by omega)]
      rw [drop_cons hk, spotsOK]
      generalize (v_ref1_Spots s)[k] = x at *
      unfold spotOK
      rw [show v_ref1_Letter = v_glyph_Letter from rfl, show v_ref1_Digit = v_glyph_Digit from rfl]
      cases x.2.2.2.2.2
      · cases v_glyph_Letter x.1
        · by_cases h0 : k = 0
          · subst h0; simp
          · have e1 : ((k : Int) == 0) = false := by rw [Bool.eq_false_iff]; simp; omega
            have e2 : (k == 0) = false := by rw [Bool.eq_false_iff]; simpa using h0
            cases v_glyph_Digit x.1
            · simp [e1, e2]
            · simpa [e1, e2] using ih
        · simpa using ih
      · simp
  have hv : v_ref1_Right s = (spotsOK 0 (v_ref1_Spots s) && (decide (1 ≤ (v_ref1_Spots s).length) && (decide ((v_ref1_Spots s).length ≤ 16) && !v_names_Word s))) := rfl
  rw [hv]
  unfold T0_ref1_Right
  simp only [goes_br, show k_ref1_Spots s = true from hk, if_true, v_ref1_Word, goes_leaf]
  by_cases h1 : 1 ≤ (v_ref1_Spots s).length
  · by_cases h2 : (v_ref1_Spots s).length ≤ 16
    · cases v_names_Word s
      · rw [if_neg (by simp <;> omega), if_neg (by simp <;> omega)]
        simpa [h1, h2] using loop 0 (Nat.zero_le _)
      · rw [if_neg (by simp <;> omega), if_neg (by simp <;> omega)]
        simp
    · rw [if_neg (by simp <;> omega), if_pos (by simp <;> omega)]
      simp [h2]
  · rw [if_pos (by simp <;> omega)]
    simp [h1]

end Go.Ev
end

section
set_option linter.unusedSectionVars false
set_option linter.unusedVariables false
set_option linter.unusedSimpArgs false
set_option maxRecDepth 100000
set_option linter.unusedVariables false
open Go Go.Ev
namespace Go.Ev
noncomputable section
noncomputable def e_ref1_Right : Run := entG sg_ref1_Right R_ref1_Right (fun a => k_ref1_Right a.1) (fun a => v_ref1_Right a.1)
theorem ok_ref1_Right : EntOK Go.Proofs.Tryz.prog 23 e_ref1_Right := entG_ok (tb := tb_ref1_Right) (c := c_ref1_Right) tk_ref1_Right (by kernel_rfl) (by kernel_rfl) (by kernel_rfl) (fun a => by kernel_rfl) fun ⟨s, _⟩ hk => evF_goes (c := c_ref1_Right) (K := fun v => (R_ref1_Right v, tps (toForms sg_ref1_Right (s, ())))) (S := S_ref1_Right s) (by kernel_rfl) (en_ref1_Right s) (lp_ref1_Right s) (g_ref1_Right s hk)
end
end Go.Ev
end

section
set_option linter.unusedSectionVars false
set_option linter.unusedVariables false
set_option linter.unusedSimpArgs false
set_option maxRecDepth 100000
set_option linter.unusedVariables false
open Go Go.Ev
namespace Go.Ev
noncomputable section
/-! ### paling/palingref1.Count -/
def sg_ref1_Count : Sig := [(true, (.sl T_api_Ins))]
noncomputable def t_ref1_Count : Tbl := []
theorem tk_ref1_Count : ∀ p ∈ t_ref1_Count, EntOK Go.Proofs.Tryz.prog p.1 p.2 := tbl_nil
noncomputable def c_ref1_Count : Code := Go.Proofs.Tryz.f36.body.getD .skip
def tb_ref1_Count : Tb := [(4, ⟨[1, 3, 4], []⟩)]
inductive J_ref1_Count where
  | l4 (n : Int) (i : Int)
def T_ref1_Count (t : List (El T_api_Ins)) : J_ref1_Count → JT J_ref1_Count (Int)
  | .l4 n i =>
    .br (decide (i < (Int.ofNat (List.length t))))
      (.br ((decide ((0 : Int) ≤ i)) && (decide (i < (Int.ofNat (List.length t)))))
        (.br ((List.getD t (Int.toNat i) (dflt T_api_Ins)).1 != (12 : Int))
          (.jmp (.l4 (IntKind.i64.wrap (n + (1 : Int))) (IntKind.i64.wrap (i + (1 : Int)))))
        (.jmp (.l4 n (IntKind.i64.wrap (i + (1 : Int))))))
      (.no))
    (.leaf n)
def T0_ref1_Count (t : List (El T_api_Ins)) : JT J_ref1_Count (Int) :=
  .jmp (.l4 (0 : Int) (0 : Int))
def R_ref1_Count : Int → AV := fun (r : Int) => .d (.int .i64) r
def S_ref1_Count (t : List (El T_api_Ins)) : J_ref1_Count → Nat × St
  | .l4 n i => (4, ⟨mkTm 22 [(1, .pt 2 0 0), (3, .d (.int .i64) n), (4, .d (.int .i64) i)], [(2, 0, .box 31 [.d (.sl T_api_Ins) t] none)]⟩)
theorem en_ref1_Count (t : List (El T_api_Ins)) (L : Lt) : entryA Go.Proofs.Tryz.prog (clOf t_ref1_Count) tb_ref1_Count Go.Proofs.Tryz.f36 c_ref1_Count L (toForms sg_ref1_Count (t, ())) = (T0_ref1_Count t).run (fun v => some (R_ref1_Count v, tps (toForms sg_ref1_Count (t, ())))) fun j => L (S_ref1_Count t j).1 (S_ref1_Count t j).2 := by kernel_rfl
theorem lp_ref1_Count (t : List (El T_api_Ins)) : ∀ (L : Lt) (j : J_ref1_Count), procOf (procsF Go.Proofs.Tryz.prog (clOf t_ref1_Count) tb_ref1_Count Go.Proofs.Tryz.f36 c_ref1_Count (toForms sg_ref1_Count (t, ()))) (S_ref1_Count t j).1 L (S_ref1_Count t j).2 = (T_ref1_Count t j).run (fun v => some (R_ref1_Count v, tps (toForms sg_ref1_Count (t, ())))) fun j => L (S_ref1_Count t j).1 (S_ref1_Count t j).2
  | L, .l4 n i => by kernel_rfl
end
end Go.Ev
end

section
set_option linter.unusedSectionVars false
set_option linter.unusedVariables false
set_option linter.unusedSimpArgs false
set_option linter.unusedVariables false
set_option linter.unusedSimpArgs false
open Go
namespace Go.Ev
def v_ref1_Count (t : List (El T_api_Ins)) : Int := (countM t : Int)
def k_ref1_Count (t : List (El T_api_Ins)) : Bool := decide (t.length < 1099511627776)
theorem g_ref1_Count (t : List (El T_api_Ins)) (hk : k_ref1_Count t = true) : Goes (T_ref1_Count t) (T0_ref1_Count t) (v_ref1_Count t) := by
  have hn : t.length < 1099511627776 := of_decide_eq_true hk
  have loop : ∀ k, k ≤ t.length → ∀ n : Nat, n ≤ k → Goes (T_ref1_Count t) (.jmp (.l4 (n : Int) (k : Int))) ((n + countM (t.drop k) : Nat) : Int) := by
    refine down ?_ fun k hk ih => ?_
    · intro n hnk
      rw [goes_jmp]
      simp only [T_ref1_Count, goes_br, lt_len_not (Nat.lt_irrefl _), goes_leaf, List.drop_length]
      simp [countM]
    · intro n hnk
      rw [goes_jmp]
      simp only [T_ref1_Count, goes_br, lt_len hk, nng, Bool.and_self, if_true, Int.toNat_natCast, getD_lt hk, wrap_succ (k := k) (by omega), wrap_succ (k := n) (by omega)]
      rw [drop_cons hk]
      unfold countM
      rw [List.filter_cons]
      split
      · rename_i h
        have := ih (n + 1) (by omega)
        unfold countM at this
        rw [List.length_cons, show n + ((List.filter (fun i => i.1 != (12 : Int)) (List.drop (k + 1) t)).length + 1) = n + 1 + (List.filter (fun i => i.1 != (12 : Int)) (List.drop (k + 1) t)).length by omega]
        exact this
      · exact ih n (by omega)
  have := loop 0 (Nat.zero_le _) 0 (Nat.le_refl _)
  unfold T0_ref1_Count v_ref1_Count
  simpa using this
end Go.Ev
end

section
set_option linter.unusedSectionVars false
set_option linter.unusedVariables false
set_option linter.unusedSimpArgs false
set_option maxRecDepth 100000
set_option linter.unusedVariables false
open Go Go.Ev
namespace Go.Ev
noncomputable section
noncomputable def e_ref1_Count : Run := entG sg_ref1_Count R_ref1_Count (fun a => k_ref1_Count a.1) (fun a => v_ref1_Count a.1)
theorem ok_ref1_Count : EntOK Go.Proofs.Tryz.prog 36 e_ref1_Count := entG_ok (tb := tb_ref1_Count) (c := c_ref1_Count) tk_ref1_Count (by kernel_rfl) (by kernel_rfl) (by kernel_rfl) (fun a => by kernel_rfl) fun ⟨t, _⟩ hk => evF_goes (c := c_ref1_Count) (K := fun v => (R_ref1_Count v, tps (toForms sg_ref1_Count (t, ())))) (S := S_ref1_Count t) (by kernel_rfl) (en_ref1_Count t) (lp_ref1_Count t) (g_ref1_Count t hk)
end
end Go.Ev
end

section
set_option linter.unusedSectionVars false
set_option linter.unusedVariables false
set_option linter.unusedSimpArgs false
set_option maxRecDepth 100000
set_option linter.unusedVariables false
open Go Go.Ev
namespace Go.Ev
noncomputable section
/-! ### paling/palingref1.InsRight -/
def sg_ref1_InsRight : Sig := [(true, T_api_Ins)]
noncomputable def t_ref1_InsRight : Tbl := [(51, e_ref1_row), (40, e_ref1_Jumps), (23, e_ref1_Right)]
theorem tk_ref1_InsRight : ∀ p ∈ t_ref1_InsRight, EntOK Go.Proofs.Tryz.prog p.1 p.2 := tbl_cons ok_ref1_row (tbl_cons ok_ref1_Jumps (tbl_cons ok_ref1_Right (tbl_nil)))
noncomputable def c_ref1_InsRight : Code := Go.Proofs.Tryz.f38.body.getD .skip
def tb_ref1_InsRight : Tb := [(2, ⟨[1, 26, 34, 37, 44, 47], []⟩), (5, ⟨[1, 49], []⟩)]
inductive J_ref1_InsRight where
  | l2 (h : Bool)
  | l5 (h : Bool)
def T_ref1_InsRight (i : El T_api_Ins) : J_ref1_InsRight → JT J_ref1_InsRight (Int)
  | .l2 h =>
    .br h
      (.leaf (4 : Int))
    (.br (i.1 == (11 : Int))
      (.br (decide (i.2.2.1 < (1 : Int)))
        (.jmp (.l5 true))
      (.br (decide (i.2.2.1 > (10 : Int)))
        (.jmp (.l5 true))
      (.br (i.1 != (11 : Int))
        (.jmp (.l5 (i.2.2.1 != (0 : Int))))
      (.jmp (.l5 false)))))
    (.br (i.1 != (11 : Int))
      (.jmp (.l5 (i.2.2.1 != (0 : Int))))
    (.jmp (.l5 false))))
  | .l5 h =>
    .br h
      (.leaf (4 : Int))
    (.br (v_ref1_Jumps i.1)
      (.br (k_ref1_Right i.2.2.2.2.2.1)
        (.br (! (v_ref1_Right i.2.2.2.2.2.1))
          (.leaf (3 : Int))
        (.leaf (0 : Int)))
      (.no))
    (.leaf (0 : Int)))
def T0_ref1_InsRight (i : El T_api_Ins) : JT J_ref1_InsRight (Int) :=
  .br (decide (i.1 < (1 : Int)))
    (.jmp (.l2 true))
  (.br (decide (i.1 > (14 : Int)))
    (.jmp (.l2 true))
  (.br (! (v_ref1_row i))
    (.jmp (.l2 true))
  (.br (! (v_ref1_Jumps i.1))
    (.jmp (.l2 (! (eqB i.2.2.2.2.2.1 (bs [])))))
  (.jmp (.l2 false)))))
def v_ref1_InsRight_l5 (i : El T_api_Ins) (h : Bool) : Int :=
  bif h then
    (4 : Int)
  else bif (v_ref1_Jumps i.1) then
    bif (k_ref1_Right i.2.2.2.2.2.1) then
      bif (! (v_ref1_Right i.2.2.2.2.2.1)) then
        (3 : Int)
      else (0 : Int)
    else (0 : Int)
  else (0 : Int)
def k_ref1_InsRight_l5 (i : El T_api_Ins) (h : Bool) : Bool :=
  bif h then
    true
  else bif (v_ref1_Jumps i.1) then
    bif (k_ref1_Right i.2.2.2.2.2.1) then
      bif (! (v_ref1_Right i.2.2.2.2.2.1)) then
        true
      else true
    else false
  else true
theorem g_ref1_InsRight_l5 (i : El T_api_Ins) (h : Bool) (hk : k_ref1_InsRight_l5 i h = true) : Goes (T_ref1_InsRight i) (.jmp (.l5 h)) (v_ref1_InsRight_l5 i h) :=
  Goes.jmp (Goes.brk hk (fun hk =>
    Goes.leaf) (fun hk =>
    Goes.brk hk (fun hk =>
      Goes.brk hk (fun hk =>
        Goes.brk hk (fun hk =>
          Goes.leaf) (fun hk =>
          Goes.leaf)) (fun hk =>
        Goes.nok hk)) (fun hk =>
      Goes.leaf)))
def v_ref1_InsRight_l2 (i : El T_api_Ins) (h : Bool) : Int :=
  bif h then
    (4 : Int)
  else bif (i.1 == (11 : Int)) then
    bif (decide (i.2.2.1 < (1 : Int))) then
      v_ref1_InsRight_l5 i true
    else bif (decide (i.2.2.1 > (10 : Int))) then
      v_ref1_InsRight_l5 i true
    else bif (i.1 != (11 : Int)) then
      v_ref1_InsRight_l5 i (i.2.2.1 != (0 : Int))
    else v_ref1_InsRight_l5 i false
  else bif (i.1 != (11 : Int)) then
    v_ref1_InsRight_l5 i (i.2.2.1 != (0 : Int))
  else v_ref1_InsRight_l5 i false
def k_ref1_InsRight_l2 (i : El T_api_Ins) (h : Bool) : Bool :=
  bif h then
    true
  else bif (i.1 == (11 : Int)) then
    bif (decide (i.2.2.1 < (1 : Int))) then
      k_ref1_InsRight_l5 i true
    else bif (decide (i.2.2.1 > (10 : Int))) then
      k_ref1_InsRight_l5 i true
    else bif (i.1 != (11 : Int)) then
      k_ref1_InsRight_l5 i (i.2.2.1 != (0 : Int))
    else k_ref1_InsRight_l5 i false
  else bif (i.1 != (11 : Int)) then
    k_ref1_InsRight_l5 i (i.2.2.1 != (0 : Int))
  else k_ref1_InsRight_l5 i false
theorem g_ref1_InsRight_l2 (i : El T_api_Ins) (h : Bool) (hk : k_ref1_InsRight_l2 i h = true) : Goes (T_ref1_InsRight i) (.jmp (.l2 h)) (v_ref1_InsRight_l2 i h) :=
  Goes.jmp (Goes.brk hk (fun hk =>
    Goes.leaf) (fun hk =>
    Goes.brk hk (fun hk =>
      Goes.brk hk (fun hk =>
        g_ref1_InsRight_l5 i true hk) (fun hk =>
        Goes.brk hk (fun hk =>
          g_ref1_InsRight_l5 i true hk) (fun hk =>
          Goes.brk hk (fun hk =>
            g_ref1_InsRight_l5 i (i.2.2.1 != (0 : Int)) hk) (fun hk =>
            g_ref1_InsRight_l5 i false hk)))) (fun hk =>
      Goes.brk hk (fun hk =>
        g_ref1_InsRight_l5 i (i.2.2.1 != (0 : Int)) hk) (fun hk =>
        g_ref1_InsRight_l5 i false hk))))
def u_ref1_InsRight (i : El T_api_Ins) : Int :=
  bif (decide (i.1 < (1 : Int))) then
    v_ref1_InsRight_l2 i true
  else bif (decide (i.1 > (14 : Int))) then
    v_ref1_InsRight_l2 i true
  else bif (! (v_ref1_row i)) then
    v_ref1_InsRight_l2 i true
  else bif (! (v_ref1_Jumps i.1)) then
    v_ref1_InsRight_l2 i (! (eqB i.2.2.2.2.2.1 (bs [])))
  else v_ref1_InsRight_l2 i false
def ku_ref1_InsRight (i : El T_api_Ins) : Bool :=
  bif (decide (i.1 < (1 : Int))) then
    k_ref1_InsRight_l2 i true
  else bif (decide (i.1 > (14 : Int))) then
    k_ref1_InsRight_l2 i true
  else bif (! (v_ref1_row i)) then
    k_ref1_InsRight_l2 i true
  else bif (! (v_ref1_Jumps i.1)) then
    k_ref1_InsRight_l2 i (! (eqB i.2.2.2.2.2.1 (bs [])))
  else k_ref1_InsRight_l2 i false
theorem gu_ref1_InsRight (i : El T_api_Ins) (hk : ku_ref1_InsRight i = true) : Goes (T_ref1_InsRight i) (T0_ref1_InsRight i) (u_ref1_InsRight i) :=
  Goes.brk hk (fun hk =>
    g_ref1_InsRight_l2 i true hk) (fun hk =>
    Goes.brk hk (fun hk =>
      g_ref1_InsRight_l2 i true hk) (fun hk =>
      Goes.brk hk (fun hk =>
        g_ref1_InsRight_l2 i true hk) (fun hk =>
        Goes.brk hk (fun hk =>
          g_ref1_InsRight_l2 i (! (eqB i.2.2.2.2.2.1 (bs []))) hk) (fun hk =>
          g_ref1_InsRight_l2 i false hk))))
def R_ref1_InsRight : Int → AV := fun (r : Int) => .d (.int .i64) r
def S_ref1_InsRight (i : El T_api_Ins) : J_ref1_InsRight → Nat × St
  | .l2 h => (2, ⟨mkTm 59 [(1, .pt 2 0 0), (26, .d .bool h)], [(2, 0, .box 48 [.d (.int .i64) i.1, .d .bool i.2.1, .d (.int .i64) i.2.2.1, .d (.int .i64) i.2.2.2.1.1, .d (.int .i64) i.2.2.2.1.2.1, .d (.int .i64) i.2.2.2.1.2.2.1, .d (.int .i64) i.2.2.2.1.2.2.2, .d (.int .i64) i.2.2.2.2.1.1, .d (.int .i64) i.2.2.2.2.1.2.1, .d (.int .i64) i.2.2.2.2.1.2.2.1, .d (.int .i64) i.2.2.2.2.1.2.2.2, .d .str i.2.2.2.2.2.1, .d (.sl .str) i.2.2.2.2.2.2] none)]⟩)
  | .l5 h => (5, ⟨mkTm 59 [(1, .pt 2 0 0), (49, .d .bool h)], [(2, 0, .box 48 [.d (.int .i64) i.1, .d .bool i.2.1, .d (.int .i64) i.2.2.1, .d (.int .i64) i.2.2.2.1.1, .d (.int .i64) i.2.2.2.1.2.1, .d (.int .i64) i.2.2.2.1.2.2.1, .d (.int .i64) i.2.2.2.1.2.2.2, .d (.int .i64) i.2.2.2.2.1.1, .d (.int .i64) i.2.2.2.2.1.2.1, .d (.int .i64) i.2.2.2.2.1.2.2.1, .d (.int .i64) i.2.2.2.2.1.2.2.2, .d .str i.2.2.2.2.2.1, .d (.sl .str) i.2.2.2.2.2.2] none)]⟩)
theorem en_ref1_InsRight (i : El T_api_Ins) (L : Lt) : entryA Go.Proofs.Tryz.prog (clOf t_ref1_InsRight) tb_ref1_InsRight Go.Proofs.Tryz.f38 c_ref1_InsRight L (toForms sg_ref1_InsRight (i, ())) = (T0_ref1_InsRight i).run (fun v => some (R_ref1_InsRight v, tps (toForms sg_ref1_InsRight (i, ())))) fun j => L (S_ref1_InsRight i j).1 (S_ref1_InsRight i j).2 := by kernel_rfl
theorem lp_ref1_InsRight (i : El T_api_Ins) : ∀ (L : Lt) (j : J_ref1_InsRight), procOf (procsF Go.Proofs.Tryz.prog (clOf t_ref1_InsRight) tb_ref1_InsRight Go.Proofs.Tryz.f38 c_ref1_InsRight (toForms sg_ref1_InsRight (i, ()))) (S_ref1_InsRight i j).1 L (S_ref1_InsRight i j).2 = (T_ref1_InsRight i j).run (fun v => some (R_ref1_InsRight v, tps (toForms sg_ref1_InsRight (i, ())))) fun j => L (S_ref1_InsRight i j).1 (S_ref1_InsRight i j).2
  | L, .l2 h => by kernel_rfl
  | L, .l5 h => by kernel_rfl
end
end Go.Ev
end

section
set_option linter.unusedSectionVars false
set_option linter.unusedVariables false
set_option linter.unusedSimpArgs false
set_option linter.unusedVariables false
set_option linter.unusedSimpArgs false
open Go
namespace Go.Ev
def refRB_l5 (op cond : Int) (row nm te : Bool) (h : Bool) : Int :=
  bif h then
    (4 : Int)
  else bif (bif (op == (10 : Int)) then true else (op == (11 : Int))) then
    bif true then
      bif (! nm) then
        (3 : Int)
      else (0 : Int)
    else (0 : Int)
  else (0 : Int)
def refRB_l2 (op cond : Int) (row nm te : Bool) (h : Bool) : Int :=
  bif h then
    (4 : Int)
  else bif (op == (11 : Int)) then
    bif (decide (cond < (1 : Int))) then
      refRB_l5 op cond row nm te true
    else bif (decide (cond > (10 : Int))) then
      refRB_l5 op cond row nm te true
    else bif (op != (11 : Int)) then
      refRB_l5 op cond row nm te (cond != (0 : Int))
    else refRB_l5 op cond row nm te false
  else bif (op != (11 : Int)) then
    refRB_l5 op cond row nm te (cond != (0 : Int))
  else refRB_l5 op cond row nm te false
def refRB (op cond : Int) (row nm te : Bool) : Int :=
  bif (decide (op < (1 : Int))) then
    refRB_l2 op cond row nm te true
  else bif (decide (op > (14 : Int))) then
    refRB_l2 op cond row nm te true
  else bif (! row) then
    refRB_l2 op cond row nm te true
  else bif (! (bif (op == (10 : Int)) then true else (op == (11 : Int)))) then
    refRB_l2 op cond row nm te (! te)
  else refRB_l2 op cond row nm te false
def insRB (op cond : Int) (row nm te : Bool) : Int :=
  bif (op == (10 : Int)) then
    bif (! (decide (1 ≤ op) && (decide (op ≤ 14) && (row && condOK op cond)))) then
      (4 : Int)
    else bif true then
      bif (! nm) then
        (3 : Int)
      else (0 : Int)
    else (0 : Int)
  else bif (! (decide (1 ≤ op) && (decide (op ≤ 14) && (row && condOK op cond)))) then
    (4 : Int)
  else bif (! (op == (11 : Int))) then
    bif (! te) then
      (4 : Int)
    else bif (op == (11 : Int)) then
      bif true then
        bif (! nm) then
          (3 : Int)
        else (0 : Int)
      else (0 : Int)
    else (0 : Int)
  else bif (op == (11 : Int)) then
    bif true then
      bif (! nm) then
        (3 : Int)
      else (0 : Int)
    else (0 : Int)
  else (0 : Int)

theorem rightB (op cond : Int) (row nm te : Bool) : refRB op cond row nm te = insRB op cond row nm te := by
  unfold refRB refRB_l2 refRB_l5 insRB condOK
  have beqs : ∀ (k c : Int), (k == c) = decide (k = c) := fun k c => by rw [Bool.eq_iff_iff]; simp
  have bnes : ∀ (k c : Int), (k != c) = !decide (k = c) := fun k c => by rw [Bool.eq_iff_iff]; simp
  simp only [beqs, bnes]
  by_cases h1 : op < 1
  · have e1 : decide (op = 10) = false := by simp; omega
    have e2 : decide (op = 11) = false := by simp; omega
    have e3 : decide (1 ≤ op) = false := by simp; omega
    simp [h1, e1, e2, e3]
  by_cases h2 : op > 14
  · have e1 : decide (op = 10) = false := by simp; omega
    have e2 : decide (op = 11) = false := by simp; omega
    have e3 : decide (op ≤ 14) = false := by simp; omega
    simp [h1, h2, e1, e2, e3]
  have e3 : decide (1 ≤ op) = true := by simp; omega
  have e4 : decide (op ≤ 14) = true := by simp; omega
  by_cases h10 : op = 10
  · subst h10
    by_cases hc : cond = 0 <;> cases row <;> cases nm <;> simp [hc]
  by_cases h11 : op = 11
  · subst h11
    have f1 : decide (1 ≤ cond) = !decide (cond < 1) := by by_cases h : cond < 1 <;> simp [h] <;> omega
    have f2 : decide (cond ≤ 10) = !decide (cond > 10) := by by_cases h : cond > 10 <;> simp [h] <;> omega
    rw [f1, f2]
    by_cases hc : cond < 1 <;> by_cases hd : cond > 10 <;> cases row <;> cases nm <;> simp [hc, hd]
  by_cases hc : cond = 0 <;> cases row <;> cases te <;> simp [h1, h2, h10, h11, e3, e4, hc]
def v_ref1_InsRight (i : El T_api_Ins) : Int := v_ins_Right i
def k_ref1_InsRight (i : El T_api_Ins) : Bool := smallText i.2.2.2.2.2.1
theorem g_ref1_InsRight (i : El T_api_Ins) (hk : k_ref1_InsRight i = true) : Goes (T_ref1_InsRight i) (T0_ref1_InsRight i) (v_ref1_InsRight i) := by
  have h1 : k_ref1_Right i.2.2.2.2.2.1 = true := hk
  have h2 : k_names_Right i.2.2.2.2.2.1 = true := hk
  have hku : ku_ref1_InsRight i = true := by
    unfold ku_ref1_InsRight k_ref1_InsRight_l2 k_ref1_InsRight_l5
    simp only [h1, cond_true, Bool.cond_self]
  have hr : u_ref1_InsRight i = refRB i.1 i.2.2.1 (v_ref1_row i) (nameRight i.2.2.2.2.2.1) (eqB i.2.2.2.2.2.1 (bs [])) := by
    unfold u_ref1_InsRight v_ref1_InsRight_l2 v_ref1_InsRight_l5
    simp only [h1]
    rfl
  have hp : u_ins_Right i = insRB i.1 i.2.2.1 (v_ref1_row i) (nameRight i.2.2.2.2.2.1) (eqB i.2.2.2.2.2.1 (bs [])) := by
    unfold u_ins_Right
    simp only [h2, fits_row]
    rfl
  have e : v_ref1_InsRight i = u_ref1_InsRight i := by
    rw [hr, rightB, ← hp]
    rfl
  rw [e]
  exact gu_ref1_InsRight i hku
end Go.Ev
end

section
set_option linter.unusedSectionVars false
set_option linter.unusedVariables false
set_option linter.unusedSimpArgs false
set_option maxRecDepth 100000
set_option linter.unusedVariables false
open Go Go.Ev
namespace Go.Ev
noncomputable section
noncomputable def e_ref1_InsRight : Run := entG sg_ref1_InsRight R_ref1_InsRight (fun a => k_ref1_InsRight a.1) (fun a => v_ref1_InsRight a.1)
theorem ok_ref1_InsRight : EntOK Go.Proofs.Tryz.prog 38 e_ref1_InsRight := entG_ok (tb := tb_ref1_InsRight) (c := c_ref1_InsRight) tk_ref1_InsRight (by kernel_rfl) (by kernel_rfl) (by kernel_rfl) (fun a => by kernel_rfl) fun ⟨i, _⟩ hk => evF_goes (c := c_ref1_InsRight) (K := fun v => (R_ref1_InsRight v, tps (toForms sg_ref1_InsRight (i, ())))) (S := S_ref1_InsRight i) (by kernel_rfl) (en_ref1_InsRight i) (lp_ref1_InsRight i) (g_ref1_InsRight i hk)
end
end Go.Ev
end

section
set_option linter.unusedSectionVars false
set_option linter.unusedVariables false
set_option linter.unusedSimpArgs false
set_option maxRecDepth 100000
set_option linter.unusedVariables false
open Go Go.Ev
namespace Go.Ev
noncomputable section
/-! ### paling/palingref1.operand -/
def sg_ref1_operand : Sig := [(true, T_api_Prog), (true, T_api_Opd)]
noncomputable def t_ref1_operand : Tbl := [(52, e_ref1_Memory)]
theorem tk_ref1_operand : ∀ p ∈ t_ref1_operand, EntOK Go.Proofs.Tryz.prog p.1 p.2 := tbl_cons ok_ref1_Memory (tbl_nil)
noncomputable def c_ref1_operand : Code := Go.Proofs.Tryz.f39.body.getD .skip
def tb_ref1_operand : Tb := []
def T_ref1_operand (p : El T_api_Prog) (o : El T_api_Opd) : Empty → JT Empty (Int) := fun j => nomatch j
def T0_ref1_operand (p : El T_api_Prog) (o : El T_api_Opd) : JT Empty (Int) :=
  .br (! (v_ref1_Memory o))
    (.leaf (0 : Int))
  (.br (decide (o.2.2.1 ≥ (Int.ofNat (List.length p.1))))
    (.leaf (7 : Int))
  (.br (o.1 == (3 : Int))
    (.br ((decide ((0 : Int) ≤ o.2.2.1)) && (decide (o.2.2.1 < (Int.ofNat (List.length p.1)))))
      (.br (decide (o.2.2.2 ≥ (List.getD p.1 (Int.toNat o.2.2.1) (dflt T_api_Sym)).2.1))
        (.leaf (8 : Int))
      (.leaf (0 : Int)))
    (.no))
  (.leaf (0 : Int))))
def v_ref1_operand (p : El T_api_Prog) (o : El T_api_Opd) : Int :=
  bif (! (v_ref1_Memory o)) then
    (0 : Int)
  else bif (decide (o.2.2.1 ≥ (Int.ofNat (List.length p.1)))) then
    (7 : Int)
  else bif (o.1 == (3 : Int)) then
    bif ((decide ((0 : Int) ≤ o.2.2.1)) && (decide (o.2.2.1 < (Int.ofNat (List.length p.1))))) then
      bif (decide (o.2.2.2 ≥ (List.getD p.1 (Int.toNat o.2.2.1) (dflt T_api_Sym)).2.1)) then
        (8 : Int)
      else (0 : Int)
    else (0 : Int)
  else (0 : Int)
def k_ref1_operand (p : El T_api_Prog) (o : El T_api_Opd) : Bool :=
  bif (! (v_ref1_Memory o)) then
    true
  else bif (decide (o.2.2.1 ≥ (Int.ofNat (List.length p.1)))) then
    true
  else bif (o.1 == (3 : Int)) then
    bif ((decide ((0 : Int) ≤ o.2.2.1)) && (decide (o.2.2.1 < (Int.ofNat (List.length p.1))))) then
      bif (decide (o.2.2.2 ≥ (List.getD p.1 (Int.toNat o.2.2.1) (dflt T_api_Sym)).2.1)) then
        true
      else true
    else false
  else true
theorem g_ref1_operand (p : El T_api_Prog) (o : El T_api_Opd) (hk : k_ref1_operand p o = true) : Goes (T_ref1_operand p o) (T0_ref1_operand p o) (v_ref1_operand p o) :=
  Goes.brk hk (fun hk =>
    Goes.leaf) (fun hk =>
    Goes.brk hk (fun hk =>
      Goes.leaf) (fun hk =>
      Goes.brk hk (fun hk =>
        Goes.brk hk (fun hk =>
          Goes.brk hk (fun hk =>
            Goes.leaf) (fun hk =>
            Goes.leaf)) (fun hk =>
          Goes.nok hk)) (fun hk =>
        Goes.leaf)))
def R_ref1_operand : Int → AV := fun (r : Int) => .d (.int .i64) r
def S_ref1_operand (p : El T_api_Prog) (o : El T_api_Opd) : Empty → Nat × St := fun j => nomatch j
theorem en_ref1_operand (p : El T_api_Prog) (o : El T_api_Opd) (L : Lt) : entryA Go.Proofs.Tryz.prog (clOf t_ref1_operand) tb_ref1_operand Go.Proofs.Tryz.f39 c_ref1_operand L (toForms sg_ref1_operand (p, o, ())) = (T0_ref1_operand p o).run (fun v => some (R_ref1_operand v, tps (toForms sg_ref1_operand (p, o, ())))) fun j => L (S_ref1_operand p o j).1 (S_ref1_operand p o j).2 := by kernel_rfl
theorem lp_ref1_operand (p : El T_api_Prog) (o : El T_api_Opd) : ∀ (L : Lt) (j : Empty), procOf (procsF Go.Proofs.Tryz.prog (clOf t_ref1_operand) tb_ref1_operand Go.Proofs.Tryz.f39 c_ref1_operand (toForms sg_ref1_operand (p, o, ()))) (S_ref1_operand p o j).1 L (S_ref1_operand p o j).2 = (T_ref1_operand p o j).run (fun v => some (R_ref1_operand v, tps (toForms sg_ref1_operand (p, o, ())))) fun j => L (S_ref1_operand p o j).1 (S_ref1_operand p o j).2 := fun L j => nomatch j
noncomputable def e_ref1_operand : Run := entG sg_ref1_operand R_ref1_operand (fun a => k_ref1_operand a.1 a.2.1) (fun a => v_ref1_operand a.1 a.2.1)
theorem ok_ref1_operand : EntOK Go.Proofs.Tryz.prog 39 e_ref1_operand := entG_ok (tb := tb_ref1_operand) (c := c_ref1_operand) tk_ref1_operand (by kernel_rfl) (by kernel_rfl) (by kernel_rfl) (fun a => by kernel_rfl) fun ⟨p, o, _⟩ hk => evF_goes (c := c_ref1_operand) (K := fun v => (R_ref1_operand v, tps (toForms sg_ref1_operand (p, o, ())))) (S := S_ref1_operand p o) (by kernel_rfl) (en_ref1_operand p o) (lp_ref1_operand p o) (g_ref1_operand p o hk)
end
end Go.Ev
end

section
set_option linter.unusedSectionVars false
set_option linter.unusedVariables false
set_option linter.unusedSimpArgs false
set_option maxRecDepth 100000
set_option linter.unusedVariables false
open Go Go.Ev
namespace Go.Ev
noncomputable section
/-! ### paling/palingref1.Find -/
def sg_ref1_Find : Sig := [(true, (.sl T_api_Ins)), (false, .str)]
noncomputable def t_ref1_Find : Tbl := [(37, e_ref1_index)]
theorem tk_ref1_Find : ∀ p ∈ t_ref1_Find, EntOK Go.Proofs.Tryz.prog p.1 p.2 := tbl_cons ok_ref1_index (tbl_nil)
noncomputable def c_ref1_Find : Code := Go.Proofs.Tryz.f41.body.getD .skip
def tb_ref1_Find : Tb := [(3, ⟨[1, 2, 5], []⟩)]
inductive J_ref1_Find where
  | l3 (i : Int)
def T_ref1_Find (t : List (El T_api_Ins)) (label : ByteArray) : J_ref1_Find → JT J_ref1_Find (Int)
  | .l3 i =>
    .br (decide (i < (Int.ofNat (List.length t))))
      (.br ((decide ((0 : Int) ≤ i)) && (decide (i < (Int.ofNat (List.length t)))))
        (.br (k_ref1_index (List.getD t (Int.toNat i) (dflt T_api_Ins)).2.2.2.2.2.2 label)
          (.br (decide ((v_ref1_index (List.getD t (Int.toNat i) (dflt T_api_Ins)).2.2.2.2.2.2 label) ≥ (0 : Int)))
            (.leaf i)
          (.jmp (.l3 (IntKind.i64.wrap (i + (1 : Int))))))
        (.no))
      (.no))
    (.leaf (-1 : Int))
def T0_ref1_Find (t : List (El T_api_Ins)) (label : ByteArray) : JT J_ref1_Find (Int) :=
  .jmp (.l3 (0 : Int))
def R_ref1_Find : Int → AV := fun (r : Int) => .d (.int .i64) r
def S_ref1_Find (t : List (El T_api_Ins)) (label : ByteArray) : J_ref1_Find → Nat × St
  | .l3 i => (3, ⟨mkTm 23 [(1, .d .str label), (2, .pt 3 0 0), (5, .d (.int .i64) i)], [(3, 0, .box 31 [.d (.sl T_api_Ins) t] none)]⟩)
theorem en_ref1_Find (t : List (El T_api_Ins)) (label : ByteArray) (L : Lt) : entryA Go.Proofs.Tryz.prog (clOf t_ref1_Find) tb_ref1_Find Go.Proofs.Tryz.f41 c_ref1_Find L (toForms sg_ref1_Find (t, label, ())) = (T0_ref1_Find t label).run (fun v => some (R_ref1_Find v, tps (toForms sg_ref1_Find (t, label, ())))) fun j => L (S_ref1_Find t label j).1 (S_ref1_Find t label j).2 := by kernel_rfl
theorem lp_ref1_Find (t : List (El T_api_Ins)) (label : ByteArray) : ∀ (L : Lt) (j : J_ref1_Find), procOf (procsF Go.Proofs.Tryz.prog (clOf t_ref1_Find) tb_ref1_Find Go.Proofs.Tryz.f41 c_ref1_Find (toForms sg_ref1_Find (t, label, ()))) (S_ref1_Find t label j).1 L (S_ref1_Find t label j).2 = (T_ref1_Find t label j).run (fun v => some (R_ref1_Find v, tps (toForms sg_ref1_Find (t, label, ())))) fun j => L (S_ref1_Find t label j).1 (S_ref1_Find t label j).2
  | L, .l3 i => by kernel_rfl
end
end Go.Ev
end

section
set_option linter.unusedSectionVars false
set_option linter.unusedVariables false
set_option linter.unusedSimpArgs false
set_option linter.unusedVariables false
set_option linter.unusedSimpArgs false
open Go
namespace Go.Ev
def v_ref1_Find (t : List (El T_api_Ins)) (label : ByteArray) : Int := findI label t 0
def k_ref1_Find (t : List (El T_api_Ins)) (label : ByteArray) : Bool := decide (t.length < 1099511627776) && t.all fun i => decide (i.2.2.2.2.2.2.length < 1099511627776)
theorem g_ref1_Find (t : List (El T_api_Ins)) (label : ByteArray) (hk : k_ref1_Find t label = true) : Goes (T_ref1_Find t label) (T0_ref1_Find t label) (v_ref1_Find t label) := by
  unfold k_ref1_Find at hk
  simp only [Bool.and_eq_true, decide_eq_true_eq, List.all_eq_true] at hk
  obtain ⟨hn, hl⟩ := hk
  have loop : ∀ k, k ≤ t.length → Goes (T_ref1_Find t label) (.jmp (.l3 (k : Int))) (findI label (t.drop k) k) := by
    refine down ?_ fun k hk ih => ?_
    · rw [goes_jmp]
      simp only [T_ref1_Find, goes_br, lt_len_not (Nat.lt_irrefl _), goes_leaf, List.drop_length]
      simp [findI]
    · have hli := hl t[k] (List.getElem_mem hk)
      have hki : k_ref1_index t[k].2.2.2.2.2.2 label = true := decide_eq_true (by omega)
      rw [goes_jmp]
      simp only [T_ref1_Find, goes_br, lt_len hk, nng, Bool.and_self, if_true, Int.toNat_natCast, getD_lt hk, wrap_succ (k := k) (by omega), hki]
      rw [drop_cons hk]
      unfold findI
      have hi : decide (v_ref1_index t[k].2.2.2.2.2.2 label ≥ 0) = t[k].2.2.2.2.2.2.contains label := by
        rw [← findFrom_contains (k := 0)]
        unfold v_ref1_index
        cases h : findFrom label t[k].2.2.2.2.2.2 0 with
        | none => rfl
        | some n => simp
      rw [hi]
      split
      · exact .leaf
      · exact ih
  unfold T0_ref1_Find v_ref1_Find
  simpa using loop 0 (Nat.zero_le _)
end Go.Ev
end

section
set_option linter.unusedSectionVars false
set_option linter.unusedVariables false
set_option linter.unusedSimpArgs false
set_option maxRecDepth 100000
set_option linter.unusedVariables false
open Go Go.Ev
namespace Go.Ev
noncomputable section
noncomputable def e_ref1_Find : Run := entG sg_ref1_Find R_ref1_Find (fun a => k_ref1_Find a.1 a.2.1) (fun a => v_ref1_Find a.1 a.2.1)
theorem ok_ref1_Find : EntOK Go.Proofs.Tryz.prog 41 e_ref1_Find := entG_ok (tb := tb_ref1_Find) (c := c_ref1_Find) tk_ref1_Find (by kernel_rfl) (by kernel_rfl) (by kernel_rfl) (fun a => by kernel_rfl) fun ⟨t, label, _⟩ hk => evF_goes (c := c_ref1_Find) (K := fun v => (R_ref1_Find v, tps (toForms sg_ref1_Find (t, label, ())))) (S := S_ref1_Find t label) (by kernel_rfl) (en_ref1_Find t label) (lp_ref1_Find t label) (g_ref1_Find t label hk)
end
end Go.Ev
end

section
set_option linter.unusedSectionVars false
set_option linter.unusedVariables false
set_option linter.unusedSimpArgs false
set_option maxRecDepth 100000
set_option linter.unusedVariables false
open Go Go.Ev
namespace Go.Ev
noncomputable section
/-! ### paling/palingref1.thread -/
def sg_ref1_thread : Sig := [(true, T_api_Prog), (true, (.sl T_api_Ins))]
noncomputable def t_ref1_thread : Tbl := [(36, e_ref1_Count), (23, e_ref1_Right), (37, e_ref1_index), (38, e_ref1_InsRight), (39, e_ref1_operand), (40, e_ref1_Jumps), (41, e_ref1_Find)]
theorem tk_ref1_thread : ∀ p ∈ t_ref1_thread, EntOK Go.Proofs.Tryz.prog p.1 p.2 := tbl_cons ok_ref1_Count (tbl_cons ok_ref1_Right (tbl_cons ok_ref1_index (tbl_cons ok_ref1_InsRight (tbl_cons ok_ref1_operand (tbl_cons ok_ref1_Jumps (tbl_cons ok_ref1_Find (tbl_nil)))))))
noncomputable def c_ref1_thread : Code := Go.Proofs.Tryz.f24.body.getD .skip
def tb_ref1_thread : Tb := [(7, ⟨[2, 3, 5, 6], [(6, 92)]⟩), (14, ⟨[2, 3, 5, 6, 7, 8], [(6, 92)]⟩), (44, ⟨[3, 13], []⟩)]
inductive J_ref1_thread where
  | l7 (i : Int) (seen : List ByteArray)
  | l14 (x : Int) (x1 : Bool) (x2 : Int) (x3 : Int) (x4 : Int) (x5 : Int) (x6 : Int) (x7 : Int) (x8 : Int) (x9 : Int) (x10 : Int) (x11 : ByteArray) (x12 : List ByteArray) (k : Int) (seen : List ByteArray) (i : Int)
  | l44 (i : Int)
def T_ref1_thread (p : El T_api_Prog) (t : List (El T_api_Ins)) : J_ref1_thread → JT J_ref1_thread (Int)
  | .l7 i seen =>
    .br (decide (i < (Int.ofNat (List.length t))))
      (.br ((decide ((0 : Int) ≤ i)) && (decide (i < (Int.ofNat (List.length t)))))
        (.jmp (.l14 (List.getD t (Int.toNat i) (dflt T_api_Ins)).1 (List.getD t (Int.toNat i) (dflt T_api_Ins)).2.1 (List.getD t (Int.toNat i) (dflt T_api_Ins)).2.2.1 (List.getD t (Int.toNat i) (dflt T_api_Ins)).2.2.2.1.1 (List.getD t (Int.toNat i) (dflt T_api_Ins)).2.2.2.1.2.1 (List.getD t (Int.toNat i) (dflt T_api_Ins)).2.2.2.1.2.2.1 (List.getD t (Int.toNat i) (dflt T_api_Ins)).2.2.2.1.2.2.2 (List.getD t (Int.toNat i) (dflt T_api_Ins)).2.2.2.2.1.1 (List.getD t (Int.toNat i) (dflt T_api_Ins)).2.2.2.2.1.2.1 (List.getD t (Int.toNat i) (dflt T_api_Ins)).2.2.2.2.1.2.2.1 (List.getD t (Int.toNat i) (dflt T_api_Ins)).2.2.2.2.1.2.2.2 (List.getD t (Int.toNat i) (dflt T_api_Ins)).2.2.2.2.2.1 (List.getD t (Int.toNat i) (dflt T_api_Ins)).2.2.2.2.2.2 (0 : Int) seen i))
      (.no))
    (.br ((Int.ofNat (List.length t)) == (0 : Int))
      (.leaf (9 : Int))
    (.br ((decide ((0 : Int) ≤ (IntKind.i64.wrap ((Int.ofNat (List.length t)) - (1 : Int))))) && (decide ((IntKind.i64.wrap ((Int.ofNat (List.length t)) - (1 : Int))) < (Int.ofNat (List.length t)))))
      (.br ((List.getD t (Int.toNat (IntKind.i64.wrap ((Int.ofNat (List.length t)) - (1 : Int)))) (dflt T_api_Ins)).1 != (10 : Int))
        (.br ((List.getD t (Int.toNat (IntKind.i64.wrap ((Int.ofNat (List.length t)) - (1 : Int)))) (dflt T_api_Ins)).1 != (14 : Int))
          (.leaf (9 : Int))
        (.jmp (.l44 (0 : Int))))
      (.jmp (.l44 (0 : Int))))
    (.no)))
  | .l14 x x1 x2 x3 x4 x5 x6 x7 x8 x9 x10 x11 x12 k seen i =>
    .br (decide (k < (Int.ofNat (List.length x12))))
      (.br ((decide ((0 : Int) ≤ k)) && (decide (k < (Int.ofNat (List.length x12)))))
        (.br (k_ref1_Right (List.getD x12 (Int.toNat k) (dflt .str)))
          (.br (! (v_ref1_Right (List.getD x12 (Int.toNat k) (dflt .str))))
            (.leaf (3 : Int))
          (.br ((decide ((0 : Int) ≤ k)) && (decide (k < (Int.ofNat (List.length x12)))))
            (.br (k_ref1_index seen (List.getD x12 (Int.toNat k) (dflt .str)))
              (.br (decide ((v_ref1_index seen (List.getD x12 (Int.toNat k) (dflt .str))) ≥ (0 : Int)))
                (.leaf (6 : Int))
              (.br ((decide ((0 : Int) ≤ k)) && (decide (k < (Int.ofNat (List.length x12)))))
                (.br (Nat.ble (((List.length seen) + 1) * 16) limit)
                  (.jmp (.l14 x x1 x2 x3 x4 x5 x6 x7 x8 x9 x10 x11 x12 (IntKind.i64.wrap (k + (1 : Int))) (seen ++ [(List.getD x12 (Int.toNat k) (dflt .str))]) i))
                (.no))
              (.no)))
            (.no))
          (.no)))
        (.no))
      (.no))
    (.br (k_ref1_InsRight (x, (x1, (x2, ((x3, (x4, (x5, x6))), ((x7, (x8, (x9, x10))), (x11, x12)))))))
      (.br ((v_ref1_InsRight (x, (x1, (x2, ((x3, (x4, (x5, x6))), ((x7, (x8, (x9, x10))), (x11, x12))))))) != (0 : Int))
        (.leaf (v_ref1_InsRight (x, (x1, (x2, ((x3, (x4, (x5, x6))), ((x7, (x8, (x9, x10))), (x11, x12))))))))
      (.br (k_ref1_operand p (x3, (x4, (x5, x6))))
        (.br ((v_ref1_operand p (x3, (x4, (x5, x6)))) != (0 : Int))
          (.leaf (v_ref1_operand p (x3, (x4, (x5, x6)))))
        (.br (k_ref1_operand p (x7, (x8, (x9, x10))))
          (.br ((v_ref1_operand p (x7, (x8, (x9, x10)))) != (0 : Int))
            (.leaf (v_ref1_operand p (x7, (x8, (x9, x10)))))
          (.jmp (.l7 (IntKind.i64.wrap (i + (1 : Int))) seen)))
        (.no)))
      (.no)))
    (.no))
  | .l44 i =>
    .br (decide (i < (Int.ofNat (List.length t))))
      (.br ((decide ((0 : Int) ≤ i)) && (decide (i < (Int.ofNat (List.length t)))))
        (.br (v_ref1_Jumps (List.getD t (Int.toNat i) (dflt T_api_Ins)).1)
          (.br ((decide ((0 : Int) ≤ i)) && (decide (i < (Int.ofNat (List.length t)))))
            (.br (k_ref1_Find t (List.getD t (Int.toNat i) (dflt T_api_Ins)).2.2.2.2.2.1)
              (.br (decide ((v_ref1_Find t (List.getD t (Int.toNat i) (dflt T_api_Ins)).2.2.2.2.2.1) < (0 : Int)))
                (.leaf (7 : Int))
              (.jmp (.l44 (IntKind.i64.wrap (i + (1 : Int))))))
            (.no))
          (.no))
        (.jmp (.l44 (IntKind.i64.wrap (i + (1 : Int))))))
      (.no))
    (.leaf (0 : Int))
def T0_ref1_thread (p : El T_api_Prog) (t : List (El T_api_Ins)) : JT J_ref1_thread (Int) :=
  .br (k_ref1_Count t)
    (.br (decide ((v_ref1_Count t) > (4096 : Int)))
      (.leaf (10 : Int))
    (.jmp (.l7 (0 : Int) [])))
  (.no)
def R_ref1_thread : Int → AV := fun (r : Int) => .d (.int .i64) r
def S_ref1_thread (p : El T_api_Prog) (t : List (El T_api_Ins)) : J_ref1_thread → Nat × St
  | .l7 i seen => (7, ⟨mkTm 122 [(2, .pt 3 0 0), (3, .pt 4 0 0), (5, .own 6 0 none), (6, .d (.int .i64) i)], [(3, 0, .box 26 [.d (.sl T_api_Sym) p.1, .d (.sl (.sl T_api_Ins)) p.2] none), (4, 0, .box 31 [.d (.sl T_api_Ins) t] none), (6, 0, .row 9 .str seen false)]⟩)
  | .l14 x x1 x2 x3 x4 x5 x6 x7 x8 x9 x10 x11 x12 k seen i => (14, ⟨mkTm 122 [(2, .pt 3 0 0), (3, .pt 4 0 0), (5, .own 6 0 none), (6, .d (.int .i64) i), (7, .pt 8 0 0), (8, .d (.int .i64) k)], [(3, 0, .box 26 [.d (.sl T_api_Sym) p.1, .d (.sl (.sl T_api_Ins)) p.2] none), (4, 0, .box 31 [.d (.sl T_api_Ins) t] none), (6, 0, .row 9 .str seen false), (8, 0, .box 48 [.d (.int .i64) x, .d .bool x1, .d (.int .i64) x2, .d (.int .i64) x3, .d (.int .i64) x4, .d (.int .i64) x5, .d (.int .i64) x6, .d (.int .i64) x7, .d (.int .i64) x8, .d (.int .i64) x9, .d (.int .i64) x10, .d .str x11, .d (.sl .str) x12] none)]⟩)
  | .l44 i => (44, ⟨mkTm 122 [(3, .pt 4 0 0), (13, .d (.int .i64) i)], [(4, 0, .box 31 [.d (.sl T_api_Ins) t] none)]⟩)
theorem en_ref1_thread (p : El T_api_Prog) (t : List (El T_api_Ins)) (L : Lt) : entryA Go.Proofs.Tryz.prog (clOf t_ref1_thread) tb_ref1_thread Go.Proofs.Tryz.f24 c_ref1_thread L (toForms sg_ref1_thread (p, t, ())) = (T0_ref1_thread p t).run (fun v => some (R_ref1_thread v, tps (toForms sg_ref1_thread (p, t, ())))) fun j => L (S_ref1_thread p t j).1 (S_ref1_thread p t j).2 := by kernel_rfl
theorem lp_ref1_thread (p : El T_api_Prog) (t : List (El T_api_Ins)) : ∀ (L : Lt) (j : J_ref1_thread), procOf (procsF Go.Proofs.Tryz.prog (clOf t_ref1_thread) tb_ref1_thread Go.Proofs.Tryz.f24 c_ref1_thread (toForms sg_ref1_thread (p, t, ()))) (S_ref1_thread p t j).1 L (S_ref1_thread p t j).2 = (T_ref1_thread p t j).run (fun v => some (R_ref1_thread v, tps (toForms sg_ref1_thread (p, t, ())))) fun j => L (S_ref1_thread p t j).1 (S_ref1_thread p t j).2
  | L, .l7 i seen => by kernel_rfl
  | L, .l14 x x1 x2 x3 x4 x5 x6 x7 x8 x9 x10 x11 x12 k seen i => by kernel_rfl
  | L, .l44 i => by kernel_rfl
end
end Go.Ev
end

section
set_option linter.unusedSectionVars false
set_option linter.unusedVariables false
set_option linter.unusedSimpArgs false
set_option linter.unusedVariables false
set_option linter.unusedSimpArgs false
open Go
namespace Go.Ev
def v_ref1_thread (p : El T_api_Prog) (t : List (El T_api_Ins)) : Int := threadC p t
def k_ref1_thread (p : El T_api_Prog) (t : List (El T_api_Ins)) : Bool := smallThread t
theorem operand_eq' (len : Nat) (size : Int → Int) (k s n : Int) (h : (k = 3 ∨ k = 4) → 0 ≤ s) :
  (bif (! (decide (k = 3) || decide (k = 4))) then
    (0 : Int)
  else bif (decide (s ≥ (Int.ofNat len))) then
    (7 : Int)
  else bif (k == (3 : Int)) then
    bif ((decide ((0 : Int) ≤ s)) && (decide (s < (Int.ofNat len)))) then
      bif (decide (n ≥ size s)) then
        (8 : Int)
      else (0 : Int)
    else (0 : Int)
  else (0 : Int)) = placeN len size k s n ∧
  (bif (! (decide (k = 3) || decide (k = 4))) then
    true
  else bif (decide (s ≥ (Int.ofNat len))) then
    true
  else bif (k == (3 : Int)) then
    bif ((decide ((0 : Int) ≤ s)) && (decide (s < (Int.ofNat len)))) then
      bif (decide (n ≥ size s)) then
        true
      else true
    else false
  else true) = true := by
  unfold placeN
  by_cases h3 : k = 3
  · have h0 := h (.inl h3)
    subst h3
    by_cases hl : (len : Int) ≤ s
    · simp [hl]
    have h2 : s < (len : Int) := by omega
    have h1 : ¬ s < 0 := by omega
    by_cases hn : size s ≤ n
    · simp [hl, hn, h0, h1, h2]
    · simp [hl, hn, h0, h1, h2]
  by_cases h4 : k = 4
  · have h0 := h (.inr h4)
    subst h4
    have h1 : ¬ s < 0 := by omega
    by_cases hl : (len : Int) ≤ s
    · simp [hl]
    simp [hl, h1]
  simp [h3, h4]
theorem operand_eq (p : El T_api_Prog) (o : El T_api_Opd) (h : ∀ k s : Int, o.1 = k → o.2.2.1 = s → (k = 3 ∨ k = 4) → 0 ≤ s) : v_ref1_operand p o = placeC p o ∧ k_ref1_operand p o = true := by
  have := operand_eq' p.1.length (fun s => (List.getD p.1 s.toNat (dflt T_api_Sym)).2.1) o.1 o.2.2.1 o.2.2.2 (h _ _ rfl rfl)
  unfold v_ref1_operand k_ref1_operand
  rw [refMemory_eq]
  exact this
theorem right_sym' {k r s n : Int} (h : v_opnd_Right (k, r, s, n) = true) (hk : k = 3 ∨ k = 4) : 0 ≤ s := by
  unfold v_opnd_Right at h
  rcases hk with rfl | rfl
  · by_cases hs : 0 ≤ s
    · exact hs
    · simp [hs] at h
  · by_cases hs : 0 ≤ s
    · exact hs
    · simp [hs] at h
theorem opds_ok {i : El T_api_Ins} (hr : v_ins_Right i = 0) : (∀ k s : Int, i.2.2.2.1.1 = k → i.2.2.2.1.2.2.1 = s → (k = 3 ∨ k = 4) → 0 ≤ s) ∧ ∀ k s : Int, i.2.2.2.2.1.1 = k → i.2.2.2.2.1.2.2.1 = s → (k = 3 ∨ k = 4) → 0 ≤ s := by
  obtain ⟨h1, h14, hrow⟩ := right0_row hr
  rcases nine i.1 with ⟨h9, _⟩ | ⟨h9, _⟩
  · obtain ⟨a, b⟩ := row_low hrow h1 h9
    exact ⟨fun k s hk hs h => hs ▸ right_sym' (k := i.2.2.2.1.1) (r := i.2.2.2.1.2.1) (s := i.2.2.2.1.2.2.1) (n := i.2.2.2.1.2.2.2) a (hk ▸ h), fun k s hk hs h => hs ▸ right_sym' (k := i.2.2.2.2.1.1) (r := i.2.2.2.2.1.2.1) (s := i.2.2.2.2.1.2.2.1) (n := i.2.2.2.2.1.2.2.2) b (hk ▸ h)⟩
  · obtain ⟨a, b⟩ := row_high hrow h9
    refine ⟨fun k s hk hs h => ?_, fun k s hk hs h => ?_⟩
    · have : k = 0 := hk ▸ a
      omega
    · have : k = 0 := hk ▸ b
      omega
theorem g_ref1_thread (p : El T_api_Prog) (t : List (El T_api_Ins)) (hk : k_ref1_thread p t = true) : Goes (T_ref1_thread p t) (T0_ref1_thread p t) (v_ref1_thread p t) := by
  have hS := smallT hk
  have hn := hS.len
  have hkf : ∀ l, k_ref1_Find t l = true := fun l => by
    unfold k_ref1_Find
    simp only [Bool.and_eq_true, decide_eq_true_eq, List.all_eq_true]
    exact ⟨hn, fun i hi => Nat.lt_of_le_of_lt (labels_mem hi) hS.labs⟩
  have jmps : ∀ k, k ≤ t.length → Goes (T_ref1_thread p t) (.jmp (.l44 (k : Int))) (jumpC (labels t) (t.drop k)) := by
    refine down ?_ fun k hk ih => ?_
    · rw [goes_jmp]
      simp only [T_ref1_thread, goes_br, lt_len_not (Nat.lt_irrefl _), goes_leaf, List.drop_length]
      simp [jumpC]
    · rw [goes_jmp]
      simp only [T_ref1_thread, goes_br, lt_len hk, nng, Bool.and_self, if_true, Int.toNat_natCast, getD_lt hk, wrap_succ (k := k) (by omega), hkf, jumps_eq]
      have hfi : decide (v_ref1_Find t t[k].2.2.2.2.2.1 < 0) = ! (labels t).contains t[k].2.2.2.2.2.1 := findI_neg
      rw [hfi, drop_cons hk]
      unfold jumpC
      by_cases h1 : ((t[k].1 == (10 : Int)) || (t[k].1 == (11 : Int))) = true
      · rw [if_pos h1, if_pos h1]
        by_cases h2 : (labels t).contains t[k].2.2.2.2.2.1 = true
        · rw [if_pos h2, if_neg (by rw [h2]; decide)]; exact ih
        · rw [if_neg h2, if_pos (by rw [Bool.eq_false_iff.2 h2]; rfl)]; exact .leaf
      · rw [if_neg h1, if_neg h1]; exact ih
  have main : ∀ k, k ≤ t.length → Goes (T_ref1_thread p t) (.jmp (.l7 (k : Int) (labels (t.take k)))) (scanI p (fun seen => endC t (jumpC seen t)) (labels (t.take k)) (t.drop k)) := by
    refine down ?_ fun k hk ih => ?_
    · have hj := jmps 0 (Nat.zero_le _)
      rw [List.drop_zero] at hj
      rw [goes_jmp, List.drop_length, List.take_length]
      unfold scanI
      simp only [T_ref1_thread, goes_br, lt_len_not (Nat.lt_irrefl _)]
      rw [if_neg (by decide)]
      by_cases h0 : t.length = 0
      · have : t = [] := List.eq_nil_of_length_eq_zero h0
        rw [this]; simp [goes_leaf, endC]
      · have hp : 0 < t.length := by omega
        rw [if_neg (by simp; exact fun e => h0 (by rw [e]; rfl)), endC_eq hp]
        rw [show Int.ofNat t.length = (t.length : Int) from rfl, wrap_pred (k := t.length) (by omega) hp]
        have hb : (decide (0 ≤ ((t.length - 1 : Nat) : Int)) && decide (((t.length - 1 : Nat) : Int) < (t.length : Int))) = true := by simp; omega
        simp only [hb, if_true, Int.toNat_natCast, getD_lt (show t.length - 1 < t.length by omega)]
        unfold bne
        cases h10 : (t[t.length - 1].1 == (10 : Int)) with
        | true => simpa using hj
        | false =>
          cases h14 : (t[t.length - 1].1 == (14 : Int)) with
          | true => simpa using hj
          | false => simp [goes_leaf]
    · have hmem : t[k] ∈ t := List.getElem_mem hk
      have hto := hS.to _ hmem
      have hlab := hS.lab _ hmem
      have hlen := Nat.lt_of_le_of_lt (labels_mem hmem) hS.labs
      have htk : labels (t.take (k + 1)) = labels (t.take k) ++ t[k].2.2.2.2.2.2 := by
        unfold labels
        rw [List.take_add_one, List.getElem?_eq_getElem hk, List.flatMap_append]
        simp
      have hall : labels t = labels (t.take (k + 1)) ++ labels (t.drop (k + 1)) := by
        unfold labels
        rw [← List.flatMap_append, List.take_append_drop]
      have hlt : (labels (t.take (k + 1))).length < 1099511627776 := by
        have := hS.labs
        rw [hall, List.length_append] at this
        omega
      rw [goes_jmp]
      simp only [T_ref1_thread, goes_br, lt_len hk, nng, Bool.and_self, if_true, Int.toNat_natCast, getD_lt hk]
      rw [drop_cons hk]
      unfold scanI
      rw [htk] at ih hlt
      generalize t[k] = i at hto hlab hlen htk ih hlt
      obtain ⟨op, lock, cond, ⟨ak, ar, ay, an⟩, ⟨bk, br, bz, bn⟩, to, ls⟩ := i
      dsimp only at hto hlab hlen htk ih hlt ⊢
      have inner : ∀ j, j ≤ ls.length → Goes (T_ref1_thread p t) (.jmp (.l14 op lock cond ak ar ay an bk br bz bn to ls (j : Int) (labels (t.take k) ++ ls.take j) (k : Int))) (scanL (labels (t.take k) ++ ls.take j) (fun seen => if insC p (op, (lock, (cond, ((ak, (ar, (ay, an))), ((bk, (br, (bz, bn))), (to, ls)))))) ≠ 0 then insC p (op, (lock, (cond, ((ak, (ar, (ay, an))), ((bk, (br, (bz, bn))), (to, ls)))))) else scanI p (fun seen => endC t (jumpC seen t)) seen (t.drop (k + 1))) (ls.drop j)) := by
        refine down ?_ fun j hj ihj => ?_
        · rw [goes_jmp, List.drop_length, List.take_length]
          unfold scanL
          have hkr : k_ref1_InsRight (op, (lock, (cond, ((ak, (ar, (ay, an))), ((bk, (br, (bz, bn))), (to, ls)))))) = true := hto
          simp only [T_ref1_thread, goes_br, lt_len_not (Nat.lt_irrefl _), hkr, if_true, wrap_succ (k := k) (by omega)]
          rw [if_neg (by decide)]
          unfold insC v_ref1_InsRight
          dsimp only
          by_cases hr : v_ins_Right (op, (lock, (cond, ((ak, (ar, (ay, an))), ((bk, (br, (bz, bn))), (to, ls)))))) = 0
          · obtain ⟨oa, ob⟩ := opds_ok hr
            obtain ⟨a1, a2⟩ := operand_eq p (ak, (ar, (ay, an))) oa
            obtain ⟨b1, b2⟩ := operand_eq p (bk, (br, (bz, bn))) ob
            by_cases ha : placeC p (ak, (ar, (ay, an))) = 0
            · by_cases hb : placeC p (bk, (br, (bz, bn))) = 0
              · simp [hr, ha, hb, a1, a2, b1, b2]; exact ih
              · simp [hr, ha, hb, a1, a2, b1, b2, goes_leaf]
            · simp [hr, ha, a1, a2, goes_leaf]
          · simp [hr, goes_leaf]
        · have hl := hlab ls[j] (List.getElem_mem hj)
          have hkn : k_ref1_Right ls[j] = true := hl
          have hsl : (labels (t.take k) ++ ls.take j).length < 1099511627776 := by
            rw [List.length_append] at hlt ⊢
            rw [List.length_take]
            omega
          have hki : k_ref1_index (labels (t.take k) ++ ls.take j) ls[j] = true := decide_eq_true (by omega)
          have hap : Nat.ble (((labels (t.take k) ++ ls.take j).length + 1) * 16) limit = true := by apply Nat.ble_eq_true_of_le; unfold limit; omega
          have htj : labels (t.take k) ++ ls.take (j + 1) = (labels (t.take k) ++ ls.take j) ++ [ls[j]] := by
            rw [List.take_add_one, List.getElem?_eq_getElem hj, List.append_assoc]; rfl
          rw [htj] at ihj
          rw [goes_jmp]
          simp only [T_ref1_thread, goes_br, lt_len hj, nng, Bool.and_self, if_true, Int.toNat_natCast, getD_lt hj, wrap_succ (k := j) (by omega), hkn, hki, hap, index_contains]
          rw [drop_cons hj]
          unfold scanL
          by_cases h1 : nameRight ls[j] = false
          · rw [if_pos h1, if_pos (by show (! nameRight ls[j]) = true; rw [h1]; rfl)]; exact .leaf
          · rw [if_neg h1, if_neg (by show ¬ (! nameRight ls[j]) = true; simpa using h1)]
            by_cases h2 : (labels (t.take k) ++ ls.take j).contains ls[j] = true
            · rw [if_pos h2, if_pos h2]; exact .leaf
            · rw [if_neg h2, if_neg h2]; exact ihj
      have := inner 0 (Nat.zero_le _)
      rw [List.drop_zero, List.take_zero, List.append_nil] at this
      exact this
  unfold T0_ref1_thread v_ref1_thread
  have hkc : k_ref1_Count t = true := decide_eq_true hn
  simp only [goes_br, hkc, if_true]
  unfold threadC v_ref1_Count
  by_cases h : 4096 < countM t
  · rw [if_pos (by simp; omega), if_pos h]; exact .leaf
  · rw [if_neg (by simp; omega), if_neg h]
    exact main 0 (Nat.zero_le _)
end Go.Ev
end

section
set_option linter.unusedSectionVars false
set_option linter.unusedVariables false
set_option linter.unusedSimpArgs false
set_option maxRecDepth 100000
set_option linter.unusedVariables false
open Go Go.Ev
namespace Go.Ev
noncomputable section
noncomputable def e_ref1_thread : Run := entG sg_ref1_thread R_ref1_thread (fun a => k_ref1_thread a.1 a.2.1) (fun a => v_ref1_thread a.1 a.2.1)
theorem ok_ref1_thread : EntOK Go.Proofs.Tryz.prog 24 e_ref1_thread := entG_ok (tb := tb_ref1_thread) (c := c_ref1_thread) tk_ref1_thread (by kernel_rfl) (by kernel_rfl) (by kernel_rfl) (fun a => by kernel_rfl) fun ⟨p, t, _⟩ hk => evF_goes (c := c_ref1_thread) (K := fun v => (R_ref1_thread v, tps (toForms sg_ref1_thread (p, t, ())))) (S := S_ref1_thread p t) (by kernel_rfl) (en_ref1_thread p t) (lp_ref1_thread p t) (g_ref1_thread p t hk)
end
end Go.Ev
end

section
set_option linter.unusedSectionVars false
set_option linter.unusedVariables false
set_option linter.unusedSimpArgs false
set_option maxRecDepth 100000
set_option linter.unusedVariables false
open Go Go.Ev
namespace Go.Ev
noncomputable section
/-! ### paling/palingref1.Check -/
def sg_ref1_Check : Sig := [(true, T_api_Prog)]
noncomputable def t_ref1_Check : Tbl := [(23, e_ref1_Right), (24, e_ref1_thread)]
theorem tk_ref1_Check : ∀ p ∈ t_ref1_Check, EntOK Go.Proofs.Tryz.prog p.1 p.2 := tbl_cons ok_ref1_Right (tbl_cons ok_ref1_thread (tbl_nil))
noncomputable def c_ref1_Check : Code := Go.Proofs.Tryz.f12.body.getD .skip
def tb_ref1_Check : Tb := [(6, ⟨[1, 3], []⟩), (16, ⟨[1, 3, 4, 5], []⟩), (26, ⟨[1, 6], []⟩)]
inductive J_ref1_Check where
  | l6 (i : Int)
  | l16 (x : ByteArray) (x1 : Int) (x2 : List Int) (i : Int) (k : Int)
  | l26 (i : Int)
def T_ref1_Check (p : El T_api_Prog) : J_ref1_Check → JT J_ref1_Check (Int)
  | .l6 i =>
    .br (decide (i < (Int.ofNat (List.length p.1))))
      (.br ((decide ((0 : Int) ≤ i)) && (decide (i < (Int.ofNat (List.length p.1)))))
        (.br (k_ref1_Right (List.getD p.1 (Int.toNat i) (dflt T_api_Sym)).1)
          (.br (! (v_ref1_Right (List.getD p.1 (Int.toNat i) (dflt T_api_Sym)).1))
            (.leaf (3 : Int))
          (.jmp (.l16 (List.getD p.1 (Int.toNat i) (dflt T_api_Sym)).1 (List.getD p.1 (Int.toNat i) (dflt T_api_Sym)).2.1 (List.getD p.1 (Int.toNat i) (dflt T_api_Sym)).2.2 i (0 : Int))))
        (.no))
      (.no))
    (.jmp (.l26 (0 : Int)))
  | .l16 x x1 x2 i k =>
    .br (decide (k < i))
      (.br ((decide ((0 : Int) ≤ k)) && (decide (k < (Int.ofNat (List.length p.1)))))
        (.br (eqB (List.getD p.1 (Int.toNat k) (dflt T_api_Sym)).1 x)
          (.leaf (6 : Int))
        (.jmp (.l16 x x1 x2 i (IntKind.i64.wrap (k + (1 : Int))))))
      (.no))
    (.br (decide (x1 < (1 : Int)))
      (.leaf (5 : Int))
    (.br (decide (x1 > (64 : Int)))
      (.leaf (5 : Int))
    (.br (decide ((Int.ofNat (List.length x2)) > x1))
      (.leaf (5 : Int))
    (.jmp (.l6 (IntKind.i64.wrap (i + (1 : Int))))))))
  | .l26 i =>
    .br (decide (i < (Int.ofNat (List.length p.2))))
      (.br ((decide ((0 : Int) ≤ i)) && (decide (i < (Int.ofNat (List.length p.2)))))
        (.br (k_ref1_thread p (List.getD p.2 (Int.toNat i) (dflt (.sl T_api_Ins))))
          (.br ((v_ref1_thread p (List.getD p.2 (Int.toNat i) (dflt (.sl T_api_Ins)))) != (0 : Int))
            (.leaf (v_ref1_thread p (List.getD p.2 (Int.toNat i) (dflt (.sl T_api_Ins)))))
          (.jmp (.l26 (IntKind.i64.wrap (i + (1 : Int))))))
        (.no))
      (.no))
    (.leaf (0 : Int))
def T0_ref1_Check (p : El T_api_Prog) : JT J_ref1_Check (Int) :=
  .br (decide ((Int.ofNat (List.length p.1)) > (64 : Int)))
    (.leaf (10 : Int))
  (.br (decide ((Int.ofNat (List.length p.2)) > (64 : Int)))
    (.leaf (10 : Int))
  (.jmp (.l6 (0 : Int))))
def R_ref1_Check : Int → AV := fun (r : Int) => .d (.int .i64) r
def S_ref1_Check (p : El T_api_Prog) : J_ref1_Check → Nat × St
  | .l6 i => (6, ⟨mkTm 81 [(1, .pt 2 0 0), (3, .d (.int .i64) i)], [(2, 0, .box 26 [.d (.sl T_api_Sym) p.1, .d (.sl (.sl T_api_Ins)) p.2] none)]⟩)
  | .l16 x x1 x2 i k => (16, ⟨mkTm 81 [(1, .pt 2 0 0), (3, .d (.int .i64) i), (4, .pt 5 0 0), (5, .d (.int .i64) k)], [(2, 0, .box 26 [.d (.sl T_api_Sym) p.1, .d (.sl (.sl T_api_Ins)) p.2] none), (5, 0, .box 43 [.d .str x, .d (.int .i64) x1, .d (.sl (.int .i64)) x2] none)]⟩)
  | .l26 i => (26, ⟨mkTm 81 [(1, .pt 2 0 0), (6, .d (.int .i64) i)], [(2, 0, .box 26 [.d (.sl T_api_Sym) p.1, .d (.sl (.sl T_api_Ins)) p.2] none)]⟩)
theorem en_ref1_Check (p : El T_api_Prog) (L : Lt) : entryA Go.Proofs.Tryz.prog (clOf t_ref1_Check) tb_ref1_Check Go.Proofs.Tryz.f12 c_ref1_Check L (toForms sg_ref1_Check (p, ())) = (T0_ref1_Check p).run (fun v => some (R_ref1_Check v, tps (toForms sg_ref1_Check (p, ())))) fun j => L (S_ref1_Check p j).1 (S_ref1_Check p j).2 := by kernel_rfl
theorem lp_ref1_Check (p : El T_api_Prog) : ∀ (L : Lt) (j : J_ref1_Check), procOf (procsF Go.Proofs.Tryz.prog (clOf t_ref1_Check) tb_ref1_Check Go.Proofs.Tryz.f12 c_ref1_Check (toForms sg_ref1_Check (p, ()))) (S_ref1_Check p j).1 L (S_ref1_Check p j).2 = (T_ref1_Check p j).run (fun v => some (R_ref1_Check v, tps (toForms sg_ref1_Check (p, ())))) fun j => L (S_ref1_Check p j).1 (S_ref1_Check p j).2
  | L, .l6 i => by kernel_rfl
  | L, .l16 x x1 x2 i k => by kernel_rfl
  | L, .l26 i => by kernel_rfl
end
end Go.Ev
end

section
set_option linter.unusedSectionVars false
set_option linter.unusedVariables false
set_option linter.unusedSimpArgs false
set_option linter.unusedVariables false
set_option linter.unusedSimpArgs false
open Go
namespace Go.Ev
def v_ref1_Check (p : El T_api_Prog) : Int := checkC p
def k_ref1_Check (p : El T_api_Prog) : Bool := smallProg p
theorem g_ref1_Check (p : El T_api_Prog) (hk : k_ref1_Check p = true) : Goes (T_ref1_Check p) (T0_ref1_Check p) (v_ref1_Check p) := by
  have hth : ∀ t ∈ p.2, smallThread t = true := by
    unfold k_ref1_Check smallProg at hk
    simp only [Bool.and_eq_true, List.all_eq_true] at hk
    exact hk.2
  have hsy : ∀ s ∈ p.1, smallText s.1 = true := by
    unfold k_ref1_Check smallProg at hk
    simp only [Bool.and_eq_true, List.all_eq_true] at hk
    exact hk.1
  obtain ⟨sy, th⟩ := p
  dsimp only at hth hsy
  have ths : th.length ≤ 64 → ∀ k, k ≤ th.length → Goes (T_ref1_Check (sy, th)) (.jmp (.l26 (k : Int))) (thsC (sy, th) (th.drop k)) := by
    intro hn
    refine down ?_ fun k hk ih => ?_
    · rw [goes_jmp]
      simp only [T_ref1_Check, goes_br, lt_len_not (Nat.lt_irrefl _), goes_leaf, List.drop_length]
      simp [thsC]
    · have hkt : k_ref1_thread (sy, th) th[k] = true := hth _ (List.getElem_mem hk)
      rw [goes_jmp]
      simp only [T_ref1_Check, goes_br, lt_len hk, nng, Bool.and_self, if_true, Int.toNat_natCast, getD_lt hk, wrap_succ (k := k) (by omega), hkt]
      rw [drop_cons hk]
      unfold thsC
      show (if (threadC (sy, th) th[k] != 0) = true then _ else _)
      by_cases h : threadC (sy, th) th[k] = 0
      · rw [if_neg (by simp [h]), if_neg (by simp [h])]; exact ih
      · rw [if_pos (by simp [h]), if_pos h]; exact .leaf

  have main : sy.length ≤ 64 → th.length ≤ 64 → ∀ k, k ≤ sy.length → Goes (T_ref1_Check (sy, th)) (.jmp (.l6 (k : Int))) (symsC (thsC (sy, th) th) ((sy.take k).map fun s => s.1) (sy.drop k)) := by
    intro hn hm
    refine down ?_ fun k hk ih => ?_
    · rw [goes_jmp, List.drop_length]
      unfold symsC
      simp only [T_ref1_Check, goes_br, lt_len_not (Nat.lt_irrefl _)]
      rw [if_neg (by decide)]
      simpa using ths hm 0 (Nat.zero_le _)
    · have hkn : k_ref1_Right sy[k].1 = true := hsy _ (List.getElem_mem hk)
      have htk : (sy.take (k + 1)).map (fun s => s.1) = (sy.take k).map (fun s => s.1) ++ [sy[k].1] := by
        rw [List.take_add_one, List.getElem?_eq_getElem hk, List.map_append]; rfl
      rw [htk] at ih
      rw [goes_jmp]
      simp only [T_ref1_Check, goes_br, lt_len hk, nng, Bool.and_self, if_true, Int.toNat_natCast, getD_lt hk, hkn]
      rw [drop_cons hk]
      unfold symsC
      generalize sy[k] = s at ih hkn
      obtain ⟨nm, size, init⟩ := s
      dsimp only at ih hkn ⊢
      change Int at size
      by_cases h1 : nameRight nm = false
      · rw [if_pos h1, if_pos (by show (! nameRight nm) = true; rw [h1]; rfl)]; exact .leaf
      rw [if_neg h1, if_neg (by show ¬ (! nameRight nm) = true; simpa using h1)]
      have inner : ∀ j, j ≤ k → Goes (T_ref1_Check (sy, th)) (.jmp (.l16 nm size init (k : Int) (j : Int))) (if (((sy.take k).drop j).map (fun s => s.1)).contains nm = true then 6 else if size < (1 : Int) ∨ (64 : Int) < size ∨ size < (List.length init : Int) then 5 else symsC (thsC (sy, th) th) ((sy.take k).map (fun s => s.1) ++ [nm]) (sy.drop (k + 1))) := by
        refine down ?_ fun j hj ihj => ?_
        · rw [goes_jmp]
          have : (sy.take k).drop k = [] := List.drop_eq_nil_of_le (by rw [List.length_take]; omega)
          rw [this]
          simp only [T_ref1_Check, goes_br, wrap_succ (k := k) (by omega)]
          rw [if_neg (by simp)]
          simp only [List.map_nil, List.contains_nil, Bool.false_eq_true, if_false]
          by_cases h3 : size < 1
          · rw [if_pos (decide_eq_true h3), if_pos (.inl h3)]; exact .leaf
          rw [if_neg (by simpa using h3)]
          by_cases h4 : 64 < size
          · rw [if_pos (decide_eq_true h4), if_pos (.inr (.inl h4))]; exact .leaf
          rw [if_neg (by simpa using h4)]
          by_cases h5 : size < (List.length init : Int)
          · rw [if_pos (show decide (Int.ofNat (List.length init) > size) = true from decide_eq_true h5), if_pos (.inr (.inr h5))]; exact .leaf
          rw [if_neg (show ¬ decide (Int.ofNat (List.length init) > size) = true by simpa using h5), if_neg (by rintro (h | h | h) <;> contradiction)]
          exact ih
        · have hjs : j < sy.length := by omega
          have hjt : j < (sy.take k).length := by rw [List.length_take]; omega
          rw [goes_jmp, drop_cons hjt, List.map_cons, List.contains_cons, List.getElem_take]
          simp only [T_ref1_Check, goes_br, lt_len hjs, nng, Bool.and_self, if_true, Int.toNat_natCast, getD_lt hjs, wrap_succ (k := j) (by omega), eqB_iff]
          rw [if_pos (by simp; omega)]
          by_cases h2 : sy[j].1 = nm
          · rw [if_pos h2, if_pos (by rw [h2]; simp)]; exact .leaf
          · rw [if_neg h2, beq_false_of_ne (Ne.symm h2), Bool.false_or]; exact ihj
      simpa using inner 0 (Nat.zero_le _)
  unfold T0_ref1_Check v_ref1_Check checkC
  simp only [goes_br]
  by_cases h : 64 < sy.length
  · rw [if_pos (by simp; omega), if_pos (.inl h)]; exact .leaf
  rw [if_neg (by simp; omega)]
  by_cases h2 : 64 < th.length
  · rw [if_pos (by simp; omega), if_pos (.inr h2)]; exact .leaf
  rw [if_neg (by simp; omega), if_neg (by rintro (h | h) <;> contradiction)]
  exact main (by omega) (by omega) 0 (Nat.zero_le _)
end Go.Ev
end

section
set_option linter.unusedSectionVars false
set_option linter.unusedVariables false
set_option linter.unusedSimpArgs false
set_option maxRecDepth 100000
set_option linter.unusedVariables false
open Go Go.Ev
namespace Go.Ev
noncomputable section
noncomputable def e_ref1_Check : Run := entG sg_ref1_Check R_ref1_Check (fun a => k_ref1_Check a.1) (fun a => v_ref1_Check a.1)
theorem ok_ref1_Check : EntOK Go.Proofs.Tryz.prog 12 e_ref1_Check := entG_ok (tb := tb_ref1_Check) (c := c_ref1_Check) tk_ref1_Check (by kernel_rfl) (by kernel_rfl) (by kernel_rfl) (fun a => by kernel_rfl) fun ⟨p, _⟩ hk => evF_goes (c := c_ref1_Check) (K := fun v => (R_ref1_Check v, tps (toForms sg_ref1_Check (p, ())))) (S := S_ref1_Check p) (by kernel_rfl) (en_ref1_Check p) (lp_ref1_Check p) (g_ref1_Check p hk)
end
end Go.Ev
end

section
set_option linter.unusedSectionVars false
set_option linter.unusedVariables false
set_option linter.unusedSimpArgs false
set_option maxRecDepth 100000
set_option linter.unusedVariables false
open Go Go.Ev
namespace Go.Ev
noncomputable section
/-! ### paling/palingref1.CopyIns -/
def sg_ref1_CopyIns : Sig := [(true, T_api_Ins)]
noncomputable def t_ref1_CopyIns : Tbl := []
theorem tk_ref1_CopyIns : ∀ p ∈ t_ref1_CopyIns, EntOK Go.Proofs.Tryz.prog p.1 p.2 := tbl_nil
noncomputable def c_ref1_CopyIns : Code := Go.Proofs.Tryz.f15.body.getD .skip
def tb_ref1_CopyIns : Tb := []
def T_ref1_CopyIns (x : El T_api_Ins) : Empty → JT Empty (El T_api_Ins) := fun j => nomatch j
def T0_ref1_CopyIns (x : El T_api_Ins) : JT Empty (El T_api_Ins) :=
  .br (Nat.ble ((List.length x.2.2.2.2.2.2) * 16) limit)
    (.leaf x)
  (.no)
def u_ref1_CopyIns (x : El T_api_Ins) : El T_api_Ins :=
  bif (Nat.ble ((List.length x.2.2.2.2.2.2) * 16) limit) then
    x
  else ((0 : Int), (false, ((0 : Int), (((0 : Int), ((0 : Int), ((0 : Int), (0 : Int)))), (((0 : Int), ((0 : Int), ((0 : Int), (0 : Int)))), ((bs []), []))))))
def ku_ref1_CopyIns (x : El T_api_Ins) : Bool :=
  bif (Nat.ble ((List.length x.2.2.2.2.2.2) * 16) limit) then
    true
  else false
theorem gu_ref1_CopyIns (x : El T_api_Ins) (hk : ku_ref1_CopyIns x = true) : Goes (T_ref1_CopyIns x) (T0_ref1_CopyIns x) (u_ref1_CopyIns x) :=
  Goes.brk hk (fun hk =>
    Goes.leaf) (fun hk =>
    Goes.nok hk)
def R_ref1_CopyIns : El T_api_Ins → AV := fun (r : El T_api_Ins) => .ag [.d (.int .i64) r.1, .d .bool r.2.1, .d (.int .i64) r.2.2.1, .d (.int .i64) r.2.2.2.1.1, .d (.int .i64) r.2.2.2.1.2.1, .d (.int .i64) r.2.2.2.1.2.2.1, .d (.int .i64) r.2.2.2.1.2.2.2, .d (.int .i64) r.2.2.2.2.1.1, .d (.int .i64) r.2.2.2.2.1.2.1, .d (.int .i64) r.2.2.2.2.1.2.2.1, .d (.int .i64) r.2.2.2.2.1.2.2.2, .d .str r.2.2.2.2.2.1, .rw 9 .str r.2.2.2.2.2.2]
def S_ref1_CopyIns (x : El T_api_Ins) : Empty → Nat × St := fun j => nomatch j
theorem en_ref1_CopyIns (x : El T_api_Ins) (L : Lt) : entryA Go.Proofs.Tryz.prog (clOf t_ref1_CopyIns) tb_ref1_CopyIns Go.Proofs.Tryz.f15 c_ref1_CopyIns L (toForms sg_ref1_CopyIns (x, ())) = (T0_ref1_CopyIns x).run (fun v => some (R_ref1_CopyIns v, tps (toForms sg_ref1_CopyIns (x, ())))) fun j => L (S_ref1_CopyIns x j).1 (S_ref1_CopyIns x j).2 := by kernel_rfl
theorem lp_ref1_CopyIns (x : El T_api_Ins) : ∀ (L : Lt) (j : Empty), procOf (procsF Go.Proofs.Tryz.prog (clOf t_ref1_CopyIns) tb_ref1_CopyIns Go.Proofs.Tryz.f15 c_ref1_CopyIns (toForms sg_ref1_CopyIns (x, ()))) (S_ref1_CopyIns x j).1 L (S_ref1_CopyIns x j).2 = (T_ref1_CopyIns x j).run (fun v => some (R_ref1_CopyIns v, tps (toForms sg_ref1_CopyIns (x, ())))) fun j => L (S_ref1_CopyIns x j).1 (S_ref1_CopyIns x j).2 := fun L j => nomatch j
end
end Go.Ev
end

section
set_option linter.unusedSectionVars false
set_option linter.unusedVariables false
set_option linter.unusedSimpArgs false
set_option linter.unusedVariables false
set_option linter.unusedSimpArgs false
open Go
namespace Go.Ev

def v_ref1_CopyIns (x : El T_api_Ins) : El T_api_Ins := x
def k_ref1_CopyIns (x : El T_api_Ins) : Bool := decide (x.2.2.2.2.2.2.length < 549755813888)
theorem g_ref1_CopyIns (x : El T_api_Ins) (hk : k_ref1_CopyIns x = true) : Goes (T_ref1_CopyIns x) (T0_ref1_CopyIns x) (v_ref1_CopyIns x) := by
  have hn : x.2.2.2.2.2.2.length < 549755813888 := of_decide_eq_true hk
  have h : Nat.ble (x.2.2.2.2.2.2.length * 16) limit = true := by
    apply Nat.ble_eq_true_of_le; unfold limit; omega
  have := gu_ref1_CopyIns x (by unfold ku_ref1_CopyIns; rw [h]; rfl)
  unfold u_ref1_CopyIns at this
  rw [h] at this
  exact this

end Go.Ev
end

section
set_option linter.unusedSectionVars false
set_option linter.unusedVariables false
set_option linter.unusedSimpArgs false
set_option maxRecDepth 100000
set_option linter.unusedVariables false
open Go Go.Ev
namespace Go.Ev
noncomputable section
noncomputable def e_ref1_CopyIns : Run := entG sg_ref1_CopyIns R_ref1_CopyIns (fun a => k_ref1_CopyIns a.1) (fun a => v_ref1_CopyIns a.1)
theorem ok_ref1_CopyIns : EntOK Go.Proofs.Tryz.prog 15 e_ref1_CopyIns := entG_ok (tb := tb_ref1_CopyIns) (c := c_ref1_CopyIns) tk_ref1_CopyIns (by kernel_rfl) (by kernel_rfl) (by kernel_rfl) (fun a => by kernel_rfl) fun ⟨x, _⟩ hk => evF_goes (c := c_ref1_CopyIns) (K := fun v => (R_ref1_CopyIns v, tps (toForms sg_ref1_CopyIns (x, ())))) (S := S_ref1_CopyIns x) (by kernel_rfl) (en_ref1_CopyIns x) (lp_ref1_CopyIns x) (g_ref1_CopyIns x hk)
end
end Go.Ev
end

section
set_option linter.unusedSectionVars false
set_option linter.unusedVariables false
set_option linter.unusedSimpArgs false
set_option maxRecDepth 100000
set_option linter.unusedVariables false
open Go Go.Ev
namespace Go.Ev
noncomputable section
/-! ### paling/palingref1.CopyProg -/
def sg_ref1_CopyProg : Sig := [(true, T_api_Prog)]
noncomputable def t_ref1_CopyProg : Tbl := [(15, e_ref1_CopyIns)]
theorem tk_ref1_CopyProg : ∀ p ∈ t_ref1_CopyProg, EntOK Go.Proofs.Tryz.prog p.1 p.2 := tbl_cons ok_ref1_CopyIns (tbl_nil)
noncomputable def c_ref1_CopyProg : Code := Go.Proofs.Tryz.f13.body.getD .skip
def tb_ref1_CopyProg : Tb := [(4, ⟨[1, 2, 3, 4], [(4097, 46)]⟩), (12, ⟨[1, 2, 3, 6], [(4098, 48)]⟩), (19, ⟨[1, 2, 3, 6, 7, 8], [(8193, 58)]⟩)]
inductive J_ref1_CopyProg where
  | l4 (i : Int) (q : List (El T_api_Sym))
  | l12 (q : List (El T_api_Sym)) (i : Int) (q1 : List (List (El T_api_Ins)))
  | l19 (q : List (El T_api_Sym)) (k : Int) (t : List (El T_api_Ins)) (i : Int) (q1 : List (List (El T_api_Ins)))
def T_ref1_CopyProg (p : El T_api_Prog) : J_ref1_CopyProg → JT J_ref1_CopyProg (El T_api_Prog)
  | .l4 i q =>
    .br (decide (i < (Int.ofNat (List.length p.1))))
      (.br ((decide ((0 : Int) ≤ i)) && (decide (i < (Int.ofNat (List.length p.1)))))
        (.br (Nat.ble ((List.length (List.getD p.1 (Int.toNat i) (dflt T_api_Sym)).2.2) * 8) limit)
          (.br (Nat.ble (((List.length q) + 1) * 48) limit)
            (.jmp (.l4 (IntKind.i64.wrap (i + (1 : Int))) (q ++ [(List.getD p.1 (Int.toNat i) (dflt T_api_Sym))])))
          (.no))
        (.no))
      (.no))
    (.jmp (.l12 q (0 : Int) []))
  | .l12 q i q1 =>
    .br (decide (i < (Int.ofNat (List.length p.2))))
      (.jmp (.l19 q (0 : Int) [] i q1))
    (.leaf (q, q1))
  | .l19 q k t i q1 =>
    .br ((decide ((0 : Int) ≤ i)) && (decide (i < (Int.ofNat (List.length p.2)))))
      (.br (decide (k < (Int.ofNat (List.length (List.getD p.2 (Int.toNat i) (dflt (.sl T_api_Ins)))))))
        (.br ((decide ((0 : Int) ≤ i)) && (decide (i < (Int.ofNat (List.length p.2)))))
          (.br ((decide ((0 : Int) ≤ k)) && (decide (k < (Int.ofNat (List.length (List.getD p.2 (Int.toNat i) (dflt (.sl T_api_Ins))))))))
            (.br (k_ref1_CopyIns (List.getD (List.getD p.2 (Int.toNat i) (dflt (.sl T_api_Ins))) (Int.toNat k) (dflt T_api_Ins)))
              (.br (Nat.ble (((List.length t) + 1) * 128) limit)
                (.jmp (.l19 q (IntKind.i64.wrap (k + (1 : Int))) (t ++ [(v_ref1_CopyIns (List.getD (List.getD p.2 (Int.toNat i) (dflt (.sl T_api_Ins))) (Int.toNat k) (dflt T_api_Ins)))]) i q1))
              (.no))
            (.no))
          (.no))
        (.no))
      (.br (Nat.ble (((List.length q1) + 1) * 24) limit)
        (.jmp (.l12 q (IntKind.i64.wrap (i + (1 : Int))) (q1 ++ [t])))
      (.no)))
    (.no)
def T0_ref1_CopyProg (p : El T_api_Prog) : JT J_ref1_CopyProg (El T_api_Prog) :=
  .jmp (.l4 (0 : Int) [])
def R_ref1_CopyProg : El T_api_Prog → AV := fun (r : El T_api_Prog) => .ag [.rw 43 T_api_Sym r.1, .rw 31 (.sl T_api_Ins) r.2]
def S_ref1_CopyProg (p : El T_api_Prog) : J_ref1_CopyProg → Nat × St
  | .l4 i q => (4, ⟨mkTm 71 [(1, .pt 2 0 0), (2, .pt 3 0 0), (3, .pt 4 0 0), (4, .d (.int .i64) i)], [(2, 0, .box 26 [.d (.sl T_api_Sym) p.1, .d (.sl (.sl T_api_Ins)) p.2] none), (3, 0, .box 26 [.nil, .nil] none), (4, 0, .box 26 [.own 4097 0 none, .nil] none), (4097, 0, .row 43 T_api_Sym q false)]⟩)
  | .l12 q i q1 => (12, ⟨mkTm 71 [(1, .pt 2 0 0), (2, .pt 3 0 0), (3, .pt 4 0 0), (6, .d (.int .i64) i)], [(2, 0, .box 26 [.d (.sl T_api_Sym) p.1, .d (.sl (.sl T_api_Ins)) p.2] none), (3, 0, .box 26 [.nil, .nil] none), (4, 0, .box 26 [.own 4097 0 none, .own 4098 0 none] none), (4097, 0, .row 43 T_api_Sym q false), (4098, 0, .row 31 (.sl T_api_Ins) q1 false)]⟩)
  | .l19 q k t i q1 => (19, ⟨mkTm 71 [(1, .pt 2 0 0), (2, .pt 3 0 0), (3, .pt 4 0 0), (6, .d (.int .i64) i), (7, .pt 8 0 0), (8, .d (.int .i64) k)], [(2, 0, .box 26 [.d (.sl T_api_Sym) p.1, .d (.sl (.sl T_api_Ins)) p.2] none), (3, 0, .box 26 [.nil, .nil] none), (4, 0, .box 26 [.own 4097 0 none, .own 4098 0 none] none), (8, 0, .box 31 [.own 8193 0 none] none), (4097, 0, .row 43 T_api_Sym q false), (4098, 0, .row 31 (.sl T_api_Ins) q1 false), (8193, 0, .row 48 T_api_Ins t false)]⟩)
theorem en_ref1_CopyProg (p : El T_api_Prog) (L : Lt) : entryA Go.Proofs.Tryz.prog (clOf t_ref1_CopyProg) tb_ref1_CopyProg Go.Proofs.Tryz.f13 c_ref1_CopyProg L (toForms sg_ref1_CopyProg (p, ())) = (T0_ref1_CopyProg p).run (fun v => some (R_ref1_CopyProg v, tps (toForms sg_ref1_CopyProg (p, ())))) fun j => L (S_ref1_CopyProg p j).1 (S_ref1_CopyProg p j).2 := by kernel_rfl
theorem lp_ref1_CopyProg (p : El T_api_Prog) : ∀ (L : Lt) (j : J_ref1_CopyProg), procOf (procsF Go.Proofs.Tryz.prog (clOf t_ref1_CopyProg) tb_ref1_CopyProg Go.Proofs.Tryz.f13 c_ref1_CopyProg (toForms sg_ref1_CopyProg (p, ()))) (S_ref1_CopyProg p j).1 L (S_ref1_CopyProg p j).2 = (T_ref1_CopyProg p j).run (fun v => some (R_ref1_CopyProg v, tps (toForms sg_ref1_CopyProg (p, ())))) fun j => L (S_ref1_CopyProg p j).1 (S_ref1_CopyProg p j).2
  | L, .l4 i q => by kernel_rfl
  | L, .l12 q i q1 => by kernel_rfl
  | L, .l19 q k t i q1 => by kernel_rfl
end
end Go.Ev
end

section
set_option linter.unusedSectionVars false
set_option linter.unusedVariables false
set_option linter.unusedSimpArgs false
/- What a copy of a program needs of memory. -/
set_option linter.unusedVariables false
set_option linter.unusedSimpArgs false
namespace Go.Ev
open Go
def copyIns (i : El T_api_Ins) : Bool := decide (List.length i.2.2.2.2.2.2 < 1073741824)
def copyThread (t : List (El T_api_Ins)) : Bool := decide (t.length < 1073741824) && t.all copyIns
def copyB (p : El T_api_Prog) : Bool := decide (p.1.length < 1073741824) && ((p.1.all fun s => decide (List.length s.2.2 < 1073741824)) && (decide (p.2.length < 1073741824) && p.2.all copyThread))
structure CopyOK (p : El T_api_Prog) : Prop where
  syms : p.1.length < 1073741824
  init : ∀ s ∈ p.1, List.length s.2.2 < 1073741824
  thr : p.2.length < 1073741824
  len : ∀ t ∈ p.2, List.length t < 1073741824
  lab : ∀ t ∈ p.2, ∀ i ∈ t, List.length i.2.2.2.2.2.2 < 1073741824
theorem copyOK {p : El T_api_Prog} (h : copyB p = true) : CopyOK p := by
  unfold copyB copyThread copyIns at h
  simp only [Bool.and_eq_true, decide_eq_true_eq, List.all_eq_true] at h
  exact ⟨h.1, h.2.1, h.2.2.1, fun t ht => (h.2.2.2 t ht).1, fun t ht => (h.2.2.2 t ht).2⟩
theorem bleN {n b : Nat} (h : n * b ≤ limit) : Nat.ble (n * b) limit = true := Nat.ble_eq_true_of_le h
end Go.Ev
end

section
set_option linter.unusedSectionVars false
set_option linter.unusedVariables false
set_option linter.unusedSimpArgs false
set_option linter.unusedVariables false
set_option linter.unusedSimpArgs false
open Go
namespace Go.Ev
def v_ref1_CopyProg (p : El T_api_Prog) : El T_api_Prog := p
def k_ref1_CopyProg (p : El T_api_Prog) : Bool := copyB p
theorem g_ref1_CopyProg (p : El T_api_Prog) (hk : k_ref1_CopyProg p = true) : Goes (T_ref1_CopyProg p) (T0_ref1_CopyProg p) (v_ref1_CopyProg p) := by
  have hC := copyOK hk
  have h1 := hC.syms
  have h2 := hC.thr
  have l12 : ∀ k, k ≤ p.2.length → Goes (T_ref1_CopyProg p) (.jmp (.l12 p.1 (k : Int) (p.2.take k))) p := by
    refine down ?_ fun k hk ih => ?_
    · rw [goes_jmp]
      simp only [T_ref1_CopyProg, goes_br, lt_len_not (Nat.lt_irrefl _), List.take_length, if_false, Bool.false_eq_true]
      exact .leaf
    · obtain ⟨t, ht⟩ : ∃ t, p.2[k] = t := ⟨_, rfl⟩
      have hm : t ∈ p.2 := by rw [← ht]; exact List.getElem_mem hk
      have hl := hC.len t hm
      have l19 : ∀ j, j ≤ List.length t → Goes (T_ref1_CopyProg p) (.jmp (.l19 p.1 (j : Int) (List.take j t) (k : Int) (p.2.take k))) p := by
        refine down ?_ fun j hj ihj => ?_
        · have b : Nat.ble (((p.2.take k).length + 1) * 24) limit = true := bleN (by rw [List.length_take]; unfold limit; omega)
          rw [goes_jmp]
          simp only [T_ref1_CopyProg, goes_br, lt_len hk, nng, Bool.and_self, Int.toNat_natCast, getD_lt hk, ht, lt_len_not (Nat.lt_irrefl _), b, if_true, if_false, Bool.false_eq_true, wrap_succ (k := k) (by omega), List.take_length]
          rw [← ht, ← List.take_succ_eq_append_getElem hk]
          exact ih
        · have hb := hC.lab t hm _ (List.getElem_mem hj)
          have kI : k_ref1_CopyIns t[j] = true := decide_eq_true (by omega)
          have vI : v_ref1_CopyIns t[j] = t[j] := rfl
          have b2 : Nat.ble (((List.take j t).length + 1) * 128) limit = true := bleN (by rw [List.length_take]; unfold limit; omega)
          rw [goes_jmp]
          simp only [T_ref1_CopyProg, goes_br, lt_len hk, getD_lt hk, ht, lt_len hj, nng, Bool.and_self, if_true, Int.toNat_natCast, getD_lt hj, kI, vI, b2, wrap_succ (k := j) (by omega)]
          rw [← List.take_succ_eq_append_getElem hj]
          exact ihj
      rw [goes_jmp]
      simp only [T_ref1_CopyProg, goes_br, lt_len hk, if_true]
      exact l19 0 (Nat.zero_le _)
  have l4 : ∀ k, k ≤ p.1.length → Goes (T_ref1_CopyProg p) (.jmp (.l4 (k : Int) (p.1.take k))) p := by
    refine down ?_ fun k hk ih => ?_
    · rw [goes_jmp]
      simp only [T_ref1_CopyProg, goes_br, lt_len_not (Nat.lt_irrefl _), List.take_length, if_false, Bool.false_eq_true]
      exact l12 0 (Nat.zero_le _)
    · have hi := hC.init _ (List.getElem_mem hk)
      have b1 : Nat.ble (List.length (p.1[k]).2.2 * 8) limit = true := bleN (by unfold limit; omega)
      have b2 : Nat.ble (((p.1.take k).length + 1) * 48) limit = true := bleN (by rw [List.length_take]; unfold limit; omega)
      rw [goes_jmp]
      simp only [T_ref1_CopyProg, goes_br, lt_len hk, nng, Bool.and_self, if_true, Int.toNat_natCast, getD_lt hk, b1, b2, wrap_succ (k := k) (by omega)]
      rw [← List.take_succ_eq_append_getElem hk]
      exact ih
  unfold T0_ref1_CopyProg v_ref1_CopyProg
  exact l4 0 (Nat.zero_le _)
end Go.Ev
end

section
set_option linter.unusedSectionVars false
set_option linter.unusedVariables false
set_option linter.unusedSimpArgs false
set_option maxRecDepth 100000
set_option linter.unusedVariables false
open Go Go.Ev
namespace Go.Ev
noncomputable section
noncomputable def e_ref1_CopyProg : Run := entG sg_ref1_CopyProg R_ref1_CopyProg (fun a => k_ref1_CopyProg a.1) (fun a => v_ref1_CopyProg a.1)
theorem ok_ref1_CopyProg : EntOK Go.Proofs.Tryz.prog 13 e_ref1_CopyProg := entG_ok (tb := tb_ref1_CopyProg) (c := c_ref1_CopyProg) tk_ref1_CopyProg (by kernel_rfl) (by kernel_rfl) (by kernel_rfl) (fun a => by kernel_rfl) fun ⟨p, _⟩ hk => evF_goes (c := c_ref1_CopyProg) (K := fun v => (R_ref1_CopyProg v, tps (toForms sg_ref1_CopyProg (p, ())))) (S := S_ref1_CopyProg p) (by kernel_rfl) (en_ref1_CopyProg p) (lp_ref1_CopyProg p) (g_ref1_CopyProg p hk)
end
end Go.Ev
end

section
set_option linter.unusedSectionVars false
set_option linter.unusedVariables false
set_option linter.unusedSimpArgs false
set_option maxRecDepth 100000
set_option linter.unusedVariables false
open Go Go.Ev
namespace Go.Ev
noncomputable section
/-! ### paling/palingref3.Rising -/
def sg_ref3_Rising : Sig := [(false, (.sl (.int .i64)))]
noncomputable def t_ref3_Rising : Tbl := []
theorem tk_ref3_Rising : ∀ p ∈ t_ref3_Rising, EntOK Go.Proofs.Tryz.prog p.1 p.2 := tbl_nil
noncomputable def c_ref3_Rising : Code := Go.Proofs.Tryz.f14.body.getD .skip
def tb_ref3_Rising : Tb := [(3, ⟨[0, 3], []⟩)]
inductive J_ref3_Rising where
  | l3 (i : Int)
def T_ref3_Rising (l : List Int) : J_ref3_Rising → JT J_ref3_Rising (Bool)
  | .l3 i =>
    .br (decide (i < (Int.ofNat (List.length l))))
      (.br ((decide ((0 : Int) ≤ i)) && (decide (i < (Int.ofNat (List.length l)))))
        (.br (decide ((List.getD l (Int.toNat i) (dflt (.int .i64))) < (0 : Int)))
          (.leaf false)
        (.br ((decide ((0 : Int) ≤ i)) && (decide (i < (Int.ofNat (List.length l)))))
          (.br (decide ((List.getD l (Int.toNat i) (dflt (.int .i64))) ≥ (2147483648 : Int)))
            (.leaf false)
          (.br (decide (i > (0 : Int)))
            (.br ((decide ((0 : Int) ≤ (IntKind.i64.wrap (i - (1 : Int))))) && (decide ((IntKind.i64.wrap (i - (1 : Int))) < (Int.ofNat (List.length l)))))
              (.br ((decide ((0 : Int) ≤ i)) && (decide (i < (Int.ofNat (List.length l)))))
                (.br (decide ((List.getD l (Int.toNat (IntKind.i64.wrap (i - (1 : Int)))) (dflt (.int .i64))) ≥ (List.getD l (Int.toNat i) (dflt (.int .i64)))))
                  (.leaf false)
                (.jmp (.l3 (IntKind.i64.wrap (i + (1 : Int))))))
              (.no))
            (.no))
          (.jmp (.l3 (IntKind.i64.wrap (i + (1 : Int)))))))
        (.no)))
      (.no))
    (.leaf true)
def T0_ref3_Rising (l : List Int) : JT J_ref3_Rising (Bool) :=
  .jmp (.l3 (0 : Int))
def R_ref3_Rising : Bool → AV := fun (r : Bool) => .d .bool r
def S_ref3_Rising (l : List Int) : J_ref3_Rising → Nat × St
  | .l3 i => (3, ⟨mkTm 38 [(0, .d (.sl (.int .i64)) l), (3, .d (.int .i64) i)], []⟩)
theorem en_ref3_Rising (l : List Int) (L : Lt) : entryA Go.Proofs.Tryz.prog (clOf t_ref3_Rising) tb_ref3_Rising Go.Proofs.Tryz.f14 c_ref3_Rising L (toForms sg_ref3_Rising (l, ())) = (T0_ref3_Rising l).run (fun v => some (R_ref3_Rising v, tps (toForms sg_ref3_Rising (l, ())))) fun j => L (S_ref3_Rising l j).1 (S_ref3_Rising l j).2 := by kernel_rfl
theorem lp_ref3_Rising (l : List Int) : ∀ (L : Lt) (j : J_ref3_Rising), procOf (procsF Go.Proofs.Tryz.prog (clOf t_ref3_Rising) tb_ref3_Rising Go.Proofs.Tryz.f14 c_ref3_Rising (toForms sg_ref3_Rising (l, ()))) (S_ref3_Rising l j).1 L (S_ref3_Rising l j).2 = (T_ref3_Rising l j).run (fun v => some (R_ref3_Rising v, tps (toForms sg_ref3_Rising (l, ())))) fun j => L (S_ref3_Rising l j).1 (S_ref3_Rising l j).2
  | L, .l3 i => by kernel_rfl
end
end Go.Ev
end

section
set_option linter.unusedSectionVars false
set_option linter.unusedVariables false
set_option linter.unusedSimpArgs false
/- Rising lists and lists of places: what chapters 19 to 26 say of them, over lists. -/
set_option linter.unusedVariables false
set_option linter.unusedSimpArgs false
namespace Go.Ev
open Go
/-- Which are so, rising, from k on. -/
def listFrom : Nat → List Bool → List Int
  | _, [] => []
  | k, b :: r => if b then (k : Int) :: listFrom (k + 1) r else listFrom (k + 1) r
theorem listFrom_len : ∀ (l : List Bool) (k : Nat), (listFrom k l).length ≤ l.length
  | [], _ => Nat.le_refl _
  | b :: r, k => by
    have := listFrom_len r (k + 1)
    unfold listFrom
    split <;> simp only [List.length_cons] <;> omega
theorem mem_listFrom : ∀ {l : List Bool} {k : Nat} {x : Int}, x ∈ listFrom k l ↔ ∃ i, l[i]? = some true ∧ x = ((k + i : Nat) : Int)
  | [], k, x => by simp [listFrom]
  | b :: r, k, x => by
    have ih := @mem_listFrom r (k + 1) x
    unfold listFrom
    constructor
    · intro h
      cases b with
      | true =>
        rw [if_pos rfl] at h
        rcases List.mem_cons.1 h with rfl | h
        · exact ⟨0, rfl, by simp⟩
        · obtain ⟨i, h1, h2⟩ := ih.1 h
          exact ⟨i + 1, by simpa using h1, by rw [h2]; omega⟩
      | false =>
        rw [if_neg (by decide)] at h
        obtain ⟨i, h1, h2⟩ := ih.1 h
        exact ⟨i + 1, by simpa using h1, by rw [h2]; omega⟩
    · rintro ⟨i, h1, h2⟩
      cases i with
      | zero =>
        have hb : b = true := by simpa using h1
        subst hb
        rw [if_pos rfl, h2]
        exact List.mem_cons_self ..
      | succ i =>
        have := ih.2 ⟨i, by simpa using h1, by rw [h2]; omega⟩
        split
        · exact List.mem_cons_of_mem _ this
        · exact this
/-- A list in order. -/
def risingFrom : Int → List Int → Bool
  | _, [] => true
  | p, n :: r => if n < 0 ∨ 2147483647 < n ∨ n ≤ p then false else risingFrom n r
def rising (l : List Int) : Bool := risingFrom (-1) l
theorem risingFrom_spec : ∀ {l : List Int} {p : Int}, risingFrom p l = true ↔ (∀ x ∈ l, 0 ≤ x ∧ x ≤ 2147483647 ∧ p < x) ∧ l.Pairwise (· < ·)
  | [], p => by simp [risingFrom]
  | n :: r, p => by
    have ih := @risingFrom_spec r n
    unfold risingFrom
    split
    · rename_i h
      constructor
      · intro e; cases e
      · rintro ⟨h1, _⟩
        have := h1 n (by simp)
        omega
    · rename_i h
      rw [ih, List.pairwise_cons]
      constructor
      · rintro ⟨h1, h2⟩
        refine ⟨fun x hx => ?_, fun x hx => (h1 x hx).2.2, h2⟩
        rcases List.mem_cons.1 hx with rfl | hx
        · omega
        · have := h1 x hx; omega
      · rintro ⟨h1, h2, h3⟩
        exact ⟨fun x hx => ⟨(h1 x (by simp [hx])).1, (h1 x (by simp [hx])).2.1, h2 x hx⟩, h3⟩
theorem rising_spec {l : List Int} : rising l = true ↔ (∀ x ∈ l, 0 ≤ x ∧ x ≤ 2147483647) ∧ l.Pairwise (· < ·) := by
  unfold rising
  rw [risingFrom_spec]
  constructor
  · rintro ⟨h1, h2⟩; exact ⟨fun x hx => ⟨(h1 x hx).1, (h1 x hx).2.1⟩, h2⟩
  · rintro ⟨h1, h2⟩; exact ⟨fun x hx => ⟨(h1 x hx).1, (h1 x hx).2, by have := h1 x hx; omega⟩, h2⟩
/-- A rising list is no longer than its numbers are great. -/
theorem rising_len : ∀ {l : List Int} {p : Int}, risingFrom p l = true → -1 ≤ p → p + l.length ≤ 2147483647 ∨ l = []
  | [], _, _, _ => .inr rfl
  | n :: r, p, h, hp => by
    unfold risingFrom at h
    split at h
    · cases h
    · rename_i h1
      rcases rising_len h (by omega) with h2 | h2
      · left; rw [List.length_cons]; omega
      · subst h2; left; simp; omega
theorem rising_length {l : List Int} (h : rising l = true) : l.length ≤ 2147483648 := by
  rcases rising_len h (by omega) with h | h
  · omega
  · subst h; simp
/-- Where fences come to stand. -/
def fencesFrom : Nat → List Int → List Int
  | _, [] => []
  | k, n :: r => (n + k) :: fencesFrom (k + 1) r
def fencesC (l : List Int) : List Int := if rising l then fencesFrom 0 l else []
theorem fencesFrom_len : ∀ (l : List Int) (k : Nat), (fencesFrom k l).length = l.length
  | [], _ => rfl
  | n :: r, k => by unfold fencesFrom; rw [List.length_cons, List.length_cons, fencesFrom_len r]
theorem fencesC_len (l : List Int) : (fencesC l).length ≤ l.length := by
  unfold fencesC
  split
  · rw [fencesFrom_len]; exact Nat.le_refl _
  · exact Nat.zero_le _
theorem mem_fencesFrom : ∀ {l : List Int} {k : Nat} {x : Int}, x ∈ fencesFrom k l ↔ ∃ i n, l[i]? = some n ∧ x = n + ((k + i : Nat) : Int)
  | [], k, x => by simp [fencesFrom]
  | b :: r, k, x => by
    have ih := @mem_fencesFrom r (k + 1) x
    unfold fencesFrom
    rw [List.mem_cons, ih]
    constructor
    · rintro (rfl | ⟨i, n, h1, h2⟩)
      · exact ⟨0, b, rfl, by simp⟩
      · exact ⟨i + 1, n, by simpa using h1, by rw [h2]; omega⟩
    · rintro ⟨i, n, h1, h2⟩
      cases i with
      | zero =>
        left
        have : b = n := by simpa using h1
        subst this
        rw [h2, Nat.add_zero]
      | succ i => right; exact ⟨i, n, by simpa using h1, by rw [h2]; omega⟩
/-- How many are below; how many are not above. -/
def below (l : List Int) (x : Int) : Nat := l.countP fun f => decide (f < x)
def upTo (l : List Int) (x : Int) : Nat := l.countP fun f => decide (f ≤ x)
def backC (l : List Int) (pc : Int) : Int := if pc < 0 ∨ 2147483647 < pc then pc else pc - below (fencesC l) pc
def thereC (l : List Int) (i : Int) : Int := if i < 0 ∨ 2147483647 < i ∨ rising l = false then i else i + upTo l i
end Go.Ev
end

section
set_option linter.unusedSectionVars false
set_option linter.unusedVariables false
set_option linter.unusedSimpArgs false
set_option linter.unusedVariables false
set_option linter.unusedSimpArgs false
open Go
namespace Go.Ev
def v_ref3_Rising (l : List Int) : Bool := rising l
def k_ref3_Rising (l : List Int) : Bool := decide (l.length < 4611686018427387904)
theorem g_ref3_Rising (l : List Int) (hk : k_ref3_Rising l = true) : Goes (T_ref3_Rising l) (T0_ref3_Rising l) (v_ref3_Rising l) := by
  have hn : l.length < 4611686018427387904 := of_decide_eq_true hk
  have loop : ∀ k, k ≤ l.length → ∀ p : Int, (0 < k → l[k - 1]? = some p) → (k = 0 → p = -1) → Goes (T_ref3_Rising l) (.jmp (.l3 (k : Int))) (risingFrom p (l.drop k)) := by
    refine down ?_ fun k hk ih => ?_
    · intro p hp hp0
      rw [goes_jmp]
      simp only [T_ref3_Rising, goes_br, lt_len_not (Nat.lt_irrefl _), List.drop_length]
      exact .leaf
    · intro p hp hp0
      rw [goes_jmp, drop_cons hk]
      have nx : Goes (T_ref3_Rising l) (.jmp (.l3 ((k + 1 : Nat) : Int))) (risingFrom l[k] (l.drop (k + 1))) := ih l[k] (fun _ => by simp) (fun h => by omega)
      obtain ⟨n, hn'⟩ : ∃ n : Int, l[k] = n := ⟨_, rfl⟩
      rw [hn'] at nx ⊢
      unfold risingFrom
      by_cases h0 : k = 0
      · subst h0
        have e0 : decide (((0 : Nat) : Int) > 0) = false := by decide
        have hp1 := hp0 rfl
        simp only [T_ref3_Rising, goes_br, lt_len hk, nng, Bool.and_self, if_true, Int.toNat_natCast, getD_lt hk, hn', wrap_succ (k := 0) (by omega), e0]
        by_cases h1 : n < 0
        · rw [if_pos (decide_eq_true h1), if_pos (by omega)]; exact .leaf
        · rw [if_neg (by simpa using h1)]
          by_cases h2 : 2147483647 < n
          · rw [if_pos (decide_eq_true (by omega)), if_pos (by omega)]; exact .leaf
          · rw [if_neg (by simp; omega), if_neg (by decide), if_neg (by omega)]; simpa using nx
      · have e0 : decide ((k : Int) > 0) = true := decide_eq_true (by omega)
        have hk1 : k - 1 < l.length := by omega
        have hpv : l[k - 1] = p := by
          have := hp (by omega)
          rw [List.getElem?_eq_getElem hk1] at this
          exact Option.some.inj this
        simp only [T_ref3_Rising, goes_br, lt_len hk, nng, Bool.and_self, if_true, Int.toNat_natCast, getD_lt hk, hn', wrap_succ (k := k) (by omega), wrap_pred (k := k) (by omega) (by omega), lt_len hk1, getD_lt hk1, hpv, e0]
        by_cases h1 : n < 0
        · rw [if_pos (decide_eq_true h1), if_pos (by omega)]; exact .leaf
        · rw [if_neg (by simpa using h1)]
          by_cases h2 : 2147483647 < n
          · rw [if_pos (decide_eq_true (by omega)), if_pos (by omega)]; exact .leaf
          · rw [if_neg (by simp; omega)]
            by_cases h3 : n ≤ p
            · rw [if_pos (decide_eq_true (by omega)), if_pos (by omega)]; exact .leaf
            · rw [if_neg (by simp; omega), if_neg (by omega)]; exact nx
  have := loop 0 (Nat.zero_le _) (-1) (fun h => by omega) (fun _ => rfl)
  unfold T0_ref3_Rising v_ref3_Rising rising
  simpa using this
end Go.Ev
end

section
set_option linter.unusedSectionVars false
set_option linter.unusedVariables false
set_option linter.unusedSimpArgs false
set_option maxRecDepth 100000
set_option linter.unusedVariables false
open Go Go.Ev
namespace Go.Ev
noncomputable section
noncomputable def e_ref3_Rising : Run := entG sg_ref3_Rising R_ref3_Rising (fun a => k_ref3_Rising a.1) (fun a => v_ref3_Rising a.1)
theorem ok_ref3_Rising : EntOK Go.Proofs.Tryz.prog 14 e_ref3_Rising := entG_ok (tb := tb_ref3_Rising) (c := c_ref3_Rising) tk_ref3_Rising (by kernel_rfl) (by kernel_rfl) (by kernel_rfl) (fun a => by kernel_rfl) fun ⟨l, _⟩ hk => evF_goes (c := c_ref3_Rising) (K := fun v => (R_ref3_Rising v, tps (toForms sg_ref3_Rising (l, ())))) (S := S_ref3_Rising l) (by kernel_rfl) (en_ref3_Rising l) (lp_ref3_Rising l) (g_ref3_Rising l hk)
end
end Go.Ev
end

section
set_option linter.unusedSectionVars false
set_option linter.unusedVariables false
set_option linter.unusedSimpArgs false
set_option maxRecDepth 100000
set_option linter.unusedVariables false
open Go Go.Ev
namespace Go.Ev
noncomputable section
/-! ### paling/palingref3.In -/
def sg_ref3_In : Sig := [(false, (.sl (.int .i64))), (false, (.int .i64))]
noncomputable def t_ref3_In : Tbl := []
theorem tk_ref3_In : ∀ p ∈ t_ref3_In, EntOK Go.Proofs.Tryz.prog p.1 p.2 := tbl_nil
noncomputable def c_ref3_In : Code := Go.Proofs.Tryz.f16.body.getD .skip
def tb_ref3_In : Tb := [(3, ⟨[0, 1, 5], []⟩)]
inductive J_ref3_In where
  | l3 (i : Int)
def T_ref3_In (l : List Int) (n : Int) : J_ref3_In → JT J_ref3_In (Bool)
  | .l3 i =>
    .br (decide (i < (Int.ofNat (List.length l))))
      (.br ((decide ((0 : Int) ≤ i)) && (decide (i < (Int.ofNat (List.length l)))))
        (.br ((List.getD l (Int.toNat i) (dflt (.int .i64))) == n)
          (.leaf true)
        (.jmp (.l3 (IntKind.i64.wrap (i + (1 : Int))))))
      (.no))
    (.leaf false)
def T0_ref3_In (l : List Int) (n : Int) : JT J_ref3_In (Bool) :=
  .jmp (.l3 (0 : Int))
def R_ref3_In : Bool → AV := fun (r : Bool) => .d .bool r
def S_ref3_In (l : List Int) (n : Int) : J_ref3_In → Nat × St
  | .l3 i => (3, ⟨mkTm 18 [(0, .d (.sl (.int .i64)) l), (1, .d (.int .i64) n), (5, .d (.int .i64) i)], []⟩)
theorem en_ref3_In (l : List Int) (n : Int) (L : Lt) : entryA Go.Proofs.Tryz.prog (clOf t_ref3_In) tb_ref3_In Go.Proofs.Tryz.f16 c_ref3_In L (toForms sg_ref3_In (l, n, ())) = (T0_ref3_In l n).run (fun v => some (R_ref3_In v, tps (toForms sg_ref3_In (l, n, ())))) fun j => L (S_ref3_In l n j).1 (S_ref3_In l n j).2 := by kernel_rfl
theorem lp_ref3_In (l : List Int) (n : Int) : ∀ (L : Lt) (j : J_ref3_In), procOf (procsF Go.Proofs.Tryz.prog (clOf t_ref3_In) tb_ref3_In Go.Proofs.Tryz.f16 c_ref3_In (toForms sg_ref3_In (l, n, ()))) (S_ref3_In l n j).1 L (S_ref3_In l n j).2 = (T_ref3_In l n j).run (fun v => some (R_ref3_In v, tps (toForms sg_ref3_In (l, n, ())))) fun j => L (S_ref3_In l n j).1 (S_ref3_In l n j).2
  | L, .l3 i => by kernel_rfl
end
end Go.Ev
end

section
set_option linter.unusedSectionVars false
set_option linter.unusedVariables false
set_option linter.unusedSimpArgs false
set_option linter.unusedVariables false
set_option linter.unusedSimpArgs false
open Go
namespace Go.Ev
def v_ref3_In (l : List Int) (n : Int) : Bool := l.contains n
def k_ref3_In (l : List Int) (n : Int) : Bool := decide (l.length < 4611686018427387904)
theorem g_ref3_In (l : List Int) (n : Int) (hk : k_ref3_In l n = true) : Goes (T_ref3_In l n) (T0_ref3_In l n) (v_ref3_In l n) := by
  have hn : l.length < 4611686018427387904 := of_decide_eq_true hk
  have loop : ∀ k, k ≤ l.length → Goes (T_ref3_In l n) (.jmp (.l3 (k : Int))) ((l.drop k).contains n) := by
    refine down ?_ fun k hk ih => ?_
    · rw [goes_jmp]
      simp only [T_ref3_In, goes_br, lt_len_not (Nat.lt_irrefl _), goes_leaf, List.drop_length]
      simp
    · rw [goes_jmp]
      simp only [T_ref3_In, goes_br, lt_len hk, nng, Bool.and_self, if_true, Int.toNat_natCast, getD_lt hk, wrap_succ (k := k) (by omega)]
      rw [drop_cons hk, List.contains_cons]
      cases h : (l[k] == n) with
      | true =>
        have : (n == l[k]) = true := by simp at h ⊢; exact h.symm
        rw [this]; simp [goes_leaf]
      | false =>
        have : (n == l[k]) = false := by simp at h ⊢; exact fun e => h e.symm
        rw [this]; simpa using ih
  unfold T0_ref3_In v_ref3_In
  simpa using loop 0 (Nat.zero_le _)
end Go.Ev
end

section
set_option linter.unusedSectionVars false
set_option linter.unusedVariables false
set_option linter.unusedSimpArgs false
set_option maxRecDepth 100000
set_option linter.unusedVariables false
open Go Go.Ev
namespace Go.Ev
noncomputable section
noncomputable def e_ref3_In : Run := entG sg_ref3_In R_ref3_In (fun a => k_ref3_In a.1 a.2.1) (fun a => v_ref3_In a.1 a.2.1)
theorem ok_ref3_In : EntOK Go.Proofs.Tryz.prog 16 e_ref3_In := entG_ok (tb := tb_ref3_In) (c := c_ref3_In) tk_ref3_In (by kernel_rfl) (by kernel_rfl) (by kernel_rfl) (fun a => by kernel_rfl) fun ⟨l, n, _⟩ hk => evF_goes (c := c_ref3_In) (K := fun v => (R_ref3_In v, tps (toForms sg_ref3_In (l, n, ())))) (S := S_ref3_In l n) (by kernel_rfl) (en_ref3_In l n) (lp_ref3_In l n) (g_ref3_In l n hk)
end
end Go.Ev
end

section
set_option linter.unusedSectionVars false
set_option linter.unusedVariables false
set_option linter.unusedSimpArgs false
set_option maxRecDepth 100000
set_option linter.unusedVariables false
open Go Go.Ev
namespace Go.Ev
noncomputable section
/-! ### paling/palingref3.Weave -/
def sg_ref3_Weave : Sig := [(true, T_api_Prog), (false, (.sl (.sl (.int .i64))))]
noncomputable def t_ref3_Weave : Tbl := [(12, e_ref1_Check), (13, e_ref1_CopyProg), (14, e_ref3_Rising), (15, e_ref1_CopyIns), (16, e_ref3_In)]
theorem tk_ref3_Weave : ∀ p ∈ t_ref3_Weave, EntOK Go.Proofs.Tryz.prog p.1 p.2 := tbl_cons ok_ref1_Check (tbl_cons ok_ref1_CopyProg (tbl_cons ok_ref3_Rising (tbl_cons ok_ref1_CopyIns (tbl_cons ok_ref3_In (tbl_nil)))))
noncomputable def c_ref3_Weave : Code := Go.Proofs.Tryz.f6.body.getD .skip
def tb_ref3_Weave : Tb := [(7, ⟨[1, 2, 4, 6, 7, 66], []⟩), (18, ⟨[1, 2, 4, 6, 7, 8, 9, 10, 51], [(10, 58)]⟩), (hintK, ⟨[], [(1049601, 46), (1049602, 48)]⟩)]
inductive J_ref3_Weave where
  | l7 (t : Int) (q : List (List (El T_api_Ins)))
  | l18 (l : List (El T_api_Ins)) (h : Bool) (i : Int) (out : List (El T_api_Ins)) (t : Int) (q : List (List (El T_api_Ins)))
def T_ref3_Weave (p : El T_api_Prog) (points : List (List Int)) : J_ref3_Weave → JT J_ref3_Weave ((El T_api_Prog) × Bool)
  | .l7 t q =>
    .br (decide (t < (Int.ofNat (List.length points))))
      (.br ((decide ((0 : Int) ≤ t)) && (decide (t < (Int.ofNat (List.length p.2)))))
        (.br ((decide ((0 : Int) ≤ t)) && (decide (t < (Int.ofNat (List.length points)))))
          (.br (k_ref3_Rising (List.getD points (Int.toNat t) (dflt (.sl (.int .i64)))))
            (.br (! (v_ref3_Rising (List.getD points (Int.toNat t) (dflt (.sl (.int .i64))))))
              (.leaf (([], []), false))
            (.br ((decide ((0 : Int) ≤ t)) && (decide (t < (Int.ofNat (List.length points)))))
              (.br (decide ((Int.ofNat (List.length (List.getD points (Int.toNat t) (dflt (.sl (.int .i64)))))) > (0 : Int)))
                (.br ((decide ((0 : Int) ≤ t)) && (decide (t < (Int.ofNat (List.length points)))))
                  (.br ((decide ((0 : Int) ≤ t)) && (decide (t < (Int.ofNat (List.length points)))))
                    (.br ((decide ((0 : Int) ≤ (IntKind.i64.wrap ((Int.ofNat (List.length (List.getD points (Int.toNat t) (dflt (.sl (.int .i64)))))) - (1 : Int))))) && (decide ((IntKind.i64.wrap ((Int.ofNat (List.length (List.getD points (Int.toNat t) (dflt (.sl (.int .i64)))))) - (1 : Int))) < (Int.ofNat (List.length (List.getD points (Int.toNat t) (dflt (.sl (.int .i64)))))))))
                      (.br (decide ((List.getD (List.getD points (Int.toNat t) (dflt (.sl (.int .i64)))) (Int.toNat (IntKind.i64.wrap ((Int.ofNat (List.length (List.getD points (Int.toNat t) (dflt (.sl (.int .i64)))))) - (1 : Int)))) (dflt (.int .i64))) ≥ (Int.ofNat (List.length (List.getD p.2 (Int.toNat t) (dflt (.sl T_api_Ins)))))))
                        (.leaf (([], []), false))
                      (.jmp (.l18 (List.getD p.2 (Int.toNat t) (dflt (.sl T_api_Ins))) true (0 : Int) [] t q)))
                    (.no))
                  (.no))
                (.no))
              (.jmp (.l18 (List.getD p.2 (Int.toNat t) (dflt (.sl T_api_Ins))) false (0 : Int) [] t q)))
            (.no)))
          (.no))
        (.no))
      (.no))
    (.leaf (((v_ref1_CopyProg p).1, q), true))
  | .l18 l h i out t q =>
    .br (decide (i < (Int.ofNat (List.length l))))
      (.br ((decide ((0 : Int) ≤ i)) && (decide (i < (Int.ofNat (List.length l)))))
        (.br (k_ref1_CopyIns (List.getD l (Int.toNat i) (dflt T_api_Ins)))
          (.br ((decide ((0 : Int) ≤ t)) && (decide (t < (Int.ofNat (List.length points)))))
            (.br (k_ref3_In (List.getD points (Int.toNat t) (dflt (.sl (.int .i64)))) i)
              (.br (v_ref3_In (List.getD points (Int.toNat t) (dflt (.sl (.int .i64)))) i)
                (.br (Nat.ble (((List.length out) + 1) * 128) limit)
                  (.br (Nat.ble (((List.length (out ++ [((12 : Int), (false, ((0 : Int), (((0 : Int), ((0 : Int), ((0 : Int), (0 : Int)))), (((0 : Int), ((0 : Int), ((0 : Int), (0 : Int)))), ((bs []), (v_ref1_CopyIns (List.getD l (Int.toNat i) (dflt T_api_Ins))).2.2.2.2.2.2))))))])) + 1) * 128) limit)
                    (.jmp (.l18 l h (IntKind.i64.wrap (i + (1 : Int))) ((out ++ [((12 : Int), (false, ((0 : Int), (((0 : Int), ((0 : Int), ((0 : Int), (0 : Int)))), (((0 : Int), ((0 : Int), ((0 : Int), (0 : Int)))), ((bs []), (v_ref1_CopyIns (List.getD l (Int.toNat i) (dflt T_api_Ins))).2.2.2.2.2.2))))))]) ++ [((v_ref1_CopyIns (List.getD l (Int.toNat i) (dflt T_api_Ins))).1, ((v_ref1_CopyIns (List.getD l (Int.toNat i) (dflt T_api_Ins))).2.1, ((v_ref1_CopyIns (List.getD l (Int.toNat i) (dflt T_api_Ins))).2.2.1, ((v_ref1_CopyIns (List.getD l (Int.toNat i) (dflt T_api_Ins))).2.2.2.1, ((v_ref1_CopyIns (List.getD l (Int.toNat i) (dflt T_api_Ins))).2.2.2.2.1, ((v_ref1_CopyIns (List.getD l (Int.toNat i) (dflt T_api_Ins))).2.2.2.2.2.1, []))))))]) t q))
                  (.no))
                (.no))
              (.br (Nat.ble (((List.length out) + 1) * 128) limit)
                (.jmp (.l18 l h (IntKind.i64.wrap (i + (1 : Int))) (out ++ [(v_ref1_CopyIns (List.getD l (Int.toNat i) (dflt T_api_Ins)))]) t q))
              (.no)))
            (.no))
          (.no))
        (.no))
      (.no))
    (.br ((decide ((0 : Int) ≤ t)) && (decide (t < (Int.ofNat (List.length q)))))
      (.jmp (.l7 (IntKind.i64.wrap (t + (1 : Int))) (List.set q (Int.toNat t) out)))
    (.no))
def T0_ref3_Weave (p : El T_api_Prog) (points : List (List Int)) : JT J_ref3_Weave ((El T_api_Prog) × Bool) :=
  .br (k_ref1_Check p)
    (.br ((v_ref1_Check p) != (0 : Int))
      (.leaf (([], []), false))
    (.br (decide ((Int.ofNat (List.length points)) > (Int.ofNat (List.length p.2))))
      (.leaf (([], []), false))
    (.br (k_ref1_CopyProg p)
      (.jmp (.l7 (0 : Int) (v_ref1_CopyProg p).2))
    (.no))))
  (.no)
def R_ref3_Weave : (El T_api_Prog) × Bool → AV := fun (r : (El T_api_Prog) × Bool) => .tu [.ag [.rw 43 T_api_Sym r.1.1, .rw 31 (.sl T_api_Ins) r.1.2], .d .bool r.2]
def S_ref3_Weave (p : El T_api_Prog) (points : List (List Int)) : J_ref3_Weave → Nat × St
  | .l7 t q => (7, ⟨mkTm 105 [(1, .d (.sl (.sl (.int .i64))) points), (2, .pt 3 0 0), (4, .pt 5 0 0), (6, .pt 7 0 0), (7, .d (.int .i64) t)], [(3, 0, .box 26 [.d (.sl T_api_Sym) p.1, .d (.sl (.sl T_api_Ins)) p.2] none), (5, 0, .box 26 [.nil, .nil] none), (7, 0, .box 26 [.own 7169 0 none, .own 7170 0 none] none), (7169, 0, .row 43 T_api_Sym (v_ref1_CopyProg p).1 false), (7170, 0, .row 31 (.sl T_api_Ins) q false)]⟩)
  | .l18 l h i out t q => (18, ⟨mkTm 105 [(1, .d (.sl (.sl (.int .i64))) points), (2, .pt 3 0 0), (4, .pt 5 0 0), (6, .pt 7 0 0), (7, .d (.int .i64) t), (8, .d (.sl T_api_Ins) l), (9, .own 10 0 none), (10, .d (.int .i64) i), (51, .d .bool h)], [(3, 0, .box 26 [.d (.sl T_api_Sym) p.1, .d (.sl (.sl T_api_Ins)) p.2] none), (5, 0, .box 26 [.nil, .nil] none), (7, 0, .box 26 [.own 7169 0 none, .own 7170 0 none] none), (10, 0, .row 48 T_api_Ins out false), (7169, 0, .row 43 T_api_Sym (v_ref1_CopyProg p).1 false), (7170, 0, .row 31 (.sl T_api_Ins) q false)]⟩)
theorem en_ref3_Weave (p : El T_api_Prog) (points : List (List Int)) (L : Lt) : entryA Go.Proofs.Tryz.prog (clOf t_ref3_Weave) tb_ref3_Weave Go.Proofs.Tryz.f6 c_ref3_Weave L (toForms sg_ref3_Weave (p, points, ())) = (T0_ref3_Weave p points).run (fun v => some (R_ref3_Weave v, tps (toForms sg_ref3_Weave (p, points, ())))) fun j => L (S_ref3_Weave p points j).1 (S_ref3_Weave p points j).2 := by kernel_rfl
theorem lp_ref3_Weave (p : El T_api_Prog) (points : List (List Int)) : ∀ (L : Lt) (j : J_ref3_Weave), procOf (procsF Go.Proofs.Tryz.prog (clOf t_ref3_Weave) tb_ref3_Weave Go.Proofs.Tryz.f6 c_ref3_Weave (toForms sg_ref3_Weave (p, points, ()))) (S_ref3_Weave p points j).1 L (S_ref3_Weave p points j).2 = (T_ref3_Weave p points j).run (fun v => some (R_ref3_Weave v, tps (toForms sg_ref3_Weave (p, points, ())))) fun j => L (S_ref3_Weave p points j).1 (S_ref3_Weave p points j).2
  | L, .l7 t q => by kernel_rfl
  | L, .l18 l h i out t q => by kernel_rfl
end
end Go.Ev
end

section
set_option linter.unusedSectionVars false
set_option linter.unusedVariables false
set_option linter.unusedSimpArgs false
/- Fences laid into programs, and taken out: over lists. -/
set_option linter.unusedVariables false
set_option linter.unusedSimpArgs false
namespace Go.Ev
open Go
def fenceI (ls : List ByteArray) : El T_api_Ins := ((12 : Int), (false, ((0 : Int), (((0 : Int), ((0 : Int), ((0 : Int), (0 : Int)))), (((0 : Int), ((0 : Int), ((0 : Int), (0 : Int)))), ((bs []), ls))))))
def withLs (i : El T_api_Ins) (ls : List ByteArray) : El T_api_Ins := (i.1, (i.2.1, (i.2.2.1, (i.2.2.2.1, (i.2.2.2.2.1, (i.2.2.2.2.2.1, ls))))))
def labsOf (i : El T_api_Ins) : List ByteArray := i.2.2.2.2.2.2
/-- Fences ahead of the places of a list. -/
def laidT (l : List Int) : Nat → List (El T_api_Ins) → List (El T_api_Ins)
  | _, [] => []
  | k, i :: r => if l.contains (k : Int) then fenceI (labsOf i) :: withLs i [] :: laidT l (k + 1) r else i :: laidT l (k + 1) r
theorem laidT_len (l : List Int) : ∀ (x : List (El T_api_Ins)) (k : Nat), (laidT l k x).length ≤ 2 * x.length
  | [], _ => Nat.zero_le _
  | i :: r, k => by
    have := laidT_len l r (k + 1)
    unfold laidT
    split <;> simp only [List.length_cons] <;> omega
theorem laidT_nil : ∀ (x : List (El T_api_Ins)) (k : Nat), laidT [] k x = x
  | [], _ => rfl
  | i :: r, k => by
    unfold laidT
    rw [laidT_nil r (k + 1), if_neg (by simp)]
def laidP : List (List Int) → List (List (El T_api_Ins)) → List (List (El T_api_Ins))
  | _, [] => []
  | [], x :: xs => x :: xs
  | l :: ls, x :: xs => laidT l 0 x :: laidP ls xs
theorem laidP_len : ∀ (ls : List (List Int)) (xs : List (List (El T_api_Ins))), (laidP ls xs).length = xs.length
  | _, [] => by cases ‹List (List Int)› <;> rfl
  | [], x :: xs => rfl
  | l :: ls, x :: xs => by unfold laidP; rw [List.length_cons, List.length_cons, laidP_len ls xs]
theorem laidP_get : ∀ (ls : List (List Int)) (xs : List (List (El T_api_Ins))) (t : Nat) (h : t < xs.length), (laidP ls xs)[t]? = some (laidT (ls.getD t []) 0 xs[t])
  | [], x :: xs, t, h => by
    unfold laidP
    rw [List.getElem?_eq_getElem h]
    have : List.getD ([] : List (List Int)) t [] = [] := by simp
    rw [this, laidT_nil]
  | l :: ls, x :: xs, 0, h => rfl
  | l :: ls, x :: xs, t + 1, h => by
    unfold laidP
    rw [List.getElem?_cons_succ, laidP_get ls xs t (by simpa using h)]
    simp
/-- May these be points of a thread of so many? -/
def okPts (l : List Int) (n : Nat) : Bool := rising l && l.all fun x => decide (x < (n : Int))
def okAll : List (List Int) → List (List (El T_api_Ins)) → Bool
  | [], _ => true
  | l :: ls, x :: xs => okPts l x.length && okAll ls xs
  | _ :: _, [] => false
theorem okAll_drop {ls : List (List Int)} {xs : List (List (El T_api_Ins))} {k : Nat} (h : k < ls.length) (h' : k < xs.length) : okAll (ls.drop k) (xs.drop k) = (okPts ls[k] (List.length xs[k]) && okAll (ls.drop (k + 1)) (xs.drop (k + 1))) := by
  rw [drop_cons h, drop_cons h']; rfl
/-- The last of a rising list is the greatest. -/
theorem last_ge {l : List Int} (hr : rising l = true) (h : 0 < l.length) (n : Nat) : decide (l[l.length - 1]'(by omega) ≥ (n : Int)) = ! l.all fun x => decide (x < (n : Int)) := by
  have hp := (rising_spec.1 hr).2
  rw [Bool.eq_iff_iff, decide_eq_true_iff, Bool.not_eq_true', ← Bool.not_eq_true, List.all_eq_true]
  constructor
  · intro hge hall
    have := hall _ (List.getElem_mem (show l.length - 1 < l.length by omega))
    simp at this
    omega
  · intro hall
    refine Classical.byContradiction fun hlt => hall fun x hx => ?_
    obtain ⟨i, hi, rfl⟩ := List.mem_iff_getElem.1 hx
    have : l[i] ≤ l[l.length - 1]'(by omega) := by
      by_cases he : i = l.length - 1
      · subst he; exact Int.le_refl _
      · exact Int.le_of_lt (List.pairwise_iff_getElem.1 hp i (l.length - 1) hi (by omega) (by omega))
    simp
    omega
def noProg : El T_api_Prog := ([], [])
def inC (p : El T_api_Prog) (points : List (List Int)) : El T_api_Prog × Bool :=
  if checkC p ≠ 0 ∨ p.2.length < points.length ∨ okAll points p.2 = false then (noProg, false) else ((p.1, laidP points p.2), true)
/-- So far from one, then from the other. -/
theorem mix_set {α : Type} {r x : List α} {k : Nat} (hl : r.length = x.length) (h : k < x.length) : (r.take k ++ x.drop k).set k (r[k]'(by omega)) = r.take (k + 1) ++ x.drop (k + 1) := by
  rw [List.set_append_right _ _ (by rw [List.length_take]; omega), List.length_take, Nat.min_eq_left (by omega), Nat.sub_self, drop_cons h, List.set_cons_zero, List.take_succ_eq_append_getElem (by omega), List.append_assoc]
  rfl
theorem mix_len {α : Type} {r x : List α} {k : Nat} (hl : r.length = x.length) (h : k ≤ x.length) : (r.take k ++ x.drop k).length = x.length := by
  rw [List.length_append, List.length_take, List.length_drop]; omega
theorem mix_get {α : Type} {r x : List α} {k : Nat} (hl : r.length = x.length) (h : k < x.length) : (r.take k ++ x.drop k)[k]? = some x[k] := by
  rw [List.getElem?_append_right (by rw [List.length_take]; omega), List.length_take, Nat.min_eq_left (by omega), Nat.sub_self, drop_cons h]; rfl
/-- What is left of a rising list from a place on. -/
structure Suf (pts : List Int) (k : Nat) (l : List Int) : Prop where
  pw : l.Pairwise (· < ·)
  ge : ∀ x ∈ l, (k : Int) ≤ x
  mem : ∀ x : Int, (k : Int) ≤ x → (x ∈ pts ↔ x ∈ l)
theorem Suf.start {pts : List Int} (h : rising pts = true) : Suf pts 0 pts := ⟨(rising_spec.1 h).2, fun x hx => ((rising_spec.1 h).1 x hx).1, fun x _ => Iff.rfl⟩
theorem Suf.hit {pts : List Int} {k : Nat} {n : Int} {r : List Int} (h : Suf pts k (n :: r)) (hn : n = (k : Int)) : pts.contains (k : Int) = true ∧ Suf pts (k + 1) r := by
  obtain ⟨h1, h2⟩ := List.pairwise_cons.1 h.pw
  refine ⟨?_, h2, fun x hx => ?_, fun x hx => ?_⟩
  · rw [List.contains_iff_mem]; exact (h.mem _ (Int.le_refl _)).2 (by rw [hn]; exact List.mem_cons_self ..)
  · have := h1 x hx; omega
  · rw [h.mem x (by omega), List.mem_cons]
    exact ⟨fun hx' => hx'.resolve_left (by omega), .inr⟩
theorem Suf.miss {pts : List Int} {k : Nat} {l : List Int} (h : Suf pts k l) (hn : ∀ n r, l = n :: r → n ≠ (k : Int)) : pts.contains (k : Int) = false ∧ Suf pts (k + 1) l := by
  have hk : (k : Int) ∉ l := by
    intro hm
    cases l with
    | nil => cases hm
    | cons n r =>
      have h1 := hn n r rfl
      rcases List.mem_cons.1 hm with hm | hm
      · exact h1 hm.symm
      · have := (List.pairwise_cons.1 h.pw).1 _ hm
        have := h.ge n (by simp)
        omega
  refine ⟨?_, h.pw, fun x hx => ?_, fun x hx => h.mem x (by omega)⟩
  · rw [← Bool.not_eq_true, List.contains_iff_mem, h.mem _ (Int.le_refl _)]; exact hk
  · have := h.ge x hx
    have : x ≠ (k : Int) := fun e => hk (e ▸ hx)
    omega
end Go.Ev
end

section
set_option linter.unusedSectionVars false
set_option linter.unusedVariables false
set_option linter.unusedSimpArgs false
set_option linter.unusedVariables false
set_option linter.unusedSimpArgs false
open Go
namespace Go.Ev
def v_ref3_Weave (p : El T_api_Prog) (points : List (List Int)) : (El T_api_Prog) × Bool := inC p points
def k_ref3_Weave (p : El T_api_Prog) (points : List (List Int)) : Bool := smallProg p && (copyB p && points.all fun l => decide (List.length l < 1099511627776))
theorem g_ref3_Weave (p : El T_api_Prog) (points : List (List Int)) (hk : k_ref3_Weave p points = true) : Goes (T_ref3_Weave p points) (T0_ref3_Weave p points) (v_ref3_Weave p points) := by
  unfold k_ref3_Weave at hk
  simp only [Bool.and_eq_true, List.all_eq_true, decide_eq_true_eq] at hk
  obtain ⟨hsm, hcp, hpl⟩ := hk
  have hC := copyOK hcp
  have hkc : k_ref1_Check p = true := hsm
  have hkC : k_ref1_CopyProg p = true := hcp
  have hvC : v_ref1_CopyProg p = p := rfl
  have hth := hC.thr
  obtain ⟨R, hR⟩ : ∃ R, laidP points p.2 = R := ⟨_, rfl⟩
  have hRl : R.length = p.2.length := by rw [← hR]; exact laidP_len points p.2
  have hRg : ∀ t (h : t < p.2.length), R[t]'(by omega) = laidT (points.getD t []) 0 p.2[t] := fun t h => by
    have := laidP_get points p.2 t h
    rw [hR, List.getElem?_eq_getElem (by omega)] at this
    exact Option.some.inj this
  have loop : points.length ≤ p.2.length → ∀ t, t ≤ points.length → Goes (T_ref3_Weave p points) (.jmp (.l7 (t : Int) (R.take t ++ p.2.drop t))) (if okAll (points.drop t) (p.2.drop t) then ((p.1, R), true) else (noProg, false)) := by
    intro hpt
    refine down ?_ fun t ht ih => ?_
    · rw [goes_jmp]
      simp only [T_ref3_Weave, goes_br, lt_len_not (Nat.lt_irrefl _), if_false, Bool.false_eq_true, hvC, List.drop_length]
      rw [if_pos (by rfl)]
      have : R.take points.length ++ p.2.drop points.length = R := by
        apply List.ext_getElem
        · rw [mix_len hRl hpt, hRl]
        · intro i h1 h2
          by_cases hi : i < points.length
          · rw [List.getElem_append_left (by rw [List.length_take]; omega), List.getElem_take]
          · rw [List.getElem_append_right (by rw [List.length_take]; omega), List.getElem_drop, hRg i (by omega), List.getD_eq_getElem?_getD, List.getElem?_eq_none (by omega), Option.getD_none, laidT_nil]
            congr 1
            rw [List.length_take]
            omega
      rw [this]
      exact .leaf
    · have htp : t < p.2.length := by omega
      have hL := hpl _ (List.getElem_mem ht)
      obtain ⟨l, hl⟩ : ∃ l, points[t] = l := ⟨_, rfl⟩
      rw [hl] at hL
      have hko : k_ref3_Rising l = true := decide_eq_true (by omega)
      have hvo : v_ref3_Rising l = rising l := rfl
      have hql := mix_len (k := t) hRl (by omega)
      have hqt : t < (R.take t ++ p.2.drop t).length := by omega
      obtain ⟨x, hx⟩ : ∃ x, p.2[t] = x := ⟨_, rfl⟩
      have hxm : x ∈ p.2 := by rw [← hx]; exact List.getElem_mem htp
      have hxl := hC.len x hxm
      have hset := mix_set hRl htp
      rw [hRg t htp, getD_lt ht, hl, hx] at hset
      have hI : ∀ k, k_ref3_In l k = true := fun k => decide_eq_true (by omega)
      have inner : ∀ h, Goes (T_ref3_Weave p points) (.jmp (.l18 x h 0 [] (t : Int) (R.take t ++ p.2.drop t))) (if okAll (points.drop (t + 1)) (p.2.drop (t + 1)) then ((p.1, R), true) else (noProg, false)) := by
        intro h
        have go : ∀ k, k ≤ List.length x → ∀ out : List (El T_api_Ins), out.length ≤ 2 * k → out ++ laidT l k (List.drop k x) = laidT l 0 x →
            Goes (T_ref3_Weave p points) (.jmp (.l18 x h (k : Int) out (t : Int) (R.take t ++ p.2.drop t))) (if okAll (points.drop (t + 1)) (p.2.drop (t + 1)) then ((p.1, R), true) else (noProg, false)) := by
          refine down ?_ fun k hk ihk => ?_
          · intro out ho he
            rw [goes_jmp]
            simp only [T_ref3_Weave, goes_br, lt_len_not (Nat.lt_irrefl _), if_false, Bool.false_eq_true, lt_len hqt, nng, Bool.and_self, if_true, Int.toNat_natCast, wrap_succ (k := t) (by omega)]
            rw [List.drop_length, show laidT l (List.length x) [] = [] from rfl, List.append_nil] at he
            rw [he, hset]
            exact ih
          · intro out ho he
            have b1 : Nat.ble ((out.length + 1) * 128) limit = true := bleN (by unfold limit; omega)
            have b2 : ∀ y : El T_api_Ins, Nat.ble (((out ++ [y]).length + 1) * 128) limit = true := fun y => bleN (by rw [List.length_append, List.length_singleton]; unfold limit; omega)
            have hlab := hC.lab x hxm _ (List.getElem_mem hk)
            have kI : k_ref1_CopyIns x[k] = true := decide_eq_true (by omega)
            have vI : v_ref1_CopyIns x[k] = x[k] := rfl
            have hc : v_ref3_In l (k : Int) = l.contains (k : Int) := rfl
            rw [drop_cons hk] at he
            rw [laidT] at he
            rw [goes_jmp]
            simp only [T_ref3_Weave, goes_br, lt_len hk, lt_len ht, getD_lt ht, hl, nng, Bool.and_self, if_true, Int.toNat_natCast, getD_lt hk, kI, vI, hI, hc, b1, b2, wrap_succ (k := k) (by omega)]
            split
            · rename_i hm
              rw [if_pos hm] at he
              exact ihk _ (by rw [List.length_append, List.length_append, List.length_singleton, List.length_singleton]; omega) (by rw [List.append_assoc, List.append_assoc]; exact he)
            · rename_i hm
              rw [if_neg hm] at he
              exact ihk _ (by rw [List.length_append, List.length_singleton]; omega) (by rw [List.append_assoc]; exact he)
        exact go 0 (Nat.zero_le _) [] (by simp) rfl
      rw [okAll_drop ht htp, hl, hx, goes_jmp]
      by_cases hr : rising l = true
      · by_cases h0 : 0 < List.length l
        · have e0 : decide (Int.ofNat (List.length l) > (0 : Int)) = true := by simp; omega
          have e1 : IntKind.i64.wrap (Int.ofNat (List.length l) - 1) = ((List.length l - 1 : Nat) : Int) := wrap_pred (k := List.length l) (by omega) h0
          have h1 : List.length l - 1 < List.length l := by omega
          have e2 := last_ge hr h0 (List.length x)
          have e2' : decide (l[List.length l - 1] ≥ Int.ofNat (List.length x)) = ! l.all fun y => decide (y < (List.length x : Int)) := e2
          simp only [T_ref3_Weave, goes_br, lt_len ht, nng, Bool.and_self, if_true, Int.toNat_natCast, getD_lt ht, hl, hko, hvo, hr, Bool.not_true, if_false, Bool.false_eq_true, e0, e1, lt_len h1, lt_len htp, getD_lt h1, getD_lt htp, hx, e2', okPts, Bool.true_and]
          cases l.all fun y => decide (y < (List.length x : Int)) with
          | true =>
            simp only [Bool.not_true, if_false, Bool.false_eq_true, Bool.true_and]
            exact inner _
          | false =>
            simp only [Bool.not_false, if_true, if_false, Bool.false_and, Bool.false_eq_true]
            exact .leaf
        · have hnil : l = [] := List.eq_nil_of_length_eq_zero (by omega)
          subst hnil
          have e0 : decide (Int.ofNat (List.length ([] : List Int)) > (0 : Int)) = false := by decide
          simp only [T_ref3_Weave, goes_br, lt_len ht, nng, Bool.and_self, if_true, Int.toNat_natCast, getD_lt ht, hl, hko, hvo, hr, Bool.not_true, if_false, Bool.false_eq_true, e0, lt_len htp, getD_lt htp, hx, okPts, Bool.true_and, List.all_nil]
          exact inner _
      · have hr' : rising l = false := by simpa using hr
        simp only [T_ref3_Weave, goes_br, lt_len ht, lt_len htp, nng, Bool.and_self, if_true, Int.toNat_natCast, getD_lt ht, hl, hko, hvo, hr', Bool.not_false, okPts, Bool.false_and, if_false, Bool.false_eq_true]
        exact .leaf
  unfold T0_ref3_Weave v_ref3_Weave inC
  simp only [goes_br, hkc, if_true, v_ref1_Check]
  by_cases hc : checkC p = 0
  · rw [if_neg (by simp [hc])]
    by_cases hp : p.2.length < points.length
    · rw [if_pos (by simp; omega), if_pos (.inr (.inl hp))]
      exact .leaf
    · rw [if_neg (by simp; omega), if_pos hkC]
      have := loop (by omega) 0 (Nat.zero_le _)
      rw [List.drop_zero, List.drop_zero, List.take_zero, List.nil_append] at this
      cases hok : okAll points p.2 with
      | true =>
        rw [hok, if_pos rfl] at this
        rw [if_neg (by simp [hc]; omega), hR]
        exact this
      | false =>
        rw [hok, if_neg (by decide)] at this
        rw [if_pos (.inr (.inr rfl))]
        exact this
  · rw [if_pos (by simpa using hc), if_pos (.inl hc)]
    exact .leaf
end Go.Ev
end

section
set_option linter.unusedSectionVars false
set_option linter.unusedVariables false
set_option linter.unusedSimpArgs false
set_option maxRecDepth 100000
set_option linter.unusedVariables false
open Go Go.Ev
namespace Go.Ev
noncomputable section
noncomputable def e_ref3_Weave : Run := entG sg_ref3_Weave R_ref3_Weave (fun a => k_ref3_Weave a.1 a.2.1) (fun a => v_ref3_Weave a.1 a.2.1)
theorem ok_ref3_Weave : EntOK Go.Proofs.Tryz.prog 6 e_ref3_Weave := entG_ok (tb := tb_ref3_Weave) (c := c_ref3_Weave) tk_ref3_Weave (by kernel_rfl) (by kernel_rfl) (by kernel_rfl) (fun a => by kernel_rfl) fun ⟨p, points, _⟩ hk => evF_goes (c := c_ref3_Weave) (K := fun v => (R_ref3_Weave v, tps (toForms sg_ref3_Weave (p, points, ())))) (S := S_ref3_Weave p points) (by kernel_rfl) (en_ref3_Weave p points) (lp_ref3_Weave p points) (g_ref3_Weave p points hk)
end
end Go.Ev
end

section
set_option linter.unusedSectionVars false
set_option linter.unusedVariables false
set_option linter.unusedSimpArgs false
set_option maxRecDepth 100000
set_option linter.unusedVariables false
open Go Go.Ev
namespace Go.Ev
noncomputable section
/-! ### paling/bits.New -/
def sg_bits_New : Sig := [(false, (.int .i64))]
noncomputable def t_bits_New : Tbl := []
theorem tk_bits_New : ∀ p ∈ t_bits_New, EntOK Go.Proofs.Tryz.prog p.1 p.2 := tbl_nil
noncomputable def c_bits_New : Code := Go.Proofs.Tryz.f26.body.getD .skip
def tb_bits_New : Tb := []
def T_bits_New (n : Int) : Empty → JT Empty (Int × List (Int × Int)) := fun j => nomatch j
def T0_bits_New (n : Int) : JT Empty (Int × List (Int × Int)) :=
  .leaf ((maxI n (0 : Int)), [])
def v_bits_New (n : Int) : Int × List (Int × Int) :=
  ((maxI n (0 : Int)), [])
theorem g_bits_New (n : Int) : Goes (T_bits_New n) (T0_bits_New n) (v_bits_New n) :=
  Goes.leaf
def R_bits_New : Int × List (Int × Int) → AV := fun (r : Int × List (Int × Int)) => .bx 84 [.d (.int .i64) r.1, .mv (.int .i64) (.int .u64) r.2]
def S_bits_New (n : Int) : Empty → Nat × St := fun j => nomatch j
theorem en_bits_New (n : Int) (L : Lt) : entryA Go.Proofs.Tryz.prog (clOf t_bits_New) tb_bits_New Go.Proofs.Tryz.f26 c_bits_New L (toForms sg_bits_New (n, ())) = (T0_bits_New n).run (fun v => some (R_bits_New v, tps (toForms sg_bits_New (n, ())))) fun j => L (S_bits_New n j).1 (S_bits_New n j).2 := by kernel_rfl
theorem lp_bits_New (n : Int) : ∀ (L : Lt) (j : Empty), procOf (procsF Go.Proofs.Tryz.prog (clOf t_bits_New) tb_bits_New Go.Proofs.Tryz.f26 c_bits_New (toForms sg_bits_New (n, ()))) (S_bits_New n j).1 L (S_bits_New n j).2 = (T_bits_New n j).run (fun v => some (R_bits_New v, tps (toForms sg_bits_New (n, ())))) fun j => L (S_bits_New n j).1 (S_bits_New n j).2 := fun L j => nomatch j
noncomputable def e_bits_New : Run := entT sg_bits_New R_bits_New (fun a => v_bits_New a.1)
theorem ok_bits_New : EntOK Go.Proofs.Tryz.prog 26 e_bits_New := entT_ok (tb := tb_bits_New) (c := c_bits_New) tk_bits_New (by kernel_rfl) (by kernel_rfl) (by kernel_rfl) (fun a => by kernel_rfl) fun ⟨n, _⟩ => evF_goes (c := c_bits_New) (K := fun v => (R_bits_New v, tps (toForms sg_bits_New (n, ())))) (S := S_bits_New n) (by kernel_rfl) (en_bits_New n) (lp_bits_New n) (g_bits_New n)
end
end Go.Ev
end

section
set_option linter.unusedSectionVars false
set_option linter.unusedVariables false
set_option linter.unusedSimpArgs false
set_option maxRecDepth 100000
set_option linter.unusedVariables false
open Go Go.Ev
namespace Go.Ev
noncomputable section
/-! ### (*paling/bits.Set).Size -/
noncomputable def t_bits_Set_Size : Tbl := []
theorem tk_bits_Set_Size : ∀ p ∈ t_bits_Set_Size, EntOK Go.Proofs.Tryz.prog p.1 p.2 := tbl_nil
noncomputable def c_bits_Set_Size : Code := Go.Proofs.Tryz.f42.body.getD .skip
noncomputable def e_bits_Set_Size : Run := entE Go.Proofs.Tryz.prog t_bits_Set_Size Go.Proofs.Tryz.f42 c_bits_Set_Size
theorem ok_bits_Set_Size : EntOK Go.Proofs.Tryz.prog 42 e_bits_Set_Size := entE_ok tk_bits_Set_Size (by kernel_rfl) (by kernel_rfl) (by kernel_rfl) (fun xs => by kernel_rfl)
end
end Go.Ev
end

section
set_option linter.unusedSectionVars false
set_option linter.unusedVariables false
set_option linter.unusedSimpArgs false
set_option maxRecDepth 100000
set_option linter.unusedVariables false
open Go Go.Ev
namespace Go.Ev
noncomputable section
/-! ### (*paling/bits.Set).Has -/
def sg_bits_Set_Has : PSig := [.obj 84 [(.d (.int .i64)), (.m (.int .i64) (.int .u64))], .dat false (.int .i64)]
noncomputable def t_bits_Set_Has : Tbl := [(42, e_bits_Set_Size)]
theorem tk_bits_Set_Has : ∀ p ∈ t_bits_Set_Has, EntOK Go.Proofs.Tryz.prog p.1 p.2 := tbl_cons ok_bits_Set_Size (tbl_nil)
noncomputable def c_bits_Set_Has : Code := Go.Proofs.Tryz.f29.body.getD .skip
def tb_bits_Set_Has : Tb := []
def T_bits_Set_Has (s : Int × List (Int × Int)) (i : Int) : Empty → JT Empty (Bool × Int × List (Int × Int)) := fun j => nomatch j
def T0_bits_Set_Has (s : Int × List (Int × Int)) (i : Int) : JT Empty (Bool × Int × List (Int × Int)) :=
  .br (decide (i ≥ (0 : Int)))
    (.br (decide (i < s.1))
      (.br (decide ((IntKind.u64.wrap (Int.tmod i (64 : Int))) < (0 : Int)))
        (.no)
      (.leaf (((bitAnd IntKind.u64 (Int.fdiv (Option.getD (mget (kt := (.int .i64)) (IntKind.i64.wrap (Int.tdiv i (64 : Int))) s.2) (0 : Int)) (2 ^ (min (Int.toNat (IntKind.u64.wrap (Int.tmod i (64 : Int)))) (IntKind.u64).bits))) (1 : Int)) == (1 : Int)), s)))
    (.leaf (false, s)))
  (.leaf (false, s))
def u_bits_Set_Has (s : Int × List (Int × Int)) (i : Int) : Bool × Int × List (Int × Int) :=
  bif (decide (i ≥ (0 : Int))) then
    bif (decide (i < s.1)) then
      bif (decide ((IntKind.u64.wrap (Int.tmod i (64 : Int))) < (0 : Int))) then
        (false, ((0 : Int), []))
      else (((bitAnd IntKind.u64 (Int.fdiv (Option.getD (mget (kt := (.int .i64)) (IntKind.i64.wrap (Int.tdiv i (64 : Int))) s.2) (0 : Int)) (2 ^ (min (Int.toNat (IntKind.u64.wrap (Int.tmod i (64 : Int)))) (IntKind.u64).bits))) (1 : Int)) == (1 : Int)), s)
    else (false, s)
  else (false, s)
def ku_bits_Set_Has (s : Int × List (Int × Int)) (i : Int) : Bool :=
  bif (decide (i ≥ (0 : Int))) then
    bif (decide (i < s.1)) then
      bif (decide ((IntKind.u64.wrap (Int.tmod i (64 : Int))) < (0 : Int))) then
        false
      else true
    else true
  else true
theorem gu_bits_Set_Has (s : Int × List (Int × Int)) (i : Int) (hk : ku_bits_Set_Has s i = true) : Goes (T_bits_Set_Has s i) (T0_bits_Set_Has s i) (u_bits_Set_Has s i) :=
  Goes.brk hk (fun hk =>
    Goes.brk hk (fun hk =>
      Goes.brk hk (fun hk =>
        Goes.nok hk) (fun hk =>
        Goes.leaf)) (fun hk =>
      Goes.leaf)) (fun hk =>
    Goes.leaf)
def K_bits_Set_Has : Bool × Int × List (Int × Int) → Ans := fun (r : Bool × Int × List (Int × Int)) => (.d .bool r.1, [.bx 84 [.d (.int .i64) r.2.1, .mv (.int .i64) (.int .u64) r.2.2], .top])
def S_bits_Set_Has (s : Int × List (Int × Int)) (i : Int) : Empty → Nat × St := fun j => nomatch j
theorem en_bits_Set_Has (s : Int × List (Int × Int)) (i : Int) (L : Lt) : entryA Go.Proofs.Tryz.prog (clOf t_bits_Set_Has) tb_bits_Set_Has Go.Proofs.Tryz.f29 c_bits_Set_Has L (toPs sg_bits_Set_Has (s, i, ())) = (T0_bits_Set_Has s i).run (fun v => some (K_bits_Set_Has v)) fun j => L (S_bits_Set_Has s i j).1 (S_bits_Set_Has s i j).2 := by kernel_rfl
theorem lp_bits_Set_Has (s : Int × List (Int × Int)) (i : Int) : ∀ (L : Lt) (j : Empty), procOf (procsF Go.Proofs.Tryz.prog (clOf t_bits_Set_Has) tb_bits_Set_Has Go.Proofs.Tryz.f29 c_bits_Set_Has (toPs sg_bits_Set_Has (s, i, ()))) (S_bits_Set_Has s i j).1 L (S_bits_Set_Has s i j).2 = (T_bits_Set_Has s i j).run (fun v => some (K_bits_Set_Has v)) fun j => L (S_bits_Set_Has s i j).1 (S_bits_Set_Has s i j).2 := fun L j => nomatch j
end
end Go.Ev
end

section
set_option linter.unusedSectionVars false
set_option linter.unusedVariables false
set_option linter.unusedSimpArgs false
/- Sets of small numbers, by words of 64. -/
set_option linter.unusedVariables false
open Go
namespace Go.Ev

/-- The word at a place. -/
def wordAt (m : List (Int × Int)) (k : Int) : Int := Option.getD (mget (kt := (.int .i64)) k m) (0 : Int)
/-- A bit of a word. -/
def bitE (w : Int) (i : Int) : Bool := (bitAnd IntKind.u64 (Int.fdiv w (2 ^ (min (Int.toNat (IntKind.u64.wrap i)) (IntKind.u64).bits))) (1 : Int)) == (1 : Int)
def numE (k i : Int) : Int := IntKind.i64.wrap ((IntKind.i64.wrap (k * (64 : Int))) + i)
def wordList (m : List (Int × Int)) (k : Int) (i n : Nat) : List Int := ((List.range' i n).filter fun i => bitE (wordAt m k) (i : Nat)).map fun i => numE k (i : Nat)
/-- The numbers by the words at these places. -/
def listAt (m : List (Int × Int)) (places : List Int) : List Int := places.flatMap fun k => wordList m k 0 64
/-- What a set lists. -/
def listS (s : Int × List (Int × Int)) : List Int := listAt s.2 ((s.2.map Prod.fst).mergeSort fun x y => decide (x ≤ y))

theorem wrapU_small {i : Nat} (h : i < 64) : IntKind.u64.wrap (i : Int) = (i : Int) := by
  unfold IntKind.wrap
  simp [IntKind.signed, IntKind.bits]
  omega
theorem wordList_length (m : List (Int × Int)) (k : Int) (i n : Nat) : (wordList m k i n).length ≤ n := by
  unfold wordList
  rw [List.length_map]
  exact Nat.le_trans (List.length_filter_le _ _) (by simp)
theorem listAt_length (m : List (Int × Int)) : ∀ places : List Int, (listAt m places).length ≤ places.length * 64
  | [] => by simp [listAt]
  | k :: r => by
    have := listAt_length m r
    have h2 := wordList_length m k 0 64
    simp only [listAt, List.flatMap_cons, List.length_append, List.length_cons] at *
    omega
end Go.Ev
namespace Go.Ev
/-! ### Has and Put -/
def placeOf (i : Int) : Int := IntKind.i64.wrap (Int.tdiv i (64 : Int))
def hasS (s : Int × List (Int × Int)) (i : Int) : Bool := decide (i ≥ (0 : Int)) && (decide (i < s.1) && bitE (wordAt s.2 (placeOf i)) (Int.tmod i (64 : Int)))
def withBit (w i : Int) : Int := bitOr IntKind.u64 w (IntKind.u64.wrap ((1 : Int) * (2 ^ (min (Int.toNat (IntKind.u64.wrap i)) (IntKind.u64).bits))))
def putS (s : Int × List (Int × Int)) (i : Int) : Bool × Int × List (Int × Int) :=
  if i < 0 ∨ s.1 ≤ i ∨ hasS s i = true then (false, s) else (true, s.1, mput (kt := (.int .i64)) (placeOf i) (withBit (wordAt s.2 (placeOf i)) (Int.tmod i (64 : Int))) s.2)
theorem wrapU_nonneg (n : Int) : decide (IntKind.u64.wrap n < (0 : Int)) = false := by
  apply decide_eq_false
  unfold IntKind.wrap
  simp only [IntKind.signed, IntKind.bits, Bool.false_and, Bool.false_eq_true, if_false]
  have : (0 : Int) ≤ n % 18446744073709551616 := Int.emod_nonneg _ (by decide)
  simp at *
  omega
end Go.Ev
end

section
set_option linter.unusedSectionVars false
set_option linter.unusedVariables false
set_option linter.unusedSimpArgs false
set_option linter.unusedVariables false
open Go
namespace Go.Ev
def v_bits_Set_Has (s : Int × List (Int × Int)) (i : Int) : Bool × Int × List (Int × Int) := (hasS s i, s)
theorem g_bits_Set_Has (s : Int × List (Int × Int)) (i : Int) : Goes (T_bits_Set_Has s i) (T0_bits_Set_Has s i) (v_bits_Set_Has s i) := by
  unfold T0_bits_Set_Has v_bits_Set_Has hasS
  rw [goes_br]
  by_cases h0 : i ≥ 0
  · rw [if_pos (decide_eq_true h0), goes_br, decide_eq_true h0, Bool.true_and]
    by_cases h1 : i < s.1
    · rw [if_pos (decide_eq_true h1), goes_br, if_neg (by rw [wrapU_nonneg]; decide), decide_eq_true h1, Bool.true_and]
      exact .leaf
    · rw [if_neg (by simpa using h1), decide_eq_false h1, Bool.false_and]
      exact .leaf
  · rw [if_neg (by simpa using h0), decide_eq_false h0, Bool.false_and]
    exact .leaf
end Go.Ev
end

section
set_option linter.unusedSectionVars false
set_option linter.unusedVariables false
set_option linter.unusedSimpArgs false
set_option maxRecDepth 100000
set_option linter.unusedVariables false
open Go Go.Ev
namespace Go.Ev
noncomputable section
noncomputable def e_bits_Set_Has : Run := entO sg_bits_Set_Has K_bits_Set_Has (fun a => true) (fun a => v_bits_Set_Has a.1 a.2.1)
theorem ok_bits_Set_Has : EntOK Go.Proofs.Tryz.prog 29 e_bits_Set_Has := entO_ok (tb := tb_bits_Set_Has) (c := c_bits_Set_Has) (noRun_ok (known_of (fn := Go.Proofs.Tryz.f29) (c := c_bits_Set_Has) (by kernel_rfl) (by kernel_rfl) (by kernel_rfl))) tk_bits_Set_Has (by kernel_rfl) (by kernel_rfl) (fun a => by kernel_rfl) fun ⟨s, i, _⟩ hk => evF_goes (c := c_bits_Set_Has) (K := K_bits_Set_Has) (S := S_bits_Set_Has s i) (by kernel_rfl) (en_bits_Set_Has s i) (lp_bits_Set_Has s i) (g_bits_Set_Has s i)
end
end Go.Ev
end

section
set_option linter.unusedSectionVars false
set_option linter.unusedVariables false
set_option linter.unusedSimpArgs false
set_option maxRecDepth 100000
set_option linter.unusedVariables false
open Go Go.Ev
namespace Go.Ev
noncomputable section
/-! ### (*paling/bits.Set).Put -/
def sg_bits_Set_Put : PSig := [.obj 84 [(.d (.int .i64)), (.m (.int .i64) (.int .u64))], .dat false (.int .i64)]
noncomputable def t_bits_Set_Put : Tbl := [(42, e_bits_Set_Size), (29, e_bits_Set_Has)]
theorem tk_bits_Set_Put : ∀ p ∈ t_bits_Set_Put, EntOK Go.Proofs.Tryz.prog p.1 p.2 := tbl_cons ok_bits_Set_Size (tbl_cons ok_bits_Set_Has (tbl_nil))
noncomputable def c_bits_Set_Put : Code := Go.Proofs.Tryz.f27.body.getD .skip
def tb_bits_Set_Put : Tb := []
def T_bits_Set_Put (s : Int × List (Int × Int)) (i : Int) : Empty → JT Empty (Bool × Int × List (Int × Int)) := fun j => nomatch j
def T0_bits_Set_Put (s : Int × List (Int × Int)) (i : Int) : JT Empty (Bool × Int × List (Int × Int)) :=
  .br (decide (i < (0 : Int)))
    (.leaf (false, s))
  (.br (decide (i ≥ s.1))
    (.leaf (false, s))
  (.br (v_bits_Set_Has s i).1
    (.leaf (false, (v_bits_Set_Has s i).2))
  (.br (decide ((IntKind.u64.wrap (Int.tmod i (64 : Int))) < (0 : Int)))
    (.no)
  (.leaf (true, ((v_bits_Set_Has s i).2.1, (mput (kt := (.int .i64)) (IntKind.i64.wrap (Int.tdiv i (64 : Int))) (bitOr IntKind.u64 (Option.getD (mget (kt := (.int .i64)) (IntKind.i64.wrap (Int.tdiv i (64 : Int))) (v_bits_Set_Has s i).2.2) (0 : Int)) (IntKind.u64.wrap ((1 : Int) * (2 ^ (min (Int.toNat (IntKind.u64.wrap (Int.tmod i (64 : Int)))) (IntKind.u64).bits))))) (v_bits_Set_Has s i).2.2)))))))
def u_bits_Set_Put (s : Int × List (Int × Int)) (i : Int) : Bool × Int × List (Int × Int) :=
  bif (decide (i < (0 : Int))) then
    (false, s)
  else bif (decide (i ≥ s.1)) then
    (false, s)
  else bif (v_bits_Set_Has s i).1 then
    (false, (v_bits_Set_Has s i).2)
  else bif (decide ((IntKind.u64.wrap (Int.tmod i (64 : Int))) < (0 : Int))) then
    (false, ((0 : Int), []))
  else (true, ((v_bits_Set_Has s i).2.1, (mput (kt := (.int .i64)) (IntKind.i64.wrap (Int.tdiv i (64 : Int))) (bitOr IntKind.u64 (Option.getD (mget (kt := (.int .i64)) (IntKind.i64.wrap (Int.tdiv i (64 : Int))) (v_bits_Set_Has s i).2.2) (0 : Int)) (IntKind.u64.wrap ((1 : Int) * (2 ^ (min (Int.toNat (IntKind.u64.wrap (Int.tmod i (64 : Int)))) (IntKind.u64).bits))))) (v_bits_Set_Has s i).2.2)))
def ku_bits_Set_Put (s : Int × List (Int × Int)) (i : Int) : Bool :=
  bif (decide (i < (0 : Int))) then
    true
  else bif (decide (i ≥ s.1)) then
    true
  else bif (v_bits_Set_Has s i).1 then
    true
  else bif (decide ((IntKind.u64.wrap (Int.tmod i (64 : Int))) < (0 : Int))) then
    false
  else true
theorem gu_bits_Set_Put (s : Int × List (Int × Int)) (i : Int) (hk : ku_bits_Set_Put s i = true) : Goes (T_bits_Set_Put s i) (T0_bits_Set_Put s i) (u_bits_Set_Put s i) :=
  Goes.brk hk (fun hk =>
    Goes.leaf) (fun hk =>
    Goes.brk hk (fun hk =>
      Goes.leaf) (fun hk =>
      Goes.brk hk (fun hk =>
        Goes.leaf) (fun hk =>
        Goes.brk hk (fun hk =>
          Goes.nok hk) (fun hk =>
          Goes.leaf))))
def K_bits_Set_Put : Bool × Int × List (Int × Int) → Ans := fun (r : Bool × Int × List (Int × Int)) => (.d .bool r.1, [.bx 84 [.d (.int .i64) r.2.1, .mv (.int .i64) (.int .u64) r.2.2], .top])
def S_bits_Set_Put (s : Int × List (Int × Int)) (i : Int) : Empty → Nat × St := fun j => nomatch j
theorem en_bits_Set_Put (s : Int × List (Int × Int)) (i : Int) (L : Lt) : entryA Go.Proofs.Tryz.prog (clOf t_bits_Set_Put) tb_bits_Set_Put Go.Proofs.Tryz.f27 c_bits_Set_Put L (toPs sg_bits_Set_Put (s, i, ())) = (T0_bits_Set_Put s i).run (fun v => some (K_bits_Set_Put v)) fun j => L (S_bits_Set_Put s i j).1 (S_bits_Set_Put s i j).2 := by kernel_rfl
theorem lp_bits_Set_Put (s : Int × List (Int × Int)) (i : Int) : ∀ (L : Lt) (j : Empty), procOf (procsF Go.Proofs.Tryz.prog (clOf t_bits_Set_Put) tb_bits_Set_Put Go.Proofs.Tryz.f27 c_bits_Set_Put (toPs sg_bits_Set_Put (s, i, ()))) (S_bits_Set_Put s i j).1 L (S_bits_Set_Put s i j).2 = (T_bits_Set_Put s i j).run (fun v => some (K_bits_Set_Put v)) fun j => L (S_bits_Set_Put s i j).1 (S_bits_Set_Put s i j).2 := fun L j => nomatch j
end
end Go.Ev
end

section
set_option linter.unusedSectionVars false
set_option linter.unusedVariables false
set_option linter.unusedSimpArgs false
set_option linter.unusedVariables false
open Go
namespace Go.Ev
def v_bits_Set_Put (s : Int × List (Int × Int)) (i : Int) : Bool × Int × List (Int × Int) := putS s i
theorem g_bits_Set_Put (s : Int × List (Int × Int)) (i : Int) : Goes (T_bits_Set_Put s i) (T0_bits_Set_Put s i) (v_bits_Set_Put s i) := by
  unfold T0_bits_Set_Put v_bits_Set_Put putS
  simp only [v_bits_Set_Has]
  rw [goes_br]
  by_cases h0 : i < 0
  · rw [if_pos (decide_eq_true h0), if_pos (.inl h0)]; exact .leaf
  · rw [if_neg (by simpa using h0), goes_br]
    by_cases h1 : i ≥ s.1
    · rw [if_pos (decide_eq_true h1), if_pos (.inr (.inl h1))]; exact .leaf
    · rw [if_neg (by simpa using h1), goes_br]
      by_cases h2 : hasS s i = true
      · rw [if_pos h2, if_pos (.inr (.inr h2))]; exact .leaf
      · rw [if_neg h2, goes_br, if_neg (by rw [wrapU_nonneg]; decide), if_neg (by intro h; rcases h with h | h | h <;> first | exact h0 h | exact h1 h | exact h2 h)]
        exact .leaf
end Go.Ev
end

section
set_option linter.unusedSectionVars false
set_option linter.unusedVariables false
set_option linter.unusedSimpArgs false
set_option maxRecDepth 100000
set_option linter.unusedVariables false
open Go Go.Ev
namespace Go.Ev
noncomputable section
noncomputable def e_bits_Set_Put : Run := entO sg_bits_Set_Put K_bits_Set_Put (fun a => true) (fun a => v_bits_Set_Put a.1 a.2.1)
theorem ok_bits_Set_Put : EntOK Go.Proofs.Tryz.prog 27 e_bits_Set_Put := entO_ok (tb := tb_bits_Set_Put) (c := c_bits_Set_Put) (noRun_ok (known_of (fn := Go.Proofs.Tryz.f27) (c := c_bits_Set_Put) (by kernel_rfl) (by kernel_rfl) (by kernel_rfl))) tk_bits_Set_Put (by kernel_rfl) (by kernel_rfl) (fun a => by kernel_rfl) fun ⟨s, i, _⟩ hk => evF_goes (c := c_bits_Set_Put) (K := K_bits_Set_Put) (S := S_bits_Set_Put s i) (by kernel_rfl) (en_bits_Set_Put s i) (lp_bits_Set_Put s i) (g_bits_Set_Put s i)
end
end Go.Ev
end

section
set_option linter.unusedSectionVars false
set_option linter.unusedVariables false
set_option linter.unusedSimpArgs false
set_option maxRecDepth 100000
set_option linter.unusedVariables false
open Go Go.Ev
namespace Go.Ev
noncomputable section
/-! ### paling/valid.Find -/
def sg_valid_Find : Sig := [(true, (.sl T_api_Ins)), (false, .str)]
noncomputable def t_valid_Find : Tbl := []
theorem tk_valid_Find : ∀ p ∈ t_valid_Find, EntOK Go.Proofs.Tryz.prog p.1 p.2 := tbl_nil
noncomputable def c_valid_Find : Code := Go.Proofs.Tryz.f44.body.getD .skip
def tb_valid_Find : Tb := [(3, ⟨[1, 10, 11, 12], []⟩), (9, ⟨[1, 5, 10, 11, 12, 18, 19, 20], []⟩)]
inductive J_valid_Find where
  | l3 (h : Int)
  | l9 (h : List ByteArray) (h1 : Int) (h2 : Int) (k : Int) (h3 : Int)
def T_valid_Find (t : List (El T_api_Ins)) (label : ByteArray) : J_valid_Find → JT J_valid_Find (Int)
  | .l3 h =>
    .br (decide (h < (Int.ofNat (List.length t))))
      (.br ((decide ((0 : Int) ≤ h)) && (decide (h < (Int.ofNat (List.length t)))))
        (.jmp (.l9 (List.getD t (Int.toNat h) (dflt T_api_Ins)).2.2.2.2.2.2 (Int.ofNat (List.length (List.getD t (Int.toNat h) (dflt T_api_Ins)).2.2.2.2.2.2)) (0 : Int) h h))
      (.no))
    (.leaf (-1 : Int))
  | .l9 h h1 h2 k h3 =>
    .br (decide (h2 < h1))
      (.br ((decide ((0 : Int) ≤ h2)) && (decide (h2 < (Int.ofNat (List.length h)))))
        (.br (eqB (List.getD h (Int.toNat h2) (dflt .str)) label)
          (.leaf k)
        (.jmp (.l9 h h1 (IntKind.i64.wrap (h2 + (1 : Int))) k h3)))
      (.no))
    (.jmp (.l3 (IntKind.i64.wrap (h3 + (1 : Int)))))
def T0_valid_Find (t : List (El T_api_Ins)) (label : ByteArray) : JT J_valid_Find (Int) :=
  .jmp (.l3 (0 : Int))
def R_valid_Find : Int → AV := fun (r : Int) => .d (.int .i64) r
def S_valid_Find (t : List (El T_api_Ins)) (label : ByteArray) : J_valid_Find → Nat × St
  | .l3 h => (3, ⟨mkTm 30 [(1, .d .str label), (10, .d (.sl T_api_Ins) t), (11, .d (.int .i64) (Int.ofNat (List.length t))), (12, .d (.int .i64) h)], []⟩)
  | .l9 h h1 h2 k h3 => (9, ⟨mkTm 30 [(1, .d .str label), (5, .d (.int .i64) k), (10, .d (.sl T_api_Ins) t), (11, .d (.int .i64) (Int.ofNat (List.length t))), (12, .d (.int .i64) h3), (18, .d (.sl .str) h), (19, .d (.int .i64) h1), (20, .d (.int .i64) h2)], []⟩)
theorem en_valid_Find (t : List (El T_api_Ins)) (label : ByteArray) (L : Lt) : entryA Go.Proofs.Tryz.prog (clOf t_valid_Find) tb_valid_Find Go.Proofs.Tryz.f44 c_valid_Find L (toForms sg_valid_Find (t, label, ())) = (T0_valid_Find t label).run (fun v => some (R_valid_Find v, tps (toForms sg_valid_Find (t, label, ())))) fun j => L (S_valid_Find t label j).1 (S_valid_Find t label j).2 := by kernel_rfl
theorem lp_valid_Find (t : List (El T_api_Ins)) (label : ByteArray) : ∀ (L : Lt) (j : J_valid_Find), procOf (procsF Go.Proofs.Tryz.prog (clOf t_valid_Find) tb_valid_Find Go.Proofs.Tryz.f44 c_valid_Find (toForms sg_valid_Find (t, label, ()))) (S_valid_Find t label j).1 L (S_valid_Find t label j).2 = (T_valid_Find t label j).run (fun v => some (R_valid_Find v, tps (toForms sg_valid_Find (t, label, ())))) fun j => L (S_valid_Find t label j).1 (S_valid_Find t label j).2
  | L, .l3 h => by kernel_rfl
  | L, .l9 h h1 h2 k h3 => by kernel_rfl
end
end Go.Ev
end

section
set_option linter.unusedSectionVars false
set_option linter.unusedVariables false
set_option linter.unusedSimpArgs false
set_option linter.unusedVariables false
set_option linter.unusedSimpArgs false
open Go
namespace Go.Ev
def v_valid_Find (t : List (El T_api_Ins)) (label : ByteArray) : Int := findI label t 0
def k_valid_Find (t : List (El T_api_Ins)) (label : ByteArray) : Bool := decide (t.length < 1099511627776) && t.all fun i => decide (i.2.2.2.2.2.2.length < 1099511627776)
theorem g_valid_Find (t : List (El T_api_Ins)) (label : ByteArray) (hk : k_valid_Find t label = true) : Goes (T_valid_Find t label) (T0_valid_Find t label) (v_valid_Find t label) := by
  unfold k_valid_Find at hk
  simp only [Bool.and_eq_true, decide_eq_true_eq, List.all_eq_true] at hk
  obtain ⟨hn, hl⟩ := hk
  have loop : ∀ k, k ≤ t.length → Goes (T_valid_Find t label) (.jmp (.l3 (k : Int))) (findI label (t.drop k) k) := by
    refine down ?_ fun k hk ih => ?_
    · rw [goes_jmp]
      simp only [T_valid_Find, goes_br, lt_len_not (Nat.lt_irrefl _), goes_leaf, List.drop_length]
      simp [findI]
    · have hli := hl t[k] (List.getElem_mem hk)
      rw [goes_jmp]
      simp only [T_valid_Find, goes_br, lt_len hk, nng, Bool.and_self, if_true, Int.toNat_natCast, getD_lt hk]
      rw [drop_cons hk]
      unfold findI
      generalize t[k].2.2.2.2.2.2 = ls at hli
      have inner : ∀ j, j ≤ ls.length → Goes (T_valid_Find t label) (.jmp (.l9 ls (Int.ofNat ls.length) (j : Int) (k : Int) (k : Int))) (if (ls.drop j).contains label then (k : Int) else findI label (t.drop (k + 1)) (k + 1)) := by
        refine down ?_ fun j hj ihj => ?_
        · rw [goes_jmp]
          simp only [T_valid_Find, goes_br, lt_len_not (Nat.lt_irrefl _), wrap_succ (k := k) (by omega), List.drop_length]
          simpa using ih
        · rw [goes_jmp]
          simp only [T_valid_Find, goes_br, lt_len hj, nng, Bool.and_self, if_true, Int.toNat_natCast, getD_lt hj, wrap_succ (k := j) (by omega), eqB_iff]
          rw [drop_cons hj, List.contains_cons]
          by_cases h : ls[j] = label
          · rw [if_pos h]; subst h; simp [goes_leaf]
          · rw [if_neg h, beq_false_of_ne (Ne.symm h), Bool.false_or]
            exact ihj
      simpa using inner 0 (Nat.zero_le _)
  unfold T0_valid_Find v_valid_Find
  simpa using loop 0 (Nat.zero_le _)
end Go.Ev
end

section
set_option linter.unusedSectionVars false
set_option linter.unusedVariables false
set_option linter.unusedSimpArgs false
set_option maxRecDepth 100000
set_option linter.unusedVariables false
open Go Go.Ev
namespace Go.Ev
noncomputable section
noncomputable def e_valid_Find : Run := entG sg_valid_Find R_valid_Find (fun a => k_valid_Find a.1 a.2.1) (fun a => v_valid_Find a.1 a.2.1)
theorem ok_valid_Find : EntOK Go.Proofs.Tryz.prog 44 e_valid_Find := entG_ok (tb := tb_valid_Find) (c := c_valid_Find) tk_valid_Find (by kernel_rfl) (by kernel_rfl) (by kernel_rfl) (fun a => by kernel_rfl) fun ⟨t, label, _⟩ hk => evF_goes (c := c_valid_Find) (K := fun v => (R_valid_Find v, tps (toForms sg_valid_Find (t, label, ())))) (S := S_valid_Find t label) (by kernel_rfl) (en_valid_Find t label) (lp_valid_Find t label) (g_valid_Find t label hk)
end
end Go.Ev
end

section
set_option linter.unusedSectionVars false
set_option linter.unusedVariables false
set_option linter.unusedSimpArgs false
set_option maxRecDepth 100000
set_option linter.unusedVariables false
open Go Go.Ev
namespace Go.Ev
noncomputable section
/-! ### paling/flow.Next -/
def sg_flow_Next : Sig := [(true, (.sl T_api_Ins)), (false, (.int .i64))]
noncomputable def t_flow_Next : Tbl := [(43, e_ins_Leads), (44, e_valid_Find)]
theorem tk_flow_Next : ∀ p ∈ t_flow_Next, EntOK Go.Proofs.Tryz.prog p.1 p.2 := tbl_cons ok_ins_Leads (tbl_cons ok_valid_Find (tbl_nil))
noncomputable def c_flow_Next : Code := Go.Proofs.Tryz.f28.body.getD .skip
def tb_flow_Next : Tb := [(12, ⟨[1, 5, 8, 55, 68, 76], [(9, 70)]⟩), (14, ⟨[5, 8, 78], []⟩), (hintK, ⟨[], [(1, 70)]⟩)]
inductive J_flow_Next where
  | l12 (to_ : Int) (out : List Int) (h : Bool)
  | l14 (to_ : Int) (out : List Int) (h : Bool)
def T_flow_Next (t : List (El T_api_Ins)) (i : Int) : J_flow_Next → JT J_flow_Next (List Int)
  | .l12 to_ out h =>
    .br h
      (.br (Nat.ble (((List.length out) + 1) * 8) limit)
        (.br (decide (to_ > i))
          (.br ((Int.ofNat (List.length (out ++ [(IntKind.i64.wrap (i + (1 : Int)))]))) == (0 : Int))
            (.jmp (.l14 to_ (out ++ [(IntKind.i64.wrap (i + (1 : Int)))]) true))
          (.br ((decide ((0 : Int) ≤ (IntKind.i64.wrap ((Int.ofNat (List.length (out ++ [(IntKind.i64.wrap (i + (1 : Int)))]))) - (1 : Int))))) && (decide ((IntKind.i64.wrap ((Int.ofNat (List.length (out ++ [(IntKind.i64.wrap (i + (1 : Int)))]))) - (1 : Int))) < (Int.ofNat (List.length (out ++ [(IntKind.i64.wrap (i + (1 : Int)))]))))))
            (.jmp (.l14 to_ (out ++ [(IntKind.i64.wrap (i + (1 : Int)))]) ((List.getD (out ++ [(IntKind.i64.wrap (i + (1 : Int)))]) (Int.toNat (IntKind.i64.wrap ((Int.ofNat (List.length (out ++ [(IntKind.i64.wrap (i + (1 : Int)))]))) - (1 : Int)))) (dflt (.int .i64))) != to_)))
          (.no)))
        (.jmp (.l14 to_ (out ++ [(IntKind.i64.wrap (i + (1 : Int)))]) false)))
      (.no))
    (.br (decide (to_ > i))
      (.br ((Int.ofNat (List.length out)) == (0 : Int))
        (.jmp (.l14 to_ out true))
      (.br ((decide ((0 : Int) ≤ (IntKind.i64.wrap ((Int.ofNat (List.length out)) - (1 : Int))))) && (decide ((IntKind.i64.wrap ((Int.ofNat (List.length out)) - (1 : Int))) < (Int.ofNat (List.length out)))))
        (.jmp (.l14 to_ out ((List.getD out (Int.toNat (IntKind.i64.wrap ((Int.ofNat (List.length out)) - (1 : Int)))) (dflt (.int .i64))) != to_)))
      (.no)))
    (.jmp (.l14 to_ out false)))
  | .l14 to_ out h =>
    .br h
      (.br (Nat.ble (((List.length out) + 1) * 8) limit)
        (.leaf (out ++ [to_]))
      (.no))
    (.leaf out)
def T0_flow_Next (t : List (El T_api_Ins)) (i : Int) : JT J_flow_Next (List Int) :=
  .br (decide (i < (0 : Int)))
    (.leaf [])
  (.br (decide (i ≥ (Int.ofNat (List.length t))))
    (.leaf [])
  (.br ((decide ((0 : Int) ≤ i)) && (decide (i < (Int.ofNat (List.length t)))))
    (.br (k_ins_Leads (List.getD t (Int.toNat i) (dflt T_api_Ins)))
      (.br (v_ins_Leads (List.getD t (Int.toNat i) (dflt T_api_Ins))).2
        (.br ((decide ((0 : Int) ≤ i)) && (decide (i < (Int.ofNat (List.length t)))))
          (.br (k_valid_Find t (List.getD t (Int.toNat i) (dflt T_api_Ins)).2.2.2.2.2.1)
            (.br (decide ((v_valid_Find t (List.getD t (Int.toNat i) (dflt T_api_Ins)).2.2.2.2.2.1) ≥ (0 : Int)))
              (.br (decide ((v_valid_Find t (List.getD t (Int.toNat i) (dflt T_api_Ins)).2.2.2.2.2.1) ≤ i))
                (.br (v_ins_Leads (List.getD t (Int.toNat i) (dflt T_api_Ins))).1
                  (.jmp (.l12 (v_valid_Find t (List.getD t (Int.toNat i) (dflt T_api_Ins)).2.2.2.2.2.1) [(v_valid_Find t (List.getD t (Int.toNat i) (dflt T_api_Ins)).2.2.2.2.2.1)] (decide ((IntKind.i64.wrap (i + (1 : Int))) < (Int.ofNat (List.length t))))))
                (.jmp (.l12 (v_valid_Find t (List.getD t (Int.toNat i) (dflt T_api_Ins)).2.2.2.2.2.1) [(v_valid_Find t (List.getD t (Int.toNat i) (dflt T_api_Ins)).2.2.2.2.2.1)] false)))
              (.br (v_ins_Leads (List.getD t (Int.toNat i) (dflt T_api_Ins))).1
                (.jmp (.l12 (v_valid_Find t (List.getD t (Int.toNat i) (dflt T_api_Ins)).2.2.2.2.2.1) [] (decide ((IntKind.i64.wrap (i + (1 : Int))) < (Int.ofNat (List.length t))))))
              (.jmp (.l12 (v_valid_Find t (List.getD t (Int.toNat i) (dflt T_api_Ins)).2.2.2.2.2.1) [] false))))
            (.br (v_ins_Leads (List.getD t (Int.toNat i) (dflt T_api_Ins))).1
              (.jmp (.l12 (v_valid_Find t (List.getD t (Int.toNat i) (dflt T_api_Ins)).2.2.2.2.2.1) [] (decide ((IntKind.i64.wrap (i + (1 : Int))) < (Int.ofNat (List.length t))))))
            (.jmp (.l12 (v_valid_Find t (List.getD t (Int.toNat i) (dflt T_api_Ins)).2.2.2.2.2.1) [] false))))
          (.no))
        (.no))
      (.br (v_ins_Leads (List.getD t (Int.toNat i) (dflt T_api_Ins))).1
        (.jmp (.l12 (-1 : Int) [] (decide ((IntKind.i64.wrap (i + (1 : Int))) < (Int.ofNat (List.length t))))))
      (.jmp (.l12 (-1 : Int) [] false))))
    (.no))
  (.no)))
def v_flow_Next_l14 (t : List (El T_api_Ins)) (i : Int) (to_ : Int) (out : List Int) (h : Bool) : List Int :=
  bif h then
    bif (Nat.ble (((List.length out) + 1) * 8) limit) then
      (out ++ [to_])
    else []
  else out
def k_flow_Next_l14 (t : List (El T_api_Ins)) (i : Int) (to_ : Int) (out : List Int) (h : Bool) : Bool :=
  bif h then
    bif (Nat.ble (((List.length out) + 1) * 8) limit) then
      true
    else false
  else true
theorem g_flow_Next_l14 (t : List (El T_api_Ins)) (i : Int) (to_ : Int) (out : List Int) (h : Bool) (hk : k_flow_Next_l14 t i to_ out h = true) : Goes (T_flow_Next t i) (.jmp (.l14 to_ out h)) (v_flow_Next_l14 t i to_ out h) :=
  Goes.jmp (Goes.brk hk (fun hk =>
    Goes.brk hk (fun hk =>
      Goes.leaf) (fun hk =>
      Goes.nok hk)) (fun hk =>
    Goes.leaf))
def v_flow_Next_l12 (t : List (El T_api_Ins)) (i : Int) (to_ : Int) (out : List Int) (h : Bool) : List Int :=
  bif h then
    bif (Nat.ble (((List.length out) + 1) * 8) limit) then
      bif (decide (to_ > i)) then
        bif ((Int.ofNat (List.length (out ++ [(IntKind.i64.wrap (i + (1 : Int)))]))) == (0 : Int)) then
          v_flow_Next_l14 t i to_ (out ++ [(IntKind.i64.wrap (i + (1 : Int)))]) true
        else bif ((decide ((0 : Int) ≤ (IntKind.i64.wrap ((Int.ofNat (List.length (out ++ [(IntKind.i64.wrap (i + (1 : Int)))]))) - (1 : Int))))) && (decide ((IntKind.i64.wrap ((Int.ofNat (List.length (out ++ [(IntKind.i64.wrap (i + (1 : Int)))]))) - (1 : Int))) < (Int.ofNat (List.length (out ++ [(IntKind.i64.wrap (i + (1 : Int)))])))))) then
          v_flow_Next_l14 t i to_ (out ++ [(IntKind.i64.wrap (i + (1 : Int)))]) ((List.getD (out ++ [(IntKind.i64.wrap (i + (1 : Int)))]) (Int.toNat (IntKind.i64.wrap ((Int.ofNat (List.length (out ++ [(IntKind.i64.wrap (i + (1 : Int)))]))) - (1 : Int)))) (dflt (.int .i64))) != to_)
        else []
      else v_flow_Next_l14 t i to_ (out ++ [(IntKind.i64.wrap (i + (1 : Int)))]) false
    else []
  else bif (decide (to_ > i)) then
    bif ((Int.ofNat (List.length out)) == (0 : Int)) then
      v_flow_Next_l14 t i to_ out true
    else bif ((decide ((0 : Int) ≤ (IntKind.i64.wrap ((Int.ofNat (List.length out)) - (1 : Int))))) && (decide ((IntKind.i64.wrap ((Int.ofNat (List.length out)) - (1 : Int))) < (Int.ofNat (List.length out))))) then
      v_flow_Next_l14 t i to_ out ((List.getD out (Int.toNat (IntKind.i64.wrap ((Int.ofNat (List.length out)) - (1 : Int)))) (dflt (.int .i64))) != to_)
    else []
  else v_flow_Next_l14 t i to_ out false
def k_flow_Next_l12 (t : List (El T_api_Ins)) (i : Int) (to_ : Int) (out : List Int) (h : Bool) : Bool :=
  bif h then
    bif (Nat.ble (((List.length out) + 1) * 8) limit) then
      bif (decide (to_ > i)) then
        bif ((Int.ofNat (List.length (out ++ [(IntKind.i64.wrap (i + (1 : Int)))]))) == (0 : Int)) then
          k_flow_Next_l14 t i to_ (out ++ [(IntKind.i64.wrap (i + (1 : Int)))]) true
        else bif ((decide ((0 : Int) ≤ (IntKind.i64.wrap ((Int.ofNat (List.length (out ++ [(IntKind.i64.wrap (i + (1 : Int)))]))) - (1 : Int))))) && (decide ((IntKind.i64.wrap ((Int.ofNat (List.length (out ++ [(IntKind.i64.wrap (i + (1 : Int)))]))) - (1 : Int))) < (Int.ofNat (List.length (out ++ [(IntKind.i64.wrap (i + (1 : Int)))])))))) then
          k_flow_Next_l14 t i to_ (out ++ [(IntKind.i64.wrap (i + (1 : Int)))]) ((List.getD (out ++ [(IntKind.i64.wrap (i + (1 : Int)))]) (Int.toNat (IntKind.i64.wrap ((Int.ofNat (List.length (out ++ [(IntKind.i64.wrap (i + (1 : Int)))]))) - (1 : Int)))) (dflt (.int .i64))) != to_)
        else false
      else k_flow_Next_l14 t i to_ (out ++ [(IntKind.i64.wrap (i + (1 : Int)))]) false
    else false
  else bif (decide (to_ > i)) then
    bif ((Int.ofNat (List.length out)) == (0 : Int)) then
      k_flow_Next_l14 t i to_ out true
    else bif ((decide ((0 : Int) ≤ (IntKind.i64.wrap ((Int.ofNat (List.length out)) - (1 : Int))))) && (decide ((IntKind.i64.wrap ((Int.ofNat (List.length out)) - (1 : Int))) < (Int.ofNat (List.length out))))) then
      k_flow_Next_l14 t i to_ out ((List.getD out (Int.toNat (IntKind.i64.wrap ((Int.ofNat (List.length out)) - (1 : Int)))) (dflt (.int .i64))) != to_)
    else false
  else k_flow_Next_l14 t i to_ out false
theorem g_flow_Next_l12 (t : List (El T_api_Ins)) (i : Int) (to_ : Int) (out : List Int) (h : Bool) (hk : k_flow_Next_l12 t i to_ out h = true) : Goes (T_flow_Next t i) (.jmp (.l12 to_ out h)) (v_flow_Next_l12 t i to_ out h) :=
  Goes.jmp (Goes.brk hk (fun hk =>
    Goes.brk hk (fun hk =>
      Goes.brk hk (fun hk =>
        Goes.brk hk (fun hk =>
          g_flow_Next_l14 t i to_ (out ++ [(IntKind.i64.wrap (i + (1 : Int)))]) true hk) (fun hk =>
          Goes.brk hk (fun hk =>
            g_flow_Next_l14 t i to_ (out ++ [(IntKind.i64.wrap (i + (1 : Int)))]) ((List.getD (out ++ [(IntKind.i64.wrap (i + (1 : Int)))]) (Int.toNat (IntKind.i64.wrap ((Int.ofNat (List.length (out ++ [(IntKind.i64.wrap (i + (1 : Int)))]))) - (1 : Int)))) (dflt (.int .i64))) != to_) hk) (fun hk =>
            Goes.nok hk))) (fun hk =>
        g_flow_Next_l14 t i to_ (out ++ [(IntKind.i64.wrap (i + (1 : Int)))]) false hk)) (fun hk =>
      Goes.nok hk)) (fun hk =>
    Goes.brk hk (fun hk =>
      Goes.brk hk (fun hk =>
        g_flow_Next_l14 t i to_ out true hk) (fun hk =>
        Goes.brk hk (fun hk =>
          g_flow_Next_l14 t i to_ out ((List.getD out (Int.toNat (IntKind.i64.wrap ((Int.ofNat (List.length out)) - (1 : Int)))) (dflt (.int .i64))) != to_) hk) (fun hk =>
          Goes.nok hk))) (fun hk =>
      g_flow_Next_l14 t i to_ out false hk)))
def u_flow_Next (t : List (El T_api_Ins)) (i : Int) : List Int :=
  bif (decide (i < (0 : Int))) then
    []
  else bif (decide (i ≥ (Int.ofNat (List.length t)))) then
    []
  else bif ((decide ((0 : Int) ≤ i)) && (decide (i < (Int.ofNat (List.length t))))) then
    bif (k_ins_Leads (List.getD t (Int.toNat i) (dflt T_api_Ins))) then
      bif (v_ins_Leads (List.getD t (Int.toNat i) (dflt T_api_Ins))).2 then
        bif ((decide ((0 : Int) ≤ i)) && (decide (i < (Int.ofNat (List.length t))))) then
          bif (k_valid_Find t (List.getD t (Int.toNat i) (dflt T_api_Ins)).2.2.2.2.2.1) then
            bif (decide ((v_valid_Find t (List.getD t (Int.toNat i) (dflt T_api_Ins)).2.2.2.2.2.1) ≥ (0 : Int))) then
              bif (decide ((v_valid_Find t (List.getD t (Int.toNat i) (dflt T_api_Ins)).2.2.2.2.2.1) ≤ i)) then
                bif (v_ins_Leads (List.getD t (Int.toNat i) (dflt T_api_Ins))).1 then
                  v_flow_Next_l12 t i (v_valid_Find t (List.getD t (Int.toNat i) (dflt T_api_Ins)).2.2.2.2.2.1) [(v_valid_Find t (List.getD t (Int.toNat i) (dflt T_api_Ins)).2.2.2.2.2.1)] (decide ((IntKind.i64.wrap (i + (1 : Int))) < (Int.ofNat (List.length t))))
                else v_flow_Next_l12 t i (v_valid_Find t (List.getD t (Int.toNat i) (dflt T_api_Ins)).2.2.2.2.2.1) [(v_valid_Find t (List.getD t (Int.toNat i) (dflt T_api_Ins)).2.2.2.2.2.1)] false
              else bif (v_ins_Leads (List.getD t (Int.toNat i) (dflt T_api_Ins))).1 then
                v_flow_Next_l12 t i (v_valid_Find t (List.getD t (Int.toNat i) (dflt T_api_Ins)).2.2.2.2.2.1) [] (decide ((IntKind.i64.wrap (i + (1 : Int))) < (Int.ofNat (List.length t))))
              else v_flow_Next_l12 t i (v_valid_Find t (List.getD t (Int.toNat i) (dflt T_api_Ins)).2.2.2.2.2.1) [] false
            else bif (v_ins_Leads (List.getD t (Int.toNat i) (dflt T_api_Ins))).1 then
              v_flow_Next_l12 t i (v_valid_Find t (List.getD t (Int.toNat i) (dflt T_api_Ins)).2.2.2.2.2.1) [] (decide ((IntKind.i64.wrap (i + (1 : Int))) < (Int.ofNat (List.length t))))
            else v_flow_Next_l12 t i (v_valid_Find t (List.getD t (Int.toNat i) (dflt T_api_Ins)).2.2.2.2.2.1) [] false
          else []
        else []
      else bif (v_ins_Leads (List.getD t (Int.toNat i) (dflt T_api_Ins))).1 then
        v_flow_Next_l12 t i (-1 : Int) [] (decide ((IntKind.i64.wrap (i + (1 : Int))) < (Int.ofNat (List.length t))))
      else v_flow_Next_l12 t i (-1 : Int) [] false
    else []
  else []
def ku_flow_Next (t : List (El T_api_Ins)) (i : Int) : Bool :=
  bif (decide (i < (0 : Int))) then
    true
  else bif (decide (i ≥ (Int.ofNat (List.length t)))) then
    true
  else bif ((decide ((0 : Int) ≤ i)) && (decide (i < (Int.ofNat (List.length t))))) then
    bif (k_ins_Leads (List.getD t (Int.toNat i) (dflt T_api_Ins))) then
      bif (v_ins_Leads (List.getD t (Int.toNat i) (dflt T_api_Ins))).2 then
        bif ((decide ((0 : Int) ≤ i)) && (decide (i < (Int.ofNat (List.length t))))) then
          bif (k_valid_Find t (List.getD t (Int.toNat i) (dflt T_api_Ins)).2.2.2.2.2.1) then
            bif (decide ((v_valid_Find t (List.getD t (Int.toNat i) (dflt T_api_Ins)).2.2.2.2.2.1) ≥ (0 : Int))) then
              bif (decide ((v_valid_Find t (List.getD t (Int.toNat i) (dflt T_api_Ins)).2.2.2.2.2.1) ≤ i)) then
                bif (v_ins_Leads (List.getD t (Int.toNat i) (dflt T_api_Ins))).1 then
                  k_flow_Next_l12 t i (v_valid_Find t (List.getD t (Int.toNat i) (dflt T_api_Ins)).2.2.2.2.2.1) [(v_valid_Find t (List.getD t (Int.toNat i) (dflt T_api_Ins)).2.2.2.2.2.1)] (decide ((IntKind.i64.wrap (i + (1 : Int))) < (Int.ofNat (List.length t))))
                else k_flow_Next_l12 t i (v_valid_Find t (List.getD t (Int.toNat i) (dflt T_api_Ins)).2.2.2.2.2.1) [(v_valid_Find t (List.getD t (Int.toNat i) (dflt T_api_Ins)).2.2.2.2.2.1)] false
              else bif (v_ins_Leads (List.getD t (Int.toNat i) (dflt T_api_Ins))).1 then
                k_flow_Next_l12 t i (v_valid_Find t (List.getD t (Int.toNat i) (dflt T_api_Ins)).2.2.2.2.2.1) [] (decide ((IntKind.i64.wrap (i + (1 : Int))) < (Int.ofNat (List.length t))))
              else k_flow_Next_l12 t i (v_valid_Find t (List.getD t (Int.toNat i) (dflt T_api_Ins)).2.2.2.2.2.1) [] false
            else bif (v_ins_Leads (List.getD t (Int.toNat i) (dflt T_api_Ins))).1 then
              k_flow_Next_l12 t i (v_valid_Find t (List.getD t (Int.toNat i) (dflt T_api_Ins)).2.2.2.2.2.1) [] (decide ((IntKind.i64.wrap (i + (1 : Int))) < (Int.ofNat (List.length t))))
            else k_flow_Next_l12 t i (v_valid_Find t (List.getD t (Int.toNat i) (dflt T_api_Ins)).2.2.2.2.2.1) [] false
          else false
        else false
      else bif (v_ins_Leads (List.getD t (Int.toNat i) (dflt T_api_Ins))).1 then
        k_flow_Next_l12 t i (-1 : Int) [] (decide ((IntKind.i64.wrap (i + (1 : Int))) < (Int.ofNat (List.length t))))
      else k_flow_Next_l12 t i (-1 : Int) [] false
    else false
  else false
theorem gu_flow_Next (t : List (El T_api_Ins)) (i : Int) (hk : ku_flow_Next t i = true) : Goes (T_flow_Next t i) (T0_flow_Next t i) (u_flow_Next t i) :=
  Goes.brk hk (fun hk =>
    Goes.leaf) (fun hk =>
    Goes.brk hk (fun hk =>
      Goes.leaf) (fun hk =>
      Goes.brk hk (fun hk =>
        Goes.brk hk (fun hk =>
          Goes.brk hk (fun hk =>
            Goes.brk hk (fun hk =>
              Goes.brk hk (fun hk =>
                Goes.brk hk (fun hk =>
                  Goes.brk hk (fun hk =>
                    Goes.brk hk (fun hk =>
                      g_flow_Next_l12 t i (v_valid_Find t (List.getD t (Int.toNat i) (dflt T_api_Ins)).2.2.2.2.2.1) [(v_valid_Find t (List.getD t (Int.toNat i) (dflt T_api_Ins)).2.2.2.2.2.1)] (decide ((IntKind.i64.wrap (i + (1 : Int))) < (Int.ofNat (List.length t)))) hk) (fun hk =>
                      g_flow_Next_l12 t i (v_valid_Find t (List.getD t (Int.toNat i) (dflt T_api_Ins)).2.2.2.2.2.1) [(v_valid_Find t (List.getD t (Int.toNat i) (dflt T_api_Ins)).2.2.2.2.2.1)] false hk)) (fun hk =>
                    Goes.brk hk (fun hk =>
                      g_flow_Next_l12 t i (v_valid_Find t (List.getD t (Int.toNat i) (dflt T_api_Ins)).2.2.2.2.2.1) [] (decide ((IntKind.i64.wrap (i + (1 : Int))) < (Int.ofNat (List.length t)))) hk) (fun hk =>
                      g_flow_Next_l12 t i (v_valid_Find t (List.getD t (Int.toNat i) (dflt T_api_Ins)).2.2.2.2.2.1) [] false hk))) (fun hk =>
                  Goes.brk hk (fun hk =>
                    g_flow_Next_l12 t i (v_valid_Find t (List.getD t (Int.toNat i) (dflt T_api_Ins)).2.2.2.2.2.1) [] (decide ((IntKind.i64.wrap (i + (1 : Int))) < (Int.ofNat (List.length t)))) hk) (fun hk =>
                    g_flow_Next_l12 t i (v_valid_Find t (List.getD t (Int.toNat i) (dflt T_api_Ins)).2.2.2.2.2.1) [] false hk))) (fun hk =>
                Goes.nok hk)) (fun hk =>
              Goes.nok hk)) (fun hk =>
            Goes.brk hk (fun hk =>
              g_flow_Next_l12 t i (-1 : Int) [] (decide ((IntKind.i64.wrap (i + (1 : Int))) < (Int.ofNat (List.length t)))) hk) (fun hk =>
              g_flow_Next_l12 t i (-1 : Int) [] false hk))) (fun hk =>
          Goes.nok hk)) (fun hk =>
        Goes.nok hk)))
def R_flow_Next : List Int → AV := fun (r : List Int) => .rw 3 (.int .i64) r
def S_flow_Next (t : List (El T_api_Ins)) (i : Int) : J_flow_Next → Nat × St
  | .l12 to_ out h => (12, ⟨mkTm 84 [(1, .d (.int .i64) i), (5, .d (.int .i64) to_), (8, .own 9 0 none), (55, .d .bool h)], [(9, 0, .row 3 (.int .i64) out false)]⟩)
  | .l14 to_ out h => (14, ⟨mkTm 84 [(5, .d (.int .i64) to_), (8, .own 9 0 none), (78, .d .bool h)], [(9, 0, .row 3 (.int .i64) out false)]⟩)
theorem en_flow_Next (t : List (El T_api_Ins)) (i : Int) (L : Lt) : entryA Go.Proofs.Tryz.prog (clOf t_flow_Next) tb_flow_Next Go.Proofs.Tryz.f28 c_flow_Next L (toForms sg_flow_Next (t, i, ())) = (T0_flow_Next t i).run (fun v => some (R_flow_Next v, tps (toForms sg_flow_Next (t, i, ())))) fun j => L (S_flow_Next t i j).1 (S_flow_Next t i j).2 := by kernel_rfl
theorem lp_flow_Next (t : List (El T_api_Ins)) (i : Int) : ∀ (L : Lt) (j : J_flow_Next), procOf (procsF Go.Proofs.Tryz.prog (clOf t_flow_Next) tb_flow_Next Go.Proofs.Tryz.f28 c_flow_Next (toForms sg_flow_Next (t, i, ()))) (S_flow_Next t i j).1 L (S_flow_Next t i j).2 = (T_flow_Next t i j).run (fun v => some (R_flow_Next v, tps (toForms sg_flow_Next (t, i, ())))) fun j => L (S_flow_Next t i j).1 (S_flow_Next t i j).2
  | L, .l12 to_ out h => by kernel_rfl
  | L, .l14 to_ out h => by kernel_rfl
end
end Go.Ev
end

section
set_option linter.unusedSectionVars false
set_option linter.unusedVariables false
set_option linter.unusedSimpArgs false
/- What a set of small numbers has. -/
set_option linter.unusedVariables false
open Go
namespace Go.Ev

theorem wrapU_lt {n : Nat} (h : n < 2 ^ 64) : IntKind.u64.wrap (n : Int) = (n : Int) := by
  unfold IntKind.wrap
  simp only [IntKind.signed, IntKind.bits, Bool.false_and, Bool.false_eq_true, if_false]
  exact Int.emod_eq_of_lt (by omega) (by exact_mod_cast h)
theorem ofIntU {n : Nat} : BitVec.ofInt 64 (n : Int) = BitVec.ofNat 64 n := BitVec.ofInt_natCast 64 n
theorem bitAnd_eq {a b : Nat} (ha : a < 2 ^ 64) (hb : b < 2 ^ 64) : bitAnd IntKind.u64 (a : Int) (b : Int) = ((a &&& b : Nat) : Int) := by
  unfold bitAnd
  show IntKind.u64.wrap (((BitVec.ofInt 64 (a : Int) &&& BitVec.ofInt 64 (b : Int)).toNat : Nat) : Int) = _
  rw [ofIntU, ofIntU, BitVec.toNat_and, BitVec.toNat_ofNat, BitVec.toNat_ofNat, Nat.mod_eq_of_lt ha, Nat.mod_eq_of_lt hb]
  exact wrapU_lt (Nat.lt_of_le_of_lt Nat.and_le_left ha)
theorem bitOr_eq {a b : Nat} (ha : a < 2 ^ 64) (hb : b < 2 ^ 64) : bitOr IntKind.u64 (a : Int) (b : Int) = ((a ||| b : Nat) : Int) := by
  unfold bitOr
  show IntKind.u64.wrap (((BitVec.ofInt 64 (a : Int) ||| BitVec.ofInt 64 (b : Int)).toNat : Nat) : Int) = _
  rw [ofIntU, ofIntU, BitVec.toNat_or, BitVec.toNat_ofNat, BitVec.toNat_ofNat, Nat.mod_eq_of_lt ha, Nat.mod_eq_of_lt hb]
  exact wrapU_lt (Nat.or_lt_two_pow ha hb)
theorem two_pow_int (j : Nat) : (2 : Int) ^ j = ((2 ^ j : Nat) : Int) := by simp
theorem bitE_eq {w j : Nat} (hw : w < 2 ^ 64) (hj : j < 64) : bitE (w : Int) (j : Int) = w.testBit j := by
  unfold bitE
  rw [wrapU_small hj, Int.toNat_natCast, show min j (IntKind.u64).bits = j from Nat.min_eq_left (by show j ≤ 64; omega), two_pow_int, Int.fdiv_eq_ediv_of_nonneg _ (Int.natCast_nonneg _), ← Int.natCast_ediv]
  rw [show (1 : Int) = ((1 : Nat) : Int) from rfl, bitAnd_eq (Nat.lt_of_le_of_lt (Nat.div_le_self _ _) hw) (by decide), Nat.and_one_is_mod, Nat.testBit_eq_decide_div_mod_eq]
  by_cases h : w / 2 ^ j % 2 = 1
  · rw [h]; simp
  · have : w / 2 ^ j % 2 = 0 := by omega
    rw [this]; simp
theorem withBit_eq {w j : Nat} (hw : w < 2 ^ 64) (hj : j < 64) : withBit (w : Int) (j : Int) = ((w ||| 2 ^ j : Nat) : Int) := by
  unfold withBit
  have hp : 2 ^ j < 2 ^ 64 := Nat.pow_lt_pow_right (by decide) hj
  rw [wrapU_small hj, Int.toNat_natCast, show min j (IntKind.u64).bits = j from Nat.min_eq_left (by show j ≤ 64; omega), two_pow_int, Int.one_mul, wrapU_lt hp, bitOr_eq hw hp]

/-! ### Maps -/
theorem mget_mput_self (k v : Int) : ∀ m : List (Int × Int), mget (kt := .int .i64) k (mput (kt := .int .i64) k v m) = some v
  | [] => by simp [mput, mget, keyEq]
  | (x, u) :: r => by
    by_cases h : k = x
    · subst h; simp [mput, mget, keyEq]
    · have hb : keyEq (.int .i64) k x = false := by show (k == x) = false; simpa using h
      simp only [mput, hb, cond_false, mget]
      exact mget_mput_self k v r
theorem mget_mput_other {k k' : Int} (v : Int) (h : k' ≠ k) : ∀ m : List (Int × Int), mget (kt := .int .i64) k' (mput (kt := .int .i64) k v m) = mget (kt := .int .i64) k' m
  | [] => by
    have hb : keyEq (.int .i64) k' k = false := by show (k' == k) = false; simpa using h
    simp [mput, mget, hb]
  | (x, u) :: r => by
    by_cases hx : k = x
    · subst hx
      have hb : keyEq (.int .i64) k' k = false := by show (k' == k) = false; simpa using h
      have hb2 : keyEq (.int .i64) k k = true := by show (k == k) = true; simp
      simp only [mput, hb2, cond_true, mget, hb, cond_false]
    · have hb : keyEq (.int .i64) k x = false := by show (k == x) = false; simpa using hx
      simp only [mput, hb, cond_false, mget, mget_mput_other v h r]
theorem mget_mem_int {k v : Int} : ∀ {m : List (Int × Int)}, mget (kt := .int .i64) k m = some v → (k, v) ∈ m
  | [], h => by cases h
  | (x, u) :: r, h => by
    by_cases hx : k = x
    · subst hx
      have hb2 : keyEq (.int .i64) k k = true := by show (k == k) = true; simp
      simp only [mget, hb2, cond_true, Option.some.injEq] at h
      subst h
      simp
    · have hb : keyEq (.int .i64) k x = false := by show (k == x) = false; simpa using hx
      simp only [mget, hb, cond_false] at h
      exact List.mem_cons_of_mem _ (mget_mem_int h)
theorem mget_none_int {k : Int} : ∀ {m : List (Int × Int)}, mget (kt := .int .i64) k m = none → k ∉ m.map Prod.fst
  | [], _ => by simp
  | (x, u) :: r, h => by
    by_cases hx : k = x
    · subst hx
      have hb2 : keyEq (.int .i64) k k = true := by show (k == k) = true; simp
      simp only [mget, hb2, cond_true] at h
      cases h
    · have hb : keyEq (.int .i64) k x = false := by show (k == x) = false; simpa using hx
      simp only [mget, hb, cond_false] at h
      simp only [List.map_cons, List.mem_cons, not_or]
      exact ⟨hx, mget_none_int h⟩
theorem mput_mem {k v : Int} {p : Int × Int} : ∀ {m : List (Int × Int)}, p ∈ mput (kt := .int .i64) k v m → p = (k, v) ∨ p ∈ m
  | [], h => by simp [mput] at h; exact .inl h
  | (x, u) :: r, h => by
    by_cases hx : k = x
    · subst hx
      have hb2 : keyEq (.int .i64) k k = true := by show (k == k) = true; simp
      simp only [mput, hb2, cond_true] at h
      rcases List.mem_cons.1 h with h | h
      · exact .inl h
      · exact .inr (List.mem_cons_of_mem _ h)
    · have hb : keyEq (.int .i64) k x = false := by show (k == x) = false; simpa using hx
      simp only [mput, hb, cond_false] at h
      rcases List.mem_cons.1 h with h | h
      · exact .inr (by rw [h]; simp)
      · exact (mput_mem h).imp id (List.mem_cons_of_mem _)
theorem mput_len {k v : Int} : ∀ {m : List (Int × Int)}, (mput (kt := .int .i64) k v m).length ≤ m.length + 1
  | [] => by simp [mput]
  | (x, u) :: r => by
    have := @mput_len k v r
    simp only [mput]
    cases keyEq (.int .i64) k x <;> simp <;> omega

theorem mput_keys_int {k v : Int} : ∀ {m : List (Int × Int)}, (mput (kt := .int .i64) k v m).map Prod.fst = if k ∈ m.map Prod.fst then m.map Prod.fst else m.map Prod.fst ++ [k]
  | [] => by simp [mput]
  | (x, u) :: r => by
    by_cases hx : k = x
    · subst hx
      have hb2 : keyEq (.int .i64) k k = true := by show (k == k) = true; simp
      simp only [mput, hb2, cond_true]
      simp
    · have hb : keyEq (.int .i64) k x = false := by show (k == x) = false; simpa using hx
      simp only [mput, hb, cond_false, List.map_cons, List.mem_cons, hx, false_or]
      rw [@mput_keys_int k v r]
      by_cases h : k ∈ r.map Prod.fst
      · rw [if_pos h, if_pos h]
      · rw [if_neg h, if_neg h]; rfl
theorem mput_nodup_int {k v : Int} {m : List (Int × Int)} (h : (m.map Prod.fst).Nodup) : ((mput (kt := .int .i64) k v m).map Prod.fst).Nodup := by
  rw [mput_keys_int]
  split
  · exact h
  · rename_i hk
    rw [List.nodup_append]
    exact ⟨h, by simp, fun a ha b hb e => by simp at hb; subst hb; subst e; exact hk ha⟩
theorem strict_len : ∀ {l : List Int} {a b : Int}, l.Pairwise (· < ·) → (∀ x ∈ l, a ≤ x ∧ x < b) → a ≤ b → (l.length : Int) ≤ b - a
  | [], a, b, _, _, h => by simp; omega
  | y :: l, a, b, hp, hb, h => by
    rw [List.pairwise_cons] at hp
    have hy := hb y (by simp)
    have := strict_len (l := l) (a := y + 1) (b := b) hp.2 (fun x hx => ⟨hp.1 x hx, (hb x (List.mem_cons_of_mem _ hx)).2⟩) (by omega)
    simp
    omega

/-! ### Sets -/
structure SetOK (s : Int × List (Int × Int)) (n : Nat) (M : Nat → Bool) : Prop where
  size : s.1 = n
  nodup : (s.2.map Prod.fst).Nodup
  words : ∀ p ∈ s.2, ∃ k w : Nat, p = ((k : Int), (w : Int)) ∧ k * 64 < n ∧ w < 2 ^ 64
  bits : ∀ k j : Nat, j < 64 → (wordAt s.2 (k : Int)).toNat.testBit j = M (k * 64 + j)
  lt : ∀ i, M i = true → i < n

theorem SetOK.new (n : Nat) : SetOK ((n : Int), []) n fun _ => false := ⟨rfl, List.nodup_nil, fun p hp => by simp at hp, fun k j _ => by simp [wordAt, mget], fun i h => by cases h⟩
variable {s : Int × List (Int × Int)} {n : Nat} {M : Nat → Bool}
theorem SetOK.word (h : SetOK s n M) (k : Nat) : ∃ w : Nat, wordAt s.2 (k : Int) = (w : Int) ∧ w < 2 ^ 64 := by
  unfold wordAt
  cases hg : mget (kt := .int .i64) (k : Int) s.2 with
  | none => exact ⟨0, rfl, by decide⟩
  | some v =>
    obtain ⟨k', w, e, _, hw⟩ := h.words _ (mget_mem_int hg)
    simp only [Prod.mk.injEq] at e
    exact ⟨w, e.2, hw⟩
theorem placeOf_nat {i : Nat} (hi : i < 4611686018427387904) : placeOf (i : Int) = ((i / 64 : Nat) : Int) := by
  unfold placeOf
  rw [show Int.tdiv (i : Int) 64 = ((i / 64 : Nat) : Int) from rfl, wrap_i64 (by omega) (by omega)]
theorem SetOK.has (h : SetOK s n M) (hn : n < 4611686018427387904) (i : Int) : hasS s i = (decide (0 ≤ i) && M i.toNat) := by
  unfold hasS
  rw [h.size]
  by_cases h0 : 0 ≤ i
  · obtain ⟨j, rfl⟩ := Int.eq_ofNat_of_zero_le h0
    by_cases h1 : j < n
    · rw [decide_eq_true (show (j : Int) ≥ 0 from h0), decide_eq_true (show (j : Int) < (n : Int) by omega), Bool.true_and, Bool.true_and, Bool.true_and, placeOf_nat (by omega)]
      obtain ⟨w, hw, hlt⟩ := h.word (j / 64)
      have hb := h.bits (j / 64) (j % 64) (Nat.mod_lt _ (by decide))
      rw [hw, show Int.tmod (j : Int) 64 = ((j % 64 : Nat) : Int) from rfl, bitE_eq hlt (Nat.mod_lt _ (by decide))]
      rw [hw, Int.toNat_natCast] at hb
      rw [hb, Int.toNat_natCast, Nat.div_add_mod' j 64]
    · rw [decide_eq_false (show ¬ (j : Int) < (n : Int) by omega), Bool.false_and, Bool.and_false]
      have : M (j : Int).toNat = false := by
        rw [Int.toNat_natCast]
        cases hm : M j with
        | true => exact absurd (h.lt j hm) h1
        | false => rfl
      rw [this, Bool.and_false]
  · rw [decide_eq_false (show ¬ i ≥ 0 from h0), Bool.false_and, Bool.false_and]
theorem SetOK.put (h : SetOK s n M) (hn : n < 4611686018427387904) {i : Nat} (hi : i < n) (hM : M i = false) :
    (putS s i).1 = true ∧ SetOK (putS s i).2 n fun j => M j || (j == i) := by
  have hno : ¬ ((i : Int) < 0 ∨ s.1 ≤ (i : Int) ∨ hasS s (i : Int) = true) := by
    rw [h.has hn, h.size, Int.toNat_natCast, hM]
    simp
    omega
  unfold putS
  rw [if_neg hno, placeOf_nat (by omega), show Int.tmod (i : Int) 64 = ((i % 64 : Nat) : Int) from rfl]
  refine ⟨rfl, ?_⟩
  obtain ⟨w, hw, hlt⟩ := h.word (i / 64)
  have hj : i % 64 < 64 := Nat.mod_lt _ (by decide)
  have hp : 2 ^ (i % 64) < 2 ^ 64 := Nat.pow_lt_pow_right (by decide) hj
  rw [hw, withBit_eq hlt hj]
  have hw2 : w ||| 2 ^ (i % 64) < 2 ^ 64 := Nat.or_lt_two_pow hlt hp
  refine ⟨h.size, mput_nodup_int h.nodup, fun p hp => ?_, fun k j hj2 => ?_, fun k hk => ?_⟩
  · rcases mput_mem hp with rfl | hp
    · exact ⟨i / 64, _, rfl, by omega, hw2⟩
    · exact h.words p hp
  · unfold wordAt
    by_cases hk : k = i / 64
    · subst hk
      simp only
      rw [mget_mput_self, Option.getD_some, Int.toNat_natCast, Nat.testBit_or, Nat.testBit_two_pow]
      have hb := h.bits (i / 64) j hj2
      rw [hw, Int.toNat_natCast] at hb
      rw [hb]
      congr 1
      rw [Bool.eq_iff_iff]
      simp
      omega
    · simp only
      rw [mget_mput_other _ (by omega)]
      have hb := h.bits k j hj2
      unfold wordAt at hb
      rw [hb]
      have : (k * 64 + j == i) = false := by simp; omega
      rw [this, Bool.or_false]
  · simp only [Bool.or_eq_true, beq_iff_eq] at hk
    rcases hk with hk | hk
    · exact h.lt k hk
    · omega
theorem SetOK.put_no (h : SetOK s n M) (hn : n < 4611686018427387904) {i : Int} (hi : ¬ (0 ≤ i ∧ i < n ∧ M i.toNat = false)) : putS s i = (false, s) := by
  unfold putS
  rw [if_pos]
  rw [h.has hn, h.size]
  by_cases h0 : i < 0
  · exact .inl h0
  · by_cases h1 : (n : Int) ≤ i
    · exact .inr (.inl h1)
    · refine .inr (.inr ?_)
      have : ¬ M i.toNat = false := fun hf => hi ⟨by omega, by omega, hf⟩
      rw [Bool.not_eq_false] at this
      rw [this, decide_eq_true (by omega)]; rfl

theorem strict_ext : ∀ {l m : List Int}, l.Pairwise (· < ·) → m.Pairwise (· < ·) → (∀ x, x ∈ l ↔ x ∈ m) → l = m
  | [], [], _, _, _ => rfl
  | [], b :: m, _, _, h => by have := (h b).2 (by simp); simp at this
  | a :: l, [], _, _, h => by have := (h a).1 (by simp); simp at this
  | a :: l, b :: m, hl, hm, h => by
    rw [List.pairwise_cons] at hl hm
    have hab : a = b := by
      have h1 := (h a).1 (by simp)
      have h2 := (h b).2 (by simp)
      rcases List.mem_cons.1 h1 with h1 | h1
      · exact h1
      · rcases List.mem_cons.1 h2 with h2 | h2
        · exact h2.symm
        · have := hm.1 a h1; have := hl.1 b h2; omega
    subst hab
    rw [strict_ext hl.2 hm.2 fun x => ⟨fun hx => ?_, fun hx => ?_⟩]
    · have := hl.1 x hx
      rcases List.mem_cons.1 ((h x).1 (List.mem_cons_of_mem _ hx)) with e | e
      · omega
      · exact e
    · have := hm.1 x hx
      rcases List.mem_cons.1 ((h x).2 (List.mem_cons_of_mem _ hx)) with e | e
      · omega
      · exact e

/-- What is so of the first numbers. -/
def listOf (n : Nat) (M : Nat → Bool) : List Int := ((List.range n).filter M).map Int.ofNat
theorem listOf_mem {x : Int} : x ∈ listOf n M ↔ ∃ i : Nat, i < n ∧ M i = true ∧ x = (i : Int) := by
  unfold listOf
  simp only [List.mem_map, List.mem_filter, List.mem_range]
  constructor
  · rintro ⟨i, ⟨h1, h2⟩, rfl⟩; exact ⟨i, h1, h2, rfl⟩
  · rintro ⟨i, h1, h2, rfl⟩; exact ⟨i, ⟨h1, h2⟩, rfl⟩
theorem listOf_strict : (listOf n M).Pairwise (· < ·) := by
  unfold listOf
  rw [List.pairwise_map]
  refine (List.Pairwise.filter M List.pairwise_lt_range).imp fun {a b} h => ?_
  show (a : Int) < (b : Int)
  omega
theorem listOf_congr {M' : Nat → Bool} (h : ∀ i, i < n → M i = M' i) : listOf n M = listOf n M' := by
  unfold listOf
  congr 1
  exact List.filter_congr fun i hi => h i (List.mem_range.1 hi)
theorem SetOK.list (h : SetOK s n M) (hn : n < 4611686018427387904) : listS s = listOf n M := by
  have hkey : ∀ k ∈ s.2.map Prod.fst, ∃ k' : Nat, k = (k' : Int) ∧ k' * 64 < n := fun k hk => by
    obtain ⟨p, hp, rfl⟩ := List.mem_map.1 hk
    obtain ⟨k', w, e, h1, _⟩ := h.words p hp
    exact ⟨k', by rw [e], h1⟩
  have hwl : ∀ k : Nat, k * 64 < n → ∀ x, x ∈ wordList s.2 (k : Int) 0 64 ↔ ∃ j : Nat, j < 64 ∧ M (k * 64 + j) = true ∧ x = ((k * 64 + j : Nat) : Int) := fun k hk x => by
    obtain ⟨w, hw, hlt⟩ := h.word k
    unfold wordList
    rw [hw]
    simp only [List.mem_map, List.mem_filter, List.mem_range'_1]
    have hnum : ∀ j : Nat, j < 64 → numE (k : Int) (j : Int) = ((k * 64 + j : Nat) : Int) := fun j hj => by
      unfold numE
      rw [wrap_i64 (n := (k : Int) * 64) (by omega) (by omega), wrap_i64 (by omega) (by omega)]
      omega
    have hbit : ∀ j : Nat, j < 64 → bitE (w : Int) (j : Int) = M (k * 64 + j) := fun j hj => by
      rw [bitE_eq hlt hj]
      have := h.bits k j hj
      rwa [hw, Int.toNat_natCast] at this
    constructor
    · rintro ⟨j, ⟨hj, hb⟩, rfl⟩
      exact ⟨j, by omega, by rw [← hbit j (by omega)]; exact hb, hnum j (by omega)⟩
    · rintro ⟨j, hj, hb, rfl⟩
      exact ⟨j, ⟨by omega, by rw [hbit j hj]; exact hb⟩, hnum j hj⟩
  have hmem : ∀ {k : Int}, k ∈ (s.2.map Prod.fst).mergeSort (fun x y => decide (x ≤ y)) ↔ k ∈ s.2.map Prod.fst := List.mem_mergeSort
  have tr : ∀ a b c : Int, decide (a ≤ b) = true → decide (b ≤ c) = true → decide (a ≤ c) = true := fun a b c h1 h2 => by simp at *; omega
  have to : ∀ a b : Int, (decide (a ≤ b) || decide (b ≤ a)) = true := fun a b => by simp; omega
  have hs1 := List.pairwise_mergeSort tr to (s.2.map Prod.fst)
  have hs2 : ((s.2.map Prod.fst).mergeSort (fun x y => decide (x ≤ y))).Nodup := (List.mergeSort_perm _ _).nodup_iff.2 h.nodup
  have hst : ((s.2.map Prod.fst).mergeSort (fun x y => decide (x ≤ y))).Pairwise (· < ·) := (hs1.and hs2).imp fun {a b} h => by
    have h1 := h.1; have h2 := h.2; simp at h1; omega
  refine strict_ext ?_ listOf_strict fun x => ?_
  · unfold listS listAt
    rw [List.pairwise_flatMap]
    refine ⟨fun k hk => ?_, ?_⟩
    · obtain ⟨k', rfl, hk'⟩ := hkey k (hmem.1 hk)
      unfold wordList
      rw [List.pairwise_map]
      have hp : ((List.range' 0 64).filter fun i => bitE (wordAt s.2 (k' : Int)) (i : Nat)).Pairwise (· < ·) := List.Pairwise.filter _ (List.pairwise_lt_range' (step := 1) (s := 0) (n := 64) (by omega))
      refine (List.Pairwise.and_mem.1 hp).imp fun {a b} h => ?_
      obtain ⟨ha, hb, hab⟩ := h
      have ha' := (List.mem_range'_1.1 (List.mem_filter.1 ha).1)
      have hb' := (List.mem_range'_1.1 (List.mem_filter.1 hb).1)
      unfold numE
      rw [wrap_i64 (n := (k' : Int) * 64) (by omega) (by omega), wrap_i64 (by omega) (by omega), wrap_i64 (by omega) (by omega)]
      omega
    · refine (List.Pairwise.and_mem.1 hst).imp fun {a b} hab => ?_
      obtain ⟨ha, hb, hlt⟩ := hab
      obtain ⟨a', rfl, ha'⟩ := hkey a (hmem.1 ha)
      obtain ⟨b', rfl, hb'⟩ := hkey b (hmem.1 hb)
      intro x hx y hy
      obtain ⟨j, hj, _, rfl⟩ := (hwl a' ha' x).1 hx
      obtain ⟨j', hj', _, rfl⟩ := (hwl b' hb' y).1 hy
      omega
  · unfold listS listAt
    rw [listOf_mem, List.mem_flatMap]
    constructor
    · rintro ⟨k, hk, hx⟩
      obtain ⟨k', rfl, hk'⟩ := hkey k (hmem.1 hk)
      obtain ⟨j, hj, hM, rfl⟩ := (hwl k' hk' x).1 hx
      exact ⟨_, h.lt _ hM, hM, rfl⟩
    · rintro ⟨i, hi, hM, rfl⟩
      have hb := h.bits (i / 64) (i % 64) (Nat.mod_lt _ (by decide))
      rw [Nat.div_add_mod' i 64, hM] at hb
      refine ⟨((i / 64 : Nat) : Int), hmem.2 ?_, (hwl (i / 64) (by omega) _).2 ⟨i % 64, Nat.mod_lt _ (by decide), by rw [Nat.div_add_mod' i 64]; exact hM, by rw [Nat.div_add_mod' i 64]⟩⟩
      unfold wordAt at hb
      cases hg : mget (kt := .int .i64) ((i / 64 : Nat) : Int) s.2 with
      | none => rw [hg] at hb; simp at hb
      | some v => exact List.mem_map.2 ⟨_, mget_mem_int hg, rfl⟩
/-- So many words. -/
theorem SetOK.few (h : SetOK s n M) : s.2.length ≤ (n + 63) / 64 := by
  have tr : ∀ a b c : Int, decide (a ≤ b) = true → decide (b ≤ c) = true → decide (a ≤ c) = true := fun a b c h1 h2 => by simp at *; omega
  have to : ∀ a b : Int, (decide (a ≤ b) || decide (b ≤ a)) = true := fun a b => by simp; omega
  have hs1 := List.pairwise_mergeSort tr to (s.2.map Prod.fst)
  have hs2 : ((s.2.map Prod.fst).mergeSort (fun x y => decide (x ≤ y))).Nodup := (List.mergeSort_perm _ _).nodup_iff.2 h.nodup
  have hst : ((s.2.map Prod.fst).mergeSort (fun x y => decide (x ≤ y))).Pairwise (· < ·) := (hs1.and hs2).imp fun {a b} h => by
    have h1 := h.1; have h2 := h.2; simp at h1; omega
  have := strict_len (a := 0) (b := (((n + 63) / 64 : Nat) : Int)) hst (fun x hx => by
    obtain ⟨p, hp, rfl⟩ := List.mem_map.1 (List.mem_mergeSort.1 hx)
    obtain ⟨k', w, e, h1, _⟩ := h.words p hp
    rw [e]
    exact ⟨by simp, by simp; omega⟩) (by omega)
  simp at this
  omega
end Go.Ev
end

section
set_option linter.unusedSectionVars false
set_option linter.unusedVariables false
set_option linter.unusedSimpArgs false
/- What follows an instruction: over lists. -/
set_option maxRecDepth 100000
set_option linter.unusedVariables false
set_option linter.unusedSimpArgs false
open Go
namespace Go.Ev

def flowOK (t : List (El T_api_Ins)) : Bool := decide (t.length < 1099511627776) && t.all fun i => smallText i.2.2.2.2.2.1 && decide (i.2.2.2.2.2.2.length < 1099511627776)
theorem flowOK_len {t : List (El T_api_Ins)} (h : flowOK t = true) : t.length < 1099511627776 := by
  unfold flowOK at h; rw [Bool.and_eq_true] at h; exact of_decide_eq_true h.1
theorem flowOK_text {t : List (El T_api_Ins)} (h : flowOK t = true) {i : El T_api_Ins} (hi : i ∈ t) : smallText i.2.2.2.2.2.1 = true := by
  unfold flowOK at h
  rw [Bool.and_eq_true] at h
  have := List.all_eq_true.1 h.2 i hi
  rw [Bool.and_eq_true] at this
  exact this.1
theorem flowOK_find {t : List (El T_api_Ins)} (h : flowOK t = true) : (decide (t.length < 1099511627776) && t.all fun i => decide (i.2.2.2.2.2.2.length < 1099511627776)) = true := by
  unfold flowOK at h
  rw [Bool.and_eq_true] at h ⊢
  refine ⟨h.1, List.all_eq_true.2 fun i hi => ?_⟩
  have := List.all_eq_true.1 h.2 i hi
  rw [Bool.and_eq_true] at this
  exact this.2
theorem findI_lt {label : ByteArray} : ∀ {t : List (El T_api_Ins)} {k : Nat}, findI label t k < ((k + t.length : Nat) : Int) ∨ findI label t k = -1
  | [], k => .inr rfl
  | x :: r, k => by
    unfold findI
    split
    · left; simp; omega
    · rcases @findI_lt label r (k + 1) with h | h
      · left; simp only [List.length_cons]; omega
      · exact .inr h
theorem findI_ge {label : ByteArray} : ∀ {t : List (El T_api_Ins)} {k : Nat}, findI label t k = -1 ∨ (k : Int) ≤ findI label t k
  | [], k => .inl rfl
  | x :: r, k => by
    unfold findI
    split
    · right; omega
    · rcases @findI_ge label r (k + 1) with h | h
      · exact .inl h
      · right; omega

/-- Where one instruction leads: on, and to. -/
def onOf (t : List (El T_api_Ins)) (i : Nat) : Bool := (v_ins_Leads (t.getD i (dflt T_api_Ins))).1
def toOf (t : List (El T_api_Ins)) (i : Nat) : Int := if (v_ins_Leads (t.getD i (dflt T_api_Ins))).2 then findI (t.getD i (dflt T_api_Ins)).2.2.2.2.2.1 t 0 else -1
theorem toOf_lt {t : List (El T_api_Ins)} {i : Nat} : -1 ≤ toOf t i ∧ (toOf t i < (t.length : Int)) := by
  unfold toOf
  split
  · have h1 := @findI_lt (t.getD i (dflt T_api_Ins)).2.2.2.2.2.1 t 0
    have h2 := @findI_ge (t.getD i (dflt T_api_Ins)).2.2.2.2.2.1 t 0
    rw [Nat.zero_add] at h1
    omega
  · omega
/-- Does j follow i? -/
def nextB (t : List (El T_api_Ins)) (i : Int) (j : Nat) : Bool :=
  decide (0 ≤ i ∧ i < (t.length : Int) ∧ j < t.length) && ((onOf t i.toNat && decide ((j : Int) = i + 1)) || decide (toOf t i.toNat = (j : Int)))

theorem nextB_lt {t : List (El T_api_Ins)} {i : Int} {j : Nat} (h : nextB t i j = true) : j < t.length := by
  unfold nextB at h
  rw [Bool.and_eq_true] at h
  exact (of_decide_eq_true h.1).2.2

/-- The code's list. -/
def nextL (n : Nat) (on : Bool) (to i : Int) : List Int :=
  (if 0 ≤ to ∧ to ≤ i then [to] else []) ++ ((if on = true ∧ i + 1 < (n : Int) then [i + 1] else []) ++ (if to > i ∧ ¬ (on = true ∧ i + 1 < (n : Int) ∧ to = i + 1) then [to] else []))
theorem nextL_strict {n : Nat} {on : Bool} {to i : Int} : (nextL n on to i).Pairwise (· < ·) := by
  unfold nextL
  by_cases h1 : 0 ≤ to ∧ to ≤ i
  · rw [if_pos h1, if_neg (c := to > i ∧ _) (fun h => by omega)]
    by_cases h2 : on = true ∧ i + 1 < (n : Int)
    · rw [if_pos h2]; simp; omega
    · rw [if_neg h2]; simp
  · rw [if_neg h1]
    by_cases h2 : on = true ∧ i + 1 < (n : Int)
    · rw [if_pos h2]
      by_cases h3 : to > i ∧ ¬ (on = true ∧ i + 1 < (n : Int) ∧ to = i + 1)
      · rw [if_pos h3]
        have : to ≠ i + 1 := fun e => h3.2 ⟨h2.1, h2.2, e⟩
        simp; omega
      · rw [if_neg h3]; simp
    · rw [if_neg h2]
      by_cases h3 : to > i ∧ ¬ (on = true ∧ i + 1 < (n : Int) ∧ to = i + 1)
      · rw [if_pos h3]; simp
      · rw [if_neg h3]; simp
theorem nextL_eq {t : List (El T_api_Ins)} {i : Nat} (hi : i < t.length) : nextL t.length (onOf t i) (toOf t i) (i : Int) = listOf t.length (nextB t (i : Int)) := by
  refine strict_ext nextL_strict listOf_strict fun x => ?_
  rw [listOf_mem]
  have hb : ∀ j : Nat, nextB t (i : Int) j = true ↔ j < t.length ∧ ((onOf t i = true ∧ (j : Int) = (i : Int) + 1) ∨ toOf t i = (j : Int)) := fun j => by
    unfold nextB
    rw [Int.toNat_natCast]
    simp only [Bool.and_eq_true, Bool.or_eq_true, decide_eq_true_eq]
    constructor
    · rintro ⟨⟨_, _, h⟩, h2⟩; exact ⟨h, h2⟩
    · rintro ⟨h, h2⟩; exact ⟨⟨by omega, by omega, h⟩, h2⟩
  have ht := @toOf_lt t i
  unfold nextL
  constructor
  · intro h
    simp only [List.mem_append] at h
    rcases h with h | h | h
    · split at h
      · rename_i hc
        simp at h
        subst h
        exact ⟨(toOf t i).toNat, by omega, (hb _).2 ⟨by omega, .inr (by omega)⟩, by omega⟩
      · simp at h
    · split at h
      · rename_i hc
        simp at h
        subst h
        exact ⟨i + 1, by omega, (hb _).2 ⟨by omega, .inl ⟨hc.1, by omega⟩⟩, by omega⟩
      · simp at h
    · split at h
      · rename_i hc
        simp at h
        subst h
        exact ⟨(toOf t i).toNat, by omega, (hb _).2 ⟨by omega, .inr (by omega)⟩, by omega⟩
      · simp at h
  · rintro ⟨j, hj, hM, rfl⟩
    obtain ⟨_, h⟩ := (hb j).1 hM
    simp only [List.mem_append]
    rcases h with ⟨h1, h2⟩ | h
    · right; left
      rw [if_pos ⟨h1, by omega⟩]; simp; omega
    · by_cases hle : toOf t i ≤ (i : Int)
      · left; rw [if_pos ⟨by omega, hle⟩]; simp; omega
      · right
        by_cases hc : onOf t i = true ∧ (i : Int) + 1 < (t.length : Int) ∧ toOf t i = (i : Int) + 1
        · left; rw [if_pos ⟨hc.1, hc.2.1⟩]; simp; omega
        · right; rw [if_pos ⟨by omega, hc⟩]; simp; omega
end Go.Ev
end

section
set_option linter.unusedSectionVars false
set_option linter.unusedVariables false
set_option linter.unusedSimpArgs false
set_option maxRecDepth 100000
set_option linter.unusedVariables false
set_option linter.unusedSimpArgs false
open Go
namespace Go.Ev
def v_flow_Next (t : List (El T_api_Ins)) (i : Int) : List Int := listOf t.length (nextB t i)
def k_flow_Next (t : List (El T_api_Ins)) (i : Int) : Bool := flowOK t
theorem nextB_out {t : List (El T_api_Ins)} {i : Int} (h : ¬ (0 ≤ i ∧ i < (t.length : Int))) : listOf t.length (nextB t i) = [] := by
  unfold listOf
  rw [List.map_eq_nil_iff, List.filter_eq_nil_iff]
  intro j _ hb
  unfold nextB at hb
  rw [Bool.and_eq_true] at hb
  have := of_decide_eq_true hb.1
  exact h ⟨this.1, this.2.1⟩
theorem g_flow_Next (t : List (El T_api_Ins)) (i : Int) (hk : k_flow_Next t i = true) : Goes (T_flow_Next t i) (T0_flow_Next t i) (v_flow_Next t i) := by
  have hlen := flowOK_len hk
  unfold T0_flow_Next v_flow_Next
  rw [goes_br]
  by_cases h0 : i < 0
  · rw [if_pos (decide_eq_true h0), nextB_out (fun h => by omega)]; exact .leaf
  rw [if_neg (by simpa using h0), goes_br]
  obtain ⟨j, rfl⟩ := Int.eq_ofNat_of_zero_le (show 0 ≤ i by omega)
  by_cases h1 : (t.length : Int) ≤ (j : Int)
  · rw [if_pos (decide_eq_true (show (j : Int) ≥ Int.ofNat t.length from h1)), nextB_out (fun h => by omega)]; exact .leaf
  have hj : j < t.length := by omega
  rw [if_neg (by simp; omega), goes_br, if_pos (bound_len hj), goes_br, Int.toNat_natCast]
  rw [← nextL_eq hj]
  have hmem : t.getD j (dflt T_api_Ins) ∈ t := by rw [getD_lt hj]; exact List.getElem_mem hj
  have kl : k_ins_Leads (t.getD j (dflt T_api_Ins)) = true := k_leads (flowOK_text hk hmem)
  have kf : k_valid_Find t (t.getD j (dflt T_api_Ins)).2.2.2.2.2.1 = true := flowOK_find hk
  have vf : v_valid_Find t (t.getD j (dflt T_api_Ins)).2.2.2.2.2.1 = findI (t.getD j (dflt T_api_Ins)).2.2.2.2.2.1 t 0 := rfl
  rw [if_pos kl]
  have hw : IntKind.i64.wrap ((j : Int) + 1) = (j : Int) + 1 := by rw [wrap_i64 (by omega) (by omega)]
  -- the last label
  have l14 : ∀ (to : Int) (out : List Int) (h : Bool), out.length ≤ 3 → Goes (T_flow_Next t (j : Int)) (.jmp (.l14 to out h)) (out ++ if h = true then [to] else []) := by
    intro to out h ho
    rw [goes_jmp, T_flow_Next, goes_br]
    cases h with
    | true =>
      rw [if_pos rfl, goes_br, if_pos (Nat.ble_eq_true_of_le (by unfold limit; omega)), if_pos rfl]; exact .leaf
    | false => rw [if_neg (by decide), if_neg (by decide), List.append_nil]; exact .leaf
  have last : ∀ (out : List Int) (x : Int), out.length ≤ 1 → (decide ((0 : Int) ≤ IntKind.i64.wrap (Int.ofNat (out ++ [x]).length - 1)) && decide (IntKind.i64.wrap (Int.ofNat (out ++ [x]).length - 1) < Int.ofNat (out ++ [x]).length)) = true ∧ List.getD (out ++ [x]) (IntKind.i64.wrap (Int.ofNat (out ++ [x]).length - 1)).toNat (dflt (.int .i64)) = x := by
    intro out x ho
    have e : IntKind.i64.wrap (Int.ofNat (out ++ [x]).length - 1) = (out.length : Int) := by
      rw [List.length_append, List.length_singleton, wrap_i64 (by simp <;> omega) (by simp <;> omega)]
      simp
    rw [e]
    refine ⟨by simp; omega, ?_⟩
    rw [Int.toNat_natCast]
    simp [List.getD]
  have l12 : ∀ (to : Int) (h : Bool), -1 ≤ to → (h = true → (j : Int) + 1 < t.length) → Goes (T_flow_Next t (j : Int)) (.jmp (.l12 to (if 0 ≤ to ∧ to ≤ (j : Int) then [to] else []) h)) (nextL t.length h to (j : Int)) := by
    intro to h hto hh
    rw [goes_jmp, T_flow_Next]
    unfold nextL
    generalize hout : (if 0 ≤ to ∧ to ≤ (j : Int) then [to] else []) = out
    have hol : out.length ≤ 1 := by rw [← hout]; split <;> simp
    rw [goes_br]
    cases h with
    | true =>
      rw [if_pos rfl, goes_br, if_pos (Nat.ble_eq_true_of_le (by unfold limit; omega)), goes_br, hw]
      have hin := hh rfl
      obtain ⟨b1, b2⟩ := last out ((j : Int) + 1) hol
      rw [if_pos (show true = true ∧ (j : Int) + 1 < (t.length : Int) from ⟨rfl, hin⟩)]
      by_cases hgt : to > (j : Int)
      · rw [if_pos (decide_eq_true hgt), goes_br, if_neg (by simp; omega), goes_br, if_pos b1, b2]
        have := l14 to (out ++ [(j : Int) + 1]) ((j : Int) + 1 != to) (by simp; omega)
        rw [List.append_assoc] at this
        by_cases he : to = (j : Int) + 1
        · rw [if_neg (by simp [he]), List.append_nil] at this
          rw [if_neg (fun h => h.2 ⟨rfl, hin, he⟩), List.append_nil]
          exact this
        · rw [if_pos (by simp; omega)] at this
          rw [if_pos ⟨hgt, fun h => he h.2.2⟩]
          exact this
      · rw [if_neg (by simpa using hgt), if_neg (fun h => hgt h.1), List.append_nil]
        have := l14 to (out ++ [(j : Int) + 1]) false (by simp; omega)
        rwa [if_neg (by decide), List.append_nil] at this
    | false =>
      rw [if_neg (by decide), goes_br, if_neg (c := false = true ∧ (j : Int) + 1 < (t.length : Int)) (fun h => by cases h.1), List.nil_append]
      by_cases hgt : to > (j : Int)
      · have he : out = [] := by rw [← hout, if_neg (fun h => by omega)]
        subst he
        rw [if_pos (decide_eq_true hgt), goes_br, if_pos (show (Int.ofNat ([] : List Int).length == 0) = true from rfl), if_pos ⟨hgt, fun h => by cases h.1⟩]
        have := l14 to [] true (by simp)
        rwa [if_pos rfl] at this
      · rw [if_neg (by simpa using hgt), if_neg (fun h => hgt h.1), List.append_nil]
        have := l14 to out false (by omega)
        rwa [if_neg (by decide), List.append_nil] at this
  have key : ∀ (on : Bool) (to : Int), nextL t.length (bif on then decide ((j : Int) + 1 < Int.ofNat t.length) else false) to (j : Int) = nextL t.length on to (j : Int) := by
    intro on to
    cases on with
    | false => rfl
    | true =>
      show nextL t.length (decide ((j : Int) + 1 < Int.ofNat t.length)) to (j : Int) = nextL t.length true to (j : Int)
      by_cases hin : (j : Int) + 1 < (t.length : Int)
      · rw [decide_eq_true (show (j : Int) + 1 < Int.ofNat t.length from hin)]
      · rw [decide_eq_false (show ¬ (j : Int) + 1 < Int.ofNat t.length from hin)]
        unfold nextL
        rw [if_neg (c := false = true ∧ (j : Int) + 1 < (t.length : Int)) (fun h => by cases h.1), if_neg (c := true = true ∧ (j : Int) + 1 < (t.length : Int)) (fun h => hin h.2)]
        by_cases hgt : to > (j : Int)
        · rw [if_pos (c := to > (j : Int) ∧ ¬ (false = true ∧ (j : Int) + 1 < (t.length : Int) ∧ to = (j : Int) + 1)) ⟨hgt, fun h => by cases h.1⟩, if_pos (c := to > (j : Int) ∧ ¬ (true = true ∧ (j : Int) + 1 < (t.length : Int) ∧ to = (j : Int) + 1)) ⟨hgt, fun h => hin h.2.1⟩]
        · rw [if_neg (c := to > (j : Int) ∧ ¬ (false = true ∧ (j : Int) + 1 < (t.length : Int) ∧ to = (j : Int) + 1)) (fun h => hgt h.1), if_neg (c := to > (j : Int) ∧ ¬ (true = true ∧ (j : Int) + 1 < (t.length : Int) ∧ to = (j : Int) + 1)) (fun h => hgt h.1)]
  have both : ∀ (on : Bool) (to : Int) (out : List Int), -1 ≤ to → out = (if 0 ≤ to ∧ to ≤ (j : Int) then [to] else []) → Goes (T_flow_Next t (j : Int)) (.br on (.jmp (.l12 to out (decide (IntKind.i64.wrap ((j : Int) + 1) < Int.ofNat t.length)))) (.jmp (.l12 to out false))) (nextL t.length on to (j : Int)) := by
    intro on to out hto hout
    subst hout
    rw [goes_br, ← key, hw]
    cases on with
    | true =>
      rw [if_pos rfl, cond_true]
      exact l12 to _ hto fun h => of_decide_eq_true h
    | false =>
      rw [if_neg (by decide), cond_false]
      exact l12 to _ hto fun h => by cases h
  have hr := @toOf_lt t j
  rw [goes_br]
  unfold onOf
  by_cases hjmp : (v_ins_Leads (t.getD j (dflt T_api_Ins))).2 = true
  · have hto : toOf t j = findI (t.getD j (dflt T_api_Ins)).2.2.2.2.2.1 t 0 := by unfold toOf; rw [if_pos hjmp]
    rw [hto] at hr
    rw [if_pos hjmp, goes_br, if_pos (bound_len hj), goes_br, if_pos kf, goes_br, vf, hto]
    generalize findI (t.getD j (dflt T_api_Ins)).2.2.2.2.2.1 t 0 = to at hr
    by_cases h2 : to ≥ 0
    · rw [if_pos (decide_eq_true h2), goes_br]
      by_cases h3 : to ≤ (j : Int)
      · rw [if_pos (decide_eq_true h3)]
        exact both _ to _ hr.1 (by rw [if_pos ⟨h2, h3⟩])
      · rw [if_neg (by simpa using h3)]
        exact both _ to _ hr.1 (by rw [if_neg (fun h => h3 h.2)])
    · rw [if_neg (by simpa using h2)]
      exact both _ to _ hr.1 (by rw [if_neg (fun h => h2 h.1)])
  · have hto : toOf t j = -1 := by unfold toOf; rw [if_neg hjmp]
    rw [if_neg hjmp, hto]
    exact both _ (-1) _ (by omega) (by rw [if_neg (fun h => by omega)])
end Go.Ev
end

section
set_option linter.unusedSectionVars false
set_option linter.unusedVariables false
set_option linter.unusedSimpArgs false
set_option maxRecDepth 100000
set_option linter.unusedVariables false
open Go Go.Ev
namespace Go.Ev
noncomputable section
noncomputable def e_flow_Next : Run := entG sg_flow_Next R_flow_Next (fun a => k_flow_Next a.1 a.2.1) (fun a => v_flow_Next a.1 a.2.1)
theorem ok_flow_Next : EntOK Go.Proofs.Tryz.prog 28 e_flow_Next := entG_ok (tb := tb_flow_Next) (c := c_flow_Next) tk_flow_Next (by kernel_rfl) (by kernel_rfl) (by kernel_rfl) (fun a => by kernel_rfl) fun ⟨t, i, _⟩ hk => evF_goes (c := c_flow_Next) (K := fun v => (R_flow_Next v, tps (toForms sg_flow_Next (t, i, ())))) (S := S_flow_Next t i) (by kernel_rfl) (en_flow_Next t i) (lp_flow_Next t i) (g_flow_Next t i hk)
end
end Go.Ev
end

section
set_option linter.unusedSectionVars false
set_option linter.unusedVariables false
set_option linter.unusedSimpArgs false
set_option maxRecDepth 100000
set_option linter.unusedVariables false
open Go Go.Ev
namespace Go.Ev
noncomputable section
/-! ### paling/ins.Locked -/
def sg_ins_Locked : Sig := [(true, T_api_Ins)]
noncomputable def t_ins_Locked : Tbl := [(45, e_ins_Right)]
theorem tk_ins_Locked : ∀ p ∈ t_ins_Locked, EntOK Go.Proofs.Tryz.prog p.1 p.2 := tbl_cons ok_ins_Right (tbl_nil)
noncomputable def c_ins_Locked : Code := Go.Proofs.Tryz.f46.body.getD .skip
def tb_ins_Locked : Tb := []
def T_ins_Locked (i : El T_api_Ins) : Empty → JT Empty (Bool) := fun j => nomatch j
def T0_ins_Locked (i : El T_api_Ins) : JT Empty (Bool) :=
  .br (k_ins_Right i)
    (.br ((v_ins_Right i) == (0 : Int))
      (.br (i.1 == (8 : Int))
        (.leaf true)
      (.leaf i.2.1))
    (.leaf false))
  (.no)
def v_ins_Locked (i : El T_api_Ins) : Bool :=
  bif (k_ins_Right i) then
    bif ((v_ins_Right i) == (0 : Int)) then
      bif (i.1 == (8 : Int)) then
        true
      else i.2.1
    else false
  else false
def k_ins_Locked (i : El T_api_Ins) : Bool :=
  bif (k_ins_Right i) then
    bif ((v_ins_Right i) == (0 : Int)) then
      bif (i.1 == (8 : Int)) then
        true
      else true
    else true
  else false
theorem g_ins_Locked (i : El T_api_Ins) (hk : k_ins_Locked i = true) : Goes (T_ins_Locked i) (T0_ins_Locked i) (v_ins_Locked i) :=
  Goes.brk hk (fun hk =>
    Goes.brk hk (fun hk =>
      Goes.brk hk (fun hk =>
        Goes.leaf) (fun hk =>
        Goes.leaf)) (fun hk =>
      Goes.leaf)) (fun hk =>
    Goes.nok hk)
def R_ins_Locked : Bool → AV := fun (r : Bool) => .d .bool r
def S_ins_Locked (i : El T_api_Ins) : Empty → Nat × St := fun j => nomatch j
theorem en_ins_Locked (i : El T_api_Ins) (L : Lt) : entryA Go.Proofs.Tryz.prog (clOf t_ins_Locked) tb_ins_Locked Go.Proofs.Tryz.f46 c_ins_Locked L (toForms sg_ins_Locked (i, ())) = (T0_ins_Locked i).run (fun v => some (R_ins_Locked v, tps (toForms sg_ins_Locked (i, ())))) fun j => L (S_ins_Locked i j).1 (S_ins_Locked i j).2 := by kernel_rfl
theorem lp_ins_Locked (i : El T_api_Ins) : ∀ (L : Lt) (j : Empty), procOf (procsF Go.Proofs.Tryz.prog (clOf t_ins_Locked) tb_ins_Locked Go.Proofs.Tryz.f46 c_ins_Locked (toForms sg_ins_Locked (i, ()))) (S_ins_Locked i j).1 L (S_ins_Locked i j).2 = (T_ins_Locked i j).run (fun v => some (R_ins_Locked v, tps (toForms sg_ins_Locked (i, ())))) fun j => L (S_ins_Locked i j).1 (S_ins_Locked i j).2 := fun L j => nomatch j
noncomputable def e_ins_Locked : Run := entG sg_ins_Locked R_ins_Locked (fun a => k_ins_Locked a.1) (fun a => v_ins_Locked a.1)
theorem ok_ins_Locked : EntOK Go.Proofs.Tryz.prog 46 e_ins_Locked := entG_ok (tb := tb_ins_Locked) (c := c_ins_Locked) tk_ins_Locked (by kernel_rfl) (by kernel_rfl) (by kernel_rfl) (fun a => by kernel_rfl) fun ⟨i, _⟩ hk => evF_goes (c := c_ins_Locked) (K := fun v => (R_ins_Locked v, tps (toForms sg_ins_Locked (i, ())))) (S := S_ins_Locked i) (by kernel_rfl) (en_ins_Locked i) (lp_ins_Locked i) (g_ins_Locked i hk)
end
end Go.Ev
end

section
set_option linter.unusedSectionVars false
set_option linter.unusedVariables false
set_option linter.unusedSimpArgs false
set_option maxRecDepth 100000
set_option linter.unusedVariables false
open Go Go.Ev
namespace Go.Ev
noncomputable section
/-! ### paling/ins.Fence -/
def sg_ins_Fence : Sig := [(true, T_api_Ins)]
noncomputable def t_ins_Fence : Tbl := [(45, e_ins_Right), (46, e_ins_Locked)]
theorem tk_ins_Fence : ∀ p ∈ t_ins_Fence, EntOK Go.Proofs.Tryz.prog p.1 p.2 := tbl_cons ok_ins_Right (tbl_cons ok_ins_Locked (tbl_nil))
noncomputable def c_ins_Fence : Code := Go.Proofs.Tryz.f30.body.getD .skip
def tb_ins_Fence : Tb := []
def T_ins_Fence (i : El T_api_Ins) : Empty → JT Empty (Bool) := fun j => nomatch j
def T0_ins_Fence (i : El T_api_Ins) : JT Empty (Bool) :=
  .br (k_ins_Right i)
    (.br ((v_ins_Right i) == (0 : Int))
      (.br (i.1 == (12 : Int))
        (.leaf true)
      (.br (k_ins_Locked i)
        (.leaf (v_ins_Locked i))
      (.no)))
    (.br (k_ins_Locked i)
      (.leaf (v_ins_Locked i))
    (.no)))
  (.no)
def v_ins_Fence (i : El T_api_Ins) : Bool :=
  bif (k_ins_Right i) then
    bif ((v_ins_Right i) == (0 : Int)) then
      bif (i.1 == (12 : Int)) then
        true
      else bif (k_ins_Locked i) then
        (v_ins_Locked i)
      else false
    else bif (k_ins_Locked i) then
      (v_ins_Locked i)
    else false
  else false
def k_ins_Fence (i : El T_api_Ins) : Bool :=
  bif (k_ins_Right i) then
    bif ((v_ins_Right i) == (0 : Int)) then
      bif (i.1 == (12 : Int)) then
        true
      else bif (k_ins_Locked i) then
        true
      else false
    else bif (k_ins_Locked i) then
      true
    else false
  else false
theorem g_ins_Fence (i : El T_api_Ins) (hk : k_ins_Fence i = true) : Goes (T_ins_Fence i) (T0_ins_Fence i) (v_ins_Fence i) :=
  Goes.brk hk (fun hk =>
    Goes.brk hk (fun hk =>
      Goes.brk hk (fun hk =>
        Goes.leaf) (fun hk =>
        Goes.brk hk (fun hk =>
          Goes.leaf) (fun hk =>
          Goes.nok hk))) (fun hk =>
      Goes.brk hk (fun hk =>
        Goes.leaf) (fun hk =>
        Goes.nok hk))) (fun hk =>
    Goes.nok hk)
def R_ins_Fence : Bool → AV := fun (r : Bool) => .d .bool r
def S_ins_Fence (i : El T_api_Ins) : Empty → Nat × St := fun j => nomatch j
theorem en_ins_Fence (i : El T_api_Ins) (L : Lt) : entryA Go.Proofs.Tryz.prog (clOf t_ins_Fence) tb_ins_Fence Go.Proofs.Tryz.f30 c_ins_Fence L (toForms sg_ins_Fence (i, ())) = (T0_ins_Fence i).run (fun v => some (R_ins_Fence v, tps (toForms sg_ins_Fence (i, ())))) fun j => L (S_ins_Fence i j).1 (S_ins_Fence i j).2 := by kernel_rfl
theorem lp_ins_Fence (i : El T_api_Ins) : ∀ (L : Lt) (j : Empty), procOf (procsF Go.Proofs.Tryz.prog (clOf t_ins_Fence) tb_ins_Fence Go.Proofs.Tryz.f30 c_ins_Fence (toForms sg_ins_Fence (i, ()))) (S_ins_Fence i j).1 L (S_ins_Fence i j).2 = (T_ins_Fence i j).run (fun v => some (R_ins_Fence v, tps (toForms sg_ins_Fence (i, ())))) fun j => L (S_ins_Fence i j).1 (S_ins_Fence i j).2 := fun L j => nomatch j
noncomputable def e_ins_Fence : Run := entG sg_ins_Fence R_ins_Fence (fun a => k_ins_Fence a.1) (fun a => v_ins_Fence a.1)
theorem ok_ins_Fence : EntOK Go.Proofs.Tryz.prog 30 e_ins_Fence := entG_ok (tb := tb_ins_Fence) (c := c_ins_Fence) tk_ins_Fence (by kernel_rfl) (by kernel_rfl) (by kernel_rfl) (fun a => by kernel_rfl) fun ⟨i, _⟩ hk => evF_goes (c := c_ins_Fence) (K := fun v => (R_ins_Fence v, tps (toForms sg_ins_Fence (i, ())))) (S := S_ins_Fence i) (by kernel_rfl) (en_ins_Fence i) (lp_ins_Fence i) (g_ins_Fence i hk)
end
end Go.Ev
end

section
set_option linter.unusedSectionVars false
set_option linter.unusedVariables false
set_option linter.unusedSimpArgs false
set_option maxRecDepth 100000
set_option linter.unusedVariables false
open Go Go.Ev
namespace Go.Ev
noncomputable section
/-! ### (*paling/bits.Set).List -/
def sg_bits_Set_List_t : PSig := [.obj 84 [(.d (.int .i64)), (.m (.int .i64) (.int .u64))]]
noncomputable def t_bits_Set_List_t : Tbl := []
theorem tk_bits_Set_List_t : ∀ p ∈ t_bits_Set_List_t, EntOK Go.Proofs.Tryz.prog p.1 p.2 := tbl_nil
noncomputable def c_bits_Set_List_t : Code := match Go.Proofs.Tryz.f31.body with
  | some (.seq _ (.seq _ (.seq _ (.seq _ (.seq _ d))))) => d
  | _ => .skip
def tb_bits_Set_List_t : Tb := [(2, ⟨[0, 4, 26, 27, 28], [(5, 70)]⟩), (8, ⟨[0, 4, 7, 8, 26, 27, 28], [(5, 70)]⟩)]
inductive J_bits_Set_List_t where
  | l2 (h : Int) (h1 : List Int) (h2 : Int) (out : List Int)
  | l8 (k : Int) (h : Int) (h1 : List Int) (i : Int) (out : List Int) (h2 : Int)
def T_bits_Set_List_t (s : Int × List (Int × Int)) (places : List Int) : J_bits_Set_List_t → JT J_bits_Set_List_t ((List Int) × Int × List (Int × Int))
  | .l2 h h1 h2 out =>
    .br (decide (h2 < h))
      (.br ((decide ((0 : Int) ≤ h2)) && (decide (h2 < (Int.ofNat (List.length h1)))))
        (.jmp (.l8 (List.getD h1 (Int.toNat h2) (dflt (.int .i64))) h h1 (0 : Int) out h2))
      (.no))
    (.leaf (out, s))
  | .l8 k h h1 i out h2 =>
    .br (decide (i < (64 : Int)))
      (.br (decide ((IntKind.u64.wrap i) < (0 : Int)))
        (.no)
      (.br ((bitAnd IntKind.u64 (Int.fdiv (Option.getD (mget (kt := (.int .i64)) k s.2) (0 : Int)) (2 ^ (min (Int.toNat (IntKind.u64.wrap i)) (IntKind.u64).bits))) (1 : Int)) == (1 : Int))
        (.br (Nat.ble (((List.length out) + 1) * 8) limit)
          (.jmp (.l8 k h h1 (IntKind.i64.wrap (i + (1 : Int))) (out ++ [(IntKind.i64.wrap ((IntKind.i64.wrap (k * (64 : Int))) + i))]) h2))
        (.no))
      (.jmp (.l8 k h h1 (IntKind.i64.wrap (i + (1 : Int))) out h2))))
    (.jmp (.l2 h h1 (IntKind.i64.wrap (h2 + (1 : Int))) out))
def T0_bits_Set_List_t (s : Int × List (Int × Int)) (places : List Int) : JT J_bits_Set_List_t ((List Int) × Int × List (Int × Int)) :=
  .jmp (.l2 (Int.ofNat (List.length places)) places (0 : Int) [])
def K_bits_Set_List_t : (List Int) × Int × List (Int × Int) → Ans := fun (r : (List Int) × Int × List (Int × Int)) => (.rw 3 (.int .i64) r.1, [.bx 84 [.d (.int .i64) r.2.1, .mv (.int .i64) (.int .u64) r.2.2]])
def S_bits_Set_List_t (s : Int × List (Int × Int)) (places : List Int) : J_bits_Set_List_t → Nat × St
  | .l2 h h1 h2 out => (2, ⟨mkTm 56 [(0, .pt 1 0 0), (4, .own 5 0 none), (26, .own 27 0 none), (27, .d (.int .i64) h), (28, .d (.int .i64) h2)], [(1, 0, .box 84 [.d (.int .i64) s.1, .mp 1026 0] (some 0)), (5, 0, .row 3 (.int .i64) out false), (27, 0, .row 3 (.int .i64) h1 false), (1026, 0, .map (.int .i64) (.int .u64) s.2)]⟩)
  | .l8 k h h1 i out h2 => (8, ⟨mkTm 56 [(0, .pt 1 0 0), (4, .own 5 0 none), (7, .d (.int .i64) k), (8, .d (.int .i64) i), (26, .own 27 0 none), (27, .d (.int .i64) h), (28, .d (.int .i64) h2)], [(1, 0, .box 84 [.d (.int .i64) s.1, .mp 1026 0] (some 0)), (5, 0, .row 3 (.int .i64) out false), (27, 0, .row 3 (.int .i64) h1 false), (1026, 0, .map (.int .i64) (.int .u64) s.2)]⟩)
def S0_bits_Set_List_t (s : Int × List (Int × Int)) (places : List Int) : St := ⟨mkTm 56 [(0, .pt 1 0 0), (3, .own 4 0 none), (4, .nil)], [(1, 0, .box 84 [.d (.int .i64) s.1, .mp 1026 0] (some 0)), (4, 0, .row 3 (.int .i64) places false), (1026, 0, .map (.int .i64) (.int .u64) s.2)]⟩
theorem en_bits_Set_List_t (s : Int × List (Int × Int)) (places : List Int) (L : Lt) : evC Go.Proofs.Tryz.prog (clOf t_bits_Set_List_t) tb_bits_Set_List_t L c_bits_Set_List_t 0 (finA Go.Proofs.Tryz.prog tb_bits_Set_List_t Go.Proofs.Tryz.f31 (toPs sg_bits_Set_List_t (s, ()))) (fun _ _ => none) (finA Go.Proofs.Tryz.prog tb_bits_Set_List_t Go.Proofs.Tryz.f31 (toPs sg_bits_Set_List_t (s, ()))) (S0_bits_Set_List_t s places) = (T0_bits_Set_List_t s places).run (fun v => some (K_bits_Set_List_t v)) fun j => L (S_bits_Set_List_t s places j).1 (S_bits_Set_List_t s places j).2 := by kernel_rfl
noncomputable def ps_bits_Set_List_t (s : Int × List (Int × Int)) (places : List Int) : List (Nat × (Lt → Kt)) := procs Go.Proofs.Tryz.prog (clOf t_bits_Set_List_t) tb_bits_Set_List_t c_bits_Set_List_t 0 (fun _ => (finA Go.Proofs.Tryz.prog tb_bits_Set_List_t Go.Proofs.Tryz.f31 (toPs sg_bits_Set_List_t (s, ())))) (fun _ _ _ => none) (fun _ => (finA Go.Proofs.Tryz.prog tb_bits_Set_List_t Go.Proofs.Tryz.f31 (toPs sg_bits_Set_List_t (s, ()))))
theorem lp_bits_Set_List_t (s : Int × List (Int × Int)) (places : List Int) : ∀ (L : Lt) (j : J_bits_Set_List_t), procOf (ps_bits_Set_List_t s places) (S_bits_Set_List_t s places j).1 L (S_bits_Set_List_t s places j).2 = (T_bits_Set_List_t s places j).run (fun v => some (K_bits_Set_List_t v)) fun j => L (S_bits_Set_List_t s places j).1 (S_bits_Set_List_t s places j).2
  | L, .l2 h h1 h2 out => by kernel_rfl
  | L, .l8 k h h1 i out h2 => by kernel_rfl
end
end Go.Ev
end

section
set_option linter.unusedSectionVars false
set_option linter.unusedVariables false
set_option linter.unusedSimpArgs false
set_option linter.unusedVariables false
set_option linter.unusedSimpArgs false
open Go
namespace Go.Ev
theorem g_bits_Set_List_t (s : Int × List (Int × Int)) (places : List Int) (hk : Nat.ble (places.length * 512) limit = true) : Goes (T_bits_Set_List_t s places) (T0_bits_Set_List_t s places) (listAt s.2 places, s) := by
  have hlim : places.length * 512 ≤ limit := Nat.le_of_ble_eq_true hk
  have hn : places.length < 4611686018427387904 := by unfold limit at hlim; omega
  -- within a word
  have inner : ∀ (k : Int) (j : Nat), j < places.length → ∀ (i : Nat), i ≤ 64 → ∀ (out : List Int) r, (out.length + (64 - i)) * 8 ≤ limit →
      Goes (T_bits_Set_List_t s places) (.jmp (.l2 (Int.ofNat (List.length places)) places ((j + 1 : Nat) : Int) (out ++ wordList s.2 k i (64 - i)))) r →
      Goes (T_bits_Set_List_t s places) (.jmp (.l8 k (Int.ofNat (List.length places)) places (i : Int) out (j : Int))) r := by
    intro k j hj
    refine down ?_ fun i hi ih => ?_
    · intro out r _ h
      rw [goes_jmp]
      have e : decide (((64 : Nat) : Int) < (64 : Int)) = false := by decide
      simp only [T_bits_Set_List_t, goes_br, e, Bool.false_eq_true, if_false, wrap_succ (k := j) (by omega)]
      simpa [wordList] using h
    · intro out r hl h
      rw [goes_jmp]
      have e : decide ((i : Int) < (64 : Int)) = true := decide_eq_true (by omega)
      have hw := wrapU_small hi
      have e2 : decide ((i : Int) < (0 : Int)) = false := decide_eq_false (by omega)
      have hcons : wordList s.2 k i (64 - i) = (if bitE (wordAt s.2 k) (i : Nat) then [numE k (i : Nat)] else []) ++ wordList s.2 k (i + 1) (64 - (i + 1)) := by
        unfold wordList
        rw [show 64 - i = (64 - (i + 1)) + 1 by omega, List.range'_succ, List.filter_cons]
        split <;> simp
      rw [hcons] at h
      have hb : ((bitAnd IntKind.u64 (Int.fdiv (Option.getD (mget (kt := (.int .i64)) k s.2) (0 : Int)) (2 ^ (min (Int.toNat (IntKind.u64.wrap (i : Int))) (IntKind.u64).bits))) (1 : Int)) == (1 : Int)) = bitE (wordAt s.2 k) (i : Nat) := rfl
      unfold T_bits_Set_List_t
      rw [goes_br, if_pos e, goes_br, if_neg (by rw [hw, e2]; decide), goes_br, hb, wrap_succ (k := i) (by omega)]
      by_cases hbit : bitE (wordAt s.2 k) (i : Nat) = true
      · rw [if_pos hbit]
        rw [if_pos hbit] at h
        rw [goes_br, if_pos (Nat.ble_eq_true_of_le (by omega))]
        refine ih (out ++ [numE k (i : Nat)]) r (by simp; omega) ?_
        simpa using h
      · rw [if_neg hbit]
        rw [if_neg hbit, List.nil_append] at h
        exact ih out r (by omega) h
  have outer : ∀ j, j ≤ places.length → ∀ out : List Int, (out.length + (places.length - j) * 64) * 8 ≤ limit →
      Goes (T_bits_Set_List_t s places) (.jmp (.l2 (Int.ofNat (List.length places)) places (j : Int) out)) (out ++ listAt s.2 (places.drop j), s) := by
    refine down ?_ fun j hj ih => ?_
    · intro out _
      rw [goes_jmp]
      simp only [T_bits_Set_List_t, goes_br, lt_len_not (Nat.lt_irrefl _), List.drop_length, Bool.false_eq_true, if_false]
      rw [show out ++ listAt s.2 [] = out by simp [listAt]]
      exact .leaf
    · intro out hl
      rw [goes_jmp, drop_cons hj]
      simp only [T_bits_Set_List_t, goes_br, lt_len hj, nng, Bool.and_self, if_true, Int.toNat_natCast, getD_lt hj]
      have hwl := wordList_length s.2 places[j] 0 64
      refine inner places[j] j hj 0 (by omega) out _ (by omega) ?_
      have := ih (out ++ wordList s.2 places[j] 0 64) (by rw [List.length_append]; omega)
      rw [show out ++ listAt s.2 (places[j] :: places.drop (j + 1)) = (out ++ wordList s.2 places[j] 0 64) ++ listAt s.2 (places.drop (j + 1)) by simp only [listAt, List.flatMap_cons, List.append_assoc]]
      exact this
  have := outer 0 (Nat.zero_le _) [] (by simp; omega)
  simpa [T0_bits_Set_List_t] using this
end Go.Ev
end

section
set_option linter.unusedSectionVars false
set_option linter.unusedVariables false
set_option linter.unusedSimpArgs false
set_option maxRecDepth 100000
set_option linter.unusedVariables false
open Go Go.Ev
namespace Go.Ev
/-! ### slices.Sort of numbers: by the library's contract -/
def renSort : Go.Shelf.Ren := ⟨fun n => if n = 189 then 47 else if n = 125 then 56 else if n = 257 then 55 else if n = 128 then 77 else if n = 129 then 78 else if n = 294 then 68 else if n = 295 then 69 else if n = 296 then 70 else if n = 297 then 71 else if n = 298 then 72 else if n = 299 then 73 else if n = 216 then 74 else if n = 300 then 75 else if n = 301 then 76 else if n = 328 then 87 else if n = 329 then 88 else if n = 330 then 89 else if n = 331 then 90 else if n = 332 then 91 else if n = 215 then 92 else if n = 343 then 98 else n,
  fun n => if n = 28 then 35 else if n = 46 then 87 else if n = 51 then 108 else if n = 53 then 86 else if n = 183 then 100 else if n = 182 then 99 else if n = 131 then 105 else if n = 218 then 126 else if n = 222 then 130 else if n = 228 then 140 else if n = 229 then 121 else n,
  fun n => n⟩
theorem renSort_lays : Go.Proofs.Lays.n189 Go.Proofs.Tryz.prog renSort where
  mixed := by kernel_rfl
  f125 := by kernel_rfl
  f128 := by kernel_rfl
  f129 := by kernel_rfl
  f189 := by kernel_rfl
  f215 := by kernel_rfl
  f216 := by kernel_rfl
  f257 := by kernel_rfl
  f294 := by kernel_rfl
  f295 := by kernel_rfl
  f296 := by kernel_rfl
  f297 := by kernel_rfl
  f298 := by kernel_rfl
  f299 := by kernel_rfl
  f300 := by kernel_rfl
  f301 := by kernel_rfl
  f328 := by kernel_rfl
  f329 := by kernel_rfl
  f330 := by kernel_rfl
  f331 := by kernel_rfl
  f332 := by kernel_rfl
  f343 := by kernel_rfl
  t0 := by kernel_rfl
  a0 := fun w => by kernel_rfl
  z0 := fun w => by kernel_rfl
  v0 := fun w => by kernel_rfl
  t3 := by kernel_rfl
  a3 := fun w => by kernel_rfl
  z3 := fun w => by kernel_rfl
  v3 := fun w => by kernel_rfl
  t4 := by kernel_rfl
  a4 := fun w => by kernel_rfl
  z4 := fun w => by kernel_rfl
  v4 := fun w => by kernel_rfl
  t5 := by kernel_rfl
  a5 := fun w => by kernel_rfl
  z5 := fun w => by kernel_rfl
  v5 := fun w => by kernel_rfl
  t9 := by kernel_rfl
  a9 := fun w => by kernel_rfl
  z9 := fun w => by kernel_rfl
  v9 := fun w => by kernel_rfl
  t28 := by kernel_rfl
  a28 := fun w => by kernel_rfl
  z28 := fun w => by kernel_rfl
  v28 := fun w => by kernel_rfl
  t46 := by kernel_rfl
  a46 := fun w => by kernel_rfl
  z46 := fun w => by kernel_rfl
  v46 := fun w => by kernel_rfl
  t51 := by kernel_rfl
  a51 := fun w => by kernel_rfl
  z51 := fun w => by kernel_rfl
  v51 := fun w => by kernel_rfl
  t53 := by kernel_rfl
  a53 := fun w => by kernel_rfl
  z53 := fun w => by kernel_rfl
  v53 := fun w => by kernel_rfl
  t131 := by kernel_rfl
  a131 := fun w => by kernel_rfl
  z131 := fun w => by kernel_rfl
  v131 := fun w => by kernel_rfl
  t182 := by kernel_rfl
  a182 := fun w => by kernel_rfl
  z182 := fun w => by kernel_rfl
  v182 := fun w => by kernel_rfl
  t183 := by kernel_rfl
  a183 := fun w => by kernel_rfl
  z183 := fun w => by kernel_rfl
  v183 := fun w => by kernel_rfl
  t218 := by kernel_rfl
  a218 := fun w => by kernel_rfl
  z218 := fun w => by kernel_rfl
  v218 := fun w => by kernel_rfl
  t222 := by kernel_rfl
  a222 := fun w => by kernel_rfl
  z222 := fun w => by kernel_rfl
  v222 := fun w => by kernel_rfl
  t228 := by kernel_rfl
  a228 := fun w => by kernel_rfl
  z228 := fun w => by kernel_rfl
  v228 := fun w => by kernel_rfl
  t229 := by kernel_rfl
  a229 := fun w => by kernel_rfl
  z229 := fun w => by kernel_rfl
  v229 := fun w => by kernel_rfl

theorem sortOK : SortOK Go.Proofs.Tryz.prog 47 := ⟨fun blk off cap zs w h1 h2 h3 => Go.Proofs.Any.slices_Sort_int renSort_lays blk off cap zs w h1 h2 h3, fun p cap w => Go.Proofs.Any.slices_Sort_int_none renSort_lays p cap w⟩
end Go.Ev
end

section
set_option linter.unusedSectionVars false
set_option linter.unusedVariables false
set_option linter.unusedSimpArgs false
set_option maxRecDepth 100000
set_option linter.unusedVariables false
open Go Go.Ev
namespace Go.Ev
/-! ### (*bits.Set).List: by hand: the keys in whatever order, sorted -/
def sg_bits_Set_List : PSig := [.obj 84 [(.d (.int .i64)), (.m (.int .i64) (.int .u64))]]
def v_bits_Set_List (s : Int × List (Int × Int)) : (List Int) × Int × List (Int × Int) := (listS s, s)
def k_bits_Set_List (s : Int × List (Int × Int)) : Bool := Nat.ble (s.2.length * 512) limit
def K_bits_Set_List : (List Int) × Int × List (Int × Int) → Ans := K_bits_Set_List_t

section
abbrev SetL := List (El (.int .i64) × El (.int .u64))
noncomputable def setListBody : Code := Go.Proofs.Tryz.f31.body.getD .skip
noncomputable def setListR : Code := fstC (sndC (sndC (sndC setListBody)))
noncomputable def setListX : RangeText := rangeText (sndC setListR)
noncomputable def setListSort : Code := fstC (sndC (sndC (sndC (sndC setListBody))))
def setLab1 : Lab := ⟨[0, 3, 4], []⟩
def setLab2 : Lab := ⟨[0, 3, 4, 15], [(4, 70)]⟩
def setObs (s : Int × SetL) (ps : List (El (.int .i64))) : List (Id × Nat × Obj) := [(1, 0, .box 84 [.d (.int .i64) s.1, .mp 1026 0] (some 0)), (4, 0, .row 3 (.int .i64) ps false), (1026, 0, .gone (some 1000))]
def setK (s : Int × SetL) (v : Value) (ps : List (El (.int .i64))) : St := ⟨mkTm 56 [(0, .pt 1 0 0), (3, .own 4 0 none), (4, .nil), (15, .cst v)], setObs s ps⟩
def setI (s : Int × SetL) (v : Value) (done : SetL) : St := setK s v (done.map Prod.fst)
def setT (s : Int × SetL) (v : Value) (done : SetL) (e : El (.int .i64) × El (.int .u64)) : St := ((setI s v done).put (some 16) (.tu [mkB true, .d (.int .i64) e.1, .d (.int .u64) e.2])).put (some 17) (mkB true)
def setU (s : Int × SetL) (v : Value) (done : SetL) (e : El (.int .i64) × El (.int .u64)) : St := (((setT s v done e).put (some 18) (.tu [.d (.int .i64) e.1, .d (.int .u64) e.2])).put (some 19) (.d (.int .i64) e.1)).put (some 5) (.d (.int .i64) e.1)
def setE (s : Int × SetL) (v : Value) (done : SetL) : St := ((setI s v done).put (some 16) (.tu [mkB false])).put (some 17) (mkB false)
/-- ahead of the range: after the first parts; with the map at hand -/
def setA (s : Int × SetL) : St := ⟨mkTm 56 [(0, .pt 1 0 0)], [(1, 0, .box 84 [.d (.int .i64) s.1, .mp 1026 0] (some 0)), (1026, 0, .map (.int .i64) (.int .u64) s.2)]⟩
def setC (s : Int × SetL) : St := ⟨mkTm 56 [(0, .pt 1 0 0), (3, .nil), (4, .nil)], [(1, 0, .box 84 [.d (.int .i64) s.1, .mp 1026 0] (some 0)), (1026, 0, .map (.int .i64) (.int .u64) s.2)]⟩
def setM (s : Int × SetL) : St := ((((setC s).put (some 11) (.pt 1 0 0)).put (some 12) (.pt 1 0 0)).put (some 13) (.pt 1 0 1)).put (some 14) (.mp 1026 0)

theorem setListX_ok : setListX.OK := ⟨by kernel_rfl, by kernel_rfl, by kernel_rfl, by kernel_rfl, by kernel_rfl, by kernel_rfl, by kernel_rfl, by kernel_rfl, by kernel_rfl⟩
theorem setList_round (s : Int × SetL) (v : Value) (done : SetL) (e : El (.int .i64) × El (.int .u64)) (L : Lt) (k : Kt) (x : Nat → Kt) (r : Kt) :
    evC Go.Proofs.Tryz.prog (clOf []) [] L setListX.cr 0 (fun t => k (norm Go.Proofs.Tryz.prog setLab2 t)) x r (setU s v done e) = bif Nat.ble (((done.map Prod.fst).length + 1) * 8) limit then k (setK s v (done.map Prod.fst ++ [e.1])) else none := by kernel_rfl
theorem setList_ev (s : Int × SetL) (hk : k_bits_Set_List s = true) : RangeEv Go.Proofs.Tryz.prog (clOf []) setListX s.2 setLab2 1026 1000 (setI s) (setE s) (setT s) (setU s) where
  it := fun v done => by kernel_rfl
  r1 := fun v done e k => by kernel_rfl
  rt := fun v done e => by kernel_rfl
  re := fun v done e => by kernel_rfl
  r2 := fun v done e k => by kernel_rfl
  r3 := fun v done e rest hp L k x r => by
    have hl := hp.length_eq
    simp only [List.length_append, List.length_cons] at hl
    have hlim : s.2.length * 512 ≤ limit := Nat.le_of_ble_eq_true hk
    rw [setList_round, List.length_map, Nat.ble_eq_true_of_le (by omega), cond_true]
    unfold setI
    rw [List.map_append]
    rfl
  f1 := fun v done k => by kernel_rfl
  ft := fun v done => by kernel_rfl
theorem setList_body : setListBody = .seq (fstC setListBody) (.seq (fstC (sndC setListBody)) (.seq (fstC (sndC (sndC setListBody))) (.seq (.seq (.region (ridC (fstC setListR)) (ropsC (fstC setListR)) false) setListX.code) (.seq (.region (ridC setListSort) (ropsC setListSort) false) c_bits_Set_List_t)))) := by kernel_rfl
theorem setList_a (s : Int × SetL) (L : Lt) (k : Kt) (x : Nat → Kt) (r : Kt) : evC Go.Proofs.Tryz.prog (clOf []) [] L (fstC setListBody) 0 (fun t => k (norm Go.Proofs.Tryz.prog setLab1 t)) x r (setA s) = k (setA s) := by kernel_rfl
theorem setList_b (s : Int × SetL) (L : Lt) (k : Kt) (x : Nat → Kt) (r : Kt) : evC Go.Proofs.Tryz.prog (clOf []) [] L (fstC (sndC setListBody)) 0 (fun t => k (norm Go.Proofs.Tryz.prog setLab1 t)) x r (setA s) = k (setA s) := by kernel_rfl
theorem setList_c (s : Int × SetL) (L : Lt) (k : Kt) (x : Nat → Kt) (r : Kt) : evC Go.Proofs.Tryz.prog (clOf []) [] L (fstC (sndC (sndC setListBody))) 0 (fun t => k (norm Go.Proofs.Tryz.prog setLab1 t)) x r (setA s) = k (setC s) := by kernel_rfl
def mapKV (P : Program) (T : TypeId) : TypeId × TypeId := match P.underlying T with | some (.map K V) => (K, V) | _ => (0, 0)

theorem callOK_bits_Set_List (s : Int × SetL) (hk : k_bits_Set_List s = true) : CallOK Go.Proofs.Tryz.prog 31 (toPs sg_bits_Set_List (s, ())) (K_bits_Set_List (v_bits_Set_List s)) := by
  obtain ⟨hcl, hdet⟩ := clOf_ok (P := Go.Proofs.Tryz.prog) tbl_nil
  have hlim : s.2.length * 512 ≤ limit := Nat.le_of_ble_eq_true hk
  refine callOK_of_wp (tb := tb_bits_Set_List_t) (fn := Go.Proofs.Tryz.f31) (c := setListBody) (vs := [.pt 1 0 0]) (st := ⟨[], [(1, 0, .box 84 [.d (.int .i64) s.1, .mp 1026 0] (some 0)), (1026, 0, .map (.int .i64) (.int .u64) s.2)]⟩) (by kernel_rfl) (by kernel_rfl) (by kernel_rfl) ?_
  intro _ Mod F0 w0 a w hr
  have hr : Rel Mod F0 w0 (setA s) a w := hr
  rw [setList_body]
  refine wp_seq (piece hcl hdet (norm Go.Proofs.Tryz.prog setLab1) (fun h => norm_rel h) (setList_a s) hr fun a w hr => ?_)
  refine wp_seq (piece hcl hdet (norm Go.Proofs.Tryz.prog setLab1) (fun h => norm_rel h) (setList_b s) hr fun a w hr => ?_)
  refine wp_seq (piece hcl hdet (norm Go.Proofs.Tryz.prog setLab1) (fun h => norm_rel h) (setList_c s) hr fun a w hr => ?_)
  -- the range
  refine wp_seq (wp_seq (wp_region ?_))
  rw [show List.range (ropsC (fstC setListR)).size = [0, 1, 2, 3, 4] from by kernel_rfl]
  refine evOp hcl (o := opC (fstC setListR) 0) (st1 := (setC s).put (some 11) (.pt 1 0 0)) (by kernel_rfl) (by kernel_rfl) (fun k => by kernel_rfl) hr fun a w hr => ?_
  refine evOp hcl (o := opC (fstC setListR) 1) (st1 := ((setC s).put (some 11) (.pt 1 0 0)).put (some 12) (.pt 1 0 0)) (by kernel_rfl) (by kernel_rfl) (fun k => by kernel_rfl) hr fun a w hr => ?_
  refine evOp hcl (o := opC (fstC setListR) 2) (st1 := (((setC s).put (some 11) (.pt 1 0 0)).put (some 12) (.pt 1 0 0)).put (some 13) (.pt 1 0 1)) (by kernel_rfl) (by kernel_rfl) (fun k => by kernel_rfl) hr fun a w hr => ?_
  refine evOp hcl (o := opC (fstC setListR) 3) (st1 := setM s) (by kernel_rfl) (by kernel_rfl) (fun k => by kernel_rfl) hr fun a w hr => ?_
  refine handOp (o := opC (fstC setListR) 4) (by kernel_rfl) (by kernel_rfl) ?_
  refine rangeLoop (tm := 14) (idm0 := 1026) (ver0 := 0) (T := (match (opC (fstC setListR) 4).op with | .range T _ => T | _ => 0)) (K := (mapKV Go.Proofs.Tryz.prog (match (opC (fstC setListR) 4).op with | .range T _ => T | _ => 0)).1) (V := (mapKV Go.Proofs.Tryz.prog (match (opC (fstC setListR) 4).op with | .range T _ => T | _ => 0)).2)
    hcl hdet setListX_ok rfl rfl (setList_ev s hk) (by kernel_rfl) (by kernel_rfl) (by kernel_rfl) (by kernel_rfl) (by kernel_rfl) (by kernel_rfl) (fun v => by kernel_rfl) (fun v done => by kernel_rfl) (fun v done => by kernel_rfl) hr ?_
  intro v done a w hperm hr
  -- the sort
  have hr : Rel Mod F0 w0 (S0_bits_Set_List_t s (done.map Prod.fst)) a w := norm_rel (P := Go.Proofs.Tryz.prog) (lab := setLab1) hr
  refine wp_seq (wp_region ?_)
  rw [show List.range (ropsC setListSort).size = [0, 1] from by kernel_rfl]
  refine evOp hcl (o := opC setListSort 0) (st1 := (S0_bits_Set_List_t s (done.map Prod.fst)).put (some 24) (.own 4 0 none)) (by kernel_rfl) (by kernel_rfl) (fun k => by kernel_rfl) hr fun a w hr => ?_
  refine handOp (o := opC setListSort 1) (by kernel_rfl) (by kernel_rfl) ?_
  refine sortStep (ts := 24) (id := 4) (ver := 0) (E := 3) (l := done.map Prod.fst) (c := (match (opC setListSort 1).op with | .call c => c | _ => default)) (fn := Go.Proofs.Tryz.f47) (body := Go.Proofs.Tryz.f47.body.getD .skip) (by kernel_rfl) (by kernel_rfl) (by kernel_rfl) (by kernel_rfl) (by kernel_rfl) (by kernel_rfl) (by kernel_rfl) (by kernel_rfl) sortOK (by
    rw [List.length_map, hperm.length_eq]
    unfold limit at hlim
    omega) hr fun a w hr => ?_
  have hr : Rel Mod F0 w0 (S0_bits_Set_List_t s (sorted (done.map Prod.fst))) a w := norm_rel (P := Go.Proofs.Tryz.prog) (lab := setLab1) hr
  rw [sorted_perm (hperm.map Prod.fst)] at hr
  have hg := g_bits_Set_List_t s (sorted (s.2.map Prod.fst)) (by rw [List.length_mergeSort, List.length_map]; exact hk)
  exact tailStep hcl hdet (ps := ps_bits_Set_List_t s (sorted (s.2.map Prod.fst))) rfl (by kernel_rfl) (en_bits_Set_List_t s _) (lp_bits_Set_List_t s _) hg hr
end
noncomputable def e_bits_Set_List : Run := entO sg_bits_Set_List K_bits_Set_List (fun a => k_bits_Set_List a.1) (fun a => v_bits_Set_List a.1)
theorem ok_bits_Set_List : EntOK Go.Proofs.Tryz.prog 31 e_bits_Set_List := entO_hand (noRun_ok (known_of (fn := Go.Proofs.Tryz.f31) (c := setListBody) (by kernel_rfl) (by kernel_rfl) (by kernel_rfl))) fun a h => callOK_bits_Set_List a.1 h
end Go.Ev
end

section
set_option linter.unusedSectionVars false
set_option linter.unusedVariables false
set_option linter.unusedSimpArgs false
set_option maxRecDepth 100000
set_option linter.unusedVariables false
open Go Go.Ev
namespace Go.Ev
noncomputable section
/-! ### paling/road.Ends -/
def sg_road_Ends : Sig := [(true, (.sl T_api_Ins)), (false, (.sl (.int .i64))), (false, (.int .i64))]
noncomputable def t_road_Ends : Tbl := [(26, e_bits_New), (27, e_bits_Set_Put), (28, e_flow_Next), (29, e_bits_Set_Has), (30, e_ins_Fence), (31, e_bits_Set_List)]
theorem tk_road_Ends : ∀ p ∈ t_road_Ends, EntOK Go.Proofs.Tryz.prog p.1 p.2 := tbl_cons ok_bits_New (tbl_cons ok_bits_Set_Put (tbl_cons ok_flow_Next (tbl_cons ok_bits_Set_Has (tbl_cons ok_ins_Fence (tbl_cons ok_bits_Set_List (tbl_nil))))))
noncomputable def c_road_Ends : Code := Go.Proofs.Tryz.f18.body.getD .skip
def tb_road_Ends : Tb := [(4, ⟨[2, 3, 7, 8, 23, 24, 25], []⟩), (11, ⟨[3, 7, 8, 11], [(1000000000000000000000000000000000000000000000000000000000012, 1)]⟩), (17, ⟨[3, 7, 8, 11, 51, 52, 53], [(1000000000000000000000000000000000000000000000000000000000012, 1)]⟩)]
inductive J_road_Ends where
  | l4 (h : Int) (closed : Int) (closed1 : List (Int × Int))
  | l11 (closed : Int) (closed1 : List (Int × Int)) (len : Nat) (seen : Int) (open_ : List Int) (seen1 : List (Int × Int))
  | l17 (closed : Int) (closed1 : List (Int × Int)) (len : Nat) (h : Int) (seen : Int) (open_ : List Int) (seen1 : List (Int × Int)) (h1 : Int) (h2 : List Int)
def T_road_Ends (t : List (El T_api_Ins)) (points : List Int) (s : Int) : J_road_Ends → JT J_road_Ends (List Int)
  | .l4 h closed closed1 =>
    .br (decide (h < (Int.ofNat (List.length points))))
      (.br ((decide ((0 : Int) ≤ h)) && (decide (h < (Int.ofNat (List.length points)))))
        (.jmp (.l4 (IntKind.i64.wrap (h + (1 : Int))) (v_bits_Set_Put (closed, closed1) (List.getD points (Int.toNat h) (dflt (.int .i64)))).2.1 (v_bits_Set_Put (closed, closed1) (List.getD points (Int.toNat h) (dflt (.int .i64)))).2.2))
      (.no))
    (.jmp (.l11 closed closed1 1 (v_bits_New (Int.ofNat (List.length t))).1 [s] (v_bits_New (Int.ofNat (List.length t))).2))
  | .l11 closed closed1 len seen open_ seen1 =>
    .br (decide ((Int.ofNat len) > (0 : Int)))
      (.br ((decide ((0 : Int) ≤ (IntKind.i64.wrap ((Int.ofNat len) - (1 : Int))))) && (decide ((IntKind.i64.wrap ((Int.ofNat len) - (1 : Int))) < (Int.ofNat len))))
        (.br ((decide ((0 : Int) ≤ (IntKind.i64.wrap ((Int.ofNat len) - (1 : Int))))) && (decide ((IntKind.i64.wrap ((Int.ofNat len) - (1 : Int))) ≤ (Int.ofNat len))))
          (.br (k_flow_Next t (List.getD open_ (Int.toNat (IntKind.i64.wrap ((Int.ofNat len) - (1 : Int)))) (dflt (.int .i64))))
            (.jmp (.l17 closed closed1 (Int.toNat (IntKind.i64.wrap ((Int.ofNat len) - (1 : Int)))) (0 : Int) seen open_ seen1 (Int.ofNat (List.length (v_flow_Next t (List.getD open_ (Int.toNat (IntKind.i64.wrap ((Int.ofNat len) - (1 : Int)))) (dflt (.int .i64)))))) (v_flow_Next t (List.getD open_ (Int.toNat (IntKind.i64.wrap ((Int.ofNat len) - (1 : Int)))) (dflt (.int .i64))))))
          (.no))
        (.no))
      (.no))
    (.br (k_bits_Set_List (seen, seen1))
      (.leaf (v_bits_Set_List (seen, seen1)).1)
    (.no))
  | .l17 closed closed1 len h seen open_ seen1 h1 h2 =>
    .br (decide (h < h1))
      (.br ((decide ((0 : Int) ≤ h)) && (decide (h < (Int.ofNat (List.length h2)))))
        (.br (! (v_bits_Set_Has (closed, closed1) (List.getD h2 (Int.toNat h) (dflt (.int .i64)))).1)
          (.br (v_bits_Set_Put (seen, seen1) (List.getD h2 (Int.toNat h) (dflt (.int .i64)))).1
            (.br ((decide ((0 : Int) ≤ (List.getD h2 (Int.toNat h) (dflt (.int .i64))))) && (decide ((List.getD h2 (Int.toNat h) (dflt (.int .i64))) < (Int.ofNat (List.length t)))))
              (.br (k_ins_Fence (List.getD t (Int.toNat (List.getD h2 (Int.toNat h) (dflt (.int .i64)))) (dflt T_api_Ins)))
                (.br (! (v_ins_Fence (List.getD t (Int.toNat (List.getD h2 (Int.toNat h) (dflt (.int .i64)))) (dflt T_api_Ins))))
                  (.br (Nat.ble (((List.length (List.take len open_)) + 1) * 8) limit)
                    (.jmp (.l17 (v_bits_Set_Has (closed, closed1) (List.getD h2 (Int.toNat h) (dflt (.int .i64)))).2.1 (v_bits_Set_Has (closed, closed1) (List.getD h2 (Int.toNat h) (dflt (.int .i64)))).2.2 (List.length ((List.take len open_) ++ [(List.getD h2 (Int.toNat h) (dflt (.int .i64)))])) (IntKind.i64.wrap (h + (1 : Int))) (v_bits_Set_Put (seen, seen1) (List.getD h2 (Int.toNat h) (dflt (.int .i64)))).2.1 ((List.take len open_) ++ [(List.getD h2 (Int.toNat h) (dflt (.int .i64)))]) (v_bits_Set_Put (seen, seen1) (List.getD h2 (Int.toNat h) (dflt (.int .i64)))).2.2 h1 h2))
                  (.no))
                (.jmp (.l17 (v_bits_Set_Has (closed, closed1) (List.getD h2 (Int.toNat h) (dflt (.int .i64)))).2.1 (v_bits_Set_Has (closed, closed1) (List.getD h2 (Int.toNat h) (dflt (.int .i64)))).2.2 len (IntKind.i64.wrap (h + (1 : Int))) (v_bits_Set_Put (seen, seen1) (List.getD h2 (Int.toNat h) (dflt (.int .i64)))).2.1 open_ (v_bits_Set_Put (seen, seen1) (List.getD h2 (Int.toNat h) (dflt (.int .i64)))).2.2 h1 h2)))
              (.no))
            (.no))
          (.jmp (.l17 (v_bits_Set_Has (closed, closed1) (List.getD h2 (Int.toNat h) (dflt (.int .i64)))).2.1 (v_bits_Set_Has (closed, closed1) (List.getD h2 (Int.toNat h) (dflt (.int .i64)))).2.2 len (IntKind.i64.wrap (h + (1 : Int))) (v_bits_Set_Put (seen, seen1) (List.getD h2 (Int.toNat h) (dflt (.int .i64)))).2.1 open_ (v_bits_Set_Put (seen, seen1) (List.getD h2 (Int.toNat h) (dflt (.int .i64)))).2.2 h1 h2)))
        (.jmp (.l17 (v_bits_Set_Has (closed, closed1) (List.getD h2 (Int.toNat h) (dflt (.int .i64)))).2.1 (v_bits_Set_Has (closed, closed1) (List.getD h2 (Int.toNat h) (dflt (.int .i64)))).2.2 len (IntKind.i64.wrap (h + (1 : Int))) seen open_ seen1 h1 h2)))
      (.no))
    (.jmp (.l11 closed closed1 len seen open_ seen1))
def T0_road_Ends (t : List (El T_api_Ins)) (points : List Int) (s : Int) : JT J_road_Ends (List Int) :=
  .jmp (.l4 (0 : Int) (v_bits_New (Int.ofNat (List.length t))).1 (v_bits_New (Int.ofNat (List.length t))).2)
def R_road_Ends : List Int → AV := fun (r : List Int) => .rw 3 (.int .i64) r
def S_road_Ends (t : List (El T_api_Ins)) (points : List Int) (s : Int) : J_road_Ends → Nat × St
  | .l4 h closed closed1 => (4, ⟨mkTm 82 [(2, .d (.int .i64) s), (3, .pt 4 0 0), (7, .pt 8 0 0), (8, .pt 9 0 0), (23, .d (.sl (.int .i64)) points), (24, .d (.int .i64) (Int.ofNat (List.length points))), (25, .d (.int .i64) h)], [(4, 0, .box 31 [.d (.sl T_api_Ins) t] none), (8, 0, .box 84 [.d (.int .i64) closed, .mp 8194 0] none), (9, 0, .box 84 [.d (.int .i64) (v_bits_New (Int.ofNat (List.length t))).1, .mp 9218 0] none), (8194, 0, .map (.int .i64) (.int .u64) closed1), (9218, 0, .map (.int .i64) (.int .u64) (v_bits_New (Int.ofNat (List.length t))).2)]⟩)
  | .l11 closed closed1 len seen open_ seen1 => (11, ⟨mkTm 82 [(3, .pt 4 0 0), (7, .pt 8 0 0), (8, .pt 9 0 0), (11, .own 12 0 (some len))], [(4, 0, .box 31 [.d (.sl T_api_Ins) t] none), (8, 0, .box 84 [.d (.int .i64) closed, .mp 8194 0] none), (9, 0, .box 84 [.d (.int .i64) seen, .mp 9218 0] none), (12, 0, .row 3 (.int .i64) open_ false), (8194, 0, .map (.int .i64) (.int .u64) closed1), (9218, 0, .map (.int .i64) (.int .u64) seen1)]⟩)
  | .l17 closed closed1 len h seen open_ seen1 h1 h2 => (17, ⟨mkTm 82 [(3, .pt 4 0 0), (7, .pt 8 0 0), (8, .pt 9 0 0), (11, .own 12 0 (some len)), (51, .own 52 0 none), (52, .d (.int .i64) h1), (53, .d (.int .i64) h)], [(4, 0, .box 31 [.d (.sl T_api_Ins) t] none), (8, 0, .box 84 [.d (.int .i64) closed, .mp 8194 0] none), (9, 0, .box 84 [.d (.int .i64) seen, .mp 9218 0] none), (12, 0, .row 3 (.int .i64) open_ false), (52, 0, .row 3 (.int .i64) h2 false), (8194, 0, .map (.int .i64) (.int .u64) closed1), (9218, 0, .map (.int .i64) (.int .u64) seen1)]⟩)
theorem en_road_Ends (t : List (El T_api_Ins)) (points : List Int) (s : Int) (L : Lt) : entryA Go.Proofs.Tryz.prog (clOf t_road_Ends) tb_road_Ends Go.Proofs.Tryz.f18 c_road_Ends L (toForms sg_road_Ends (t, points, s, ())) = (T0_road_Ends t points s).run (fun v => some (R_road_Ends v, tps (toForms sg_road_Ends (t, points, s, ())))) fun j => L (S_road_Ends t points s j).1 (S_road_Ends t points s j).2 := by kernel_rfl
theorem lp_road_Ends (t : List (El T_api_Ins)) (points : List Int) (s : Int) : ∀ (L : Lt) (j : J_road_Ends), procOf (procsF Go.Proofs.Tryz.prog (clOf t_road_Ends) tb_road_Ends Go.Proofs.Tryz.f18 c_road_Ends (toForms sg_road_Ends (t, points, s, ()))) (S_road_Ends t points s j).1 L (S_road_Ends t points s j).2 = (T_road_Ends t points s j).run (fun v => some (R_road_Ends v, tps (toForms sg_road_Ends (t, points, s, ())))) fun j => L (S_road_Ends t points s j).1 (S_road_Ends t points s j).2
  | L, .l4 h closed closed1 => by kernel_rfl
  | L, .l11 closed closed1 len seen open_ seen1 => by kernel_rfl
  | L, .l17 closed closed1 len h seen open_ seen1 h1 h2 => by kernel_rfl
end
end Go.Ev
end

section
set_option linter.unusedSectionVars false
set_option linter.unusedVariables false
set_option linter.unusedSimpArgs false
/- Where one comes to, over steps of numbers. -/
set_option linter.unusedVariables false
open Go
namespace Go.Ev

inductive Come (N : Nat → Nat → Bool) (A : Nat → Bool) : Nat → Prop
  | start {j : Nat} : A j = true → Come N A j
  | step {k j : Nat} : Come N A k → N k j = true → Come N A j
noncomputable def comeB (N : Nat → Nat → Bool) (A : Nat → Bool) (j : Nat) : Bool := @decide (Come N A j) (Classical.propDecidable _)
theorem comeB_iff {N : Nat → Nat → Bool} {A : Nat → Bool} {j : Nat} : comeB N A j = true ↔ Come N A j := @decide_eq_true_iff _ (Classical.propDecidable _)
/-- What holds the start, is closed, and is come to, is it. -/
theorem comeB_eq {N : Nat → Nat → Bool} {A M : Nat → Bool} (h1 : ∀ j, A j = true → M j = true) (h2 : ∀ k j, M k = true → N k j = true → M j = true) (h3 : ∀ j, M j = true → Come N A j) (j : Nat) : M j = comeB N A j := by
  rw [Bool.eq_iff_iff, comeB_iff]
  refine ⟨h3 j, fun h => ?_⟩
  induction h with
  | start h => exact h1 _ h
  | step _ h ih => exact h2 _ _ ih h
theorem come_lt {N : Nat → Nat → Bool} {A : Nat → Bool} {n : Nat} (hA : ∀ j, A j = true → j < n) (hN : ∀ k j, N k j = true → j < n) {j : Nat} (h : Come N A j) : j < n := by
  cases h with
  | start h => exact hA _ h
  | step _ h => exact hN _ _ h
theorem come_mono {N N' : Nat → Nat → Bool} {A A' : Nat → Bool} (hA : ∀ j, A j = true → A' j = true) (hN : ∀ k j, N k j = true → N' k j = true) {j : Nat} (h : Come N A j) : Come N' A' j := by
  induction h with
  | start h => exact .start (hA _ h)
  | step _ h ih => exact .step ih (hN _ _ h)

/-- How many. -/
def card (n : Nat) (M : Nat → Bool) : Nat := (List.range n).countP M
theorem card_le {n : Nat} {M : Nat → Bool} : card n M ≤ n := by
  have := List.countP_le_length (p := M) (l := List.range n)
  simpa [card] using this
theorem card_add {M : Nat → Bool} {i : Nat} (hM : M i = false) : ∀ {n : Nat}, i < n → card n (fun j => M j || (j == i)) = card n M + 1 := by
  intro n
  induction n with
  | zero => intro h; omega
  | succ n ih =>
    intro h
    unfold card at *
    rw [List.range_succ, List.countP_append, List.countP_append]
    by_cases hi : i = n
    · subst hi
      have e : (List.range i).countP (fun j => M j || (j == i)) = (List.range i).countP M := List.countP_congr fun j hj => by
        have := List.mem_range.1 hj
        have : (j == i) = false := by simp; omega
        rw [this, Bool.or_false]
      rw [e]
      simp [hM]
    · rw [ih (by omega)]
      have : (n == i) = false := by simp; omega
      simp [this]
      omega
theorem listOf_length {n : Nat} {M : Nat → Bool} : (listOf n M).length = card n M := by
  unfold listOf card
  rw [List.length_map, List.countP_eq_length_filter]
end Go.Ev
end

section
set_option linter.unusedSectionVars false
set_option linter.unusedVariables false
set_option linter.unusedSimpArgs false
/- To which instructions one comes. -/
set_option linter.unusedVariables false
open Go
namespace Go.Ev
/-- Does one come from i to j? -/
noncomputable def fromB (t : List (El T_api_Ins)) (i : Int) (j : Nat) : Bool := comeB (fun k j => nextB t (k : Int) j) (nextB t i) j
theorem fromB_lt {t : List (El T_api_Ins)} {i : Int} {j : Nat} (h : fromB t i j = true) : j < t.length := come_lt (fun j => nextB_lt) (fun k j => nextB_lt) (comeB_iff.1 h)
end Go.Ev
end

section
set_option linter.unusedSectionVars false
set_option linter.unusedVariables false
set_option linter.unusedSimpArgs false
/- What is a fence: the guard. -/
set_option maxRecDepth 100000
set_option linter.unusedVariables false
set_option linter.unusedSimpArgs false
open Go
namespace Go.Ev
theorem k_fence {i : El T_api_Ins} (h : smallText i.2.2.2.2.2.1 = true) : k_ins_Fence i = true := by
  have h0 : k_ins_Right i = true := h
  have a : k_ins_Locked i = true := by unfold k_ins_Locked; simp only [h0, cond_true, Bool.cond_self]
  unfold k_ins_Fence
  simp only [h0, a, cond_true, Bool.cond_self]
end Go.Ev
end

section
set_option linter.unusedSectionVars false
set_option linter.unusedVariables false
set_option linter.unusedSimpArgs false
/- Free ways. -/
set_option linter.unusedVariables false
open Go
namespace Go.Ev
def fenceAtT (t : List (El T_api_Ins)) (k : Nat) : Bool := v_ins_Fence (t.getD k (dflt T_api_Ins))
/-- A step past what is no fence, to what is no point. -/
def stepB (t : List (El T_api_Ins)) (points : List Int) (k j : Nat) : Bool := !fenceAtT t k && (nextB t (k : Int) j && !points.contains (j : Int))
def firstB (t : List (El T_api_Ins)) (points : List Int) (s : Int) (j : Nat) : Bool := nextB t s j && !points.contains (j : Int)
noncomputable def endsB (t : List (El T_api_Ins)) (points : List Int) (s : Int) (j : Nat) : Bool := comeB (stepB t points) (firstB t points s) j
theorem stepB_lt {t : List (El T_api_Ins)} {points : List Int} {k j : Nat} (h : stepB t points k j = true) : j < t.length := by
  unfold stepB at h
  simp only [Bool.and_eq_true] at h
  exact nextB_lt h.2.1
theorem firstB_lt {t : List (El T_api_Ins)} {points : List Int} {s : Int} {j : Nat} (h : firstB t points s j = true) : j < t.length := by
  unfold firstB at h
  simp only [Bool.and_eq_true] at h
  exact nextB_lt h.1
theorem endsB_lt {t : List (El T_api_Ins)} {points : List Int} {s : Int} {j : Nat} (h : endsB t points s j = true) : j < t.length := come_lt (fun j => firstB_lt) (fun k j => stepB_lt) (comeB_iff.1 h)
end Go.Ev
end

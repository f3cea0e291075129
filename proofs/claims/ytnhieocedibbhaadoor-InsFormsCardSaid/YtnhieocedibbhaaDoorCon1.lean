/- Part of the proof of: the law InsForms holds: of all ops with a register, a number, memory or nothing as either operand those may be that the table has -/
import Derived.Test.YtnhieocedibbhaaDoorCon0
section
set_option linter.unusedSectionVars false
set_option linter.unusedVariables false
set_option linter.unusedSimpArgs false
set_option maxRecDepth 100000
set_option linter.unusedVariables false
open Go Go.Ev
namespace Go.Ev
/-! ### paling/palinglaw7.alive -/
def sg_law7_alive : Sig := []
noncomputable def t_law7_alive : Tbl := [(20, e_ins_Reads), (18, e_ins_Right), (23, e_ins_Parts), (25, e_ins_Fence)]
theorem tk_law7_alive : ∀ p ∈ t_law7_alive, EntOK Go.Proofs.Tryd.prog p.1 p.2 := tbl_cons ok_ins_Reads (tbl_cons ok_ins_Right (tbl_cons ok_ins_Parts (tbl_cons ok_ins_Fence (tbl_nil))))
noncomputable def c_law7_alive : Code := Go.Proofs.Tryd.f15.body.getD .skip
def tb_law7_alive : Tb := []
def T_law7_alive : Empty → JT Empty (Bool) := fun j => nomatch j
def T0_law7_alive : JT Empty (Bool) :=
  .br (k_ins_Reads ((2 : Int), (false, ((0 : Int), (((3 : Int), ((0 : Int), ((0 : Int), (0 : Int)))), (((1 : Int), ((0 : Int), ((0 : Int), (0 : Int)))), ((bs []), [])))))))
    (.br (k_ins_Right ((2 : Int), (false, ((0 : Int), (((3 : Int), ((0 : Int), ((0 : Int), (0 : Int)))), (((1 : Int), ((0 : Int), ((0 : Int), (0 : Int)))), ((bs []), [])))))))
      (.br ((v_ins_Right ((2 : Int), (false, ((0 : Int), (((3 : Int), ((0 : Int), ((0 : Int), (0 : Int)))), (((1 : Int), ((0 : Int), ((0 : Int), (0 : Int)))), ((bs []), []))))))) == (0 : Int))
        (.br (k_ins_Parts ((2 : Int), (false, ((0 : Int), (((3 : Int), ((0 : Int), ((0 : Int), (0 : Int)))), (((1 : Int), ((0 : Int), ((0 : Int), (0 : Int)))), ((bs []), [])))))))
          (.br ((v_ins_Parts ((2 : Int), (false, ((0 : Int), (((3 : Int), ((0 : Int), ((0 : Int), (0 : Int)))), (((1 : Int), ((0 : Int), ((0 : Int), (0 : Int)))), ((bs []), []))))))) == (2 : Int))
            (.br (k_ins_Parts ((2 : Int), (true, ((0 : Int), (((3 : Int), ((0 : Int), ((0 : Int), (0 : Int)))), (((1 : Int), ((0 : Int), ((0 : Int), (0 : Int)))), ((bs []), [])))))))
              (.br ((v_ins_Parts ((2 : Int), (true, ((0 : Int), (((3 : Int), ((0 : Int), ((0 : Int), (0 : Int)))), (((1 : Int), ((0 : Int), ((0 : Int), (0 : Int)))), ((bs []), []))))))) == (1 : Int))
                (.br (k_ins_Fence ((2 : Int), (true, ((0 : Int), (((3 : Int), ((0 : Int), ((0 : Int), (0 : Int)))), (((1 : Int), ((0 : Int), ((0 : Int), (0 : Int)))), ((bs []), [])))))))
                  (.br (v_ins_Fence ((2 : Int), (true, ((0 : Int), (((3 : Int), ((0 : Int), ((0 : Int), (0 : Int)))), (((1 : Int), ((0 : Int), ((0 : Int), (0 : Int)))), ((bs []), [])))))))
                    (.br (k_ins_Fence ((2 : Int), (false, ((0 : Int), (((3 : Int), ((0 : Int), ((0 : Int), (0 : Int)))), (((1 : Int), ((0 : Int), ((0 : Int), (0 : Int)))), ((bs []), [])))))))
                      (.br (! (v_ins_Fence ((2 : Int), (false, ((0 : Int), (((3 : Int), ((0 : Int), ((0 : Int), (0 : Int)))), (((1 : Int), ((0 : Int), ((0 : Int), (0 : Int)))), ((bs []), []))))))))
                        (.br (v_ins_Reads ((2 : Int), (false, ((0 : Int), (((3 : Int), ((0 : Int), ((0 : Int), (0 : Int)))), (((1 : Int), ((0 : Int), ((0 : Int), (0 : Int)))), ((bs []), []))))))).2
                          (.br (((v_ins_Reads ((2 : Int), (false, ((0 : Int), (((3 : Int), ((0 : Int), ((0 : Int), (0 : Int)))), (((1 : Int), ((0 : Int), ((0 : Int), (0 : Int)))), ((bs []), []))))))).1.1 == (3 : Int)) && (((v_ins_Reads ((2 : Int), (false, ((0 : Int), (((3 : Int), ((0 : Int), ((0 : Int), (0 : Int)))), (((1 : Int), ((0 : Int), ((0 : Int), (0 : Int)))), ((bs []), []))))))).1.2.1 == (0 : Int)) && (((v_ins_Reads ((2 : Int), (false, ((0 : Int), (((3 : Int), ((0 : Int), ((0 : Int), (0 : Int)))), (((1 : Int), ((0 : Int), ((0 : Int), (0 : Int)))), ((bs []), []))))))).1.2.2.1 == (0 : Int)) && ((v_ins_Reads ((2 : Int), (false, ((0 : Int), (((3 : Int), ((0 : Int), ((0 : Int), (0 : Int)))), (((1 : Int), ((0 : Int), ((0 : Int), (0 : Int)))), ((bs []), []))))))).1.2.2.2 == (0 : Int)))))
                            (.br (k_ins_Right ((0 : Int), (false, ((0 : Int), (((0 : Int), ((0 : Int), ((0 : Int), (0 : Int)))), (((0 : Int), ((0 : Int), ((0 : Int), (0 : Int)))), ((bs []), [])))))))
                              (.leaf ((v_ins_Right ((0 : Int), (false, ((0 : Int), (((0 : Int), ((0 : Int), ((0 : Int), (0 : Int)))), (((0 : Int), ((0 : Int), ((0 : Int), (0 : Int)))), ((bs []), []))))))) == (4 : Int)))
                            (.no))
                          (.leaf false))
                        (.leaf false))
                      (.leaf false))
                    (.no))
                  (.leaf false))
                (.no))
              (.leaf false))
            (.no))
          (.leaf false))
        (.no))
      (.leaf false))
    (.no))
  (.no)
def v_law7_alive : Bool :=
  bif (k_ins_Reads ((2 : Int), (false, ((0 : Int), (((3 : Int), ((0 : Int), ((0 : Int), (0 : Int)))), (((1 : Int), ((0 : Int), ((0 : Int), (0 : Int)))), ((bs []), []))))))) then
    bif (k_ins_Right ((2 : Int), (false, ((0 : Int), (((3 : Int), ((0 : Int), ((0 : Int), (0 : Int)))), (((1 : Int), ((0 : Int), ((0 : Int), (0 : Int)))), ((bs []), []))))))) then
      bif ((v_ins_Right ((2 : Int), (false, ((0 : Int), (((3 : Int), ((0 : Int), ((0 : Int), (0 : Int)))), (((1 : Int), ((0 : Int), ((0 : Int), (0 : Int)))), ((bs []), []))))))) == (0 : Int)) then
        bif (k_ins_Parts ((2 : Int), (false, ((0 : Int), (((3 : Int), ((0 : Int), ((0 : Int), (0 : Int)))), (((1 : Int), ((0 : Int), ((0 : Int), (0 : Int)))), ((bs []), []))))))) then
          bif ((v_ins_Parts ((2 : Int), (false, ((0 : Int), (((3 : Int), ((0 : Int), ((0 : Int), (0 : Int)))), (((1 : Int), ((0 : Int), ((0 : Int), (0 : Int)))), ((bs []), []))))))) == (2 : Int)) then
            bif (k_ins_Parts ((2 : Int), (true, ((0 : Int), (((3 : Int), ((0 : Int), ((0 : Int), (0 : Int)))), (((1 : Int), ((0 : Int), ((0 : Int), (0 : Int)))), ((bs []), []))))))) then
              bif ((v_ins_Parts ((2 : Int), (true, ((0 : Int), (((3 : Int), ((0 : Int), ((0 : Int), (0 : Int)))), (((1 : Int), ((0 : Int), ((0 : Int), (0 : Int)))), ((bs []), []))))))) == (1 : Int)) then
                bif (k_ins_Fence ((2 : Int), (true, ((0 : Int), (((3 : Int), ((0 : Int), ((0 : Int), (0 : Int)))), (((1 : Int), ((0 : Int), ((0 : Int), (0 : Int)))), ((bs []), []))))))) then
                  bif (v_ins_Fence ((2 : Int), (true, ((0 : Int), (((3 : Int), ((0 : Int), ((0 : Int), (0 : Int)))), (((1 : Int), ((0 : Int), ((0 : Int), (0 : Int)))), ((bs []), []))))))) then
                    bif (k_ins_Fence ((2 : Int), (false, ((0 : Int), (((3 : Int), ((0 : Int), ((0 : Int), (0 : Int)))), (((1 : Int), ((0 : Int), ((0 : Int), (0 : Int)))), ((bs []), []))))))) then
                      bif (! (v_ins_Fence ((2 : Int), (false, ((0 : Int), (((3 : Int), ((0 : Int), ((0 : Int), (0 : Int)))), (((1 : Int), ((0 : Int), ((0 : Int), (0 : Int)))), ((bs []), [])))))))) then
                        bif (v_ins_Reads ((2 : Int), (false, ((0 : Int), (((3 : Int), ((0 : Int), ((0 : Int), (0 : Int)))), (((1 : Int), ((0 : Int), ((0 : Int), (0 : Int)))), ((bs []), []))))))).2 then
                          bif (((v_ins_Reads ((2 : Int), (false, ((0 : Int), (((3 : Int), ((0 : Int), ((0 : Int), (0 : Int)))), (((1 : Int), ((0 : Int), ((0 : Int), (0 : Int)))), ((bs []), []))))))).1.1 == (3 : Int)) && (((v_ins_Reads ((2 : Int), (false, ((0 : Int), (((3 : Int), ((0 : Int), ((0 : Int), (0 : Int)))), (((1 : Int), ((0 : Int), ((0 : Int), (0 : Int)))), ((bs []), []))))))).1.2.1 == (0 : Int)) && (((v_ins_Reads ((2 : Int), (false, ((0 : Int), (((3 : Int), ((0 : Int), ((0 : Int), (0 : Int)))), (((1 : Int), ((0 : Int), ((0 : Int), (0 : Int)))), ((bs []), []))))))).1.2.2.1 == (0 : Int)) && ((v_ins_Reads ((2 : Int), (false, ((0 : Int), (((3 : Int), ((0 : Int), ((0 : Int), (0 : Int)))), (((1 : Int), ((0 : Int), ((0 : Int), (0 : Int)))), ((bs []), []))))))).1.2.2.2 == (0 : Int))))) then
                            bif (k_ins_Right ((0 : Int), (false, ((0 : Int), (((0 : Int), ((0 : Int), ((0 : Int), (0 : Int)))), (((0 : Int), ((0 : Int), ((0 : Int), (0 : Int)))), ((bs []), []))))))) then
                              ((v_ins_Right ((0 : Int), (false, ((0 : Int), (((0 : Int), ((0 : Int), ((0 : Int), (0 : Int)))), (((0 : Int), ((0 : Int), ((0 : Int), (0 : Int)))), ((bs []), []))))))) == (4 : Int))
                            else false
                          else false
                        else false
                      else false
                    else false
                  else false
                else false
              else false
            else false
          else false
        else false
      else false
    else false
  else false
def k_law7_alive : Bool :=
  bif (k_ins_Reads ((2 : Int), (false, ((0 : Int), (((3 : Int), ((0 : Int), ((0 : Int), (0 : Int)))), (((1 : Int), ((0 : Int), ((0 : Int), (0 : Int)))), ((bs []), []))))))) then
    bif (k_ins_Right ((2 : Int), (false, ((0 : Int), (((3 : Int), ((0 : Int), ((0 : Int), (0 : Int)))), (((1 : Int), ((0 : Int), ((0 : Int), (0 : Int)))), ((bs []), []))))))) then
      bif ((v_ins_Right ((2 : Int), (false, ((0 : Int), (((3 : Int), ((0 : Int), ((0 : Int), (0 : Int)))), (((1 : Int), ((0 : Int), ((0 : Int), (0 : Int)))), ((bs []), []))))))) == (0 : Int)) then
        bif (k_ins_Parts ((2 : Int), (false, ((0 : Int), (((3 : Int), ((0 : Int), ((0 : Int), (0 : Int)))), (((1 : Int), ((0 : Int), ((0 : Int), (0 : Int)))), ((bs []), []))))))) then
          bif ((v_ins_Parts ((2 : Int), (false, ((0 : Int), (((3 : Int), ((0 : Int), ((0 : Int), (0 : Int)))), (((1 : Int), ((0 : Int), ((0 : Int), (0 : Int)))), ((bs []), []))))))) == (2 : Int)) then
            bif (k_ins_Parts ((2 : Int), (true, ((0 : Int), (((3 : Int), ((0 : Int), ((0 : Int), (0 : Int)))), (((1 : Int), ((0 : Int), ((0 : Int), (0 : Int)))), ((bs []), []))))))) then
              bif ((v_ins_Parts ((2 : Int), (true, ((0 : Int), (((3 : Int), ((0 : Int), ((0 : Int), (0 : Int)))), (((1 : Int), ((0 : Int), ((0 : Int), (0 : Int)))), ((bs []), []))))))) == (1 : Int)) then
                bif (k_ins_Fence ((2 : Int), (true, ((0 : Int), (((3 : Int), ((0 : Int), ((0 : Int), (0 : Int)))), (((1 : Int), ((0 : Int), ((0 : Int), (0 : Int)))), ((bs []), []))))))) then
                  bif (v_ins_Fence ((2 : Int), (true, ((0 : Int), (((3 : Int), ((0 : Int), ((0 : Int), (0 : Int)))), (((1 : Int), ((0 : Int), ((0 : Int), (0 : Int)))), ((bs []), []))))))) then
                    bif (k_ins_Fence ((2 : Int), (false, ((0 : Int), (((3 : Int), ((0 : Int), ((0 : Int), (0 : Int)))), (((1 : Int), ((0 : Int), ((0 : Int), (0 : Int)))), ((bs []), []))))))) then
                      bif (! (v_ins_Fence ((2 : Int), (false, ((0 : Int), (((3 : Int), ((0 : Int), ((0 : Int), (0 : Int)))), (((1 : Int), ((0 : Int), ((0 : Int), (0 : Int)))), ((bs []), [])))))))) then
                        bif (v_ins_Reads ((2 : Int), (false, ((0 : Int), (((3 : Int), ((0 : Int), ((0 : Int), (0 : Int)))), (((1 : Int), ((0 : Int), ((0 : Int), (0 : Int)))), ((bs []), []))))))).2 then
                          bif (((v_ins_Reads ((2 : Int), (false, ((0 : Int), (((3 : Int), ((0 : Int), ((0 : Int), (0 : Int)))), (((1 : Int), ((0 : Int), ((0 : Int), (0 : Int)))), ((bs []), []))))))).1.1 == (3 : Int)) && (((v_ins_Reads ((2 : Int), (false, ((0 : Int), (((3 : Int), ((0 : Int), ((0 : Int), (0 : Int)))), (((1 : Int), ((0 : Int), ((0 : Int), (0 : Int)))), ((bs []), []))))))).1.2.1 == (0 : Int)) && (((v_ins_Reads ((2 : Int), (false, ((0 : Int), (((3 : Int), ((0 : Int), ((0 : Int), (0 : Int)))), (((1 : Int), ((0 : Int), ((0 : Int), (0 : Int)))), ((bs []), []))))))).1.2.2.1 == (0 : Int)) && ((v_ins_Reads ((2 : Int), (false, ((0 : Int), (((3 : Int), ((0 : Int), ((0 : Int), (0 : Int)))), (((1 : Int), ((0 : Int), ((0 : Int), (0 : Int)))), ((bs []), []))))))).1.2.2.2 == (0 : Int))))) then
                            bif (k_ins_Right ((0 : Int), (false, ((0 : Int), (((0 : Int), ((0 : Int), ((0 : Int), (0 : Int)))), (((0 : Int), ((0 : Int), ((0 : Int), (0 : Int)))), ((bs []), []))))))) then
                              true
                            else false
                          else true
                        else true
                      else true
                    else false
                  else true
                else false
              else true
            else false
          else true
        else false
      else true
    else false
  else false
theorem g_law7_alive (hk : k_law7_alive = true) : Goes (T_law7_alive) (T0_law7_alive) (v_law7_alive) :=
  Goes.brk hk (fun hk =>
    Goes.brk hk (fun hk =>
      Goes.brk hk (fun hk =>
        Goes.brk hk (fun hk =>
          Goes.brk hk (fun hk =>
            Goes.brk hk (fun hk =>
              Goes.brk hk (fun hk =>
                Goes.brk hk (fun hk =>
                  Goes.brk hk (fun hk =>
                    Goes.brk hk (fun hk =>
                      Goes.brk hk (fun hk =>
                        Goes.brk hk (fun hk =>
                          Goes.brk hk (fun hk =>
                            Goes.brk hk (fun hk =>
                              Goes.leaf) (fun hk =>
                              Goes.nok hk)) (fun hk =>
                            Goes.leaf)) (fun hk =>
                          Goes.leaf)) (fun hk =>
                        Goes.leaf)) (fun hk =>
                      Goes.nok hk)) (fun hk =>
                    Goes.leaf)) (fun hk =>
                  Goes.nok hk)) (fun hk =>
                Goes.leaf)) (fun hk =>
              Goes.nok hk)) (fun hk =>
            Goes.leaf)) (fun hk =>
          Goes.nok hk)) (fun hk =>
        Goes.leaf)) (fun hk =>
      Goes.nok hk)) (fun hk =>
    Goes.nok hk)
def R_law7_alive : Bool → AV := fun (r : Bool) => .d .bool r
def S_law7_alive : Empty → Nat × St := fun j => nomatch j
theorem en_law7_alive (L : Lt) : entryA Go.Proofs.Tryd.prog (clOf t_law7_alive) tb_law7_alive Go.Proofs.Tryd.f15 c_law7_alive L (toForms sg_law7_alive (())) = (T0_law7_alive).run (fun v => some (R_law7_alive v, tps (toForms sg_law7_alive (())))) fun j => L (S_law7_alive j).1 (S_law7_alive j).2 := by kernel_rfl
theorem lp_law7_alive : ∀ (L : Lt) (j : Empty), procOf (procsF Go.Proofs.Tryd.prog (clOf t_law7_alive) tb_law7_alive Go.Proofs.Tryd.f15 c_law7_alive (toForms sg_law7_alive (()))) (S_law7_alive j).1 L (S_law7_alive j).2 = (T_law7_alive j).run (fun v => some (R_law7_alive v, tps (toForms sg_law7_alive (())))) fun j => L (S_law7_alive j).1 (S_law7_alive j).2 := fun L j => nomatch j
noncomputable def e_law7_alive : Run := entG sg_law7_alive R_law7_alive (fun a => k_law7_alive) (fun a => v_law7_alive)
theorem ok_law7_alive : EntOK Go.Proofs.Tryd.prog 15 e_law7_alive := entG_ok (tb := tb_law7_alive) (c := c_law7_alive) tk_law7_alive (by kernel_rfl) (by kernel_rfl) (by kernel_rfl) (fun a => by kernel_rfl) fun _ hk => evF_goes (c := c_law7_alive) (K := fun v => (R_law7_alive v, tps (toForms sg_law7_alive (())))) (S := S_law7_alive) (by kernel_rfl) (en_law7_alive) (lp_law7_alive) (g_law7_alive hk)
theorem co_law7_alive (hk : k_law7_alive = true) : CallOK Go.Proofs.Tryd.prog 15 (toForms sg_law7_alive (())) (R_law7_alive (v_law7_alive), tps (toForms sg_law7_alive (()))) := by
  obtain ⟨h1, h2⟩ := clOf_ok tk_law7_alive
  obtain ⟨n, hn⟩ := evF_goes (c := c_law7_alive) (K := fun v => (R_law7_alive v, tps (toForms sg_law7_alive (())))) (S := S_law7_alive) (by kernel_rfl) (en_law7_alive) (lp_law7_alive) (g_law7_alive hk)
  exact evF_sound (f := 15) (c := c_law7_alive) h1 h2 (by kernel_rfl) (by kernel_rfl) (by kernel_rfl) hn
end Go.Ev
end

section
set_option linter.unusedSectionVars false
set_option linter.unusedVariables false
set_option linter.unusedSimpArgs false
/- What is told of an instruction: `tells` is true. -/
set_option maxRecDepth 100000
set_option linter.unusedVariables false
set_option linter.unusedSimpArgs false
namespace Go.Ev
open Go
theorem k_alive7 : k_law7_alive = true := by decide
theorem v_alive7 : v_law7_alive = true := by decide

theorem nine (k : Int) : (k ≤ 9 ∧ decide (k > 9) = false) ∨ (9 < k ∧ decide (k > 9) = true) := by
  by_cases h : k ≤ 9
  · exact .inl ⟨h, by simp; omega⟩
  · exact .inr ⟨by omega, by simp; omega⟩
theorem right0_fits {i : El T_api_Ins} (h : v_ins_Right i = 0) : v_ins_fits i = true := by
  cases hf : v_ins_fits i with
  | true => rfl
  | false =>
    change u_ins_Right i = 0 at h
    unfold u_ins_Right at h
    simp only [hf, Bool.not_false, cond_true, Bool.cond_self] at h
    exact absurd h (by decide)
theorem right0_row {i : El T_api_Ins} (h : v_ins_Right i = 0) : (1 : Int) ≤ i.1 ∧ (show Int from i.1) ≤ 14 ∧ v_ref1_row i = true := by
  have hf := right0_fits h
  rw [fits_row] at hf
  simp only [Bool.and_eq_true, decide_eq_true_eq] at hf
  exact ⟨hf.1, hf.2.1, hf.2.2.1⟩
theorem row_low {i : El T_api_Ins} (h : v_ref1_row i = true) (h1 : (1 : Int) ≤ i.1) (h9 : (show Int from i.1) ≤ 9) : v_opnd_Right i.2.2.2.1 = true ∧ v_opnd_Right i.2.2.2.2.1 = true := by
  unfold v_ref1_row at h
  have e1 : decide ((show Int from i.1) < 1) = false := by simp; omega
  have e2 : decide ((show Int from i.1) > 9) = false := by simp; omega
  simp only [e1, e2, cond_false, right_eq] at h
  cases hA : v_opnd_Right i.2.2.2.1 with
  | false => rw [hA] at h; simp at h
  | true =>
    cases hB : v_opnd_Right i.2.2.2.2.1 with
    | false => rw [hA, hB] at h; simp at h
    | true => exact ⟨rfl, rfl⟩
theorem row_high {i : El T_api_Ins} (h : v_ref1_row i = true) (h9 : (9 : Int) < i.1) : (show Int from i.2.2.2.1.1) = 0 ∧ (show Int from i.2.2.2.2.1.1) = 0 := by
  unfold v_ref1_row at h
  have e1 : decide ((show Int from i.1) < 1) = false := by simp; omega
  have e2 : decide ((show Int from i.1) > 9) = true := by simp; omega
  simp only [e1, e2, cond_false, cond_true] at h
  simp only [Bool.cond_eq_ite, Bool.if_false_right, Bool.and_eq_true, beq_iff_eq, decide_eq_true_eq, Bool.decide_eq_true] at h
  exact ⟨h.1.1, h.2.1.1⟩
theorem mem_low {i : El T_api_Ins} (h : v_ins_Right i = 0) (h9 : (show Int from i.1) ≤ 9) : v_ins_memory i.2.2.2.1 = v_ref1_Memory i.2.2.2.1 ∧ v_ins_memory i.2.2.2.2.1 = v_ref1_Memory i.2.2.2.2.1 := by
  obtain ⟨h1, _, hr⟩ := right0_row h
  obtain ⟨a, b⟩ := row_low hr h1 h9
  constructor
  · rw [memory_eq, refMemory_eq, a, Bool.true_and]
  · rw [memory_eq, refMemory_eq, b, Bool.true_and]
theorem mem_high {i : El T_api_Ins} (h : v_ins_Right i = 0) (h9 : (9 : Int) < i.1) : v_ins_memory i.2.2.2.1 = false ∧ v_ins_memory i.2.2.2.2.1 = false := by
  obtain ⟨h1, _, hr⟩ := right0_row h
  obtain ⟨a, b⟩ := row_high hr h9
  constructor
  · rw [memory_eq, a]; simp
  · rw [memory_eq, b]; simp

theorem k_reads {i : El T_api_Ins} (h : smallText i.2.2.2.2.2.1 = true) : k_ins_Reads i = true ∧ k_ins_Writes i = true ∧ k_ins_Leads i = true ∧ k_ins_Locked i = true := by
  have h0 : k_ins_Right i = true := h
  unfold k_ins_Reads k_ins_Writes k_ins_Leads k_ins_Locked
  simp only [h0, cond_true, Bool.cond_self, and_self]
theorem k_refReads {i : El T_api_Ins} (h : smallText i.2.2.2.2.2.1 = true) : k_ref1_Reads i = true ∧ k_ref1_Writes i = true ∧ k_ref1_Leads i = true ∧ k_ref1_Locked i = true := by
  have h0 : k_ref1_InsRight i = true := h
  unfold k_ref1_Reads k_ref1_Writes k_ref1_Leads k_ref1_Locked
  simp only [h0, cond_true, Bool.cond_self, and_self]
theorem k_parts {i : El T_api_Ins} (h : smallText i.2.2.2.2.2.1 = true) : k_ins_Fence i = true ∧ k_ins_Parts i = true ∧ k_ref1_Fence i = true ∧ k_ref1_Parts i = true := by
  have h0 : k_ins_Right i = true := h
  have h1 : k_ref1_InsRight i = true := h
  obtain ⟨a1, a2, a3, a4⟩ := k_reads h
  obtain ⟨b1, b2, b3, b4⟩ := k_refReads h
  unfold k_ins_Fence k_ins_Parts k_ref1_Fence k_ref1_Parts
  simp only [h0, h1, a1, a2, a3, a4, b1, b2, b3, b4, cond_true, Bool.cond_self, and_self]

theorem reads_eq {i : El T_api_Ins} (h : smallText i.2.2.2.2.2.1 = true) : v_ref1_Reads i = v_ins_Reads i := by
  have h0 : k_ins_Right i = true := h
  have h1 : k_ref1_InsRight i = true := h
  unfold v_ref1_Reads v_ins_Reads v_ref1_InsRight
  simp only [h0, h1, cond_true]
  by_cases hr : v_ins_Right i = 0
  · simp only [hr, bne_self_eq_false, cond_false]
    rcases nine i.1 with ⟨h9, e⟩ | ⟨h9, e⟩
    · obtain ⟨a, b⟩ := mem_low hr h9
      rw [a, b, e, cond_false]
    · obtain ⟨a, b⟩ := mem_high hr h9
      rw [a, b, e]
      simp only [cond_true, cond_false]
  · have e : (v_ins_Right i != 0) = true := by simp [hr]
    simp only [e, cond_true]
theorem writes_eq {i : El T_api_Ins} (h : smallText i.2.2.2.2.2.1 = true) : v_ref1_Writes i = v_ins_Writes i := by
  have h0 : k_ins_Right i = true := h
  have h1 : k_ref1_InsRight i = true := h
  unfold v_ref1_Writes v_ins_Writes v_ref1_InsRight
  simp only [h0, h1, cond_true]
  by_cases hr : v_ins_Right i = 0
  · simp only [hr, bne_self_eq_false, cond_false]
    rcases nine i.1 with ⟨h9, e⟩ | ⟨h9, e⟩
    · obtain ⟨a, b⟩ := mem_low hr h9
      rw [a, e, cond_false]
      cases v_ref1_Memory i.2.2.2.1 <;> simp only [Bool.not_true, Bool.not_false, cond_true, cond_false, Bool.cond_self]
    · obtain ⟨a, b⟩ := mem_high hr h9
      rw [a, e]
      simp only [cond_true, Bool.not_false]
  · have e : (v_ins_Right i != 0) = true := by simp [hr]
    simp only [e, cond_true]
theorem leads_eq {i : El T_api_Ins} (h : smallText i.2.2.2.2.2.1 = true) : v_ref1_Leads i = v_ins_Leads i := by
  have h0 : k_ins_Right i = true := h
  have h1 : k_ref1_InsRight i = true := h
  unfold v_ref1_Leads v_ins_Leads v_ref1_InsRight v_ref1_Jumps
  simp only [h0, h1, cond_true]
  cases h10 : ((show Int from i.1) == 10) with
  | true => simp only [cond_true, bne, h10, Bool.not_true, cond_false]
  | false => simp only [cond_true, bne, h10, Bool.not_false, cond_false]
theorem locked_eq {i : El T_api_Ins} (h : smallText i.2.2.2.2.2.1 = true) : v_ref1_Locked i = v_ins_Locked i := by
  have h0 : k_ins_Right i = true := h
  have h1 : k_ref1_InsRight i = true := h
  unfold v_ref1_Locked v_ins_Locked v_ref1_InsRight
  simp only [h0, h1]
theorem fence_eq {i : El T_api_Ins} (h : smallText i.2.2.2.2.2.1 = true) : v_ref1_Fence i = v_ins_Fence i := by
  have h0 : k_ins_Right i = true := h
  have h1 : k_ref1_InsRight i = true := h
  obtain ⟨a1, a2, a3, a4⟩ := k_reads h
  obtain ⟨b1, b2, b3, b4⟩ := k_refReads h
  unfold v_ref1_Fence v_ins_Fence v_ref1_InsRight
  simp only [h0, h1, a4, b4, locked_eq h]
theorem parts_eq {i : El T_api_Ins} (h : smallText i.2.2.2.2.2.1 = true) : v_ref1_Parts i = v_ins_Parts i := by
  have h0 : k_ins_Right i = true := h
  have h1 : k_ref1_InsRight i = true := h
  obtain ⟨a1, a2, a3, a4⟩ := k_reads h
  obtain ⟨b1, b2, b3, b4⟩ := k_refReads h
  unfold v_ref1_Parts v_ins_Parts v_ref1_InsRight
  simp only [h0, h1, a1, b1, a2, b2, a4, b4, locked_eq h, writes_eq h, reads_eq h]

theorem tells_true {i : El T_api_Ins} (h : smallText i.2.2.2.2.2.1 = true) : k_law7_tells i = true ∧ v_law7_tells i = true := by
  have h0 : k_ins_Right i = true := h
  have h1 : k_ref1_InsRight i = true := h
  obtain ⟨a1, a2, a3, a4⟩ := k_reads h
  obtain ⟨b1, b2, b3, b4⟩ := k_refReads h
  obtain ⟨c1, c2, c3, c4⟩ := k_parts h
  have hb : ∀ x : Bool, (x == x) = true := fun x => by simp
  have hi : ∀ x : Int, (x == x) = true := fun x => by simp
  unfold k_law7_tells v_law7_tells v_ref1_InsRight
  simp only [h0, h1, a1, a2, a3, a4, b1, b2, b3, b4, c1, c2, c3, c4, reads_eq h, writes_eq h, leads_eq h, locked_eq h, fence_eq h, parts_eq h, hb, hi, cond_true, Bool.and_self, and_self, beq_self_eq_true]
end Go.Ev
end

section
set_option linter.unusedSectionVars false
set_option linter.unusedVariables false
set_option linter.unusedSimpArgs false
set_option maxRecDepth 100000
set_option linter.unusedVariables false
open Go Go.Ev
namespace Go.Ev
/-! ### paling/palingbook.Pick -/
def sg_book_Pick : Sig := [(false, (.int .i64)), (false, (.int .i64))]
noncomputable def t_book_Pick : Tbl := []
theorem tk_book_Pick : ∀ p ∈ t_book_Pick, EntOK Go.Proofs.Tryd.prog p.1 p.2 := tbl_nil
noncomputable def c_book_Pick : Code := Go.Proofs.Tryd.f19.body.getD .skip
def tb_book_Pick : Tb := []
def T_book_Pick (n : Int) (m : Int) : Empty → JT Empty (Int) := fun j => nomatch j
def T0_book_Pick (n : Int) (m : Int) : JT Empty (Int) :=
  .br (m == (0 : Int))
    (.no)
  (.br (decide ((Int.tmod n m) < (0 : Int)))
    (.leaf (IntKind.i64.wrap ((Int.tmod n m) + m)))
  (.leaf (Int.tmod n m)))
def v_book_Pick (n : Int) (m : Int) : Int :=
  bif (m == (0 : Int)) then
    (0 : Int)
  else bif (decide ((Int.tmod n m) < (0 : Int))) then
    (IntKind.i64.wrap ((Int.tmod n m) + m))
  else (Int.tmod n m)
def k_book_Pick (n : Int) (m : Int) : Bool :=
  bif (m == (0 : Int)) then
    false
  else bif (decide ((Int.tmod n m) < (0 : Int))) then
    true
  else true
theorem g_book_Pick (n : Int) (m : Int) (hk : k_book_Pick n m = true) : Goes (T_book_Pick n m) (T0_book_Pick n m) (v_book_Pick n m) :=
  Goes.brk hk (fun hk =>
    Goes.nok hk) (fun hk =>
    Goes.brk hk (fun hk =>
      Goes.leaf) (fun hk =>
      Goes.leaf))
def R_book_Pick : Int → AV := fun (r : Int) => .d (.int .i64) r
def S_book_Pick (n : Int) (m : Int) : Empty → Nat × St := fun j => nomatch j
theorem en_book_Pick (n : Int) (m : Int) (L : Lt) : entryA Go.Proofs.Tryd.prog (clOf t_book_Pick) tb_book_Pick Go.Proofs.Tryd.f19 c_book_Pick L (toForms sg_book_Pick (n, m, ())) = (T0_book_Pick n m).run (fun v => some (R_book_Pick v, tps (toForms sg_book_Pick (n, m, ())))) fun j => L (S_book_Pick n m j).1 (S_book_Pick n m j).2 := by kernel_rfl
theorem lp_book_Pick (n : Int) (m : Int) : ∀ (L : Lt) (j : Empty), procOf (procsF Go.Proofs.Tryd.prog (clOf t_book_Pick) tb_book_Pick Go.Proofs.Tryd.f19 c_book_Pick (toForms sg_book_Pick (n, m, ()))) (S_book_Pick n m j).1 L (S_book_Pick n m j).2 = (T_book_Pick n m j).run (fun v => some (R_book_Pick v, tps (toForms sg_book_Pick (n, m, ())))) fun j => L (S_book_Pick n m j).1 (S_book_Pick n m j).2 := fun L j => nomatch j
noncomputable def e_book_Pick : Run := entG sg_book_Pick R_book_Pick (fun a => k_book_Pick a.1 a.2.1) (fun a => v_book_Pick a.1 a.2.1)
theorem ok_book_Pick : EntOK Go.Proofs.Tryd.prog 19 e_book_Pick := entG_ok (tb := tb_book_Pick) (c := c_book_Pick) tk_book_Pick (by kernel_rfl) (by kernel_rfl) (by kernel_rfl) (fun a => by kernel_rfl) fun ⟨n, m, _⟩ hk => evF_goes (c := c_book_Pick) (K := fun v => (R_book_Pick v, tps (toForms sg_book_Pick (n, m, ())))) (S := S_book_Pick n m) (by kernel_rfl) (en_book_Pick n m) (lp_book_Pick n m) (g_book_Pick n m hk)
end Go.Ev
end

section
set_option linter.unusedSectionVars false
set_option linter.unusedVariables false
set_option linter.unusedSimpArgs false
set_option maxRecDepth 100000
set_option linter.unusedVariables false
open Go Go.Ev
namespace Go.Ev
/-! ### paling/palinglaw7.InsForms -/
def sg_law7_InsForms : Sig := [(false, (.int .i64)), (false, (.int .i64)), (false, (.int .i64)), (false, (.int .i64)), (false, .bool)]
noncomputable def t_law7_InsForms : Tbl := [(19, e_book_Pick), (16, e_law7_tells), (15, e_law7_alive)]
theorem tk_law7_InsForms : ∀ p ∈ t_law7_InsForms, EntOK Go.Proofs.Tryd.prog p.1 p.2 := tbl_cons ok_book_Pick (tbl_cons ok_law7_tells (tbl_cons ok_law7_alive (tbl_nil)))
noncomputable def c_law7_InsForms : Code := Go.Proofs.Tryd.f5.body.getD .skip
def tb_law7_InsForms : Tb := [(5, ⟨[12, 52], []⟩)]
inductive J_law7_InsForms where
  | l5 (x : Int) (x1 : Int) (x2 : Int) (x3 : Int) (x4 : Int) (x5 : Int) (x6 : Int) (x7 : Int) (x8 : Int) (x9 : ByteArray)
def T_law7_InsForms (op : Int) (a : Int) (b : Int) (cond : Int) (lock : Bool) : J_law7_InsForms → JT J_law7_InsForms (Bool)
  | .l5 x x1 x2 x3 x4 x5 x6 x7 x8 x9 =>
    .br (k_law7_tells ((v_book_Pick op (16 : Int)), (lock, (x8, ((x, (x1, (x2, x3))), ((x4, (x5, (x6, x7))), (x9, [])))))))
      (.br (v_law7_tells ((v_book_Pick op (16 : Int)), (lock, (x8, ((x, (x1, (x2, x3))), ((x4, (x5, (x6, x7))), (x9, [])))))))
        (.br k_law7_alive
          (.leaf v_law7_alive)
        (.no))
      (.leaf false))
    (.no)
def T0_law7_InsForms (op : Int) (a : Int) (b : Int) (cond : Int) (lock : Bool) : JT J_law7_InsForms (Bool) :=
  .br (k_book_Pick op (16 : Int))
    (.br (k_book_Pick a (5 : Int))
      (.br ((decide ((0 : Int) ≤ (v_book_Pick a (5 : Int)))) && (decide ((v_book_Pick a (5 : Int)) < (5 : Int))))
        (.br (k_book_Pick b (5 : Int))
          (.br ((decide ((0 : Int) ≤ (v_book_Pick b (5 : Int)))) && (decide ((v_book_Pick b (5 : Int)) < (5 : Int))))
            (.br ((v_book_Pick op (16 : Int)) == (10 : Int))
              (.br ((v_book_Pick op (16 : Int)) == (11 : Int))
                (.br (k_book_Pick cond (10 : Int))
                  (.jmp (.l5 (List.getD [((0 : Int), ((0 : Int), ((0 : Int), (0 : Int)))), ((1 : Int), ((3 : Int), ((0 : Int), (0 : Int)))), ((2 : Int), ((0 : Int), ((0 : Int), (-5 : Int)))), ((3 : Int), ((0 : Int), ((1 : Int), (2 : Int)))), ((4 : Int), ((2 : Int), ((1 : Int), (0 : Int))))] (Int.toNat (v_book_Pick a (5 : Int))) (dflt T_api_Opd)).1 (List.getD [((0 : Int), ((0 : Int), ((0 : Int), (0 : Int)))), ((1 : Int), ((3 : Int), ((0 : Int), (0 : Int)))), ((2 : Int), ((0 : Int), ((0 : Int), (-5 : Int)))), ((3 : Int), ((0 : Int), ((1 : Int), (2 : Int)))), ((4 : Int), ((2 : Int), ((1 : Int), (0 : Int))))] (Int.toNat (v_book_Pick a (5 : Int))) (dflt T_api_Opd)).2.1 (List.getD [((0 : Int), ((0 : Int), ((0 : Int), (0 : Int)))), ((1 : Int), ((3 : Int), ((0 : Int), (0 : Int)))), ((2 : Int), ((0 : Int), ((0 : Int), (-5 : Int)))), ((3 : Int), ((0 : Int), ((1 : Int), (2 : Int)))), ((4 : Int), ((2 : Int), ((1 : Int), (0 : Int))))] (Int.toNat (v_book_Pick a (5 : Int))) (dflt T_api_Opd)).2.2.1 (List.getD [((0 : Int), ((0 : Int), ((0 : Int), (0 : Int)))), ((1 : Int), ((3 : Int), ((0 : Int), (0 : Int)))), ((2 : Int), ((0 : Int), ((0 : Int), (-5 : Int)))), ((3 : Int), ((0 : Int), ((1 : Int), (2 : Int)))), ((4 : Int), ((2 : Int), ((1 : Int), (0 : Int))))] (Int.toNat (v_book_Pick a (5 : Int))) (dflt T_api_Opd)).2.2.2 (List.getD [((0 : Int), ((0 : Int), ((0 : Int), (0 : Int)))), ((1 : Int), ((3 : Int), ((0 : Int), (0 : Int)))), ((2 : Int), ((0 : Int), ((0 : Int), (-5 : Int)))), ((3 : Int), ((0 : Int), ((1 : Int), (2 : Int)))), ((4 : Int), ((2 : Int), ((1 : Int), (0 : Int))))] (Int.toNat (v_book_Pick b (5 : Int))) (dflt T_api_Opd)).1 (List.getD [((0 : Int), ((0 : Int), ((0 : Int), (0 : Int)))), ((1 : Int), ((3 : Int), ((0 : Int), (0 : Int)))), ((2 : Int), ((0 : Int), ((0 : Int), (-5 : Int)))), ((3 : Int), ((0 : Int), ((1 : Int), (2 : Int)))), ((4 : Int), ((2 : Int), ((1 : Int), (0 : Int))))] (Int.toNat (v_book_Pick b (5 : Int))) (dflt T_api_Opd)).2.1 (List.getD [((0 : Int), ((0 : Int), ((0 : Int), (0 : Int)))), ((1 : Int), ((3 : Int), ((0 : Int), (0 : Int)))), ((2 : Int), ((0 : Int), ((0 : Int), (-5 : Int)))), ((3 : Int), ((0 : Int), ((1 : Int), (2 : Int)))), ((4 : Int), ((2 : Int), ((1 : Int), (0 : Int))))] (Int.toNat (v_book_Pick b (5 : Int))) (dflt T_api_Opd)).2.2.1 (List.getD [((0 : Int), ((0 : Int), ((0 : Int), (0 : Int)))), ((1 : Int), ((3 : Int), ((0 : Int), (0 : Int)))), ((2 : Int), ((0 : Int), ((0 : Int), (-5 : Int)))), ((3 : Int), ((0 : Int), ((1 : Int), (2 : Int)))), ((4 : Int), ((2 : Int), ((1 : Int), (0 : Int))))] (Int.toNat (v_book_Pick b (5 : Int))) (dflt T_api_Opd)).2.2.2 (IntKind.i64.wrap ((1 : Int) + (v_book_Pick cond (10 : Int)))) (bs [116, 111, 112])))
                (.no))
              (.jmp (.l5 (List.getD [((0 : Int), ((0 : Int), ((0 : Int), (0 : Int)))), ((1 : Int), ((3 : Int), ((0 : Int), (0 : Int)))), ((2 : Int), ((0 : Int), ((0 : Int), (-5 : Int)))), ((3 : Int), ((0 : Int), ((1 : Int), (2 : Int)))), ((4 : Int), ((2 : Int), ((1 : Int), (0 : Int))))] (Int.toNat (v_book_Pick a (5 : Int))) (dflt T_api_Opd)).1 (List.getD [((0 : Int), ((0 : Int), ((0 : Int), (0 : Int)))), ((1 : Int), ((3 : Int), ((0 : Int), (0 : Int)))), ((2 : Int), ((0 : Int), ((0 : Int), (-5 : Int)))), ((3 : Int), ((0 : Int), ((1 : Int), (2 : Int)))), ((4 : Int), ((2 : Int), ((1 : Int), (0 : Int))))] (Int.toNat (v_book_Pick a (5 : Int))) (dflt T_api_Opd)).2.1 (List.getD [((0 : Int), ((0 : Int), ((0 : Int), (0 : Int)))), ((1 : Int), ((3 : Int), ((0 : Int), (0 : Int)))), ((2 : Int), ((0 : Int), ((0 : Int), (-5 : Int)))), ((3 : Int), ((0 : Int), ((1 : Int), (2 : Int)))), ((4 : Int), ((2 : Int), ((1 : Int), (0 : Int))))] (Int.toNat (v_book_Pick a (5 : Int))) (dflt T_api_Opd)).2.2.1 (List.getD [((0 : Int), ((0 : Int), ((0 : Int), (0 : Int)))), ((1 : Int), ((3 : Int), ((0 : Int), (0 : Int)))), ((2 : Int), ((0 : Int), ((0 : Int), (-5 : Int)))), ((3 : Int), ((0 : Int), ((1 : Int), (2 : Int)))), ((4 : Int), ((2 : Int), ((1 : Int), (0 : Int))))] (Int.toNat (v_book_Pick a (5 : Int))) (dflt T_api_Opd)).2.2.2 (List.getD [((0 : Int), ((0 : Int), ((0 : Int), (0 : Int)))), ((1 : Int), ((3 : Int), ((0 : Int), (0 : Int)))), ((2 : Int), ((0 : Int), ((0 : Int), (-5 : Int)))), ((3 : Int), ((0 : Int), ((1 : Int), (2 : Int)))), ((4 : Int), ((2 : Int), ((1 : Int), (0 : Int))))] (Int.toNat (v_book_Pick b (5 : Int))) (dflt T_api_Opd)).1 (List.getD [((0 : Int), ((0 : Int), ((0 : Int), (0 : Int)))), ((1 : Int), ((3 : Int), ((0 : Int), (0 : Int)))), ((2 : Int), ((0 : Int), ((0 : Int), (-5 : Int)))), ((3 : Int), ((0 : Int), ((1 : Int), (2 : Int)))), ((4 : Int), ((2 : Int), ((1 : Int), (0 : Int))))] (Int.toNat (v_book_Pick b (5 : Int))) (dflt T_api_Opd)).2.1 (List.getD [((0 : Int), ((0 : Int), ((0 : Int), (0 : Int)))), ((1 : Int), ((3 : Int), ((0 : Int), (0 : Int)))), ((2 : Int), ((0 : Int), ((0 : Int), (-5 : Int)))), ((3 : Int), ((0 : Int), ((1 : Int), (2 : Int)))), ((4 : Int), ((2 : Int), ((1 : Int), (0 : Int))))] (Int.toNat (v_book_Pick b (5 : Int))) (dflt T_api_Opd)).2.2.1 (List.getD [((0 : Int), ((0 : Int), ((0 : Int), (0 : Int)))), ((1 : Int), ((3 : Int), ((0 : Int), (0 : Int)))), ((2 : Int), ((0 : Int), ((0 : Int), (-5 : Int)))), ((3 : Int), ((0 : Int), ((1 : Int), (2 : Int)))), ((4 : Int), ((2 : Int), ((1 : Int), (0 : Int))))] (Int.toNat (v_book_Pick b (5 : Int))) (dflt T_api_Opd)).2.2.2 (0 : Int) (bs [116, 111, 112]))))
            (.br ((v_book_Pick op (16 : Int)) == (11 : Int))
              (.br ((v_book_Pick op (16 : Int)) == (11 : Int))
                (.br (k_book_Pick cond (10 : Int))
                  (.jmp (.l5 (List.getD [((0 : Int), ((0 : Int), ((0 : Int), (0 : Int)))), ((1 : Int), ((3 : Int), ((0 : Int), (0 : Int)))), ((2 : Int), ((0 : Int), ((0 : Int), (-5 : Int)))), ((3 : Int), ((0 : Int), ((1 : Int), (2 : Int)))), ((4 : Int), ((2 : Int), ((1 : Int), (0 : Int))))] (Int.toNat (v_book_Pick a (5 : Int))) (dflt T_api_Opd)).1 (List.getD [((0 : Int), ((0 : Int), ((0 : Int), (0 : Int)))), ((1 : Int), ((3 : Int), ((0 : Int), (0 : Int)))), ((2 : Int), ((0 : Int), ((0 : Int), (-5 : Int)))), ((3 : Int), ((0 : Int), ((1 : Int), (2 : Int)))), ((4 : Int), ((2 : Int), ((1 : Int), (0 : Int))))] (Int.toNat (v_book_Pick a (5 : Int))) (dflt T_api_Opd)).2.1 (List.getD [((0 : Int), ((0 : Int), ((0 : Int), (0 : Int)))), ((1 : Int), ((3 : Int), ((0 : Int), (0 : Int)))), ((2 : Int), ((0 : Int), ((0 : Int), (-5 : Int)))), ((3 : Int), ((0 : Int), ((1 : Int), (2 : Int)))), ((4 : Int), ((2 : Int), ((1 : Int), (0 : Int))))] (Int.toNat (v_book_Pick a (5 : Int))) (dflt T_api_Opd)).2.2.1 (List.getD [((0 : Int), ((0 : Int), ((0 : Int), (0 : Int)))), ((1 : Int), ((3 : Int), ((0 : Int), (0 : Int)))), ((2 : Int), ((0 : Int), ((0 : Int), (-5 : Int)))), ((3 : Int), ((0 : Int), ((1 : Int), (2 : Int)))), ((4 : Int), ((2 : Int), ((1 : Int), (0 : Int))))] (Int.toNat (v_book_Pick a (5 : Int))) (dflt T_api_Opd)).2.2.2 (List.getD [((0 : Int), ((0 : Int), ((0 : Int), (0 : Int)))), ((1 : Int), ((3 : Int), ((0 : Int), (0 : Int)))), ((2 : Int), ((0 : Int), ((0 : Int), (-5 : Int)))), ((3 : Int), ((0 : Int), ((1 : Int), (2 : Int)))), ((4 : Int), ((2 : Int), ((1 : Int), (0 : Int))))] (Int.toNat (v_book_Pick b (5 : Int))) (dflt T_api_Opd)).1 (List.getD [((0 : Int), ((0 : Int), ((0 : Int), (0 : Int)))), ((1 : Int), ((3 : Int), ((0 : Int), (0 : Int)))), ((2 : Int), ((0 : Int), ((0 : Int), (-5 : Int)))), ((3 : Int), ((0 : Int), ((1 : Int), (2 : Int)))), ((4 : Int), ((2 : Int), ((1 : Int), (0 : Int))))] (Int.toNat (v_book_Pick b (5 : Int))) (dflt T_api_Opd)).2.1 (List.getD [((0 : Int), ((0 : Int), ((0 : Int), (0 : Int)))), ((1 : Int), ((3 : Int), ((0 : Int), (0 : Int)))), ((2 : Int), ((0 : Int), ((0 : Int), (-5 : Int)))), ((3 : Int), ((0 : Int), ((1 : Int), (2 : Int)))), ((4 : Int), ((2 : Int), ((1 : Int), (0 : Int))))] (Int.toNat (v_book_Pick b (5 : Int))) (dflt T_api_Opd)).2.2.1 (List.getD [((0 : Int), ((0 : Int), ((0 : Int), (0 : Int)))), ((1 : Int), ((3 : Int), ((0 : Int), (0 : Int)))), ((2 : Int), ((0 : Int), ((0 : Int), (-5 : Int)))), ((3 : Int), ((0 : Int), ((1 : Int), (2 : Int)))), ((4 : Int), ((2 : Int), ((1 : Int), (0 : Int))))] (Int.toNat (v_book_Pick b (5 : Int))) (dflt T_api_Opd)).2.2.2 (IntKind.i64.wrap ((1 : Int) + (v_book_Pick cond (10 : Int)))) (bs [116, 111, 112])))
                (.no))
              (.jmp (.l5 (List.getD [((0 : Int), ((0 : Int), ((0 : Int), (0 : Int)))), ((1 : Int), ((3 : Int), ((0 : Int), (0 : Int)))), ((2 : Int), ((0 : Int), ((0 : Int), (-5 : Int)))), ((3 : Int), ((0 : Int), ((1 : Int), (2 : Int)))), ((4 : Int), ((2 : Int), ((1 : Int), (0 : Int))))] (Int.toNat (v_book_Pick a (5 : Int))) (dflt T_api_Opd)).1 (List.getD [((0 : Int), ((0 : Int), ((0 : Int), (0 : Int)))), ((1 : Int), ((3 : Int), ((0 : Int), (0 : Int)))), ((2 : Int), ((0 : Int), ((0 : Int), (-5 : Int)))), ((3 : Int), ((0 : Int), ((1 : Int), (2 : Int)))), ((4 : Int), ((2 : Int), ((1 : Int), (0 : Int))))] (Int.toNat (v_book_Pick a (5 : Int))) (dflt T_api_Opd)).2.1 (List.getD [((0 : Int), ((0 : Int), ((0 : Int), (0 : Int)))), ((1 : Int), ((3 : Int), ((0 : Int), (0 : Int)))), ((2 : Int), ((0 : Int), ((0 : Int), (-5 : Int)))), ((3 : Int), ((0 : Int), ((1 : Int), (2 : Int)))), ((4 : Int), ((2 : Int), ((1 : Int), (0 : Int))))] (Int.toNat (v_book_Pick a (5 : Int))) (dflt T_api_Opd)).2.2.1 (List.getD [((0 : Int), ((0 : Int), ((0 : Int), (0 : Int)))), ((1 : Int), ((3 : Int), ((0 : Int), (0 : Int)))), ((2 : Int), ((0 : Int), ((0 : Int), (-5 : Int)))), ((3 : Int), ((0 : Int), ((1 : Int), (2 : Int)))), ((4 : Int), ((2 : Int), ((1 : Int), (0 : Int))))] (Int.toNat (v_book_Pick a (5 : Int))) (dflt T_api_Opd)).2.2.2 (List.getD [((0 : Int), ((0 : Int), ((0 : Int), (0 : Int)))), ((1 : Int), ((3 : Int), ((0 : Int), (0 : Int)))), ((2 : Int), ((0 : Int), ((0 : Int), (-5 : Int)))), ((3 : Int), ((0 : Int), ((1 : Int), (2 : Int)))), ((4 : Int), ((2 : Int), ((1 : Int), (0 : Int))))] (Int.toNat (v_book_Pick b (5 : Int))) (dflt T_api_Opd)).1 (List.getD [((0 : Int), ((0 : Int), ((0 : Int), (0 : Int)))), ((1 : Int), ((3 : Int), ((0 : Int), (0 : Int)))), ((2 : Int), ((0 : Int), ((0 : Int), (-5 : Int)))), ((3 : Int), ((0 : Int), ((1 : Int), (2 : Int)))), ((4 : Int), ((2 : Int), ((1 : Int), (0 : Int))))] (Int.toNat (v_book_Pick b (5 : Int))) (dflt T_api_Opd)).2.1 (List.getD [((0 : Int), ((0 : Int), ((0 : Int), (0 : Int)))), ((1 : Int), ((3 : Int), ((0 : Int), (0 : Int)))), ((2 : Int), ((0 : Int), ((0 : Int), (-5 : Int)))), ((3 : Int), ((0 : Int), ((1 : Int), (2 : Int)))), ((4 : Int), ((2 : Int), ((1 : Int), (0 : Int))))] (Int.toNat (v_book_Pick b (5 : Int))) (dflt T_api_Opd)).2.2.1 (List.getD [((0 : Int), ((0 : Int), ((0 : Int), (0 : Int)))), ((1 : Int), ((3 : Int), ((0 : Int), (0 : Int)))), ((2 : Int), ((0 : Int), ((0 : Int), (-5 : Int)))), ((3 : Int), ((0 : Int), ((1 : Int), (2 : Int)))), ((4 : Int), ((2 : Int), ((1 : Int), (0 : Int))))] (Int.toNat (v_book_Pick b (5 : Int))) (dflt T_api_Opd)).2.2.2 (0 : Int) (bs [116, 111, 112]))))
            (.br ((v_book_Pick op (16 : Int)) == (11 : Int))
              (.br (k_book_Pick cond (10 : Int))
                (.jmp (.l5 (List.getD [((0 : Int), ((0 : Int), ((0 : Int), (0 : Int)))), ((1 : Int), ((3 : Int), ((0 : Int), (0 : Int)))), ((2 : Int), ((0 : Int), ((0 : Int), (-5 : Int)))), ((3 : Int), ((0 : Int), ((1 : Int), (2 : Int)))), ((4 : Int), ((2 : Int), ((1 : Int), (0 : Int))))] (Int.toNat (v_book_Pick a (5 : Int))) (dflt T_api_Opd)).1 (List.getD [((0 : Int), ((0 : Int), ((0 : Int), (0 : Int)))), ((1 : Int), ((3 : Int), ((0 : Int), (0 : Int)))), ((2 : Int), ((0 : Int), ((0 : Int), (-5 : Int)))), ((3 : Int), ((0 : Int), ((1 : Int), (2 : Int)))), ((4 : Int), ((2 : Int), ((1 : Int), (0 : Int))))] (Int.toNat (v_book_Pick a (5 : Int))) (dflt T_api_Opd)).2.1 (List.getD [((0 : Int), ((0 : Int), ((0 : Int), (0 : Int)))), ((1 : Int), ((3 : Int), ((0 : Int), (0 : Int)))), ((2 : Int), ((0 : Int), ((0 : Int), (-5 : Int)))), ((3 : Int), ((0 : Int), ((1 : Int), (2 : Int)))), ((4 : Int), ((2 : Int), ((1 : Int), (0 : Int))))] (Int.toNat (v_book_Pick a (5 : Int))) (dflt T_api_Opd)).2.2.1 (List.getD [((0 : Int), ((0 : Int), ((0 : Int), (0 : Int)))), ((1 : Int), ((3 : Int), ((0 : Int), (0 : Int)))), ((2 : Int), ((0 : Int), ((0 : Int), (-5 : Int)))), ((3 : Int), ((0 : Int), ((1 : Int), (2 : Int)))), ((4 : Int), ((2 : Int), ((1 : Int), (0 : Int))))] (Int.toNat (v_book_Pick a (5 : Int))) (dflt T_api_Opd)).2.2.2 (List.getD [((0 : Int), ((0 : Int), ((0 : Int), (0 : Int)))), ((1 : Int), ((3 : Int), ((0 : Int), (0 : Int)))), ((2 : Int), ((0 : Int), ((0 : Int), (-5 : Int)))), ((3 : Int), ((0 : Int), ((1 : Int), (2 : Int)))), ((4 : Int), ((2 : Int), ((1 : Int), (0 : Int))))] (Int.toNat (v_book_Pick b (5 : Int))) (dflt T_api_Opd)).1 (List.getD [((0 : Int), ((0 : Int), ((0 : Int), (0 : Int)))), ((1 : Int), ((3 : Int), ((0 : Int), (0 : Int)))), ((2 : Int), ((0 : Int), ((0 : Int), (-5 : Int)))), ((3 : Int), ((0 : Int), ((1 : Int), (2 : Int)))), ((4 : Int), ((2 : Int), ((1 : Int), (0 : Int))))] (Int.toNat (v_book_Pick b (5 : Int))) (dflt T_api_Opd)).2.1 (List.getD [((0 : Int), ((0 : Int), ((0 : Int), (0 : Int)))), ((1 : Int), ((3 : Int), ((0 : Int), (0 : Int)))), ((2 : Int), ((0 : Int), ((0 : Int), (-5 : Int)))), ((3 : Int), ((0 : Int), ((1 : Int), (2 : Int)))), ((4 : Int), ((2 : Int), ((1 : Int), (0 : Int))))] (Int.toNat (v_book_Pick b (5 : Int))) (dflt T_api_Opd)).2.2.1 (List.getD [((0 : Int), ((0 : Int), ((0 : Int), (0 : Int)))), ((1 : Int), ((3 : Int), ((0 : Int), (0 : Int)))), ((2 : Int), ((0 : Int), ((0 : Int), (-5 : Int)))), ((3 : Int), ((0 : Int), ((1 : Int), (2 : Int)))), ((4 : Int), ((2 : Int), ((1 : Int), (0 : Int))))] (Int.toNat (v_book_Pick b (5 : Int))) (dflt T_api_Opd)).2.2.2 (IntKind.i64.wrap ((1 : Int) + (v_book_Pick cond (10 : Int)))) (bs [])))
              (.no))
            (.jmp (.l5 (List.getD [((0 : Int), ((0 : Int), ((0 : Int), (0 : Int)))), ((1 : Int), ((3 : Int), ((0 : Int), (0 : Int)))), ((2 : Int), ((0 : Int), ((0 : Int), (-5 : Int)))), ((3 : Int), ((0 : Int), ((1 : Int), (2 : Int)))), ((4 : Int), ((2 : Int), ((1 : Int), (0 : Int))))] (Int.toNat (v_book_Pick a (5 : Int))) (dflt T_api_Opd)).1 (List.getD [((0 : Int), ((0 : Int), ((0 : Int), (0 : Int)))), ((1 : Int), ((3 : Int), ((0 : Int), (0 : Int)))), ((2 : Int), ((0 : Int), ((0 : Int), (-5 : Int)))), ((3 : Int), ((0 : Int), ((1 : Int), (2 : Int)))), ((4 : Int), ((2 : Int), ((1 : Int), (0 : Int))))] (Int.toNat (v_book_Pick a (5 : Int))) (dflt T_api_Opd)).2.1 (List.getD [((0 : Int), ((0 : Int), ((0 : Int), (0 : Int)))), ((1 : Int), ((3 : Int), ((0 : Int), (0 : Int)))), ((2 : Int), ((0 : Int), ((0 : Int), (-5 : Int)))), ((3 : Int), ((0 : Int), ((1 : Int), (2 : Int)))), ((4 : Int), ((2 : Int), ((1 : Int), (0 : Int))))] (Int.toNat (v_book_Pick a (5 : Int))) (dflt T_api_Opd)).2.2.1 (List.getD [((0 : Int), ((0 : Int), ((0 : Int), (0 : Int)))), ((1 : Int), ((3 : Int), ((0 : Int), (0 : Int)))), ((2 : Int), ((0 : Int), ((0 : Int), (-5 : Int)))), ((3 : Int), ((0 : Int), ((1 : Int), (2 : Int)))), ((4 : Int), ((2 : Int), ((1 : Int), (0 : Int))))] (Int.toNat (v_book_Pick a (5 : Int))) (dflt T_api_Opd)).2.2.2 (List.getD [((0 : Int), ((0 : Int), ((0 : Int), (0 : Int)))), ((1 : Int), ((3 : Int), ((0 : Int), (0 : Int)))), ((2 : Int), ((0 : Int), ((0 : Int), (-5 : Int)))), ((3 : Int), ((0 : Int), ((1 : Int), (2 : Int)))), ((4 : Int), ((2 : Int), ((1 : Int), (0 : Int))))] (Int.toNat (v_book_Pick b (5 : Int))) (dflt T_api_Opd)).1 (List.getD [((0 : Int), ((0 : Int), ((0 : Int), (0 : Int)))), ((1 : Int), ((3 : Int), ((0 : Int), (0 : Int)))), ((2 : Int), ((0 : Int), ((0 : Int), (-5 : Int)))), ((3 : Int), ((0 : Int), ((1 : Int), (2 : Int)))), ((4 : Int), ((2 : Int), ((1 : Int), (0 : Int))))] (Int.toNat (v_book_Pick b (5 : Int))) (dflt T_api_Opd)).2.1 (List.getD [((0 : Int), ((0 : Int), ((0 : Int), (0 : Int)))), ((1 : Int), ((3 : Int), ((0 : Int), (0 : Int)))), ((2 : Int), ((0 : Int), ((0 : Int), (-5 : Int)))), ((3 : Int), ((0 : Int), ((1 : Int), (2 : Int)))), ((4 : Int), ((2 : Int), ((1 : Int), (0 : Int))))] (Int.toNat (v_book_Pick b (5 : Int))) (dflt T_api_Opd)).2.2.1 (List.getD [((0 : Int), ((0 : Int), ((0 : Int), (0 : Int)))), ((1 : Int), ((3 : Int), ((0 : Int), (0 : Int)))), ((2 : Int), ((0 : Int), ((0 : Int), (-5 : Int)))), ((3 : Int), ((0 : Int), ((1 : Int), (2 : Int)))), ((4 : Int), ((2 : Int), ((1 : Int), (0 : Int))))] (Int.toNat (v_book_Pick b (5 : Int))) (dflt T_api_Opd)).2.2.2 (0 : Int) (bs []))))))
          (.no))
        (.no))
      (.no))
    (.no))
  (.no)
def v_law7_InsForms_l5 (op : Int) (a : Int) (b : Int) (cond : Int) (lock : Bool) (x : Int) (x1 : Int) (x2 : Int) (x3 : Int) (x4 : Int) (x5 : Int) (x6 : Int) (x7 : Int) (x8 : Int) (x9 : ByteArray) : Bool :=
  bif (k_law7_tells ((v_book_Pick op (16 : Int)), (lock, (x8, ((x, (x1, (x2, x3))), ((x4, (x5, (x6, x7))), (x9, []))))))) then
    bif (v_law7_tells ((v_book_Pick op (16 : Int)), (lock, (x8, ((x, (x1, (x2, x3))), ((x4, (x5, (x6, x7))), (x9, []))))))) then
      bif k_law7_alive then
        v_law7_alive
      else false
    else false
  else false
def k_law7_InsForms_l5 (op : Int) (a : Int) (b : Int) (cond : Int) (lock : Bool) (x : Int) (x1 : Int) (x2 : Int) (x3 : Int) (x4 : Int) (x5 : Int) (x6 : Int) (x7 : Int) (x8 : Int) (x9 : ByteArray) : Bool :=
  bif (k_law7_tells ((v_book_Pick op (16 : Int)), (lock, (x8, ((x, (x1, (x2, x3))), ((x4, (x5, (x6, x7))), (x9, []))))))) then
    bif (v_law7_tells ((v_book_Pick op (16 : Int)), (lock, (x8, ((x, (x1, (x2, x3))), ((x4, (x5, (x6, x7))), (x9, []))))))) then
      bif k_law7_alive then
        true
      else false
    else true
  else false
theorem g_law7_InsForms_l5 (op : Int) (a : Int) (b : Int) (cond : Int) (lock : Bool) (x : Int) (x1 : Int) (x2 : Int) (x3 : Int) (x4 : Int) (x5 : Int) (x6 : Int) (x7 : Int) (x8 : Int) (x9 : ByteArray) (hk : k_law7_InsForms_l5 op a b cond lock x x1 x2 x3 x4 x5 x6 x7 x8 x9 = true) : Goes (T_law7_InsForms op a b cond lock) (.jmp (.l5 x x1 x2 x3 x4 x5 x6 x7 x8 x9)) (v_law7_InsForms_l5 op a b cond lock x x1 x2 x3 x4 x5 x6 x7 x8 x9) :=
  Goes.jmp (Goes.brk hk (fun hk =>
    Goes.brk hk (fun hk =>
      Goes.brk hk (fun hk =>
        Goes.leaf) (fun hk =>
        Goes.nok hk)) (fun hk =>
      Goes.leaf)) (fun hk =>
    Goes.nok hk))
def v_law7_InsForms (op : Int) (a : Int) (b : Int) (cond : Int) (lock : Bool) : Bool :=
  bif (k_book_Pick op (16 : Int)) then
    bif (k_book_Pick a (5 : Int)) then
      bif ((decide ((0 : Int) ≤ (v_book_Pick a (5 : Int)))) && (decide ((v_book_Pick a (5 : Int)) < (5 : Int)))) then
        bif (k_book_Pick b (5 : Int)) then
          bif ((decide ((0 : Int) ≤ (v_book_Pick b (5 : Int)))) && (decide ((v_book_Pick b (5 : Int)) < (5 : Int)))) then
            bif ((v_book_Pick op (16 : Int)) == (10 : Int)) then
              bif ((v_book_Pick op (16 : Int)) == (11 : Int)) then
                bif (k_book_Pick cond (10 : Int)) then
                  v_law7_InsForms_l5 op a b cond lock (List.getD [((0 : Int), ((0 : Int), ((0 : Int), (0 : Int)))), ((1 : Int), ((3 : Int), ((0 : Int), (0 : Int)))), ((2 : Int), ((0 : Int), ((0 : Int), (-5 : Int)))), ((3 : Int), ((0 : Int), ((1 : Int), (2 : Int)))), ((4 : Int), ((2 : Int), ((1 : Int), (0 : Int))))] (Int.toNat (v_book_Pick a (5 : Int))) (dflt T_api_Opd)).1 (List.getD [((0 : Int), ((0 : Int), ((0 : Int), (0 : Int)))), ((1 : Int), ((3 : Int), ((0 : Int), (0 : Int)))), ((2 : Int), ((0 : Int), ((0 : Int), (-5 : Int)))), ((3 : Int), ((0 : Int), ((1 : Int), (2 : Int)))), ((4 : Int), ((2 : Int), ((1 : Int), (0 : Int))))] (Int.toNat (v_book_Pick a (5 : Int))) (dflt T_api_Opd)).2.1 (List.getD [((0 : Int), ((0 : Int), ((0 : Int), (0 : Int)))), ((1 : Int), ((3 : Int), ((0 : Int), (0 : Int)))), ((2 : Int), ((0 : Int), ((0 : Int), (-5 : Int)))), ((3 : Int), ((0 : Int), ((1 : Int), (2 : Int)))), ((4 : Int), ((2 : Int), ((1 : Int), (0 : Int))))] (Int.toNat (v_book_Pick a (5 : Int))) (dflt T_api_Opd)).2.2.1 (List.getD [((0 : Int), ((0 : Int), ((0 : Int), (0 : Int)))), ((1 : Int), ((3 : Int), ((0 : Int), (0 : Int)))), ((2 : Int), ((0 : Int), ((0 : Int), (-5 : Int)))), ((3 : Int), ((0 : Int), ((1 : Int), (2 : Int)))), ((4 : Int), ((2 : Int), ((1 : Int), (0 : Int))))] (Int.toNat (v_book_Pick a (5 : Int))) (dflt T_api_Opd)).2.2.2 (List.getD [((0 : Int), ((0 : Int), ((0 : Int), (0 : Int)))), ((1 : Int), ((3 : Int), ((0 : Int), (0 : Int)))), ((2 : Int), ((0 : Int), ((0 : Int), (-5 : Int)))), ((3 : Int), ((0 : Int), ((1 : Int), (2 : Int)))), ((4 : Int), ((2 : Int), ((1 : Int), (0 : Int))))] (Int.toNat (v_book_Pick b (5 : Int))) (dflt T_api_Opd)).1 (List.getD [((0 : Int), ((0 : Int), ((0 : Int), (0 : Int)))), ((1 : Int), ((3 : Int), ((0 : Int), (0 : Int)))), ((2 : Int), ((0 : Int), ((0 : Int), (-5 : Int)))), ((3 : Int), ((0 : Int), ((1 : Int), (2 : Int)))), ((4 : Int), ((2 : Int), ((1 : Int), (0 : Int))))] (Int.toNat (v_book_Pick b (5 : Int))) (dflt T_api_Opd)).2.1 (List.getD [((0 : Int), ((0 : Int), ((0 : Int), (0 : Int)))), ((1 : Int), ((3 : Int), ((0 : Int), (0 : Int)))), ((2 : Int), ((0 : Int), ((0 : Int), (-5 : Int)))), ((3 : Int), ((0 : Int), ((1 : Int), (2 : Int)))), ((4 : Int), ((2 : Int), ((1 : Int), (0 : Int))))] (Int.toNat (v_book_Pick b (5 : Int))) (dflt T_api_Opd)).2.2.1 (List.getD [((0 : Int), ((0 : Int), ((0 : Int), (0 : Int)))), ((1 : Int), ((3 : Int), ((0 : Int), (0 : Int)))), ((2 : Int), ((0 : Int), ((0 : Int), (-5 : Int)))), ((3 : Int), ((0 : Int), ((1 : Int), (2 : Int)))), ((4 : Int), ((2 : Int), ((1 : Int), (0 : Int))))] (Int.toNat (v_book_Pick b (5 : Int))) (dflt T_api_Opd)).2.2.2 (IntKind.i64.wrap ((1 : Int) + (v_book_Pick cond (10 : Int)))) (bs [116, 111, 112])
                else false
              else v_law7_InsForms_l5 op a b cond lock (List.getD [((0 : Int), ((0 : Int), ((0 : Int), (0 : Int)))), ((1 : Int), ((3 : Int), ((0 : Int), (0 : Int)))), ((2 : Int), ((0 : Int), ((0 : Int), (-5 : Int)))), ((3 : Int), ((0 : Int), ((1 : Int), (2 : Int)))), ((4 : Int), ((2 : Int), ((1 : Int), (0 : Int))))] (Int.toNat (v_book_Pick a (5 : Int))) (dflt T_api_Opd)).1 (List.getD [((0 : Int), ((0 : Int), ((0 : Int), (0 : Int)))), ((1 : Int), ((3 : Int), ((0 : Int), (0 : Int)))), ((2 : Int), ((0 : Int), ((0 : Int), (-5 : Int)))), ((3 : Int), ((0 : Int), ((1 : Int), (2 : Int)))), ((4 : Int), ((2 : Int), ((1 : Int), (0 : Int))))] (Int.toNat (v_book_Pick a (5 : Int))) (dflt T_api_Opd)).2.1 (List.getD [((0 : Int), ((0 : Int), ((0 : Int), (0 : Int)))), ((1 : Int), ((3 : Int), ((0 : Int), (0 : Int)))), ((2 : Int), ((0 : Int), ((0 : Int), (-5 : Int)))), ((3 : Int), ((0 : Int), ((1 : Int), (2 : Int)))), ((4 : Int), ((2 : Int), ((1 : Int), (0 : Int))))] (Int.toNat (v_book_Pick a (5 : Int))) (dflt T_api_Opd)).2.2.1 (List.getD [((0 : Int), ((0 : Int), ((0 : Int), (0 : Int)))), ((1 : Int), ((3 : Int), ((0 : Int), (0 : Int)))), ((2 : Int), ((0 : Int), ((0 : Int), (-5 : Int)))), ((3 : Int), ((0 : Int), ((1 : Int), (2 : Int)))), ((4 : Int), ((2 : Int), ((1 : Int), (0 : Int))))] (Int.toNat (v_book_Pick a (5 : Int))) (dflt T_api_Opd)).2.2.2 (List.getD [((0 : Int), ((0 : Int), ((0 : Int), (0 : Int)))), ((1 : Int), ((3 : Int), ((0 : Int), (0 : Int)))), ((2 : Int), ((0 : Int), ((0 : Int), (-5 : Int)))), ((3 : Int), ((0 : Int), ((1 : Int), (2 : Int)))), ((4 : Int), ((2 : Int), ((1 : Int), (0 : Int))))] (Int.toNat (v_book_Pick b (5 : Int))) (dflt T_api_Opd)).1 (List.getD [((0 : Int), ((0 : Int), ((0 : Int), (0 : Int)))), ((1 : Int), ((3 : Int), ((0 : Int), (0 : Int)))), ((2 : Int), ((0 : Int), ((0 : Int), (-5 : Int)))), ((3 : Int), ((0 : Int), ((1 : Int), (2 : Int)))), ((4 : Int), ((2 : Int), ((1 : Int), (0 : Int))))] (Int.toNat (v_book_Pick b (5 : Int))) (dflt T_api_Opd)).2.1 (List.getD [((0 : Int), ((0 : Int), ((0 : Int), (0 : Int)))), ((1 : Int), ((3 : Int), ((0 : Int), (0 : Int)))), ((2 : Int), ((0 : Int), ((0 : Int), (-5 : Int)))), ((3 : Int), ((0 : Int), ((1 : Int), (2 : Int)))), ((4 : Int), ((2 : Int), ((1 : Int), (0 : Int))))] (Int.toNat (v_book_Pick b (5 : Int))) (dflt T_api_Opd)).2.2.1 (List.getD [((0 : Int), ((0 : Int), ((0 : Int), (0 : Int)))), ((1 : Int), ((3 : Int), ((0 : Int), (0 : Int)))), ((2 : Int), ((0 : Int), ((0 : Int), (-5 : Int)))), ((3 : Int), ((0 : Int), ((1 : Int), (2 : Int)))), ((4 : Int), ((2 : Int), ((1 : Int), (0 : Int))))] (Int.toNat (v_book_Pick b (5 : Int))) (dflt T_api_Opd)).2.2.2 (0 : Int) (bs [116, 111, 112])
            else bif ((v_book_Pick op (16 : Int)) == (11 : Int)) then
              bif ((v_book_Pick op (16 : Int)) == (11 : Int)) then
                bif (k_book_Pick cond (10 : Int)) then
                  v_law7_InsForms_l5 op a b cond lock (List.getD [((0 : Int), ((0 : Int), ((0 : Int), (0 : Int)))), ((1 : Int), ((3 : Int), ((0 : Int), (0 : Int)))), ((2 : Int), ((0 : Int), ((0 : Int), (-5 : Int)))), ((3 : Int), ((0 : Int), ((1 : Int), (2 : Int)))), ((4 : Int), ((2 : Int), ((1 : Int), (0 : Int))))] (Int.toNat (v_book_Pick a (5 : Int))) (dflt T_api_Opd)).1 (List.getD [((0 : Int), ((0 : Int), ((0 : Int), (0 : Int)))), ((1 : Int), ((3 : Int), ((0 : Int), (0 : Int)))), ((2 : Int), ((0 : Int), ((0 : Int), (-5 : Int)))), ((3 : Int), ((0 : Int), ((1 : Int), (2 : Int)))), ((4 : Int), ((2 : Int), ((1 : Int), (0 : Int))))] (Int.toNat (v_book_Pick a (5 : Int))) (dflt T_api_Opd)).2.1 (List.getD [((0 : Int), ((0 : Int), ((0 : Int), (0 : Int)))), ((1 : Int), ((3 : Int), ((0 : Int), (0 : Int)))), ((2 : Int), ((0 : Int), ((0 : Int), (-5 : Int)))), ((3 : Int), ((0 : Int), ((1 : Int), (2 : Int)))), ((4 : Int), ((2 : Int), ((1 : Int), (0 : Int))))] (Int.toNat (v_book_Pick a (5 : Int))) (dflt T_api_Opd)).2.2.1 (List.getD [((0 : Int), ((0 : Int), ((0 : Int), (0 : Int)))), ((1 : Int), ((3 : Int), ((0 : Int), (0 : Int)))), ((2 : Int), ((0 : Int), ((0 : Int), (-5 : Int)))), ((3 : Int), ((0 : Int), ((1 : Int), (2 : Int)))), ((4 : Int), ((2 : Int), ((1 : Int), (0 : Int))))] (Int.toNat (v_book_Pick a (5 : Int))) (dflt T_api_Opd)).2.2.2 (List.getD [((0 : Int), ((0 : Int), ((0 : Int), (0 : Int)))), ((1 : Int), ((3 : Int), ((0 : Int), (0 : Int)))), ((2 : Int), ((0 : Int), ((0 : Int), (-5 : Int)))), ((3 : Int), ((0 : Int), ((1 : Int), (2 : Int)))), ((4 : Int), ((2 : Int), ((1 : Int), (0 : Int))))] (Int.toNat (v_book_Pick b (5 : Int))) (dflt T_api_Opd)).1 (List.getD [((0 : Int), ((0 : Int), ((0 : Int), (0 : Int)))), ((1 : Int), ((3 : Int), ((0 : Int), (0 : Int)))), ((2 : Int), ((0 : Int), ((0 : Int), (-5 : Int)))), ((3 : Int), ((0 : Int), ((1 : Int), (2 : Int)))), ((4 : Int), ((2 : Int), ((1 : Int), (0 : Int))))] (Int.toNat (v_book_Pick b (5 : Int))) (dflt T_api_Opd)).2.1 (List.getD [((0 : Int), ((0 : Int), ((0 : Int), (0 : Int)))), ((1 : Int), ((3 : Int), ((0 : Int), (0 : Int)))), ((2 : Int), ((0 : Int), ((0 : Int), (-5 : Int)))), ((3 : Int), ((0 : Int), ((1 : Int), (2 : Int)))), ((4 : Int), ((2 : Int), ((1 : Int), (0 : Int))))] (Int.toNat (v_book_Pick b (5 : Int))) (dflt T_api_Opd)).2.2.1 (List.getD [((0 : Int), ((0 : Int), ((0 : Int), (0 : Int)))), ((1 : Int), ((3 : Int), ((0 : Int), (0 : Int)))), ((2 : Int), ((0 : Int), ((0 : Int), (-5 : Int)))), ((3 : Int), ((0 : Int), ((1 : Int), (2 : Int)))), ((4 : Int), ((2 : Int), ((1 : Int), (0 : Int))))] (Int.toNat (v_book_Pick b (5 : Int))) (dflt T_api_Opd)).2.2.2 (IntKind.i64.wrap ((1 : Int) + (v_book_Pick cond (10 : Int)))) (bs [116, 111, 112])
                else false
              else v_law7_InsForms_l5 op a b cond lock (List.getD [((0 : Int), ((0 : Int), ((0 : Int), (0 : Int)))), ((1 : Int), ((3 : Int), ((0 : Int), (0 : Int)))), ((2 : Int), ((0 : Int), ((0 : Int), (-5 : Int)))), ((3 : Int), ((0 : Int), ((1 : Int), (2 : Int)))), ((4 : Int), ((2 : Int), ((1 : Int), (0 : Int))))] (Int.toNat (v_book_Pick a (5 : Int))) (dflt T_api_Opd)).1 (List.getD [((0 : Int), ((0 : Int), ((0 : Int), (0 : Int)))), ((1 : Int), ((3 : Int), ((0 : Int), (0 : Int)))), ((2 : Int), ((0 : Int), ((0 : Int), (-5 : Int)))), ((3 : Int), ((0 : Int), ((1 : Int), (2 : Int)))), ((4 : Int), ((2 : Int), ((1 : Int), (0 : Int))))] (Int.toNat (v_book_Pick a (5 : Int))) (dflt T_api_Opd)).2.1 (List.getD [((0 : Int), ((0 : Int), ((0 : Int), (0 : Int)))), ((1 : Int), ((3 : Int), ((0 : Int), (0 : Int)))), ((2 : Int), ((0 : Int), ((0 : Int), (-5 : Int)))), ((3 : Int), ((0 : Int), ((1 : Int), (2 : Int)))), ((4 : Int), ((2 : Int), ((1 : Int), (0 : Int))))] (Int.toNat (v_book_Pick a (5 : Int))) (dflt T_api_Opd)).2.2.1 (List.getD [((0 : Int), ((0 : Int), ((0 : Int), (0 : Int)))), ((1 : Int), ((3 : Int), ((0 : Int), (0 : Int)))), ((2 : Int), ((0 : Int), ((0 : Int), (-5 : Int)))), ((3 : Int), ((0 : Int), ((1 : Int), (2 : Int)))), ((4 : Int), ((2 : Int), ((1 : Int), (0 : Int))))] (Int.toNat (v_book_Pick a (5 : Int))) (dflt T_api_Opd)).2.2.2 (List.getD [((0 : Int), ((0 : Int), ((0 : Int), (0 : Int)))), ((1 : Int), ((3 : Int), ((0 : Int), (0 : Int)))), ((2 : Int), ((0 : Int), ((0 : Int), (-5 : Int)))), ((3 : Int), ((0 : Int), ((1 : Int), (2 : Int)))), ((4 : Int), ((2 : Int), ((1 : Int), (0 : Int))))] (Int.toNat (v_book_Pick b (5 : Int))) (dflt T_api_Opd)).1 (List.getD [((0 : Int), ((0 : Int), ((0 : Int), (0 : Int)))), ((1 : Int), ((3 : Int), ((0 : Int), (0 : Int)))), ((2 : Int), ((0 : Int), ((0 : Int), (-5 : Int)))), ((3 : Int), ((0 : Int), ((1 : Int), (2 : Int)))), ((4 : Int), ((2 : Int), ((1 : Int), (0 : Int))))] (Int.toNat (v_book_Pick b (5 : Int))) (dflt T_api_Opd)).2.1 (List.getD [((0 : Int), ((0 : Int), ((0 : Int), (0 : Int)))), ((1 : Int), ((3 : Int), ((0 : Int), (0 : Int)))), ((2 : Int), ((0 : Int), ((0 : Int), (-5 : Int)))), ((3 : Int), ((0 : Int), ((1 : Int), (2 : Int)))), ((4 : Int), ((2 : Int), ((1 : Int), (0 : Int))))] (Int.toNat (v_book_Pick b (5 : Int))) (dflt T_api_Opd)).2.2.1 (List.getD [((0 : Int), ((0 : Int), ((0 : Int), (0 : Int)))), ((1 : Int), ((3 : Int), ((0 : Int), (0 : Int)))), ((2 : Int), ((0 : Int), ((0 : Int), (-5 : Int)))), ((3 : Int), ((0 : Int), ((1 : Int), (2 : Int)))), ((4 : Int), ((2 : Int), ((1 : Int), (0 : Int))))] (Int.toNat (v_book_Pick b (5 : Int))) (dflt T_api_Opd)).2.2.2 (0 : Int) (bs [116, 111, 112])
            else bif ((v_book_Pick op (16 : Int)) == (11 : Int)) then
              bif (k_book_Pick cond (10 : Int)) then
                v_law7_InsForms_l5 op a b cond lock (List.getD [((0 : Int), ((0 : Int), ((0 : Int), (0 : Int)))), ((1 : Int), ((3 : Int), ((0 : Int), (0 : Int)))), ((2 : Int), ((0 : Int), ((0 : Int), (-5 : Int)))), ((3 : Int), ((0 : Int), ((1 : Int), (2 : Int)))), ((4 : Int), ((2 : Int), ((1 : Int), (0 : Int))))] (Int.toNat (v_book_Pick a (5 : Int))) (dflt T_api_Opd)).1 (List.getD [((0 : Int), ((0 : Int), ((0 : Int), (0 : Int)))), ((1 : Int), ((3 : Int), ((0 : Int), (0 : Int)))), ((2 : Int), ((0 : Int), ((0 : Int), (-5 : Int)))), ((3 : Int), ((0 : Int), ((1 : Int), (2 : Int)))), ((4 : Int), ((2 : Int), ((1 : Int), (0 : Int))))] (Int.toNat (v_book_Pick a (5 : Int))) (dflt T_api_Opd)).2.1 (List.getD [((0 : Int), ((0 : Int), ((0 : Int), (0 : Int)))), ((1 : Int), ((3 : Int), ((0 : Int), (0 : Int)))), ((2 : Int), ((0 : Int), ((0 : Int), (-5 : Int)))), ((3 : Int), ((0 : Int), ((1 : Int), (2 : Int)))), ((4 : Int), ((2 : Int), ((1 : Int), (0 : Int))))] (Int.toNat (v_book_Pick a (5 : Int))) (dflt T_api_Opd)).2.2.1 (List.getD [((0 : Int), ((0 : Int), ((0 : Int), (0 : Int)))), ((1 : Int), ((3 : Int), ((0 : Int), (0 : Int)))), ((2 : Int), ((0 : Int), ((0 : Int), (-5 : Int)))), ((3 : Int), ((0 : Int), ((1 : Int), (2 : Int)))), ((4 : Int), ((2 : Int), ((1 : Int), (0 : Int))))] (Int.toNat (v_book_Pick a (5 : Int))) (dflt T_api_Opd)).2.2.2 (List.getD [((0 : Int), ((0 : Int), ((0 : Int), (0 : Int)))), ((1 : Int), ((3 : Int), ((0 : Int), (0 : Int)))), ((2 : Int), ((0 : Int), ((0 : Int), (-5 : Int)))), ((3 : Int), ((0 : Int), ((1 : Int), (2 : Int)))), ((4 : Int), ((2 : Int), ((1 : Int), (0 : Int))))] (Int.toNat (v_book_Pick b (5 : Int))) (dflt T_api_Opd)).1 (List.getD [((0 : Int), ((0 : Int), ((0 : Int), (0 : Int)))), ((1 : Int), ((3 : Int), ((0 : Int), (0 : Int)))), ((2 : Int), ((0 : Int), ((0 : Int), (-5 : Int)))), ((3 : Int), ((0 : Int), ((1 : Int), (2 : Int)))), ((4 : Int), ((2 : Int), ((1 : Int), (0 : Int))))] (Int.toNat (v_book_Pick b (5 : Int))) (dflt T_api_Opd)).2.1 (List.getD [((0 : Int), ((0 : Int), ((0 : Int), (0 : Int)))), ((1 : Int), ((3 : Int), ((0 : Int), (0 : Int)))), ((2 : Int), ((0 : Int), ((0 : Int), (-5 : Int)))), ((3 : Int), ((0 : Int), ((1 : Int), (2 : Int)))), ((4 : Int), ((2 : Int), ((1 : Int), (0 : Int))))] (Int.toNat (v_book_Pick b (5 : Int))) (dflt T_api_Opd)).2.2.1 (List.getD [((0 : Int), ((0 : Int), ((0 : Int), (0 : Int)))), ((1 : Int), ((3 : Int), ((0 : Int), (0 : Int)))), ((2 : Int), ((0 : Int), ((0 : Int), (-5 : Int)))), ((3 : Int), ((0 : Int), ((1 : Int), (2 : Int)))), ((4 : Int), ((2 : Int), ((1 : Int), (0 : Int))))] (Int.toNat (v_book_Pick b (5 : Int))) (dflt T_api_Opd)).2.2.2 (IntKind.i64.wrap ((1 : Int) + (v_book_Pick cond (10 : Int)))) (bs [])
              else false
            else v_law7_InsForms_l5 op a b cond lock (List.getD [((0 : Int), ((0 : Int), ((0 : Int), (0 : Int)))), ((1 : Int), ((3 : Int), ((0 : Int), (0 : Int)))), ((2 : Int), ((0 : Int), ((0 : Int), (-5 : Int)))), ((3 : Int), ((0 : Int), ((1 : Int), (2 : Int)))), ((4 : Int), ((2 : Int), ((1 : Int), (0 : Int))))] (Int.toNat (v_book_Pick a (5 : Int))) (dflt T_api_Opd)).1 (List.getD [((0 : Int), ((0 : Int), ((0 : Int), (0 : Int)))), ((1 : Int), ((3 : Int), ((0 : Int), (0 : Int)))), ((2 : Int), ((0 : Int), ((0 : Int), (-5 : Int)))), ((3 : Int), ((0 : Int), ((1 : Int), (2 : Int)))), ((4 : Int), ((2 : Int), ((1 : Int), (0 : Int))))] (Int.toNat (v_book_Pick a (5 : Int))) (dflt T_api_Opd)).2.1 (List.getD [((0 : Int), ((0 : Int), ((0 : Int), (0 : Int)))), ((1 : Int), ((3 : Int), ((0 : Int), (0 : Int)))), ((2 : Int), ((0 : Int), ((0 : Int), (-5 : Int)))), ((3 : Int), ((0 : Int), ((1 : Int), (2 : Int)))), ((4 : Int), ((2 : Int), ((1 : Int), (0 : Int))))] (Int.toNat (v_book_Pick a (5 : Int))) (dflt T_api_Opd)).2.2.1 (List.getD [((0 : Int), ((0 : Int), ((0 : Int), (0 : Int)))), ((1 : Int), ((3 : Int), ((0 : Int), (0 : Int)))), ((2 : Int), ((0 : Int), ((0 : Int), (-5 : Int)))), ((3 : Int), ((0 : Int), ((1 : Int), (2 : Int)))), ((4 : Int), ((2 : Int), ((1 : Int), (0 : Int))))] (Int.toNat (v_book_Pick a (5 : Int))) (dflt T_api_Opd)).2.2.2 (List.getD [((0 : Int), ((0 : Int), ((0 : Int), (0 : Int)))), ((1 : Int), ((3 : Int), ((0 : Int), (0 : Int)))), ((2 : Int), ((0 : Int), ((0 : Int), (-5 : Int)))), ((3 : Int), ((0 : Int), ((1 : Int), (2 : Int)))), ((4 : Int), ((2 : Int), ((1 : Int), (0 : Int))))] (Int.toNat (v_book_Pick b (5 : Int))) (dflt T_api_Opd)).1 (List.getD [((0 : Int), ((0 : Int), ((0 : Int), (0 : Int)))), ((1 : Int), ((3 : Int), ((0 : Int), (0 : Int)))), ((2 : Int), ((0 : Int), ((0 : Int), (-5 : Int)))), ((3 : Int), ((0 : Int), ((1 : Int), (2 : Int)))), ((4 : Int), ((2 : Int), ((1 : Int), (0 : Int))))] (Int.toNat (v_book_Pick b (5 : Int))) (dflt T_api_Opd)).2.1 (List.getD [((0 : Int), ((0 : Int), ((0 : Int), (0 : Int)))), ((1 : Int), ((3 : Int), ((0 : Int), (0 : Int)))), ((2 : Int), ((0 : Int), ((0 : Int), (-5 : Int)))), ((3 : Int), ((0 : Int), ((1 : Int), (2 : Int)))), ((4 : Int), ((2 : Int), ((1 : Int), (0 : Int))))] (Int.toNat (v_book_Pick b (5 : Int))) (dflt T_api_Opd)).2.2.1 (List.getD [((0 : Int), ((0 : Int), ((0 : Int), (0 : Int)))), ((1 : Int), ((3 : Int), ((0 : Int), (0 : Int)))), ((2 : Int), ((0 : Int), ((0 : Int), (-5 : Int)))), ((3 : Int), ((0 : Int), ((1 : Int), (2 : Int)))), ((4 : Int), ((2 : Int), ((1 : Int), (0 : Int))))] (Int.toNat (v_book_Pick b (5 : Int))) (dflt T_api_Opd)).2.2.2 (0 : Int) (bs [])
          else false
        else false
      else false
    else false
  else false
def k_law7_InsForms (op : Int) (a : Int) (b : Int) (cond : Int) (lock : Bool) : Bool :=
  bif (k_book_Pick op (16 : Int)) then
    bif (k_book_Pick a (5 : Int)) then
      bif ((decide ((0 : Int) ≤ (v_book_Pick a (5 : Int)))) && (decide ((v_book_Pick a (5 : Int)) < (5 : Int)))) then
        bif (k_book_Pick b (5 : Int)) then
          bif ((decide ((0 : Int) ≤ (v_book_Pick b (5 : Int)))) && (decide ((v_book_Pick b (5 : Int)) < (5 : Int)))) then
            bif ((v_book_Pick op (16 : Int)) == (10 : Int)) then
              bif ((v_book_Pick op (16 : Int)) == (11 : Int)) then
                bif (k_book_Pick cond (10 : Int)) then
                  k_law7_InsForms_l5 op a b cond lock (List.getD [((0 : Int), ((0 : Int), ((0 : Int), (0 : Int)))), ((1 : Int), ((3 : Int), ((0 : Int), (0 : Int)))), ((2 : Int), ((0 : Int), ((0 : Int), (-5 : Int)))), ((3 : Int), ((0 : Int), ((1 : Int), (2 : Int)))), ((4 : Int), ((2 : Int), ((1 : Int), (0 : Int))))] (Int.toNat (v_book_Pick a (5 : Int))) (dflt T_api_Opd)).1 (List.getD [((0 : Int), ((0 : Int), ((0 : Int), (0 : Int)))), ((1 : Int), ((3 : Int), ((0 : Int), (0 : Int)))), ((2 : Int), ((0 : Int), ((0 : Int), (-5 : Int)))), ((3 : Int), ((0 : Int), ((1 : Int), (2 : Int)))), ((4 : Int), ((2 : Int), ((1 : Int), (0 : Int))))] (Int.toNat (v_book_Pick a (5 : Int))) (dflt T_api_Opd)).2.1 (List.getD [((0 : Int), ((0 : Int), ((0 : Int), (0 : Int)))), ((1 : Int), ((3 : Int), ((0 : Int), (0 : Int)))), ((2 : Int), ((0 : Int), ((0 : Int), (-5 : Int)))), ((3 : Int), ((0 : Int), ((1 : Int), (2 : Int)))), ((4 : Int), ((2 : Int), ((1 : Int), (0 : Int))))] (Int.toNat (v_book_Pick a (5 : Int))) (dflt T_api_Opd)).2.2.1 (List.getD [((0 : Int), ((0 : Int), ((0 : Int), (0 : Int)))), ((1 : Int), ((3 : Int), ((0 : Int), (0 : Int)))), ((2 : Int), ((0 : Int), ((0 : Int), (-5 : Int)))), ((3 : Int), ((0 : Int), ((1 : Int), (2 : Int)))), ((4 : Int), ((2 : Int), ((1 : Int), (0 : Int))))] (Int.toNat (v_book_Pick a (5 : Int))) (dflt T_api_Opd)).2.2.2 (List.getD [((0 : Int), ((0 : Int), ((0 : Int), (0 : Int)))), ((1 : Int), ((3 : Int), ((0 : Int), (0 : Int)))), ((2 : Int), ((0 : Int), ((0 : Int), (-5 : Int)))), ((3 : Int), ((0 : Int), ((1 : Int), (2 : Int)))), ((4 : Int), ((2 : Int), ((1 : Int), (0 : Int))))] (Int.toNat (v_book_Pick b (5 : Int))) (dflt T_api_Opd)).1 (List.getD [((0 : Int), ((0 : Int), ((0 : Int), (0 : Int)))), ((1 : Int), ((3 : Int), ((0 : Int), (0 : Int)))), ((2 : Int), ((0 : Int), ((0 : Int), (-5 : Int)))), ((3 : Int), ((0 : Int), ((1 : Int), (2 : Int)))), ((4 : Int), ((2 : Int), ((1 : Int), (0 : Int))))] (Int.toNat (v_book_Pick b (5 : Int))) (dflt T_api_Opd)).2.1 (List.getD [((0 : Int), ((0 : Int), ((0 : Int), (0 : Int)))), ((1 : Int), ((3 : Int), ((0 : Int), (0 : Int)))), ((2 : Int), ((0 : Int), ((0 : Int), (-5 : Int)))), ((3 : Int), ((0 : Int), ((1 : Int), (2 : Int)))), ((4 : Int), ((2 : Int), ((1 : Int), (0 : Int))))] (Int.toNat (v_book_Pick b (5 : Int))) (dflt T_api_Opd)).2.2.1 (List.getD [((0 : Int), ((0 : Int), ((0 : Int), (0 : Int)))), ((1 : Int), ((3 : Int), ((0 : Int), (0 : Int)))), ((2 : Int), ((0 : Int), ((0 : Int), (-5 : Int)))), ((3 : Int), ((0 : Int), ((1 : Int), (2 : Int)))), ((4 : Int), ((2 : Int), ((1 : Int), (0 : Int))))] (Int.toNat (v_book_Pick b (5 : Int))) (dflt T_api_Opd)).2.2.2 (IntKind.i64.wrap ((1 : Int) + (v_book_Pick cond (10 : Int)))) (bs [116, 111, 112])
                else false
              else k_law7_InsForms_l5 op a b cond lock (List.getD [((0 : Int), ((0 : Int), ((0 : Int), (0 : Int)))), ((1 : Int), ((3 : Int), ((0 : Int), (0 : Int)))), ((2 : Int), ((0 : Int), ((0 : Int), (-5 : Int)))), ((3 : Int), ((0 : Int), ((1 : Int), (2 : Int)))), ((4 : Int), ((2 : Int), ((1 : Int), (0 : Int))))] (Int.toNat (v_book_Pick a (5 : Int))) (dflt T_api_Opd)).1 (List.getD [((0 : Int), ((0 : Int), ((0 : Int), (0 : Int)))), ((1 : Int), ((3 : Int), ((0 : Int), (0 : Int)))), ((2 : Int), ((0 : Int), ((0 : Int), (-5 : Int)))), ((3 : Int), ((0 : Int), ((1 : Int), (2 : Int)))), ((4 : Int), ((2 : Int), ((1 : Int), (0 : Int))))] (Int.toNat (v_book_Pick a (5 : Int))) (dflt T_api_Opd)).2.1 (List.getD [((0 : Int), ((0 : Int), ((0 : Int), (0 : Int)))), ((1 : Int), ((3 : Int), ((0 : Int), (0 : Int)))), ((2 : Int), ((0 : Int), ((0 : Int), (-5 : Int)))), ((3 : Int), ((0 : Int), ((1 : Int), (2 : Int)))), ((4 : Int), ((2 : Int), ((1 : Int), (0 : Int))))] (Int.toNat (v_book_Pick a (5 : Int))) (dflt T_api_Opd)).2.2.1 (List.getD [((0 : Int), ((0 : Int), ((0 : Int), (0 : Int)))), ((1 : Int), ((3 : Int), ((0 : Int), (0 : Int)))), ((2 : Int), ((0 : Int), ((0 : Int), (-5 : Int)))), ((3 : Int), ((0 : Int), ((1 : Int), (2 : Int)))), ((4 : Int), ((2 : Int), ((1 : Int), (0 : Int))))] (Int.toNat (v_book_Pick a (5 : Int))) (dflt T_api_Opd)).2.2.2 (List.getD [((0 : Int), ((0 : Int), ((0 : Int), (0 : Int)))), ((1 : Int), ((3 : Int), ((0 : Int), (0 : Int)))), ((2 : Int), ((0 : Int), ((0 : Int), (-5 : Int)))), ((3 : Int), ((0 : Int), ((1 : Int), (2 : Int)))), ((4 : Int), ((2 : Int), ((1 : Int), (0 : Int))))] (Int.toNat (v_book_Pick b (5 : Int))) (dflt T_api_Opd)).1 (List.getD [((0 : Int), ((0 : Int), ((0 : Int), (0 : Int)))), ((1 : Int), ((3 : Int), ((0 : Int), (0 : Int)))), ((2 : Int), ((0 : Int), ((0 : Int), (-5 : Int)))), ((3 : Int), ((0 : Int), ((1 : Int), (2 : Int)))), ((4 : Int), ((2 : Int), ((1 : Int), (0 : Int))))] (Int.toNat (v_book_Pick b (5 : Int))) (dflt T_api_Opd)).2.1 (List.getD [((0 : Int), ((0 : Int), ((0 : Int), (0 : Int)))), ((1 : Int), ((3 : Int), ((0 : Int), (0 : Int)))), ((2 : Int), ((0 : Int), ((0 : Int), (-5 : Int)))), ((3 : Int), ((0 : Int), ((1 : Int), (2 : Int)))), ((4 : Int), ((2 : Int), ((1 : Int), (0 : Int))))] (Int.toNat (v_book_Pick b (5 : Int))) (dflt T_api_Opd)).2.2.1 (List.getD [((0 : Int), ((0 : Int), ((0 : Int), (0 : Int)))), ((1 : Int), ((3 : Int), ((0 : Int), (0 : Int)))), ((2 : Int), ((0 : Int), ((0 : Int), (-5 : Int)))), ((3 : Int), ((0 : Int), ((1 : Int), (2 : Int)))), ((4 : Int), ((2 : Int), ((1 : Int), (0 : Int))))] (Int.toNat (v_book_Pick b (5 : Int))) (dflt T_api_Opd)).2.2.2 (0 : Int) (bs [116, 111, 112])
            else bif ((v_book_Pick op (16 : Int)) == (11 : Int)) then
              bif ((v_book_Pick op (16 : Int)) == (11 : Int)) then
                bif (k_book_Pick cond (10 : Int)) then
                  k_law7_InsForms_l5 op a b cond lock (List.getD [((0 : Int), ((0 : Int), ((0 : Int), (0 : Int)))), ((1 : Int), ((3 : Int), ((0 : Int), (0 : Int)))), ((2 : Int), ((0 : Int), ((0 : Int), (-5 : Int)))), ((3 : Int), ((0 : Int), ((1 : Int), (2 : Int)))), ((4 : Int), ((2 : Int), ((1 : Int), (0 : Int))))] (Int.toNat (v_book_Pick a (5 : Int))) (dflt T_api_Opd)).1 (List.getD [((0 : Int), ((0 : Int), ((0 : Int), (0 : Int)))), ((1 : Int), ((3 : Int), ((0 : Int), (0 : Int)))), ((2 : Int), ((0 : Int), ((0 : Int), (-5 : Int)))), ((3 : Int), ((0 : Int), ((1 : Int), (2 : Int)))), ((4 : Int), ((2 : Int), ((1 : Int), (0 : Int))))] (Int.toNat (v_book_Pick a (5 : Int))) (dflt T_api_Opd)).2.1 (List.getD [((0 : Int), ((0 : Int), ((0 : Int), (0 : Int)))), ((1 : Int), ((3 : Int), ((0 : Int), (0 : Int)))), ((2 : Int), ((0 : Int), ((0 : Int), (-5 : Int)))), ((3 : Int), ((0 : Int), ((1 : Int), (2 : Int)))), ((4 : Int), ((2 : Int), ((1 : Int), (0 : Int))))] (Int.toNat (v_book_Pick a (5 : Int))) (dflt T_api_Opd)).2.2.1 (List.getD [((0 : Int), ((0 : Int), ((0 : Int), (0 : Int)))), ((1 : Int), ((3 : Int), ((0 : Int), (0 : Int)))), ((2 : Int), ((0 : Int), ((0 : Int), (-5 : Int)))), ((3 : Int), ((0 : Int), ((1 : Int), (2 : Int)))), ((4 : Int), ((2 : Int), ((1 : Int), (0 : Int))))] (Int.toNat (v_book_Pick a (5 : Int))) (dflt T_api_Opd)).2.2.2 (List.getD [((0 : Int), ((0 : Int), ((0 : Int), (0 : Int)))), ((1 : Int), ((3 : Int), ((0 : Int), (0 : Int)))), ((2 : Int), ((0 : Int), ((0 : Int), (-5 : Int)))), ((3 : Int), ((0 : Int), ((1 : Int), (2 : Int)))), ((4 : Int), ((2 : Int), ((1 : Int), (0 : Int))))] (Int.toNat (v_book_Pick b (5 : Int))) (dflt T_api_Opd)).1 (List.getD [((0 : Int), ((0 : Int), ((0 : Int), (0 : Int)))), ((1 : Int), ((3 : Int), ((0 : Int), (0 : Int)))), ((2 : Int), ((0 : Int), ((0 : Int), (-5 : Int)))), ((3 : Int), ((0 : Int), ((1 : Int), (2 : Int)))), ((4 : Int), ((2 : Int), ((1 : Int), (0 : Int))))] (Int.toNat (v_book_Pick b (5 : Int))) (dflt T_api_Opd)).2.1 (List.getD [((0 : Int), ((0 : Int), ((0 : Int), (0 : Int)))), ((1 : Int), ((3 : Int), ((0 : Int), (0 : Int)))), ((2 : Int), ((0 : Int), ((0 : Int), (-5 : Int)))), ((3 : Int), ((0 : Int), ((1 : Int), (2 : Int)))), ((4 : Int), ((2 : Int), ((1 : Int), (0 : Int))))] (Int.toNat (v_book_Pick b (5 : Int))) (dflt T_api_Opd)).2.2.1 (List.getD [((0 : Int), ((0 : Int), ((0 : Int), (0 : Int)))), ((1 : Int), ((3 : Int), ((0 : Int), (0 : Int)))), ((2 : Int), ((0 : Int), ((0 : Int), (-5 : Int)))), ((3 : Int), ((0 : Int), ((1 : Int), (2 : Int)))), ((4 : Int), ((2 : Int), ((1 : Int), (0 : Int))))] (Int.toNat (v_book_Pick b (5 : Int))) (dflt T_api_Opd)).2.2.2 (IntKind.i64.wrap ((1 : Int) + (v_book_Pick cond (10 : Int)))) (bs [116, 111, 112])
                else false
              else k_law7_InsForms_l5 op a b cond lock (List.getD [((0 : Int), ((0 : Int), ((0 : Int), (0 : Int)))), ((1 : Int), ((3 : Int), ((0 : Int), (0 : Int)))), ((2 : Int), ((0 : Int), ((0 : Int), (-5 : Int)))), ((3 : Int), ((0 : Int), ((1 : Int), (2 : Int)))), ((4 : Int), ((2 : Int), ((1 : Int), (0 : Int))))] (Int.toNat (v_book_Pick a (5 : Int))) (dflt T_api_Opd)).1 (List.getD [((0 : Int), ((0 : Int), ((0 : Int), (0 : Int)))), ((1 : Int), ((3 : Int), ((0 : Int), (0 : Int)))), ((2 : Int), ((0 : Int), ((0 : Int), (-5 : Int)))), ((3 : Int), ((0 : Int), ((1 : Int), (2 : Int)))), ((4 : Int), ((2 : Int), ((1 : Int), (0 : Int))))] (Int.toNat (v_book_Pick a (5 : Int))) (dflt T_api_Opd)).2.1 (List.getD [((0 : Int), ((0 : Int), ((0 : Int), (0 : Int)))), ((1 : Int), ((3 : Int), ((0 : Int), (0 : Int)))), ((2 : Int), ((0 : Int), ((0 : Int), (-5 : Int)))), ((3 : Int), ((0 : Int), ((1 : Int), (2 : Int)))), ((4 : Int), ((2 : Int), ((1 : Int), (0 : Int))))] (Int.toNat (v_book_Pick a (5 : Int))) (dflt T_api_Opd)).2.2.1 (List.getD [((0 : Int), ((0 : Int), ((0 : Int), (0 : Int)))), ((1 : Int), ((3 : Int), ((0 : Int), (0 : Int)))), ((2 : Int), ((0 : Int), ((0 : Int), (-5 : Int)))), ((3 : Int), ((0 : Int), ((1 : Int), (2 : Int)))), ((4 : Int), ((2 : Int), ((1 : Int), (0 : Int))))] (Int.toNat (v_book_Pick a (5 : Int))) (dflt T_api_Opd)).2.2.2 (List.getD [((0 : Int), ((0 : Int), ((0 : Int), (0 : Int)))), ((1 : Int), ((3 : Int), ((0 : Int), (0 : Int)))), ((2 : Int), ((0 : Int), ((0 : Int), (-5 : Int)))), ((3 : Int), ((0 : Int), ((1 : Int), (2 : Int)))), ((4 : Int), ((2 : Int), ((1 : Int), (0 : Int))))] (Int.toNat (v_book_Pick b (5 : Int))) (dflt T_api_Opd)).1 (List.getD [((0 : Int), ((0 : Int), ((0 : Int), (0 : Int)))), ((1 : Int), ((3 : Int), ((0 : Int), (0 : Int)))), ((2 : Int), ((0 : Int), ((0 : Int), (-5 : Int)))), ((3 : Int), ((0 : Int), ((1 : Int), (2 : Int)))), ((4 : Int), ((2 : Int), ((1 : Int), (0 : Int))))] (Int.toNat (v_book_Pick b (5 : Int))) (dflt T_api_Opd)).2.1 (List.getD [((0 : Int), ((0 : Int), ((0 : Int), (0 : Int)))), ((1 : Int), ((3 : Int), ((0 : Int), (0 : Int)))), ((2 : Int), ((0 : Int), ((0 : Int), (-5 : Int)))), ((3 : Int), ((0 : Int), ((1 : Int), (2 : Int)))), ((4 : Int), ((2 : Int), ((1 : Int), (0 : Int))))] (Int.toNat (v_book_Pick b (5 : Int))) (dflt T_api_Opd)).2.2.1 (List.getD [((0 : Int), ((0 : Int), ((0 : Int), (0 : Int)))), ((1 : Int), ((3 : Int), ((0 : Int), (0 : Int)))), ((2 : Int), ((0 : Int), ((0 : Int), (-5 : Int)))), ((3 : Int), ((0 : Int), ((1 : Int), (2 : Int)))), ((4 : Int), ((2 : Int), ((1 : Int), (0 : Int))))] (Int.toNat (v_book_Pick b (5 : Int))) (dflt T_api_Opd)).2.2.2 (0 : Int) (bs [116, 111, 112])
            else bif ((v_book_Pick op (16 : Int)) == (11 : Int)) then
              bif (k_book_Pick cond (10 : Int)) then
                k_law7_InsForms_l5 op a b cond lock (List.getD [((0 : Int), ((0 : Int), ((0 : Int), (0 : Int)))), ((1 : Int), ((3 : Int), ((0 : Int), (0 : Int)))), ((2 : Int), ((0 : Int), ((0 : Int), (-5 : Int)))), ((3 : Int), ((0 : Int), ((1 : Int), (2 : Int)))), ((4 : Int), ((2 : Int), ((1 : Int), (0 : Int))))] (Int.toNat (v_book_Pick a (5 : Int))) (dflt T_api_Opd)).1 (List.getD [((0 : Int), ((0 : Int), ((0 : Int), (0 : Int)))), ((1 : Int), ((3 : Int), ((0 : Int), (0 : Int)))), ((2 : Int), ((0 : Int), ((0 : Int), (-5 : Int)))), ((3 : Int), ((0 : Int), ((1 : Int), (2 : Int)))), ((4 : Int), ((2 : Int), ((1 : Int), (0 : Int))))] (Int.toNat (v_book_Pick a (5 : Int))) (dflt T_api_Opd)).2.1 (List.getD [((0 : Int), ((0 : Int), ((0 : Int), (0 : Int)))), ((1 : Int), ((3 : Int), ((0 : Int), (0 : Int)))), ((2 : Int), ((0 : Int), ((0 : Int), (-5 : Int)))), ((3 : Int), ((0 : Int), ((1 : Int), (2 : Int)))), ((4 : Int), ((2 : Int), ((1 : Int), (0 : Int))))] (Int.toNat (v_book_Pick a (5 : Int))) (dflt T_api_Opd)).2.2.1 (List.getD [((0 : Int), ((0 : Int), ((0 : Int), (0 : Int)))), ((1 : Int), ((3 : Int), ((0 : Int), (0 : Int)))), ((2 : Int), ((0 : Int), ((0 : Int), (-5 : Int)))), ((3 : Int), ((0 : Int), ((1 : Int), (2 : Int)))), ((4 : Int), ((2 : Int), ((1 : Int), (0 : Int))))] (Int.toNat (v_book_Pick a (5 : Int))) (dflt T_api_Opd)).2.2.2 (List.getD [((0 : Int), ((0 : Int), ((0 : Int), (0 : Int)))), ((1 : Int), ((3 : Int), ((0 : Int), (0 : Int)))), ((2 : Int), ((0 : Int), ((0 : Int), (-5 : Int)))), ((3 : Int), ((0 : Int), ((1 : Int), (2 : Int)))), ((4 : Int), ((2 : Int), ((1 : Int), (0 : Int))))] (Int.toNat (v_book_Pick b (5 : Int))) (dflt T_api_Opd)).1 (List.getD [((0 : Int), ((0 : Int), ((0 : Int), (0 : Int)))), ((1 : Int), ((3 : Int), ((0 : Int), (0 : Int)))), ((2 : Int), ((0 : Int), ((0 : Int), (-5 : Int)))), ((3 : Int), ((0 : Int), ((1 : Int), (2 : Int)))), ((4 : Int), ((2 : Int), ((1 : Int), (0 : Int))))] (Int.toNat (v_book_Pick b (5 : Int))) (dflt T_api_Opd)).2.1 (List.getD [((0 : Int), ((0 : Int), ((0 : Int), (0 : Int)))), ((1 : Int), ((3 : Int), ((0 : Int), (0 : Int)))), ((2 : Int), ((0 : Int), ((0 : Int), (-5 : Int)))), ((3 : Int), ((0 : Int), ((1 : Int), (2 : Int)))), ((4 : Int), ((2 : Int), ((1 : Int), (0 : Int))))] (Int.toNat (v_book_Pick b (5 : Int))) (dflt T_api_Opd)).2.2.1 (List.getD [((0 : Int), ((0 : Int), ((0 : Int), (0 : Int)))), ((1 : Int), ((3 : Int), ((0 : Int), (0 : Int)))), ((2 : Int), ((0 : Int), ((0 : Int), (-5 : Int)))), ((3 : Int), ((0 : Int), ((1 : Int), (2 : Int)))), ((4 : Int), ((2 : Int), ((1 : Int), (0 : Int))))] (Int.toNat (v_book_Pick b (5 : Int))) (dflt T_api_Opd)).2.2.2 (IntKind.i64.wrap ((1 : Int) + (v_book_Pick cond (10 : Int)))) (bs [])
              else false
            else k_law7_InsForms_l5 op a b cond lock (List.getD [((0 : Int), ((0 : Int), ((0 : Int), (0 : Int)))), ((1 : Int), ((3 : Int), ((0 : Int), (0 : Int)))), ((2 : Int), ((0 : Int), ((0 : Int), (-5 : Int)))), ((3 : Int), ((0 : Int), ((1 : Int), (2 : Int)))), ((4 : Int), ((2 : Int), ((1 : Int), (0 : Int))))] (Int.toNat (v_book_Pick a (5 : Int))) (dflt T_api_Opd)).1 (List.getD [((0 : Int), ((0 : Int), ((0 : Int), (0 : Int)))), ((1 : Int), ((3 : Int), ((0 : Int), (0 : Int)))), ((2 : Int), ((0 : Int), ((0 : Int), (-5 : Int)))), ((3 : Int), ((0 : Int), ((1 : Int), (2 : Int)))), ((4 : Int), ((2 : Int), ((1 : Int), (0 : Int))))] (Int.toNat (v_book_Pick a (5 : Int))) (dflt T_api_Opd)).2.1 (List.getD [((0 : Int), ((0 : Int), ((0 : Int), (0 : Int)))), ((1 : Int), ((3 : Int), ((0 : Int), (0 : Int)))), ((2 : Int), ((0 : Int), ((0 : Int), (-5 : Int)))), ((3 : Int), ((0 : Int), ((1 : Int), (2 : Int)))), ((4 : Int), ((2 : Int), ((1 : Int), (0 : Int))))] (Int.toNat (v_book_Pick a (5 : Int))) (dflt T_api_Opd)).2.2.1 (List.getD [((0 : Int), ((0 : Int), ((0 : Int), (0 : Int)))), ((1 : Int), ((3 : Int), ((0 : Int), (0 : Int)))), ((2 : Int), ((0 : Int), ((0 : Int), (-5 : Int)))), ((3 : Int), ((0 : Int), ((1 : Int), (2 : Int)))), ((4 : Int), ((2 : Int), ((1 : Int), (0 : Int))))] (Int.toNat (v_book_Pick a (5 : Int))) (dflt T_api_Opd)).2.2.2 (List.getD [((0 : Int), ((0 : Int), ((0 : Int), (0 : Int)))), ((1 : Int), ((3 : Int), ((0 : Int), (0 : Int)))), ((2 : Int), ((0 : Int), ((0 : Int), (-5 : Int)))), ((3 : Int), ((0 : Int), ((1 : Int), (2 : Int)))), ((4 : Int), ((2 : Int), ((1 : Int), (0 : Int))))] (Int.toNat (v_book_Pick b (5 : Int))) (dflt T_api_Opd)).1 (List.getD [((0 : Int), ((0 : Int), ((0 : Int), (0 : Int)))), ((1 : Int), ((3 : Int), ((0 : Int), (0 : Int)))), ((2 : Int), ((0 : Int), ((0 : Int), (-5 : Int)))), ((3 : Int), ((0 : Int), ((1 : Int), (2 : Int)))), ((4 : Int), ((2 : Int), ((1 : Int), (0 : Int))))] (Int.toNat (v_book_Pick b (5 : Int))) (dflt T_api_Opd)).2.1 (List.getD [((0 : Int), ((0 : Int), ((0 : Int), (0 : Int)))), ((1 : Int), ((3 : Int), ((0 : Int), (0 : Int)))), ((2 : Int), ((0 : Int), ((0 : Int), (-5 : Int)))), ((3 : Int), ((0 : Int), ((1 : Int), (2 : Int)))), ((4 : Int), ((2 : Int), ((1 : Int), (0 : Int))))] (Int.toNat (v_book_Pick b (5 : Int))) (dflt T_api_Opd)).2.2.1 (List.getD [((0 : Int), ((0 : Int), ((0 : Int), (0 : Int)))), ((1 : Int), ((3 : Int), ((0 : Int), (0 : Int)))), ((2 : Int), ((0 : Int), ((0 : Int), (-5 : Int)))), ((3 : Int), ((0 : Int), ((1 : Int), (2 : Int)))), ((4 : Int), ((2 : Int), ((1 : Int), (0 : Int))))] (Int.toNat (v_book_Pick b (5 : Int))) (dflt T_api_Opd)).2.2.2 (0 : Int) (bs [])
          else false
        else false
      else false
    else false
  else false
theorem g_law7_InsForms (op : Int) (a : Int) (b : Int) (cond : Int) (lock : Bool) (hk : k_law7_InsForms op a b cond lock = true) : Goes (T_law7_InsForms op a b cond lock) (T0_law7_InsForms op a b cond lock) (v_law7_InsForms op a b cond lock) :=
  Goes.brk hk (fun hk =>
    Goes.brk hk (fun hk =>
      Goes.brk hk (fun hk =>
        Goes.brk hk (fun hk =>
          Goes.brk hk (fun hk =>
            Goes.brk hk (fun hk =>
              Goes.brk hk (fun hk =>
                Goes.brk hk (fun hk =>
                  g_law7_InsForms_l5 op a b cond lock (List.getD [((0 : Int), ((0 : Int), ((0 : Int), (0 : Int)))), ((1 : Int), ((3 : Int), ((0 : Int), (0 : Int)))), ((2 : Int), ((0 : Int), ((0 : Int), (-5 : Int)))), ((3 : Int), ((0 : Int), ((1 : Int), (2 : Int)))), ((4 : Int), ((2 : Int), ((1 : Int), (0 : Int))))] (Int.toNat (v_book_Pick a (5 : Int))) (dflt T_api_Opd)).1 (List.getD [((0 : Int), ((0 : Int), ((0 : Int), (0 : Int)))), ((1 : Int), ((3 : Int), ((0 : Int), (0 : Int)))), ((2 : Int), ((0 : Int), ((0 : Int), (-5 : Int)))), ((3 : Int), ((0 : Int), ((1 : Int), (2 : Int)))), ((4 : Int), ((2 : Int), ((1 : Int), (0 : Int))))] (Int.toNat (v_book_Pick a (5 : Int))) (dflt T_api_Opd)).2.1 (List.getD [((0 : Int), ((0 : Int), ((0 : Int), (0 : Int)))), ((1 : Int), ((3 : Int), ((0 : Int), (0 : Int)))), ((2 : Int), ((0 : Int), ((0 : Int), (-5 : Int)))), ((3 : Int), ((0 : Int), ((1 : Int), (2 : Int)))), ((4 : Int), ((2 : Int), ((1 : Int), (0 : Int))))] (Int.toNat (v_book_Pick a (5 : Int))) (dflt T_api_Opd)).2.2.1 (List.getD [((0 : Int), ((0 : Int), ((0 : Int), (0 : Int)))), ((1 : Int), ((3 : Int), ((0 : Int), (0 : Int)))), ((2 : Int), ((0 : Int), ((0 : Int), (-5 : Int)))), ((3 : Int), ((0 : Int), ((1 : Int), (2 : Int)))), ((4 : Int), ((2 : Int), ((1 : Int), (0 : Int))))] (Int.toNat (v_book_Pick a (5 : Int))) (dflt T_api_Opd)).2.2.2 (List.getD [((0 : Int), ((0 : Int), ((0 : Int), (0 : Int)))), ((1 : Int), ((3 : Int), ((0 : Int), (0 : Int)))), ((2 : Int), ((0 : Int), ((0 : Int), (-5 : Int)))), ((3 : Int), ((0 : Int), ((1 : Int), (2 : Int)))), ((4 : Int), ((2 : Int), ((1 : Int), (0 : Int))))] (Int.toNat (v_book_Pick b (5 : Int))) (dflt T_api_Opd)).1 (List.getD [((0 : Int), ((0 : Int), ((0 : Int), (0 : Int)))), ((1 : Int), ((3 : Int), ((0 : Int), (0 : Int)))), ((2 : Int), ((0 : Int), ((0 : Int), (-5 : Int)))), ((3 : Int), ((0 : Int), ((1 : Int), (2 : Int)))), ((4 : Int), ((2 : Int), ((1 : Int), (0 : Int))))] (Int.toNat (v_book_Pick b (5 : Int))) (dflt T_api_Opd)).2.1 (List.getD [((0 : Int), ((0 : Int), ((0 : Int), (0 : Int)))), ((1 : Int), ((3 : Int), ((0 : Int), (0 : Int)))), ((2 : Int), ((0 : Int), ((0 : Int), (-5 : Int)))), ((3 : Int), ((0 : Int), ((1 : Int), (2 : Int)))), ((4 : Int), ((2 : Int), ((1 : Int), (0 : Int))))] (Int.toNat (v_book_Pick b (5 : Int))) (dflt T_api_Opd)).2.2.1 (List.getD [((0 : Int), ((0 : Int), ((0 : Int), (0 : Int)))), ((1 : Int), ((3 : Int), ((0 : Int), (0 : Int)))), ((2 : Int), ((0 : Int), ((0 : Int), (-5 : Int)))), ((3 : Int), ((0 : Int), ((1 : Int), (2 : Int)))), ((4 : Int), ((2 : Int), ((1 : Int), (0 : Int))))] (Int.toNat (v_book_Pick b (5 : Int))) (dflt T_api_Opd)).2.2.2 (IntKind.i64.wrap ((1 : Int) + (v_book_Pick cond (10 : Int)))) (bs [116, 111, 112]) hk) (fun hk =>
                  Goes.nok hk)) (fun hk =>
                g_law7_InsForms_l5 op a b cond lock (List.getD [((0 : Int), ((0 : Int), ((0 : Int), (0 : Int)))), ((1 : Int), ((3 : Int), ((0 : Int), (0 : Int)))), ((2 : Int), ((0 : Int), ((0 : Int), (-5 : Int)))), ((3 : Int), ((0 : Int), ((1 : Int), (2 : Int)))), ((4 : Int), ((2 : Int), ((1 : Int), (0 : Int))))] (Int.toNat (v_book_Pick a (5 : Int))) (dflt T_api_Opd)).1 (List.getD [((0 : Int), ((0 : Int), ((0 : Int), (0 : Int)))), ((1 : Int), ((3 : Int), ((0 : Int), (0 : Int)))), ((2 : Int), ((0 : Int), ((0 : Int), (-5 : Int)))), ((3 : Int), ((0 : Int), ((1 : Int), (2 : Int)))), ((4 : Int), ((2 : Int), ((1 : Int), (0 : Int))))] (Int.toNat (v_book_Pick a (5 : Int))) (dflt T_api_Opd)).2.1 (List.getD [((0 : Int), ((0 : Int), ((0 : Int), (0 : Int)))), ((1 : Int), ((3 : Int), ((0 : Int), (0 : Int)))), ((2 : Int), ((0 : Int), ((0 : Int), (-5 : Int)))), ((3 : Int), ((0 : Int), ((1 : Int), (2 : Int)))), ((4 : Int), ((2 : Int), ((1 : Int), (0 : Int))))] (Int.toNat (v_book_Pick a (5 : Int))) (dflt T_api_Opd)).2.2.1 (List.getD [((0 : Int), ((0 : Int), ((0 : Int), (0 : Int)))), ((1 : Int), ((3 : Int), ((0 : Int), (0 : Int)))), ((2 : Int), ((0 : Int), ((0 : Int), (-5 : Int)))), ((3 : Int), ((0 : Int), ((1 : Int), (2 : Int)))), ((4 : Int), ((2 : Int), ((1 : Int), (0 : Int))))] (Int.toNat (v_book_Pick a (5 : Int))) (dflt T_api_Opd)).2.2.2 (List.getD [((0 : Int), ((0 : Int), ((0 : Int), (0 : Int)))), ((1 : Int), ((3 : Int), ((0 : Int), (0 : Int)))), ((2 : Int), ((0 : Int), ((0 : Int), (-5 : Int)))), ((3 : Int), ((0 : Int), ((1 : Int), (2 : Int)))), ((4 : Int), ((2 : Int), ((1 : Int), (0 : Int))))] (Int.toNat (v_book_Pick b (5 : Int))) (dflt T_api_Opd)).1 (List.getD [((0 : Int), ((0 : Int), ((0 : Int), (0 : Int)))), ((1 : Int), ((3 : Int), ((0 : Int), (0 : Int)))), ((2 : Int), ((0 : Int), ((0 : Int), (-5 : Int)))), ((3 : Int), ((0 : Int), ((1 : Int), (2 : Int)))), ((4 : Int), ((2 : Int), ((1 : Int), (0 : Int))))] (Int.toNat (v_book_Pick b (5 : Int))) (dflt T_api_Opd)).2.1 (List.getD [((0 : Int), ((0 : Int), ((0 : Int), (0 : Int)))), ((1 : Int), ((3 : Int), ((0 : Int), (0 : Int)))), ((2 : Int), ((0 : Int), ((0 : Int), (-5 : Int)))), ((3 : Int), ((0 : Int), ((1 : Int), (2 : Int)))), ((4 : Int), ((2 : Int), ((1 : Int), (0 : Int))))] (Int.toNat (v_book_Pick b (5 : Int))) (dflt T_api_Opd)).2.2.1 (List.getD [((0 : Int), ((0 : Int), ((0 : Int), (0 : Int)))), ((1 : Int), ((3 : Int), ((0 : Int), (0 : Int)))), ((2 : Int), ((0 : Int), ((0 : Int), (-5 : Int)))), ((3 : Int), ((0 : Int), ((1 : Int), (2 : Int)))), ((4 : Int), ((2 : Int), ((1 : Int), (0 : Int))))] (Int.toNat (v_book_Pick b (5 : Int))) (dflt T_api_Opd)).2.2.2 (0 : Int) (bs [116, 111, 112]) hk)) (fun hk =>
              Goes.brk hk (fun hk =>
                Goes.brk hk (fun hk =>
                  Goes.brk hk (fun hk =>
                    g_law7_InsForms_l5 op a b cond lock (List.getD [((0 : Int), ((0 : Int), ((0 : Int), (0 : Int)))), ((1 : Int), ((3 : Int), ((0 : Int), (0 : Int)))), ((2 : Int), ((0 : Int), ((0 : Int), (-5 : Int)))), ((3 : Int), ((0 : Int), ((1 : Int), (2 : Int)))), ((4 : Int), ((2 : Int), ((1 : Int), (0 : Int))))] (Int.toNat (v_book_Pick a (5 : Int))) (dflt T_api_Opd)).1 (List.getD [((0 : Int), ((0 : Int), ((0 : Int), (0 : Int)))), ((1 : Int), ((3 : Int), ((0 : Int), (0 : Int)))), ((2 : Int), ((0 : Int), ((0 : Int), (-5 : Int)))), ((3 : Int), ((0 : Int), ((1 : Int), (2 : Int)))), ((4 : Int), ((2 : Int), ((1 : Int), (0 : Int))))] (Int.toNat (v_book_Pick a (5 : Int))) (dflt T_api_Opd)).2.1 (List.getD [((0 : Int), ((0 : Int), ((0 : Int), (0 : Int)))), ((1 : Int), ((3 : Int), ((0 : Int), (0 : Int)))), ((2 : Int), ((0 : Int), ((0 : Int), (-5 : Int)))), ((3 : Int), ((0 : Int), ((1 : Int), (2 : Int)))), ((4 : Int), ((2 : Int), ((1 : Int), (0 : Int))))] (Int.toNat (v_book_Pick a (5 : Int))) (dflt T_api_Opd)).2.2.1 (List.getD [((0 : Int), ((0 : Int), ((0 : Int), (0 : Int)))), ((1 : Int), ((3 : Int), ((0 : Int), (0 : Int)))), ((2 : Int), ((0 : Int), ((0 : Int), (-5 : Int)))), ((3 : Int), ((0 : Int), ((1 : Int), (2 : Int)))), ((4 : Int), ((2 : Int), ((1 : Int), (0 : Int))))] (Int.toNat (v_book_Pick a (5 : Int))) (dflt T_api_Opd)).2.2.2 (List.getD [((0 : Int), ((0 : Int), ((0 : Int), (0 : Int)))), ((1 : Int), ((3 : Int), ((0 : Int), (0 : Int)))), ((2 : Int), ((0 : Int), ((0 : Int), (-5 : Int)))), ((3 : Int), ((0 : Int), ((1 : Int), (2 : Int)))), ((4 : Int), ((2 : Int), ((1 : Int), (0 : Int))))] (Int.toNat (v_book_Pick b (5 : Int))) (dflt T_api_Opd)).1 (List.getD [((0 : Int), ((0 : Int), ((0 : Int), (0 : Int)))), ((1 : Int), ((3 : Int), ((0 : Int), (0 : Int)))), ((2 : Int), ((0 : Int), ((0 : Int), (-5 : Int)))), ((3 : Int), ((0 : Int), ((1 : Int), (2 : Int)))), ((4 : Int), ((2 : Int), ((1 : Int), (0 : Int))))] (Int.toNat (v_book_Pick b (5 : Int))) (dflt T_api_Opd)).2.1 (List.getD [((0 : Int), ((0 : Int), ((0 : Int), (0 : Int)))), ((1 : Int), ((3 : Int), ((0 : Int), (0 : Int)))), ((2 : Int), ((0 : Int), ((0 : Int), (-5 : Int)))), ((3 : Int), ((0 : Int), ((1 : Int), (2 : Int)))), ((4 : Int), ((2 : Int), ((1 : Int), (0 : Int))))] (Int.toNat (v_book_Pick b (5 : Int))) (dflt T_api_Opd)).2.2.1 (List.getD [((0 : Int), ((0 : Int), ((0 : Int), (0 : Int)))), ((1 : Int), ((3 : Int), ((0 : Int), (0 : Int)))), ((2 : Int), ((0 : Int), ((0 : Int), (-5 : Int)))), ((3 : Int), ((0 : Int), ((1 : Int), (2 : Int)))), ((4 : Int), ((2 : Int), ((1 : Int), (0 : Int))))] (Int.toNat (v_book_Pick b (5 : Int))) (dflt T_api_Opd)).2.2.2 (IntKind.i64.wrap ((1 : Int) + (v_book_Pick cond (10 : Int)))) (bs [116, 111, 112]) hk) (fun hk =>
                    Goes.nok hk)) (fun hk =>
                  g_law7_InsForms_l5 op a b cond lock (List.getD [((0 : Int), ((0 : Int), ((0 : Int), (0 : Int)))), ((1 : Int), ((3 : Int), ((0 : Int), (0 : Int)))), ((2 : Int), ((0 : Int), ((0 : Int), (-5 : Int)))), ((3 : Int), ((0 : Int), ((1 : Int), (2 : Int)))), ((4 : Int), ((2 : Int), ((1 : Int), (0 : Int))))] (Int.toNat (v_book_Pick a (5 : Int))) (dflt T_api_Opd)).1 (List.getD [((0 : Int), ((0 : Int), ((0 : Int), (0 : Int)))), ((1 : Int), ((3 : Int), ((0 : Int), (0 : Int)))), ((2 : Int), ((0 : Int), ((0 : Int), (-5 : Int)))), ((3 : Int), ((0 : Int), ((1 : Int), (2 : Int)))), ((4 : Int), ((2 : Int), ((1 : Int), (0 : Int))))] (Int.toNat (v_book_Pick a (5 : Int))) (dflt T_api_Opd)).2.1 (List.getD [((0 : Int), ((0 : Int), ((0 : Int), (0 : Int)))), ((1 : Int), ((3 : Int), ((0 : Int), (0 : Int)))), ((2 : Int), ((0 : Int), ((0 : Int), (-5 : Int)))), ((3 : Int), ((0 : Int), ((1 : Int), (2 : Int)))), ((4 : Int), ((2 : Int), ((1 : Int), (0 : Int))))] (Int.toNat (v_book_Pick a (5 : Int))) (dflt T_api_Opd)).2.2.1 (List.getD [((0 : Int), ((0 : Int), ((0 : Int), (0 : Int)))), ((1 : Int), ((3 : Int), ((0 : Int), (0 : Int)))), ((2 : Int), ((0 : Int), ((0 : Int), (-5 : Int)))), ((3 : Int), ((0 : Int), ((1 : Int), (2 : Int)))), ((4 : Int), ((2 : Int), ((1 : Int), (0 : Int))))] (Int.toNat (v_book_Pick a (5 : Int))) (dflt T_api_Opd)).2.2.2 (List.getD [((0 : Int), ((0 : Int), ((0 : Int), (0 : Int)))), ((1 : Int), ((3 : Int), ((0 : Int), (0 : Int)))), ((2 : Int), ((0 : Int), ((0 : Int), (-5 : Int)))), ((3 : Int), ((0 : Int), ((1 : Int), (2 : Int)))), ((4 : Int), ((2 : Int), ((1 : Int), (0 : Int))))] (Int.toNat (v_book_Pick b (5 : Int))) (dflt T_api_Opd)).1 (List.getD [((0 : Int), ((0 : Int), ((0 : Int), (0 : Int)))), ((1 : Int), ((3 : Int), ((0 : Int), (0 : Int)))), ((2 : Int), ((0 : Int), ((0 : Int), (-5 : Int)))), ((3 : Int), ((0 : Int), ((1 : Int), (2 : Int)))), ((4 : Int), ((2 : Int), ((1 : Int), (0 : Int))))] (Int.toNat (v_book_Pick b (5 : Int))) (dflt T_api_Opd)).2.1 (List.getD [((0 : Int), ((0 : Int), ((0 : Int), (0 : Int)))), ((1 : Int), ((3 : Int), ((0 : Int), (0 : Int)))), ((2 : Int), ((0 : Int), ((0 : Int), (-5 : Int)))), ((3 : Int), ((0 : Int), ((1 : Int), (2 : Int)))), ((4 : Int), ((2 : Int), ((1 : Int), (0 : Int))))] (Int.toNat (v_book_Pick b (5 : Int))) (dflt T_api_Opd)).2.2.1 (List.getD [((0 : Int), ((0 : Int), ((0 : Int), (0 : Int)))), ((1 : Int), ((3 : Int), ((0 : Int), (0 : Int)))), ((2 : Int), ((0 : Int), ((0 : Int), (-5 : Int)))), ((3 : Int), ((0 : Int), ((1 : Int), (2 : Int)))), ((4 : Int), ((2 : Int), ((1 : Int), (0 : Int))))] (Int.toNat (v_book_Pick b (5 : Int))) (dflt T_api_Opd)).2.2.2 (0 : Int) (bs [116, 111, 112]) hk)) (fun hk =>
                Goes.brk hk (fun hk =>
                  Goes.brk hk (fun hk =>
                    g_law7_InsForms_l5 op a b cond lock (List.getD [((0 : Int), ((0 : Int), ((0 : Int), (0 : Int)))), ((1 : Int), ((3 : Int), ((0 : Int), (0 : Int)))), ((2 : Int), ((0 : Int), ((0 : Int), (-5 : Int)))), ((3 : Int), ((0 : Int), ((1 : Int), (2 : Int)))), ((4 : Int), ((2 : Int), ((1 : Int), (0 : Int))))] (Int.toNat (v_book_Pick a (5 : Int))) (dflt T_api_Opd)).1 (List.getD [((0 : Int), ((0 : Int), ((0 : Int), (0 : Int)))), ((1 : Int), ((3 : Int), ((0 : Int), (0 : Int)))), ((2 : Int), ((0 : Int), ((0 : Int), (-5 : Int)))), ((3 : Int), ((0 : Int), ((1 : Int), (2 : Int)))), ((4 : Int), ((2 : Int), ((1 : Int), (0 : Int))))] (Int.toNat (v_book_Pick a (5 : Int))) (dflt T_api_Opd)).2.1 (List.getD [((0 : Int), ((0 : Int), ((0 : Int), (0 : Int)))), ((1 : Int), ((3 : Int), ((0 : Int), (0 : Int)))), ((2 : Int), ((0 : Int), ((0 : Int), (-5 : Int)))), ((3 : Int), ((0 : Int), ((1 : Int), (2 : Int)))), ((4 : Int), ((2 : Int), ((1 : Int), (0 : Int))))] (Int.toNat (v_book_Pick a (5 : Int))) (dflt T_api_Opd)).2.2.1 (List.getD [((0 : Int), ((0 : Int), ((0 : Int), (0 : Int)))), ((1 : Int), ((3 : Int), ((0 : Int), (0 : Int)))), ((2 : Int), ((0 : Int), ((0 : Int), (-5 : Int)))), ((3 : Int), ((0 : Int), ((1 : Int), (2 : Int)))), ((4 : Int), ((2 : Int), ((1 : Int), (0 : Int))))] (Int.toNat (v_book_Pick a (5 : Int))) (dflt T_api_Opd)).2.2.2 (List.getD [((0 : Int), ((0 : Int), ((0 : Int), (0 : Int)))), ((1 : Int), ((3 : Int), ((0 : Int), (0 : Int)))), ((2 : Int), ((0 : Int), ((0 : Int), (-5 : Int)))), ((3 : Int), ((0 : Int), ((1 : Int), (2 : Int)))), ((4 : Int), ((2 : Int), ((1 : Int), (0 : Int))))] (Int.toNat (v_book_Pick b (5 : Int))) (dflt T_api_Opd)).1 (List.getD [((0 : Int), ((0 : Int), ((0 : Int), (0 : Int)))), ((1 : Int), ((3 : Int), ((0 : Int), (0 : Int)))), ((2 : Int), ((0 : Int), ((0 : Int), (-5 : Int)))), ((3 : Int), ((0 : Int), ((1 : Int), (2 : Int)))), ((4 : Int), ((2 : Int), ((1 : Int), (0 : Int))))] (Int.toNat (v_book_Pick b (5 : Int))) (dflt T_api_Opd)).2.1 (List.getD [((0 : Int), ((0 : Int), ((0 : Int), (0 : Int)))), ((1 : Int), ((3 : Int), ((0 : Int), (0 : Int)))), ((2 : Int), ((0 : Int), ((0 : Int), (-5 : Int)))), ((3 : Int), ((0 : Int), ((1 : Int), (2 : Int)))), ((4 : Int), ((2 : Int), ((1 : Int), (0 : Int))))] (Int.toNat (v_book_Pick b (5 : Int))) (dflt T_api_Opd)).2.2.1 (List.getD [((0 : Int), ((0 : Int), ((0 : Int), (0 : Int)))), ((1 : Int), ((3 : Int), ((0 : Int), (0 : Int)))), ((2 : Int), ((0 : Int), ((0 : Int), (-5 : Int)))), ((3 : Int), ((0 : Int), ((1 : Int), (2 : Int)))), ((4 : Int), ((2 : Int), ((1 : Int), (0 : Int))))] (Int.toNat (v_book_Pick b (5 : Int))) (dflt T_api_Opd)).2.2.2 (IntKind.i64.wrap ((1 : Int) + (v_book_Pick cond (10 : Int)))) (bs []) hk) (fun hk =>
                    Goes.nok hk)) (fun hk =>
                  g_law7_InsForms_l5 op a b cond lock (List.getD [((0 : Int), ((0 : Int), ((0 : Int), (0 : Int)))), ((1 : Int), ((3 : Int), ((0 : Int), (0 : Int)))), ((2 : Int), ((0 : Int), ((0 : Int), (-5 : Int)))), ((3 : Int), ((0 : Int), ((1 : Int), (2 : Int)))), ((4 : Int), ((2 : Int), ((1 : Int), (0 : Int))))] (Int.toNat (v_book_Pick a (5 : Int))) (dflt T_api_Opd)).1 (List.getD [((0 : Int), ((0 : Int), ((0 : Int), (0 : Int)))), ((1 : Int), ((3 : Int), ((0 : Int), (0 : Int)))), ((2 : Int), ((0 : Int), ((0 : Int), (-5 : Int)))), ((3 : Int), ((0 : Int), ((1 : Int), (2 : Int)))), ((4 : Int), ((2 : Int), ((1 : Int), (0 : Int))))] (Int.toNat (v_book_Pick a (5 : Int))) (dflt T_api_Opd)).2.1 (List.getD [((0 : Int), ((0 : Int), ((0 : Int), (0 : Int)))), ((1 : Int), ((3 : Int), ((0 : Int), (0 : Int)))), ((2 : Int), ((0 : Int), ((0 : Int), (-5 : Int)))), ((3 : Int), ((0 : Int), ((1 : Int), (2 : Int)))), ((4 : Int), ((2 : Int), ((1 : Int), (0 : Int))))] (Int.toNat (v_book_Pick a (5 : Int))) (dflt T_api_Opd)).2.2.1 (List.getD [((0 : Int), ((0 : Int), ((0 : Int), (0 : Int)))), ((1 : Int), ((3 : Int), ((0 : Int), (0 : Int)))), ((2 : Int), ((0 : Int), ((0 : Int), (-5 : Int)))), ((3 : Int), ((0 : Int), ((1 : Int), (2 : Int)))), ((4 : Int), ((2 : Int), ((1 : Int), (0 : Int))))] (Int.toNat (v_book_Pick a (5 : Int))) (dflt T_api_Opd)).2.2.2 (List.getD [((0 : Int), ((0 : Int), ((0 : Int), (0 : Int)))), ((1 : Int), ((3 : Int), ((0 : Int), (0 : Int)))), ((2 : Int), ((0 : Int), ((0 : Int), (-5 : Int)))), ((3 : Int), ((0 : Int), ((1 : Int), (2 : Int)))), ((4 : Int), ((2 : Int), ((1 : Int), (0 : Int))))] (Int.toNat (v_book_Pick b (5 : Int))) (dflt T_api_Opd)).1 (List.getD [((0 : Int), ((0 : Int), ((0 : Int), (0 : Int)))), ((1 : Int), ((3 : Int), ((0 : Int), (0 : Int)))), ((2 : Int), ((0 : Int), ((0 : Int), (-5 : Int)))), ((3 : Int), ((0 : Int), ((1 : Int), (2 : Int)))), ((4 : Int), ((2 : Int), ((1 : Int), (0 : Int))))] (Int.toNat (v_book_Pick b (5 : Int))) (dflt T_api_Opd)).2.1 (List.getD [((0 : Int), ((0 : Int), ((0 : Int), (0 : Int)))), ((1 : Int), ((3 : Int), ((0 : Int), (0 : Int)))), ((2 : Int), ((0 : Int), ((0 : Int), (-5 : Int)))), ((3 : Int), ((0 : Int), ((1 : Int), (2 : Int)))), ((4 : Int), ((2 : Int), ((1 : Int), (0 : Int))))] (Int.toNat (v_book_Pick b (5 : Int))) (dflt T_api_Opd)).2.2.1 (List.getD [((0 : Int), ((0 : Int), ((0 : Int), (0 : Int)))), ((1 : Int), ((3 : Int), ((0 : Int), (0 : Int)))), ((2 : Int), ((0 : Int), ((0 : Int), (-5 : Int)))), ((3 : Int), ((0 : Int), ((1 : Int), (2 : Int)))), ((4 : Int), ((2 : Int), ((1 : Int), (0 : Int))))] (Int.toNat (v_book_Pick b (5 : Int))) (dflt T_api_Opd)).2.2.2 (0 : Int) (bs []) hk)))) (fun hk =>
            Goes.nok hk)) (fun hk =>
          Goes.nok hk)) (fun hk =>
        Goes.nok hk)) (fun hk =>
      Goes.nok hk)) (fun hk =>
    Goes.nok hk)
def R_law7_InsForms : Bool → AV := fun (r : Bool) => .d .bool r
def S_law7_InsForms (op : Int) (a : Int) (b : Int) (cond : Int) (lock : Bool) : J_law7_InsForms → Nat × St
  | .l5 x x1 x2 x3 x4 x5 x6 x7 x8 x9 => (5, ⟨mkTm 54 [(12, .pt 13 0 0)], [(13, 0, .box 26 [.d (.int .i64) (v_book_Pick op (16 : Int)), .d .bool lock, .d (.int .i64) x8, .d (.int .i64) x, .d (.int .i64) x1, .d (.int .i64) x2, .d (.int .i64) x3, .d (.int .i64) x4, .d (.int .i64) x5, .d (.int .i64) x6, .d (.int .i64) x7, .d .str x9, .nil])]⟩)
theorem en_law7_InsForms (op : Int) (a : Int) (b : Int) (cond : Int) (lock : Bool) (L : Lt) : entryA Go.Proofs.Tryd.prog (clOf t_law7_InsForms) tb_law7_InsForms Go.Proofs.Tryd.f5 c_law7_InsForms L (toForms sg_law7_InsForms (op, a, b, cond, lock, ())) = (T0_law7_InsForms op a b cond lock).run (fun v => some (R_law7_InsForms v, tps (toForms sg_law7_InsForms (op, a, b, cond, lock, ())))) fun j => L (S_law7_InsForms op a b cond lock j).1 (S_law7_InsForms op a b cond lock j).2 := by kernel_rfl
theorem lp_law7_InsForms (op : Int) (a : Int) (b : Int) (cond : Int) (lock : Bool) : ∀ (L : Lt) (j : J_law7_InsForms), procOf (procsF Go.Proofs.Tryd.prog (clOf t_law7_InsForms) tb_law7_InsForms Go.Proofs.Tryd.f5 c_law7_InsForms (toForms sg_law7_InsForms (op, a, b, cond, lock, ()))) (S_law7_InsForms op a b cond lock j).1 L (S_law7_InsForms op a b cond lock j).2 = (T_law7_InsForms op a b cond lock j).run (fun v => some (R_law7_InsForms v, tps (toForms sg_law7_InsForms (op, a, b, cond, lock, ())))) fun j => L (S_law7_InsForms op a b cond lock j).1 (S_law7_InsForms op a b cond lock j).2
  | L, .l5 x x1 x2 x3 x4 x5 x6 x7 x8 x9 => by kernel_rfl
noncomputable def e_law7_InsForms : Run := entG sg_law7_InsForms R_law7_InsForms (fun a => k_law7_InsForms a.1 a.2.1 a.2.2.1 a.2.2.2.1 a.2.2.2.2.1) (fun a => v_law7_InsForms a.1 a.2.1 a.2.2.1 a.2.2.2.1 a.2.2.2.2.1)
theorem ok_law7_InsForms : EntOK Go.Proofs.Tryd.prog 5 e_law7_InsForms := entG_ok (tb := tb_law7_InsForms) (c := c_law7_InsForms) tk_law7_InsForms (by kernel_rfl) (by kernel_rfl) (by kernel_rfl) (fun a => by kernel_rfl) fun ⟨op, a, b, cond, lock, _⟩ hk => evF_goes (c := c_law7_InsForms) (K := fun v => (R_law7_InsForms v, tps (toForms sg_law7_InsForms (op, a, b, cond, lock, ())))) (S := S_law7_InsForms op a b cond lock) (by kernel_rfl) (en_law7_InsForms op a b cond lock) (lp_law7_InsForms op a b cond lock) (g_law7_InsForms op a b cond lock hk)
theorem co_law7_InsForms (op : Int) (a : Int) (b : Int) (cond : Int) (lock : Bool) (hk : k_law7_InsForms op a b cond lock = true) : CallOK Go.Proofs.Tryd.prog 5 (toForms sg_law7_InsForms (op, a, b, cond, lock, ())) (R_law7_InsForms (v_law7_InsForms op a b cond lock), tps (toForms sg_law7_InsForms (op, a, b, cond, lock, ()))) := by
  obtain ⟨h1, h2⟩ := clOf_ok tk_law7_InsForms
  obtain ⟨n, hn⟩ := evF_goes (c := c_law7_InsForms) (K := fun v => (R_law7_InsForms v, tps (toForms sg_law7_InsForms (op, a, b, cond, lock, ())))) (S := S_law7_InsForms op a b cond lock) (by kernel_rfl) (en_law7_InsForms op a b cond lock) (lp_law7_InsForms op a b cond lock) (g_law7_InsForms op a b cond lock hk)
  exact evF_sound (f := 5) (c := c_law7_InsForms) h1 h2 (by kernel_rfl) (by kernel_rfl) (by kernel_rfl) hn
end Go.Ev
end

section
set_option linter.unusedSectionVars false
set_option linter.unusedVariables false
set_option linter.unusedSimpArgs false
set_option maxRecDepth 100000
set_option linter.unusedVariables false
namespace Go.Ev
open Go
theorem pick_lt {n m : Int} (h1 : 0 < m) (h2 : m < 9223372036854775808) : k_book_Pick n m = true ∧ 0 ≤ v_book_Pick n m ∧ v_book_Pick n m < m := by
  have h0 : (m == 0) = false := by simp; omega
  have hl : Int.tmod n m < m := Int.tmod_lt_of_pos n h1
  have hg : -m < Int.tmod n m := by have := Int.tmod_lt_of_pos (-n) h1; rw [Int.neg_tmod] at this; omega
  unfold k_book_Pick v_book_Pick
  simp only [h0, cond_false, Bool.cond_self, true_and]
  by_cases hn : Int.tmod n m < 0
  · simp only [hn, decide_true, cond_true]
    rw [wrap_i64 (by omega) (by omega)]
    omega
  · simp only [hn, decide_false, cond_false]
    omega
theorem true_law7_InsForms (op a b cond : Int) (lock : Bool) : k_law7_InsForms op a b cond lock = true ∧ v_law7_InsForms op a b cond lock = true := by
  have k16 : k_book_Pick op 16 = true := (pick_lt (by omega) (by omega)).1
  have k10 : k_book_Pick cond 10 = true := (pick_lt (by omega) (by omega)).1
  have hp : ∀ n, k_book_Pick n 5 = true ∧ decide (0 ≤ v_book_Pick n 5) = true ∧ decide (v_book_Pick n 5 < 5) = true := fun n => by
    obtain ⟨h1, h2, h3⟩ := pick_lt (n := n) (m := 5) (by omega) (by omega)
    exact ⟨h1, decide_eq_true h2, decide_eq_true h3⟩
  obtain ⟨a1, a2, a3⟩ := hp a
  obtain ⟨b1, b2, b3⟩ := hp b
  have hl : ∀ x x1 x2 x3 x4 x5 x6 x7 x8 x9, smallText x9 = true → k_law7_InsForms_l5 op a b cond lock x x1 x2 x3 x4 x5 x6 x7 x8 x9 = true ∧ v_law7_InsForms_l5 op a b cond lock x x1 x2 x3 x4 x5 x6 x7 x8 x9 = true := fun x x1 x2 x3 x4 x5 x6 x7 x8 x9 h => by
    unfold k_law7_InsForms_l5 v_law7_InsForms_l5
    obtain ⟨t1, t2⟩ := tells_true (i := ((v_book_Pick op (16 : Int)), (lock, (x8, ((x, (x1, (x2, x3))), ((x4, (x5, (x6, x7))), (x9, []))))))) h
    simp only [t1, t2, k_alive7, v_alive7, cond_true, and_self]
  have htop : smallText (bs [116, 111, 112]) = true := by decide
  have hnil : smallText (bs []) = true := by decide
  have hlk := fun x x1 x2 x3 x4 x5 x6 x7 x8 x9 h => (hl x x1 x2 x3 x4 x5 x6 x7 x8 x9 h).1
  have hlv := fun x x1 x2 x3 x4 x5 x6 x7 x8 x9 h => (hl x x1 x2 x3 x4 x5 x6 x7 x8 x9 h).2
  unfold k_law7_InsForms v_law7_InsForms
  simp only [k16, k10, a1, a2, a3, b1, b2, b3, hlk _ _ _ _ _ _ _ _ _ _ htop, hlk _ _ _ _ _ _ _ _ _ _ hnil, hlv _ _ _ _ _ _ _ _ _ _ htop, hlv _ _ _ _ _ _ _ _ _ _ hnil, cond_true, Bool.and_self, Bool.cond_self, and_self]
theorem call_law7_InsForms (a : Args sg_law7_InsForms) (ha : smallArgs sg_law7_InsForms a) : CallOK Go.Proofs.Tryd.prog 5 (toForms sg_law7_InsForms a) (.d .bool true, tps (toForms sg_law7_InsForms a)) := by
  obtain ⟨op, x, y, c, l, _⟩ := a
  obtain ⟨hk, hv⟩ := true_law7_InsForms op x y c l
  have := co_law7_InsForms op x y c l hk
  rw [hv] at this
  exact this
end Go.Ev
end

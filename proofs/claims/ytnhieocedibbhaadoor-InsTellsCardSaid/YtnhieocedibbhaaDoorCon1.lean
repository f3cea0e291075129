/- Part of the proof of: the law InsTells holds: what is told of any instruction is what the document says -/
import Derived.Test.YtnhieocedibbhaaDoorCon0
section
set_option linter.unusedSectionVars false
set_option linter.unusedVariables false
set_option linter.unusedSimpArgs false
set_option maxRecDepth 100000
set_option linter.unusedVariables false
open Go Go.Ev
namespace Go.Ev
/-! ### paling/palinglaw7.alive -/
def sg_law7_alive : Sig := []
noncomputable def t_law7_alive : Tbl := [(20, e_ins_Reads), (18, e_ins_Right), (23, e_ins_Parts), (25, e_ins_Fence)]
theorem tk_law7_alive : ∀ p ∈ t_law7_alive, EntOK Go.Proofs.Tryd.prog p.1 p.2 := tbl_cons ok_ins_Reads (tbl_cons ok_ins_Right (tbl_cons ok_ins_Parts (tbl_cons ok_ins_Fence (tbl_nil))))
noncomputable def c_law7_alive : Code := Go.Proofs.Tryd.f15.body.getD .skip
def tb_law7_alive : Tb := []
def T_law7_alive : Empty → JT Empty (Bool) := fun j => nomatch j
def T0_law7_alive : JT Empty (Bool) :=
  .br (k_ins_Reads ((2 : Int), (false, ((0 : Int), (((3 : Int), ((0 : Int), ((0 : Int), (0 : Int)))), (((1 : Int), ((0 : Int), ((0 : Int), (0 : Int)))), ((bs []), [])))))))
    (.br (k_ins_Right ((2 : Int), (false, ((0 : Int), (((3 : Int), ((0 : Int), ((0 : Int), (0 : Int)))), (((1 : Int), ((0 : Int), ((0 : Int), (0 : Int)))), ((bs []), [])))))))
      (.br ((v_ins_Right ((2 : Int), (false, ((0 : Int), (((3 : Int), ((0 : Int), ((0 : Int), (0 : Int)))), (((1 : Int), ((0 : Int), ((0 : Int), (0 : Int)))), ((bs []), []))))))) == (0 : Int))
        (.br (k_ins_Parts ((2 : Int), (false, ((0 : Int), (((3 : Int), ((0 : Int), ((0 : Int), (0 : Int)))), (((1 : Int), ((0 : Int), ((0 : Int), (0 : Int)))), ((bs []), [])))))))
          (.br ((v_ins_Parts ((2 : Int), (false, ((0 : Int), (((3 : Int), ((0 : Int), ((0 : Int), (0 : Int)))), (((1 : Int), ((0 : Int), ((0 : Int), (0 : Int)))), ((bs []), []))))))) == (2 : Int))
            (.br (k_ins_Parts ((2 : Int), (true, ((0 : Int), (((3 : Int), ((0 : Int), ((0 : Int), (0 : Int)))), (((1 : Int), ((0 : Int), ((0 : Int), (0 : Int)))), ((bs []), [])))))))
              (.br ((v_ins_Parts ((2 : Int), (true, ((0 : Int), (((3 : Int), ((0 : Int), ((0 : Int), (0 : Int)))), (((1 : Int), ((0 : Int), ((0 : Int), (0 : Int)))), ((bs []), []))))))) == (1 : Int))
                (.br (k_ins_Fence ((2 : Int), (true, ((0 : Int), (((3 : Int), ((0 : Int), ((0 : Int), (0 : Int)))), (((1 : Int), ((0 : Int), ((0 : Int), (0 : Int)))), ((bs []), [])))))))
                  (.br (v_ins_Fence ((2 : Int), (true, ((0 : Int), (((3 : Int), ((0 : Int), ((0 : Int), (0 : Int)))), (((1 : Int), ((0 : Int), ((0 : Int), (0 : Int)))), ((bs []), [])))))))
                    (.br (k_ins_Fence ((2 : Int), (false, ((0 : Int), (((3 : Int), ((0 : Int), ((0 : Int), (0 : Int)))), (((1 : Int), ((0 : Int), ((0 : Int), (0 : Int)))), ((bs []), [])))))))
                      (.br (! (v_ins_Fence ((2 : Int), (false, ((0 : Int), (((3 : Int), ((0 : Int), ((0 : Int), (0 : Int)))), (((1 : Int), ((0 : Int), ((0 : Int), (0 : Int)))), ((bs []), []))))))))
                        (.br (v_ins_Reads ((2 : Int), (false, ((0 : Int), (((3 : Int), ((0 : Int), ((0 : Int), (0 : Int)))), (((1 : Int), ((0 : Int), ((0 : Int), (0 : Int)))), ((bs []), []))))))).2
                          (.br (((v_ins_Reads ((2 : Int), (false, ((0 : Int), (((3 : Int), ((0 : Int), ((0 : Int), (0 : Int)))), (((1 : Int), ((0 : Int), ((0 : Int), (0 : Int)))), ((bs []), []))))))).1.1 == (3 : Int)) && (((v_ins_Reads ((2 : Int), (false, ((0 : Int), (((3 : Int), ((0 : Int), ((0 : Int), (0 : Int)))), (((1 : Int), ((0 : Int), ((0 : Int), (0 : Int)))), ((bs []), []))))))).1.2.1 == (0 : Int)) && (((v_ins_Reads ((2 : Int), (false, ((0 : Int), (((3 : Int), ((0 : Int), ((0 : Int), (0 : Int)))), (((1 : Int), ((0 : Int), ((0 : Int), (0 : Int)))), ((bs []), []))))))).1.2.2.1 == (0 : Int)) && ((v_ins_Reads ((2 : Int), (false, ((0 : Int), (((3 : Int), ((0 : Int), ((0 : Int), (0 : Int)))), (((1 : Int), ((0 : Int), ((0 : Int), (0 : Int)))), ((bs []), []))))))).1.2.2.2 == (0 : Int)))))
                            (.br (k_ins_Right ((0 : Int), (false, ((0 : Int), (((0 : Int), ((0 : Int), ((0 : Int), (0 : Int)))), (((0 : Int), ((0 : Int), ((0 : Int), (0 : Int)))), ((bs []), [])))))))
                              (.leaf ((v_ins_Right ((0 : Int), (false, ((0 : Int), (((0 : Int), ((0 : Int), ((0 : Int), (0 : Int)))), (((0 : Int), ((0 : Int), ((0 : Int), (0 : Int)))), ((bs []), []))))))) == (4 : Int)))
                            (.no))
                          (.leaf false))
                        (.leaf false))
                      (.leaf false))
                    (.no))
                  (.leaf false))
                (.no))
              (.leaf false))
            (.no))
          (.leaf false))
        (.no))
      (.leaf false))
    (.no))
  (.no)
def v_law7_alive : Bool :=
  bif (k_ins_Reads ((2 : Int), (false, ((0 : Int), (((3 : Int), ((0 : Int), ((0 : Int), (0 : Int)))), (((1 : Int), ((0 : Int), ((0 : Int), (0 : Int)))), ((bs []), []))))))) then
    bif (k_ins_Right ((2 : Int), (false, ((0 : Int), (((3 : Int), ((0 : Int), ((0 : Int), (0 : Int)))), (((1 : Int), ((0 : Int), ((0 : Int), (0 : Int)))), ((bs []), []))))))) then
      bif ((v_ins_Right ((2 : Int), (false, ((0 : Int), (((3 : Int), ((0 : Int), ((0 : Int), (0 : Int)))), (((1 : Int), ((0 : Int), ((0 : Int), (0 : Int)))), ((bs []), []))))))) == (0 : Int)) then
        bif (k_ins_Parts ((2 : Int), (false, ((0 : Int), (((3 : Int), ((0 : Int), ((0 : Int), (0 : Int)))), (((1 : Int), ((0 : Int), ((0 : Int), (0 : Int)))), ((bs []), []))))))) then
          bif ((v_ins_Parts ((2 : Int), (false, ((0 : Int), (((3 : Int), ((0 : Int), ((0 : Int), (0 : Int)))), (((1 : Int), ((0 : Int), ((0 : Int), (0 : Int)))), ((bs []), []))))))) == (2 : Int)) then
            bif (k_ins_Parts ((2 : Int), (true, ((0 : Int), (((3 : Int), ((0 : Int), ((0 : Int), (0 : Int)))), (((1 : Int), ((0 : Int), ((0 : Int), (0 : Int)))), ((bs []), []))))))) then
              bif ((v_ins_Parts ((2 : Int), (true, ((0 : Int), (((3 : Int), ((0 : Int), ((0 : Int), (0 : Int)))), (((1 : Int), ((0 : Int), ((0 : Int), (0 : Int)))), ((bs []), []))))))) == (1 : Int)) then
                bif (k_ins_Fence ((2 : Int), (true, ((0 : Int), (((3 : Int), ((0 : Int), ((0 : Int), (0 : Int)))), (((1 : Int), ((0 : Int), ((0 : Int), (0 : Int)))), ((bs []), []))))))) then
                  bif (v_ins_Fence ((2 : Int), (true, ((0 : Int), (((3 : Int), ((0 : Int), ((0 : Int), (0 : Int)))), (((1 : Int), ((0 : Int), ((0 : Int), (0 : Int)))), ((bs []), []))))))) then
                    bif (k_ins_Fence ((2 : Int), (false, ((0 : Int), (((3 : Int), ((0 : Int), ((0 : Int), (0 : Int)))), (((1 : Int), ((0 : Int), ((0 : Int), (0 : Int)))), ((bs []), []))))))) then
                      bif (! (v_ins_Fence ((2 : Int), (false, ((0 : Int), (((3 : Int), ((0 : Int), ((0 : Int), (0 : Int)))), (((1 : Int), ((0 : Int), ((0 : Int), (0 : Int)))), ((bs []), [])))))))) then
                        bif (v_ins_Reads ((2 : Int), (false, ((0 : Int), (((3 : Int), ((0 : Int), ((0 : Int), (0 : Int)))), (((1 : Int), ((0 : Int), ((0 : Int), (0 : Int)))), ((bs []), []))))))).2 then
                          bif (((v_ins_Reads ((2 : Int), (false, ((0 : Int), (((3 : Int), ((0 : Int), ((0 : Int), (0 : Int)))), (((1 : Int), ((0 : Int), ((0 : Int), (0 : Int)))), ((bs []), []))))))).1.1 == (3 : Int)) && (((v_ins_Reads ((2 : Int), (false, ((0 : Int), (((3 : Int), ((0 : Int), ((0 : Int), (0 : Int)))), (((1 : Int), ((0 : Int), ((0 : Int), (0 : Int)))), ((bs []), []))))))).1.2.1 == (0 : Int)) && (((v_ins_Reads ((2 : Int), (false, ((0 : Int), (((3 : Int), ((0 : Int), ((0 : Int), (0 : Int)))), (((1 : Int), ((0 : Int), ((0 : Int), (0 : Int)))), ((bs []), []))))))).1.2.2.1 == (0 : Int)) && ((v_ins_Reads ((2 : Int), (false, ((0 : Int), (((3 : Int), ((0 : Int), ((0 : Int), (0 : Int)))), (((1 : Int), ((0 : Int), ((0 : Int), (0 : Int)))), ((bs []), []))))))).1.2.2.2 == (0 : Int))))) then
                            bif (k_ins_Right ((0 : Int), (false, ((0 : Int), (((0 : Int), ((0 : Int), ((0 : Int), (0 : Int)))), (((0 : Int), ((0 : Int), ((0 : Int), (0 : Int)))), ((bs []), []))))))) then
                              ((v_ins_Right ((0 : Int), (false, ((0 : Int), (((0 : Int), ((0 : Int), ((0 : Int), (0 : Int)))), (((0 : Int), ((0 : Int), ((0 : Int), (0 : Int)))), ((bs []), []))))))) == (4 : Int))
                            else false
                          else false
                        else false
                      else false
                    else false
                  else false
                else false
              else false
            else false
          else false
        else false
      else false
    else false
  else false
def k_law7_alive : Bool :=
  bif (k_ins_Reads ((2 : Int), (false, ((0 : Int), (((3 : Int), ((0 : Int), ((0 : Int), (0 : Int)))), (((1 : Int), ((0 : Int), ((0 : Int), (0 : Int)))), ((bs []), []))))))) then
    bif (k_ins_Right ((2 : Int), (false, ((0 : Int), (((3 : Int), ((0 : Int), ((0 : Int), (0 : Int)))), (((1 : Int), ((0 : Int), ((0 : Int), (0 : Int)))), ((bs []), []))))))) then
      bif ((v_ins_Right ((2 : Int), (false, ((0 : Int), (((3 : Int), ((0 : Int), ((0 : Int), (0 : Int)))), (((1 : Int), ((0 : Int), ((0 : Int), (0 : Int)))), ((bs []), []))))))) == (0 : Int)) then
        bif (k_ins_Parts ((2 : Int), (false, ((0 : Int), (((3 : Int), ((0 : Int), ((0 : Int), (0 : Int)))), (((1 : Int), ((0 : Int), ((0 : Int), (0 : Int)))), ((bs []), []))))))) then
          bif ((v_ins_Parts ((2 : Int), (false, ((0 : Int), (((3 : Int), ((0 : Int), ((0 : Int), (0 : Int)))), (((1 : Int), ((0 : Int), ((0 : Int), (0 : Int)))), ((bs []), []))))))) == (2 : Int)) then
            bif (k_ins_Parts ((2 : Int), (true, ((0 : Int), (((3 : Int), ((0 : Int), ((0 : Int), (0 : Int)))), (((1 : Int), ((0 : Int), ((0 : Int), (0 : Int)))), ((bs []), []))))))) then
              bif ((v_ins_Parts ((2 : Int), (true, ((0 : Int), (((3 : Int), ((0 : Int), ((0 : Int), (0 : Int)))), (((1 : Int), ((0 : Int), ((0 : Int), (0 : Int)))), ((bs []), []))))))) == (1 : Int)) then
                bif (k_ins_Fence ((2 : Int), (true, ((0 : Int), (((3 : Int), ((0 : Int), ((0 : Int), (0 : Int)))), (((1 : Int), ((0 : Int), ((0 : Int), (0 : Int)))), ((bs []), []))))))) then
                  bif (v_ins_Fence ((2 : Int), (true, ((0 : Int), (((3 : Int), ((0 : Int), ((0 : Int), (0 : Int)))), (((1 : Int), ((0 : Int), ((0 : Int), (0 : Int)))), ((bs []), []))))))) then
                    bif (k_ins_Fence ((2 : Int), (false, ((0 : Int), (((3 : Int), ((0 : Int), ((0 : Int), (0 : Int)))), (((1 : Int), ((0 : Int), ((0 : Int), (0 : Int)))), ((bs []), []))))))) then
                      bif (! (v_ins_Fence ((2 : Int), (false, ((0 : Int), (((3 : Int), ((0 : Int), ((0 : Int), (0 : Int)))), (((1 : Int), ((0 : Int), ((0 : Int), (0 : Int)))), ((bs []), [])))))))) then
                        bif (v_ins_Reads ((2 : Int), (false, ((0 : Int), (((3 : Int), ((0 : Int), ((0 : Int), (0 : Int)))), (((1 : Int), ((0 : Int), ((0 : Int), (0 : Int)))), ((bs []), []))))))).2 then
                          bif (((v_ins_Reads ((2 : Int), (false, ((0 : Int), (((3 : Int), ((0 : Int), ((0 : Int), (0 : Int)))), (((1 : Int), ((0 : Int), ((0 : Int), (0 : Int)))), ((bs []), []))))))).1.1 == (3 : Int)) && (((v_ins_Reads ((2 : Int), (false, ((0 : Int), (((3 : Int), ((0 : Int), ((0 : Int), (0 : Int)))), (((1 : Int), ((0 : Int), ((0 : Int), (0 : Int)))), ((bs []), []))))))).1.2.1 == (0 : Int)) && (((v_ins_Reads ((2 : Int), (false, ((0 : Int), (((3 : Int), ((0 : Int), ((0 : Int), (0 : Int)))), (((1 : Int), ((0 : Int), ((0 : Int), (0 : Int)))), ((bs []), []))))))).1.2.2.1 == (0 : Int)) && ((v_ins_Reads ((2 : Int), (false, ((0 : Int), (((3 : Int), ((0 : Int), ((0 : Int), (0 : Int)))), (((1 : Int), ((0 : Int), ((0 : Int), (0 : Int)))), ((bs []), []))))))).1.2.2.2 == (0 : Int))))) then
                            bif (k_ins_Right ((0 : Int), (false, ((0 : Int), (((0 : Int), ((0 : Int), ((0 : Int), (0 : Int)))), (((0 : Int), ((0 : Int), ((0 : Int), (0 : Int)))), ((bs []), []))))))) then
                              true
                            else false
                          else true
                        else true
                      else true
                    else false
                  else true
                else false
              else true
            else false
          else true
        else false
      else true
    else false
  else false
theorem g_law7_alive (hk : k_law7_alive = true) : Goes (T_law7_alive) (T0_law7_alive) (v_law7_alive) :=
  Goes.brk hk (fun hk =>
    Goes.brk hk (fun hk =>
      Goes.brk hk (fun hk =>
        Goes.brk hk (fun hk =>
          Goes.brk hk (fun hk =>
            Goes.brk hk (fun hk =>
              Goes.brk hk (fun hk =>
                Goes.brk hk (fun hk =>
                  Goes.brk hk (fun hk =>
                    Goes.brk hk (fun hk =>
                      Goes.brk hk (fun hk =>
                        Goes.brk hk (fun hk =>
                          Goes.brk hk (fun hk =>
                            Goes.brk hk (fun hk =>
                              Goes.leaf) (fun hk =>
                              Goes.nok hk)) (fun hk =>
                            Goes.leaf)) (fun hk =>
                          Goes.leaf)) (fun hk =>
                        Goes.leaf)) (fun hk =>
                      Goes.nok hk)) (fun hk =>
                    Goes.leaf)) (fun hk =>
                  Goes.nok hk)) (fun hk =>
                Goes.leaf)) (fun hk =>
              Goes.nok hk)) (fun hk =>
            Goes.leaf)) (fun hk =>
          Goes.nok hk)) (fun hk =>
        Goes.leaf)) (fun hk =>
      Goes.nok hk)) (fun hk =>
    Goes.nok hk)
def R_law7_alive : Bool → AV := fun (r : Bool) => .d .bool r
def S_law7_alive : Empty → Nat × St := fun j => nomatch j
theorem en_law7_alive (L : Lt) : entryA Go.Proofs.Tryd.prog (clOf t_law7_alive) tb_law7_alive Go.Proofs.Tryd.f15 c_law7_alive L (toForms sg_law7_alive (())) = (T0_law7_alive).run (fun v => some (R_law7_alive v, tps (toForms sg_law7_alive (())))) fun j => L (S_law7_alive j).1 (S_law7_alive j).2 := by kernel_rfl
theorem lp_law7_alive : ∀ (L : Lt) (j : Empty), procOf (procsF Go.Proofs.Tryd.prog (clOf t_law7_alive) tb_law7_alive Go.Proofs.Tryd.f15 c_law7_alive (toForms sg_law7_alive (()))) (S_law7_alive j).1 L (S_law7_alive j).2 = (T_law7_alive j).run (fun v => some (R_law7_alive v, tps (toForms sg_law7_alive (())))) fun j => L (S_law7_alive j).1 (S_law7_alive j).2 := fun L j => nomatch j
noncomputable def e_law7_alive : Run := entG sg_law7_alive R_law7_alive (fun a => k_law7_alive) (fun a => v_law7_alive)
theorem ok_law7_alive : EntOK Go.Proofs.Tryd.prog 15 e_law7_alive := entG_ok (tb := tb_law7_alive) (c := c_law7_alive) tk_law7_alive (by kernel_rfl) (by kernel_rfl) (by kernel_rfl) (fun a => by kernel_rfl) fun _ hk => evF_goes (c := c_law7_alive) (K := fun v => (R_law7_alive v, tps (toForms sg_law7_alive (())))) (S := S_law7_alive) (by kernel_rfl) (en_law7_alive) (lp_law7_alive) (g_law7_alive hk)
theorem co_law7_alive (hk : k_law7_alive = true) : CallOK Go.Proofs.Tryd.prog 15 (toForms sg_law7_alive (())) (R_law7_alive (v_law7_alive), tps (toForms sg_law7_alive (()))) := by
  obtain ⟨h1, h2⟩ := clOf_ok tk_law7_alive
  obtain ⟨n, hn⟩ := evF_goes (c := c_law7_alive) (K := fun v => (R_law7_alive v, tps (toForms sg_law7_alive (())))) (S := S_law7_alive) (by kernel_rfl) (en_law7_alive) (lp_law7_alive) (g_law7_alive hk)
  exact evF_sound (f := 15) (c := c_law7_alive) h1 h2 (by kernel_rfl) (by kernel_rfl) (by kernel_rfl) hn
end Go.Ev
end

section
set_option linter.unusedSectionVars false
set_option linter.unusedVariables false
set_option linter.unusedSimpArgs false
/- What is told of an instruction: `tells` is true. -/
set_option maxRecDepth 100000
set_option linter.unusedVariables false
set_option linter.unusedSimpArgs false
namespace Go.Ev
open Go
theorem k_alive7 : k_law7_alive = true := by decide
theorem v_alive7 : v_law7_alive = true := by decide

theorem nine (k : Int) : (k ≤ 9 ∧ decide (k > 9) = false) ∨ (9 < k ∧ decide (k > 9) = true) := by
  by_cases h : k ≤ 9
  · exact .inl ⟨h, by simp; omega⟩
  · exact .inr ⟨by omega, by simp; omega⟩
theorem right0_fits {i : El T_api_Ins} (h : v_ins_Right i = 0) : v_ins_fits i = true := by
  cases hf : v_ins_fits i with
  | true => rfl
  | false =>
    change u_ins_Right i = 0 at h
    unfold u_ins_Right at h
    simp only [hf, Bool.not_false, cond_true, Bool.cond_self] at h
    exact absurd h (by decide)
theorem right0_row {i : El T_api_Ins} (h : v_ins_Right i = 0) : (1 : Int) ≤ i.1 ∧ (show Int from i.1) ≤ 14 ∧ v_ref1_row i = true := by
  have hf := right0_fits h
  rw [fits_row] at hf
  simp only [Bool.and_eq_true, decide_eq_true_eq] at hf
  exact ⟨hf.1, hf.2.1, hf.2.2.1⟩
theorem row_low {i : El T_api_Ins} (h : v_ref1_row i = true) (h1 : (1 : Int) ≤ i.1) (h9 : (show Int from i.1) ≤ 9) : v_opnd_Right i.2.2.2.1 = true ∧ v_opnd_Right i.2.2.2.2.1 = true := by
  unfold v_ref1_row at h
  have e1 : decide ((show Int from i.1) < 1) = false := by simp; omega
  have e2 : decide ((show Int from i.1) > 9) = false := by simp; omega
  simp only [e1, e2, cond_false, right_eq] at h
  cases hA : v_opnd_Right i.2.2.2.1 with
  | false => rw [hA] at h; simp at h
  | true =>
    cases hB : v_opnd_Right i.2.2.2.2.1 with
    | false => rw [hA, hB] at h; simp at h
    | true => exact ⟨rfl, rfl⟩
theorem row_high {i : El T_api_Ins} (h : v_ref1_row i = true) (h9 : (9 : Int) < i.1) : (show Int from i.2.2.2.1.1) = 0 ∧ (show Int from i.2.2.2.2.1.1) = 0 := by
  unfold v_ref1_row at h
  have e1 : decide ((show Int from i.1) < 1) = false := by simp; omega
  have e2 : decide ((show Int from i.1) > 9) = true := by simp; omega
  simp only [e1, e2, cond_false, cond_true] at h
  simp only [Bool.cond_eq_ite, Bool.if_false_right, Bool.and_eq_true, beq_iff_eq, decide_eq_true_eq, Bool.decide_eq_true] at h
  exact ⟨h.1.1, h.2.1.1⟩
theorem mem_low {i : El T_api_Ins} (h : v_ins_Right i = 0) (h9 : (show Int from i.1) ≤ 9) : v_ins_memory i.2.2.2.1 = v_ref1_Memory i.2.2.2.1 ∧ v_ins_memory i.2.2.2.2.1 = v_ref1_Memory i.2.2.2.2.1 := by
  obtain ⟨h1, _, hr⟩ := right0_row h
  obtain ⟨a, b⟩ := row_low hr h1 h9
  constructor
  · rw [memory_eq, refMemory_eq, a, Bool.true_and]
  · rw [memory_eq, refMemory_eq, b, Bool.true_and]
theorem mem_high {i : El T_api_Ins} (h : v_ins_Right i = 0) (h9 : (9 : Int) < i.1) : v_ins_memory i.2.2.2.1 = false ∧ v_ins_memory i.2.2.2.2.1 = false := by
  obtain ⟨h1, _, hr⟩ := right0_row h
  obtain ⟨a, b⟩ := row_high hr h9
  constructor
  · rw [memory_eq, a]; simp
  · rw [memory_eq, b]; simp

theorem k_reads {i : El T_api_Ins} (h : smallText i.2.2.2.2.2.1 = true) : k_ins_Reads i = true ∧ k_ins_Writes i = true ∧ k_ins_Leads i = true ∧ k_ins_Locked i = true := by
  have h0 : k_ins_Right i = true := h
  unfold k_ins_Reads k_ins_Writes k_ins_Leads k_ins_Locked
  simp only [h0, cond_true, Bool.cond_self, and_self]
theorem k_refReads {i : El T_api_Ins} (h : smallText i.2.2.2.2.2.1 = true) : k_ref1_Reads i = true ∧ k_ref1_Writes i = true ∧ k_ref1_Leads i = true ∧ k_ref1_Locked i = true := by
  have h0 : k_ref1_InsRight i = true := h
  unfold k_ref1_Reads k_ref1_Writes k_ref1_Leads k_ref1_Locked
  simp only [h0, cond_true, Bool.cond_self, and_self]
theorem k_parts {i : El T_api_Ins} (h : smallText i.2.2.2.2.2.1 = true) : k_ins_Fence i = true ∧ k_ins_Parts i = true ∧ k_ref1_Fence i = true ∧ k_ref1_Parts i = true := by
  have h0 : k_ins_Right i = true := h
  have h1 : k_ref1_InsRight i = true := h
  obtain ⟨a1, a2, a3, a4⟩ := k_reads h
  obtain ⟨b1, b2, b3, b4⟩ := k_refReads h
  unfold k_ins_Fence k_ins_Parts k_ref1_Fence k_ref1_Parts
  simp only [h0, h1, a1, a2, a3, a4, b1, b2, b3, b4, cond_true, Bool.cond_self, and_self]

theorem reads_eq {i : El T_api_Ins} (h : smallText i.2.2.2.2.2.1 = true) : v_ref1_Reads i = v_ins_Reads i := by
  have h0 : k_ins_Right i = true := h
  have h1 : k_ref1_InsRight i = true := h
  unfold v_ref1_Reads v_ins_Reads v_ref1_InsRight
  simp only [h0, h1, cond_true]
  by_cases hr : v_ins_Right i = 0
  · simp only [hr, bne_self_eq_false, cond_false]
    rcases nine i.1 with ⟨h9, e⟩ | ⟨h9, e⟩
    · obtain ⟨a, b⟩ := mem_low hr h9
      rw [a, b, e, cond_false]
    · obtain ⟨a, b⟩ := mem_high hr h9
      rw [a, b, e]
      simp only [cond_true, cond_false]
  · have e : (v_ins_Right i != 0) = true := by simp [hr]
    simp only [e, cond_true]
theorem writes_eq {i : El T_api_Ins} (h : smallText i.2.2.2.2.2.1 = true) : v_ref1_Writes i = v_ins_Writes i := by
  have h0 : k_ins_Right i = true := h
  have h1 : k_ref1_InsRight i = true := h
  unfold v_ref1_Writes v_ins_Writes v_ref1_InsRight
  simp only [h0, h1, cond_true]
  by_cases hr : v_ins_Right i = 0
  · simp only [hr, bne_self_eq_false, cond_false]
    rcases nine i.1 with ⟨h9, e⟩ | ⟨h9, e⟩
    · obtain ⟨a, b⟩ := mem_low hr h9
      rw [a, e, cond_false]
      cases v_ref1_Memory i.2.2.2.1 <;> simp only [Bool.not_true, Bool.not_false, cond_true, cond_false, Bool.cond_self]
    · obtain ⟨a, b⟩ := mem_high hr h9
      rw [a, e]
      simp only [cond_true, Bool.not_false]
  · have e : (v_ins_Right i != 0) = true := by simp [hr]
    simp only [e, cond_true]
theorem leads_eq {i : El T_api_Ins} (h : smallText i.2.2.2.2.2.1 = true) : v_ref1_Leads i = v_ins_Leads i := by
  have h0 : k_ins_Right i = true := h
  have h1 : k_ref1_InsRight i = true := h
  unfold v_ref1_Leads v_ins_Leads v_ref1_InsRight v_ref1_Jumps
  simp only [h0, h1, cond_true]
  cases h10 : ((show Int from i.1) == 10) with
  | true => simp only [cond_true, bne, h10, Bool.not_true, cond_false]
  | false => simp only [cond_true, bne, h10, Bool.not_false, cond_false]
theorem locked_eq {i : El T_api_Ins} (h : smallText i.2.2.2.2.2.1 = true) : v_ref1_Locked i = v_ins_Locked i := by
  have h0 : k_ins_Right i = true := h
  have h1 : k_ref1_InsRight i = true := h
  unfold v_ref1_Locked v_ins_Locked v_ref1_InsRight
  simp only [h0, h1]
theorem fence_eq {i : El T_api_Ins} (h : smallText i.2.2.2.2.2.1 = true) : v_ref1_Fence i = v_ins_Fence i := by
  have h0 : k_ins_Right i = true := h
  have h1 : k_ref1_InsRight i = true := h
  obtain ⟨a1, a2, a3, a4⟩ := k_reads h
  obtain ⟨b1, b2, b3, b4⟩ := k_refReads h
  unfold v_ref1_Fence v_ins_Fence v_ref1_InsRight
  simp only [h0, h1, a4, b4, locked_eq h]
theorem parts_eq {i : El T_api_Ins} (h : smallText i.2.2.2.2.2.1 = true) : v_ref1_Parts i = v_ins_Parts i := by
  have h0 : k_ins_Right i = true := h
  have h1 : k_ref1_InsRight i = true := h
  obtain ⟨a1, a2, a3, a4⟩ := k_reads h
  obtain ⟨b1, b2, b3, b4⟩ := k_refReads h
  unfold v_ref1_Parts v_ins_Parts v_ref1_InsRight
  simp only [h0, h1, a1, b1, a2, b2, a4, b4, locked_eq h, writes_eq h, reads_eq h]

theorem tells_true {i : El T_api_Ins} (h : smallText i.2.2.2.2.2.1 = true) : k_law7_tells i = true ∧ v_law7_tells i = true := by
  have h0 : k_ins_Right i = true := h
  have h1 : k_ref1_InsRight i = true := h
  obtain ⟨a1, a2, a3, a4⟩ := k_reads h
  obtain ⟨b1, b2, b3, b4⟩ := k_refReads h
  obtain ⟨c1, c2, c3, c4⟩ := k_parts h
  have hb : ∀ x : Bool, (x == x) = true := fun x => by simp
  have hi : ∀ x : Int, (x == x) = true := fun x => by simp
  unfold k_law7_tells v_law7_tells v_ref1_InsRight
  simp only [h0, h1, a1, a2, a3, a4, b1, b2, b3, b4, c1, c2, c3, c4, reads_eq h, writes_eq h, leads_eq h, locked_eq h, fence_eq h, parts_eq h, hb, hi, cond_true, Bool.and_self, and_self, beq_self_eq_true]
end Go.Ev
end

section
set_option linter.unusedSectionVars false
set_option linter.unusedVariables false
set_option linter.unusedSimpArgs false
set_option maxRecDepth 100000
set_option linter.unusedVariables false
open Go Go.Ev
namespace Go.Ev
/-! ### paling/palingbook.GreatIns -/
def sg_book_GreatIns : Sig := [(true, T_api_Ins)]
noncomputable def t_book_GreatIns : Tbl := []
theorem tk_book_GreatIns : ∀ p ∈ t_book_GreatIns, EntOK Go.Proofs.Tryd.prog p.1 p.2 := tbl_nil
noncomputable def c_book_GreatIns : Code := Go.Proofs.Tryd.f14.body.getD .skip
def tb_book_GreatIns : Tb := [(6, ⟨[1, 3], []⟩)]
inductive J_book_GreatIns where
  | l6 (k : Int)
def T_book_GreatIns (i : El T_api_Ins) : J_book_GreatIns → JT J_book_GreatIns (Bool)
  | .l6 k =>
    .br (decide (k < (Int.ofNat (List.length i.2.2.2.2.2.2))))
      (.br ((decide ((0 : Int) ≤ k)) && (decide (k < (Int.ofNat (List.length i.2.2.2.2.2.2)))))
        (.br (decide ((Int.ofNat (ByteArray.size (List.getD i.2.2.2.2.2.2 (Int.toNat k) (dflt .str)))) > (60 : Int)))
          (.leaf true)
        (.jmp (.l6 (IntKind.i64.wrap (k + (1 : Int))))))
      (.no))
    (.leaf false)
def T0_book_GreatIns (i : El T_api_Ins) : JT J_book_GreatIns (Bool) :=
  .br (decide ((Int.ofNat (List.length i.2.2.2.2.2.2)) > (6 : Int)))
    (.leaf true)
  (.br (decide ((Int.ofNat (ByteArray.size i.2.2.2.2.2.1)) > (60 : Int)))
    (.leaf true)
  (.jmp (.l6 (0 : Int))))
def R_book_GreatIns : Bool → AV := fun (r : Bool) => .d .bool r
def S_book_GreatIns (i : El T_api_Ins) : J_book_GreatIns → Nat × St
  | .l6 k => (6, ⟨mkTm 28 [(1, .pt 2 0 0), (3, .d (.int .i64) k)], [(2, 0, .box 26 [.d (.int .i64) i.1, .d .bool i.2.1, .d (.int .i64) i.2.2.1, .d (.int .i64) i.2.2.2.1.1, .d (.int .i64) i.2.2.2.1.2.1, .d (.int .i64) i.2.2.2.1.2.2.1, .d (.int .i64) i.2.2.2.1.2.2.2, .d (.int .i64) i.2.2.2.2.1.1, .d (.int .i64) i.2.2.2.2.1.2.1, .d (.int .i64) i.2.2.2.2.1.2.2.1, .d (.int .i64) i.2.2.2.2.1.2.2.2, .d .str i.2.2.2.2.2.1, .d (.sl .str) i.2.2.2.2.2.2])]⟩)
theorem en_book_GreatIns (i : El T_api_Ins) (L : Lt) : entryA Go.Proofs.Tryd.prog (clOf t_book_GreatIns) tb_book_GreatIns Go.Proofs.Tryd.f14 c_book_GreatIns L (toForms sg_book_GreatIns (i, ())) = (T0_book_GreatIns i).run (fun v => some (R_book_GreatIns v, tps (toForms sg_book_GreatIns (i, ())))) fun j => L (S_book_GreatIns i j).1 (S_book_GreatIns i j).2 := by kernel_rfl
theorem lp_book_GreatIns (i : El T_api_Ins) : ∀ (L : Lt) (j : J_book_GreatIns), procOf (procsF Go.Proofs.Tryd.prog (clOf t_book_GreatIns) tb_book_GreatIns Go.Proofs.Tryd.f14 c_book_GreatIns (toForms sg_book_GreatIns (i, ()))) (S_book_GreatIns i j).1 L (S_book_GreatIns i j).2 = (T_book_GreatIns i j).run (fun v => some (R_book_GreatIns v, tps (toForms sg_book_GreatIns (i, ())))) fun j => L (S_book_GreatIns i j).1 (S_book_GreatIns i j).2
  | L, .l6 k => by kernel_rfl
end Go.Ev
end

section
set_option linter.unusedSectionVars false
set_option linter.unusedVariables false
set_option linter.unusedSimpArgs false
set_option linter.unusedVariables false
set_option linter.unusedSimpArgs false
open Go
namespace Go.Ev

def v_book_GreatIns (i : El T_api_Ins) : Bool := decide (6 < i.2.2.2.2.2.2.length) || (decide (60 < i.2.2.2.2.2.1.size) || i.2.2.2.2.2.2.any fun l => decide (60 < l.size))
theorem g_book_GreatIns (i : El T_api_Ins) : Goes (T_book_GreatIns i) (T0_book_GreatIns i) (v_book_GreatIns i) := by
  obtain ⟨op, lock, cond, A, B, to, ls⟩ := i
  have loop : ls.length ≤ 6 → ∀ k, k ≤ ls.length → Goes (T_book_GreatIns (op, lock, cond, A, B, to, ls)) (.jmp (.l6 (k : Int))) ((ls.drop k).any fun l => decide (60 < l.size)) := by
    intro hn
    refine down ?_ fun k hk ih => ?_
    · rw [goes_jmp]
      simp [T_book_GreatIns, goes_br, goes_leaf]
    · rw [goes_jmp]
      simp only [T_book_GreatIns, goes_br, lt_len hk, nng, Bool.and_self, if_true, Int.toNat_natCast, getD_lt hk, wrap_succ (k := k) (by omega)]
      rw [drop_cons hk, List.any_cons]
      by_cases h : 60 < ls[k].size
      · rw [if_pos (by simp; omega), decide_eq_true h, Bool.true_or]
        exact .leaf
      · rw [if_neg (by simp; omega), decide_eq_false h, Bool.false_or]
        exact ih
  unfold T0_book_GreatIns v_book_GreatIns
  simp only [goes_br]
  by_cases h : 6 < ls.length
  · rw [if_pos (by simp; omega), decide_eq_true h, Bool.true_or]
    exact .leaf
  rw [if_neg (by simp; omega), decide_eq_false h, Bool.false_or]
  by_cases h2 : 60 < to.size
  · rw [if_pos (by simp; omega), decide_eq_true h2, Bool.true_or]
    exact .leaf
  rw [if_neg (by simp; omega), decide_eq_false h2, Bool.false_or]
  exact loop (by omega) 0 (Nat.zero_le _)

end Go.Ev
end

section
set_option linter.unusedSectionVars false
set_option linter.unusedVariables false
set_option linter.unusedSimpArgs false
set_option maxRecDepth 100000
set_option linter.unusedVariables false
open Go Go.Ev
namespace Go.Ev
noncomputable def e_book_GreatIns : Run := entT sg_book_GreatIns R_book_GreatIns (fun a => v_book_GreatIns a.1)
theorem ok_book_GreatIns : EntOK Go.Proofs.Tryd.prog 14 e_book_GreatIns := entT_ok (tb := tb_book_GreatIns) (c := c_book_GreatIns) tk_book_GreatIns (by kernel_rfl) (by kernel_rfl) (by kernel_rfl) (fun a => by kernel_rfl) fun ⟨i, _⟩ => evF_goes (c := c_book_GreatIns) (K := fun v => (R_book_GreatIns v, tps (toForms sg_book_GreatIns (i, ())))) (S := S_book_GreatIns i) (by kernel_rfl) (en_book_GreatIns i) (lp_book_GreatIns i) (g_book_GreatIns i)
end Go.Ev
end

section
set_option linter.unusedSectionVars false
set_option linter.unusedVariables false
set_option linter.unusedSimpArgs false
set_option maxRecDepth 100000
set_option linter.unusedVariables false
open Go Go.Ev
namespace Go.Ev
/-! ### paling/palinglaw7.InsTells -/
def sg_law7_InsTells : Sig := [(true, T_api_Ins)]
noncomputable def t_law7_InsTells : Tbl := [(14, e_book_GreatIns), (15, e_law7_alive), (16, e_law7_tells)]
theorem tk_law7_InsTells : ∀ p ∈ t_law7_InsTells, EntOK Go.Proofs.Tryd.prog p.1 p.2 := tbl_cons ok_book_GreatIns (tbl_cons ok_law7_alive (tbl_cons ok_law7_tells (tbl_nil)))
noncomputable def c_law7_InsTells : Code := Go.Proofs.Tryd.f3.body.getD .skip
def tb_law7_InsTells : Tb := []
def T_law7_InsTells (x : El T_api_Ins) : Empty → JT Empty (Bool) := fun j => nomatch j
def T0_law7_InsTells (x : El T_api_Ins) : JT Empty (Bool) :=
  .br (v_book_GreatIns x)
    (.br k_law7_alive
      (.br v_law7_alive
        (.leaf true)
      (.br (k_law7_tells x)
        (.br (v_law7_tells x)
          (.br k_law7_alive
            (.leaf v_law7_alive)
          (.no))
        (.leaf false))
      (.no)))
    (.no))
  (.br (k_law7_tells x)
    (.br (v_law7_tells x)
      (.br k_law7_alive
        (.leaf v_law7_alive)
      (.no))
    (.leaf false))
  (.no))
def v_law7_InsTells (x : El T_api_Ins) : Bool :=
  bif (v_book_GreatIns x) then
    bif k_law7_alive then
      bif v_law7_alive then
        true
      else bif (k_law7_tells x) then
        bif (v_law7_tells x) then
          bif k_law7_alive then
            v_law7_alive
          else false
        else false
      else false
    else false
  else bif (k_law7_tells x) then
    bif (v_law7_tells x) then
      bif k_law7_alive then
        v_law7_alive
      else false
    else false
  else false
def k_law7_InsTells (x : El T_api_Ins) : Bool :=
  bif (v_book_GreatIns x) then
    bif k_law7_alive then
      bif v_law7_alive then
        true
      else bif (k_law7_tells x) then
        bif (v_law7_tells x) then
          bif k_law7_alive then
            true
          else false
        else true
      else false
    else false
  else bif (k_law7_tells x) then
    bif (v_law7_tells x) then
      bif k_law7_alive then
        true
      else false
    else true
  else false
theorem g_law7_InsTells (x : El T_api_Ins) (hk : k_law7_InsTells x = true) : Goes (T_law7_InsTells x) (T0_law7_InsTells x) (v_law7_InsTells x) :=
  Goes.brk hk (fun hk =>
    Goes.brk hk (fun hk =>
      Goes.brk hk (fun hk =>
        Goes.leaf) (fun hk =>
        Goes.brk hk (fun hk =>
          Goes.brk hk (fun hk =>
            Goes.brk hk (fun hk =>
              Goes.leaf) (fun hk =>
              Goes.nok hk)) (fun hk =>
            Goes.leaf)) (fun hk =>
          Goes.nok hk))) (fun hk =>
      Goes.nok hk)) (fun hk =>
    Goes.brk hk (fun hk =>
      Goes.brk hk (fun hk =>
        Goes.brk hk (fun hk =>
          Goes.leaf) (fun hk =>
          Goes.nok hk)) (fun hk =>
        Goes.leaf)) (fun hk =>
      Goes.nok hk))
def R_law7_InsTells : Bool → AV := fun (r : Bool) => .d .bool r
def S_law7_InsTells (x : El T_api_Ins) : Empty → Nat × St := fun j => nomatch j
theorem en_law7_InsTells (x : El T_api_Ins) (L : Lt) : entryA Go.Proofs.Tryd.prog (clOf t_law7_InsTells) tb_law7_InsTells Go.Proofs.Tryd.f3 c_law7_InsTells L (toForms sg_law7_InsTells (x, ())) = (T0_law7_InsTells x).run (fun v => some (R_law7_InsTells v, tps (toForms sg_law7_InsTells (x, ())))) fun j => L (S_law7_InsTells x j).1 (S_law7_InsTells x j).2 := by kernel_rfl
theorem lp_law7_InsTells (x : El T_api_Ins) : ∀ (L : Lt) (j : Empty), procOf (procsF Go.Proofs.Tryd.prog (clOf t_law7_InsTells) tb_law7_InsTells Go.Proofs.Tryd.f3 c_law7_InsTells (toForms sg_law7_InsTells (x, ()))) (S_law7_InsTells x j).1 L (S_law7_InsTells x j).2 = (T_law7_InsTells x j).run (fun v => some (R_law7_InsTells v, tps (toForms sg_law7_InsTells (x, ())))) fun j => L (S_law7_InsTells x j).1 (S_law7_InsTells x j).2 := fun L j => nomatch j
noncomputable def e_law7_InsTells : Run := entG sg_law7_InsTells R_law7_InsTells (fun a => k_law7_InsTells a.1) (fun a => v_law7_InsTells a.1)
theorem ok_law7_InsTells : EntOK Go.Proofs.Tryd.prog 3 e_law7_InsTells := entG_ok (tb := tb_law7_InsTells) (c := c_law7_InsTells) tk_law7_InsTells (by kernel_rfl) (by kernel_rfl) (by kernel_rfl) (fun a => by kernel_rfl) fun ⟨x, _⟩ hk => evF_goes (c := c_law7_InsTells) (K := fun v => (R_law7_InsTells v, tps (toForms sg_law7_InsTells (x, ())))) (S := S_law7_InsTells x) (by kernel_rfl) (en_law7_InsTells x) (lp_law7_InsTells x) (g_law7_InsTells x hk)
theorem co_law7_InsTells (x : El T_api_Ins) (hk : k_law7_InsTells x = true) : CallOK Go.Proofs.Tryd.prog 3 (toForms sg_law7_InsTells (x, ())) (R_law7_InsTells (v_law7_InsTells x), tps (toForms sg_law7_InsTells (x, ()))) := by
  obtain ⟨h1, h2⟩ := clOf_ok tk_law7_InsTells
  obtain ⟨n, hn⟩ := evF_goes (c := c_law7_InsTells) (K := fun v => (R_law7_InsTells v, tps (toForms sg_law7_InsTells (x, ())))) (S := S_law7_InsTells x) (by kernel_rfl) (en_law7_InsTells x) (lp_law7_InsTells x) (g_law7_InsTells x hk)
  exact evF_sound (f := 3) (c := c_law7_InsTells) h1 h2 (by kernel_rfl) (by kernel_rfl) (by kernel_rfl) hn
end Go.Ev
end

section
set_option linter.unusedSectionVars false
set_option linter.unusedVariables false
set_option linter.unusedSimpArgs false
set_option maxRecDepth 100000
set_option linter.unusedVariables false
namespace Go.Ev
open Go
theorem true_law7_InsTells (x : El T_api_Ins) : k_law7_InsTells x = true ∧ v_law7_InsTells x = true := by
  unfold k_law7_InsTells v_law7_InsTells
  simp only [k_alive7, v_alive7, cond_true]
  cases hx : v_book_GreatIns x with
  | true => simp only [cond_true, and_self]
  | false =>
    have hs : smallText x.2.2.2.2.2.1 = true := by
      unfold v_book_GreatIns at hx
      simp only [Bool.or_eq_false_iff, decide_eq_false_iff_not] at hx
      exact decide_eq_true (by omega)
    obtain ⟨h1, h2⟩ := tells_true hs
    simp only [h1, h2, cond_true, cond_false, and_self]
theorem call_law7_InsTells (a : Args sg_law7_InsTells) (ha : smallArgs sg_law7_InsTells a) : CallOK Go.Proofs.Tryd.prog 3 (toForms sg_law7_InsTells a) (.d .bool true, tps (toForms sg_law7_InsTells a)) := by
  obtain ⟨x, _⟩ := a
  obtain ⟨hk, hv⟩ := true_law7_InsTells x
  have := co_law7_InsTells x hk
  rw [hv] at this
  exact this
end Go.Ev
end

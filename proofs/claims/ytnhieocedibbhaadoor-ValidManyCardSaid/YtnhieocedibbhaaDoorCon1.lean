/- Part of the proof of: the law ValidMany holds: as many symbols, cells, threads as may be may be, and not one more -/
import Derived.Test.YtnhieocedibbhaaDoorCon0
section
set_option linter.unusedSectionVars false
set_option linter.unusedVariables false
set_option linter.unusedSimpArgs false
set_option maxRecDepth 100000
set_option linter.unusedVariables false
open Go Go.Ev
namespace Go.Ev
/-! ### paling/palinglaw7.tells -/
def sg_law7_tells : Sig := [(true, T_api_Ins)]
noncomputable def t_law7_tells : Tbl := [(20, e_ins_Reads), (46, e_ref1_Reads), (21, e_ins_Writes), (47, e_ref1_Writes), (22, e_ins_Leads), (48, e_ref1_Leads), (18, e_ins_Right), (49, e_ref1_InsRight), (24, e_ins_Locked), (50, e_ref1_Locked), (25, e_ins_Fence), (51, e_ref1_Fence), (23, e_ins_Parts), (52, e_ref1_Parts)]
theorem tk_law7_tells : ∀ p ∈ t_law7_tells, EntOK Go.Proofs.Tryd.prog p.1 p.2 := tbl_cons ok_ins_Reads (tbl_cons ok_ref1_Reads (tbl_cons ok_ins_Writes (tbl_cons ok_ref1_Writes (tbl_cons ok_ins_Leads (tbl_cons ok_ref1_Leads (tbl_cons ok_ins_Right (tbl_cons ok_ref1_InsRight (tbl_cons ok_ins_Locked (tbl_cons ok_ref1_Locked (tbl_cons ok_ins_Fence (tbl_cons ok_ref1_Fence (tbl_cons ok_ins_Parts (tbl_cons ok_ref1_Parts (tbl_nil))))))))))))))
noncomputable def c_law7_tells : Code := Go.Proofs.Tryd.f16.body.getD .skip
def tb_law7_tells : Tb := []
def T_law7_tells (x : El T_api_Ins) : Empty → JT Empty (Bool) := fun j => nomatch j
def T0_law7_tells (x : El T_api_Ins) : JT Empty (Bool) :=
  .br (k_ins_Reads x)
    (.br (k_ref1_Reads x)
      (.br (k_ins_Writes x)
        (.br (k_ref1_Writes x)
          (.br (k_ins_Leads x)
            (.br (k_ref1_Leads x)
              (.br (k_ins_Right x)
                (.br (k_ref1_InsRight x)
                  (.br ((v_ins_Right x) == (v_ref1_InsRight x))
                    (.br (((v_ins_Reads x).1.1 == (v_ref1_Reads x).1.1) && (((v_ins_Reads x).1.2.1 == (v_ref1_Reads x).1.2.1) && (((v_ins_Reads x).1.2.2.1 == (v_ref1_Reads x).1.2.2.1) && ((v_ins_Reads x).1.2.2.2 == (v_ref1_Reads x).1.2.2.2))))
                      (.br ((v_ins_Reads x).2 == (v_ref1_Reads x).2)
                        (.br (((v_ins_Writes x).1.1 == (v_ref1_Writes x).1.1) && (((v_ins_Writes x).1.2.1 == (v_ref1_Writes x).1.2.1) && (((v_ins_Writes x).1.2.2.1 == (v_ref1_Writes x).1.2.2.1) && ((v_ins_Writes x).1.2.2.2 == (v_ref1_Writes x).1.2.2.2))))
                          (.br ((v_ins_Writes x).2 == (v_ref1_Writes x).2)
                            (.br ((v_ins_Leads x).1 == (v_ref1_Leads x).1)
                              (.br ((v_ins_Leads x).2 == (v_ref1_Leads x).2)
                                (.br (k_ins_Locked x)
                                  (.br (k_ref1_Locked x)
                                    (.br ((v_ins_Locked x) == (v_ref1_Locked x))
                                      (.br (k_ins_Fence x)
                                        (.br (k_ref1_Fence x)
                                          (.br ((v_ins_Fence x) == (v_ref1_Fence x))
                                            (.br (k_ins_Parts x)
                                              (.br (k_ref1_Parts x)
                                                (.leaf ((v_ins_Parts x) == (v_ref1_Parts x)))
                                              (.no))
                                            (.no))
                                          (.leaf false))
                                        (.no))
                                      (.no))
                                    (.leaf false))
                                  (.no))
                                (.no))
                              (.leaf false))
                            (.leaf false))
                          (.leaf false))
                        (.leaf false))
                      (.leaf false))
                    (.leaf false))
                  (.leaf false))
                (.no))
              (.no))
            (.no))
          (.no))
        (.no))
      (.no))
    (.no))
  (.no)
def v_law7_tells (x : El T_api_Ins) : Bool :=
  bif (k_ins_Reads x) then
    bif (k_ref1_Reads x) then
      bif (k_ins_Writes x) then
        bif (k_ref1_Writes x) then
          bif (k_ins_Leads x) then
            bif (k_ref1_Leads x) then
              bif (k_ins_Right x) then
                bif (k_ref1_InsRight x) then
                  bif ((v_ins_Right x) == (v_ref1_InsRight x)) then
                    bif (((v_ins_Reads x).1.1 == (v_ref1_Reads x).1.1) && (((v_ins_Reads x).1.2.1 == (v_ref1_Reads x).1.2.1) && (((v_ins_Reads x).1.2.2.1 == (v_ref1_Reads x).1.2.2.1) && ((v_ins_Reads x).1.2.2.2 == (v_ref1_Reads x).1.2.2.2)))) then
                      bif ((v_ins_Reads x).2 == (v_ref1_Reads x).2) then
                        bif (((v_ins_Writes x).1.1 == (v_ref1_Writes x).1.1) && (((v_ins_Writes x).1.2.1 == (v_ref1_Writes x).1.2.1) && (((v_ins_Writes x).1.2.2.1 == (v_ref1_Writes x).1.2.2.1) && ((v_ins_Writes x).1.2.2.2 == (v_ref1_Writes x).1.2.2.2)))) then
                          bif ((v_ins_Writes x).2 == (v_ref1_Writes x).2) then
                            bif ((v_ins_Leads x).1 == (v_ref1_Leads x).1) then
                              bif ((v_ins_Leads x).2 == (v_ref1_Leads x).2) then
                                bif (k_ins_Locked x) then
                                  bif (k_ref1_Locked x) then
                                    bif ((v_ins_Locked x) == (v_ref1_Locked x)) then
                                      bif (k_ins_Fence x) then
                                        bif (k_ref1_Fence x) then
                                          bif ((v_ins_Fence x) == (v_ref1_Fence x)) then
                                            bif (k_ins_Parts x) then
                                              bif (k_ref1_Parts x) then
                                                ((v_ins_Parts x) == (v_ref1_Parts x))
                                              else false
                                            else false
                                          else false
                                        else false
                                      else false
                                    else false
                                  else false
                                else false
                              else false
                            else false
                          else false
                        else false
                      else false
                    else false
                  else false
                else false
              else false
            else false
          else false
        else false
      else false
    else false
  else false
def k_law7_tells (x : El T_api_Ins) : Bool :=
  bif (k_ins_Reads x) then
    bif (k_ref1_Reads x) then
      bif (k_ins_Writes x) then
        bif (k_ref1_Writes x) then
          bif (k_ins_Leads x) then
            bif (k_ref1_Leads x) then
              bif (k_ins_Right x) then
                bif (k_ref1_InsRight x) then
                  bif ((v_ins_Right x) == (v_ref1_InsRight x)) then
                    bif (((v_ins_Reads x).1.1 == (v_ref1_Reads x).1.1) && (((v_ins_Reads x).1.2.1 == (v_ref1_Reads x).1.2.1) && (((v_ins_Reads x).1.2.2.1 == (v_ref1_Reads x).1.2.2.1) && ((v_ins_Reads x).1.2.2.2 == (v_ref1_Reads x).1.2.2.2)))) then
                      bif ((v_ins_Reads x).2 == (v_ref1_Reads x).2) then
                        bif (((v_ins_Writes x).1.1 == (v_ref1_Writes x).1.1) && (((v_ins_Writes x).1.2.1 == (v_ref1_Writes x).1.2.1) && (((v_ins_Writes x).1.2.2.1 == (v_ref1_Writes x).1.2.2.1) && ((v_ins_Writes x).1.2.2.2 == (v_ref1_Writes x).1.2.2.2)))) then
                          bif ((v_ins_Writes x).2 == (v_ref1_Writes x).2) then
                            bif ((v_ins_Leads x).1 == (v_ref1_Leads x).1) then
                              bif ((v_ins_Leads x).2 == (v_ref1_Leads x).2) then
                                bif (k_ins_Locked x) then
                                  bif (k_ref1_Locked x) then
                                    bif ((v_ins_Locked x) == (v_ref1_Locked x)) then
                                      bif (k_ins_Fence x) then
                                        bif (k_ref1_Fence x) then
                                          bif ((v_ins_Fence x) == (v_ref1_Fence x)) then
                                            bif (k_ins_Parts x) then
                                              bif (k_ref1_Parts x) then
                                                true
                                              else false
                                            else false
                                          else true
                                        else false
                                      else false
                                    else true
                                  else false
                                else false
                              else true
                            else true
                          else true
                        else true
                      else true
                    else true
                  else true
                else false
              else false
            else false
          else false
        else false
      else false
    else false
  else false
theorem g_law7_tells (x : El T_api_Ins) (hk : k_law7_tells x = true) : Goes (T_law7_tells x) (T0_law7_tells x) (v_law7_tells x) :=
  Goes.brk hk (fun hk =>
    Goes.brk hk (fun hk =>
      Goes.brk hk (fun hk =>
        Goes.brk hk (fun hk =>
          Goes.brk hk (fun hk =>
            Goes.brk hk (fun hk =>
              Goes.brk hk (fun hk =>
                Goes.brk hk (fun hk =>
                  Goes.brk hk (fun hk =>
                    Goes.brk hk (fun hk =>
                      Goes.brk hk (fun hk =>
                        Goes.brk hk (fun hk =>
                          Goes.brk hk (fun hk =>
                            Goes.brk hk (fun hk =>
                              Goes.brk hk (fun hk =>
                                Goes.brk hk (fun hk =>
                                  Goes.brk hk (fun hk =>
                                    Goes.brk hk (fun hk =>
                                      Goes.brk hk (fun hk =>
                                        Goes.brk hk (fun hk =>
                                          Goes.brk hk (fun hk =>
                                            Goes.brk hk (fun hk =>
                                              Goes.brk hk (fun hk =>
                                                Goes.leaf) (fun hk =>
                                                Goes.nok hk)) (fun hk =>
                                              Goes.nok hk)) (fun hk =>
                                            Goes.leaf)) (fun hk =>
                                          Goes.nok hk)) (fun hk =>
                                        Goes.nok hk)) (fun hk =>
                                      Goes.leaf)) (fun hk =>
                                    Goes.nok hk)) (fun hk =>
                                  Goes.nok hk)) (fun hk =>
                                Goes.leaf)) (fun hk =>
                              Goes.leaf)) (fun hk =>
                            Goes.leaf)) (fun hk =>
                          Goes.leaf)) (fun hk =>
                        Goes.leaf)) (fun hk =>
                      Goes.leaf)) (fun hk =>
                    Goes.leaf)) (fun hk =>
                  Goes.nok hk)) (fun hk =>
                Goes.nok hk)) (fun hk =>
              Goes.nok hk)) (fun hk =>
            Goes.nok hk)) (fun hk =>
          Goes.nok hk)) (fun hk =>
        Goes.nok hk)) (fun hk =>
      Goes.nok hk)) (fun hk =>
    Goes.nok hk)
def R_law7_tells : Bool → AV := fun (r : Bool) => .d .bool r
def S_law7_tells (x : El T_api_Ins) : Empty → Nat × St := fun j => nomatch j
theorem en_law7_tells (x : El T_api_Ins) (L : Lt) : entryA Go.Proofs.Tryd.prog (clOf t_law7_tells) tb_law7_tells Go.Proofs.Tryd.f16 c_law7_tells L (toForms sg_law7_tells (x, ())) = (T0_law7_tells x).run (fun v => some (R_law7_tells v, tps (toForms sg_law7_tells (x, ())))) fun j => L (S_law7_tells x j).1 (S_law7_tells x j).2 := by kernel_rfl
theorem lp_law7_tells (x : El T_api_Ins) : ∀ (L : Lt) (j : Empty), procOf (procsF Go.Proofs.Tryd.prog (clOf t_law7_tells) tb_law7_tells Go.Proofs.Tryd.f16 c_law7_tells (toForms sg_law7_tells (x, ()))) (S_law7_tells x j).1 L (S_law7_tells x j).2 = (T_law7_tells x j).run (fun v => some (R_law7_tells v, tps (toForms sg_law7_tells (x, ())))) fun j => L (S_law7_tells x j).1 (S_law7_tells x j).2 := fun L j => nomatch j
noncomputable def e_law7_tells : Run := entG sg_law7_tells R_law7_tells (fun a => k_law7_tells a.1) (fun a => v_law7_tells a.1)
theorem ok_law7_tells : EntOK Go.Proofs.Tryd.prog 16 e_law7_tells := entG_ok (tb := tb_law7_tells) (c := c_law7_tells) tk_law7_tells (by kernel_rfl) (by kernel_rfl) (by kernel_rfl) (fun a => by kernel_rfl) fun ⟨x, _⟩ hk => evF_goes (c := c_law7_tells) (K := fun v => (R_law7_tells v, tps (toForms sg_law7_tells (x, ())))) (S := S_law7_tells x) (by kernel_rfl) (en_law7_tells x) (lp_law7_tells x) (g_law7_tells x hk)
theorem co_law7_tells (x : El T_api_Ins) (hk : k_law7_tells x = true) : CallOK Go.Proofs.Tryd.prog 16 (toForms sg_law7_tells (x, ())) (R_law7_tells (v_law7_tells x), tps (toForms sg_law7_tells (x, ()))) := by
  obtain ⟨h1, h2⟩ := clOf_ok tk_law7_tells
  obtain ⟨n, hn⟩ := evF_goes (c := c_law7_tells) (K := fun v => (R_law7_tells v, tps (toForms sg_law7_tells (x, ())))) (S := S_law7_tells x) (by kernel_rfl) (en_law7_tells x) (lp_law7_tells x) (g_law7_tells x hk)
  exact evF_sound (f := 16) (c := c_law7_tells) h1 h2 (by kernel_rfl) (by kernel_rfl) (by kernel_rfl) hn
end Go.Ev
end

section
set_option linter.unusedSectionVars false
set_option linter.unusedVariables false
set_option linter.unusedSimpArgs false
set_option maxRecDepth 100000
set_option linter.unusedVariables false
open Go Go.Ev
namespace Go.Ev
/-! ### paling/palinglaw7.alive -/
def sg_law7_alive : Sig := []
noncomputable def t_law7_alive : Tbl := [(20, e_ins_Reads), (18, e_ins_Right), (23, e_ins_Parts), (25, e_ins_Fence)]
theorem tk_law7_alive : ∀ p ∈ t_law7_alive, EntOK Go.Proofs.Tryd.prog p.1 p.2 := tbl_cons ok_ins_Reads (tbl_cons ok_ins_Right (tbl_cons ok_ins_Parts (tbl_cons ok_ins_Fence (tbl_nil))))
noncomputable def c_law7_alive : Code := Go.Proofs.Tryd.f15.body.getD .skip
def tb_law7_alive : Tb := []
def T_law7_alive : Empty → JT Empty (Bool) := fun j => nomatch j
def T0_law7_alive : JT Empty (Bool) :=
  .br (k_ins_Reads ((2 : Int), (false, ((0 : Int), (((3 : Int), ((0 : Int), ((0 : Int), (0 : Int)))), (((1 : Int), ((0 : Int), ((0 : Int), (0 : Int)))), ((bs []), [])))))))
    (.br (k_ins_Right ((2 : Int), (false, ((0 : Int), (((3 : Int), ((0 : Int), ((0 : Int), (0 : Int)))), (((1 : Int), ((0 : Int), ((0 : Int), (0 : Int)))), ((bs []), [])))))))
      (.br ((v_ins_Right ((2 : Int), (false, ((0 : Int), (((3 : Int), ((0 : Int), ((0 : Int), (0 : Int)))), (((1 : Int), ((0 : Int), ((0 : Int), (0 : Int)))), ((bs []), []))))))) == (0 : Int))
        (.br (k_ins_Parts ((2 : Int), (false, ((0 : Int), (((3 : Int), ((0 : Int), ((0 : Int), (0 : Int)))), (((1 : Int), ((0 : Int), ((0 : Int), (0 : Int)))), ((bs []), [])))))))
          (.br ((v_ins_Parts ((2 : Int), (false, ((0 : Int), (((3 : Int), ((0 : Int), ((0 : Int), (0 : Int)))), (((1 : Int), ((0 : Int), ((0 : Int), (0 : Int)))), ((bs []), []))))))) == (2 : Int))
            (.br (k_ins_Parts ((2 : Int), (true, ((0 : Int), (((3 : Int), ((0 : Int), ((0 : Int), (0 : Int)))), (((1 : Int), ((0 : Int), ((0 : Int), (0 : Int)))), ((bs []), [])))))))
              (.br ((v_ins_Parts ((2 : Int), (true, ((0 : Int), (((3 : Int), ((0 : Int), ((0 : Int), (0 : Int)))), (((1 : Int), ((0 : Int), ((0 : Int), (0 : Int)))), ((bs []), []))))))) == (1 : Int))
                (.br (k_ins_Fence ((2 : Int), (true, ((0 : Int), (((3 : Int), ((0 : Int), ((0 : Int), (0 : Int)))), (((1 : Int), ((0 : Int), ((0 : Int), (0 : Int)))), ((bs []), [])))))))
                  (.br (v_ins_Fence ((2 : Int), (true, ((0 : Int), (((3 : Int), ((0 : Int), ((0 : Int), (0 : Int)))), (((1 : Int), ((0 : Int), ((0 : Int), (0 : Int)))), ((bs []), [])))))))
                    (.br (k_ins_Fence ((2 : Int), (false, ((0 : Int), (((3 : Int), ((0 : Int), ((0 : Int), (0 : Int)))), (((1 : Int), ((0 : Int), ((0 : Int), (0 : Int)))), ((bs []), [])))))))
                      (.br (! (v_ins_Fence ((2 : Int), (false, ((0 : Int), (((3 : Int), ((0 : Int), ((0 : Int), (0 : Int)))), (((1 : Int), ((0 : Int), ((0 : Int), (0 : Int)))), ((bs []), []))))))))
                        (.br (v_ins_Reads ((2 : Int), (false, ((0 : Int), (((3 : Int), ((0 : Int), ((0 : Int), (0 : Int)))), (((1 : Int), ((0 : Int), ((0 : Int), (0 : Int)))), ((bs []), []))))))).2
                          (.br (((v_ins_Reads ((2 : Int), (false, ((0 : Int), (((3 : Int), ((0 : Int), ((0 : Int), (0 : Int)))), (((1 : Int), ((0 : Int), ((0 : Int), (0 : Int)))), ((bs []), []))))))).1.1 == (3 : Int)) && (((v_ins_Reads ((2 : Int), (false, ((0 : Int), (((3 : Int), ((0 : Int), ((0 : Int), (0 : Int)))), (((1 : Int), ((0 : Int), ((0 : Int), (0 : Int)))), ((bs []), []))))))).1.2.1 == (0 : Int)) && (((v_ins_Reads ((2 : Int), (false, ((0 : Int), (((3 : Int), ((0 : Int), ((0 : Int), (0 : Int)))), (((1 : Int), ((0 : Int), ((0 : Int), (0 : Int)))), ((bs []), []))))))).1.2.2.1 == (0 : Int)) && ((v_ins_Reads ((2 : Int), (false, ((0 : Int), (((3 : Int), ((0 : Int), ((0 : Int), (0 : Int)))), (((1 : Int), ((0 : Int), ((0 : Int), (0 : Int)))), ((bs []), []))))))).1.2.2.2 == (0 : Int)))))
                            (.br (k_ins_Right ((0 : Int), (false, ((0 : Int), (((0 : Int), ((0 : Int), ((0 : Int), (0 : Int)))), (((0 : Int), ((0 : Int), ((0 : Int), (0 : Int)))), ((bs []), [])))))))
                              (.leaf ((v_ins_Right ((0 : Int), (false, ((0 : Int), (((0 : Int), ((0 : Int), ((0 : Int), (0 : Int)))), (((0 : Int), ((0 : Int), ((0 : Int), (0 : Int)))), ((bs []), []))))))) == (4 : Int)))
                            (.no))
                          (.leaf false))
                        (.leaf false))
                      (.leaf false))
                    (.no))
                  (.leaf false))
                (.no))
              (.leaf false))
            (.no))
          (.leaf false))
        (.no))
      (.leaf false))
    (.no))
  (.no)
def v_law7_alive : Bool :=
  bif (k_ins_Reads ((2 : Int), (false, ((0 : Int), (((3 : Int), ((0 : Int), ((0 : Int), (0 : Int)))), (((1 : Int), ((0 : Int), ((0 : Int), (0 : Int)))), ((bs []), []))))))) then
    bif (k_ins_Right ((2 : Int), (false, ((0 : Int), (((3 : Int), ((0 : Int), ((0 : Int), (0 : Int)))), (((1 : Int), ((0 : Int), ((0 : Int), (0 : Int)))), ((bs []), []))))))) then
      bif ((v_ins_Right ((2 : Int), (false, ((0 : Int), (((3 : Int), ((0 : Int), ((0 : Int), (0 : Int)))), (((1 : Int), ((0 : Int), ((0 : Int), (0 : Int)))), ((bs []), []))))))) == (0 : Int)) then
        bif (k_ins_Parts ((2 : Int), (false, ((0 : Int), (((3 : Int), ((0 : Int), ((0 : Int), (0 : Int)))), (((1 : Int), ((0 : Int), ((0 : Int), (0 : Int)))), ((bs []), []))))))) then
          bif ((v_ins_Parts ((2 : Int), (false, ((0 : Int), (((3 : Int), ((0 : Int), ((0 : Int), (0 : Int)))), (((1 : Int), ((0 : Int), ((0 : Int), (0 : Int)))), ((bs []), []))))))) == (2 : Int)) then
            bif (k_ins_Parts ((2 : Int), (true, ((0 : Int), (((3 : Int), ((0 : Int), ((0 : Int), (0 : Int)))), (((1 : Int), ((0 : Int), ((0 : Int), (0 : Int)))), ((bs []), []))))))) then
              bif ((v_ins_Parts ((2 : Int), (true, ((0 : Int), (((3 : Int), ((0 : Int), ((0 : Int), (0 : Int)))), (((1 : Int), ((0 : Int), ((0 : Int), (0 : Int)))), ((bs []), []))))))) == (1 : Int)) then
                bif (k_ins_Fence ((2 : Int), (true, ((0 : Int), (((3 : Int), ((0 : Int), ((0 : Int), (0 : Int)))), (((1 : Int), ((0 : Int), ((0 : Int), (0 : Int)))), ((bs []), []))))))) then
                  bif (v_ins_Fence ((2 : Int), (true, ((0 : Int), (((3 : Int), ((0 : Int), ((0 : Int), (0 : Int)))), (((1 : Int), ((0 : Int), ((0 : Int), (0 : Int)))), ((bs []), []))))))) then
                    bif (k_ins_Fence ((2 : Int), (false, ((0 : Int), (((3 : Int), ((0 : Int), ((0 : Int), (0 : Int)))), (((1 : Int), ((0 : Int), ((0 : Int), (0 : Int)))), ((bs []), []))))))) then
                      bif (! (v_ins_Fence ((2 : Int), (false, ((0 : Int), (((3 : Int), ((0 : Int), ((0 : Int), (0 : Int)))), (((1 : Int), ((0 : Int), ((0 : Int), (0 : Int)))), ((bs []), [])))))))) then
                        bif (v_ins_Reads ((2 : Int), (false, ((0 : Int), (((3 : Int), ((0 : Int), ((0 : Int), (0 : Int)))), (((1 : Int), ((0 : Int), ((0 : Int), (0 : Int)))), ((bs []), []))))))).2 then
                          bif (((v_ins_Reads ((2 : Int), (false, ((0 : Int), (((3 : Int), ((0 : Int), ((0 : Int), (0 : Int)))), (((1 : Int), ((0 : Int), ((0 : Int), (0 : Int)))), ((bs []), []))))))).1.1 == (3 : Int)) && (((v_ins_Reads ((2 : Int), (false, ((0 : Int), (((3 : Int), ((0 : Int), ((0 : Int), (0 : Int)))), (((1 : Int), ((0 : Int), ((0 : Int), (0 : Int)))), ((bs []), []))))))).1.2.1 == (0 : Int)) && (((v_ins_Reads ((2 : Int), (false, ((0 : Int), (((3 : Int), ((0 : Int), ((0 : Int), (0 : Int)))), (((1 : Int), ((0 : Int), ((0 : Int), (0 : Int)))), ((bs []), []))))))).1.2.2.1 == (0 : Int)) && ((v_ins_Reads ((2 : Int), (false, ((0 : Int), (((3 : Int), ((0 : Int), ((0 : Int), (0 : Int)))), (((1 : Int), ((0 : Int), ((0 : Int), (0 : Int)))), ((bs []), []))))))).1.2.2.2 == (0 : Int))))) then
                            bif (k_ins_Right ((0 : Int), (false, ((0 : Int), (((0 : Int), ((0 : Int), ((0 : Int), (0 : Int)))), (((0 : Int), ((0 : Int), ((0 : Int), (0 : Int)))), ((bs []), []))))))) then
                              ((v_ins_Right ((0 : Int), (false, ((0 : Int), (((0 : Int), ((0 : Int), ((0 : Int), (0 : Int)))), (((0 : Int), ((0 : Int), ((0 : Int), (0 : Int)))), ((bs []), []))))))) == (4 : Int))
                            else false
                          else false
                        else false
                      else false
                    else false
                  else false
                else false
              else false
            else false
          else false
        else false
      else false
    else false
  else false
def k_law7_alive : Bool :=
  bif (k_ins_Reads ((2 : Int), (false, ((0 : Int), (((3 : Int), ((0 : Int), ((0 : Int), (0 : Int)))), (((1 : Int), ((0 : Int), ((0 : Int), (0 : Int)))), ((bs []), []))))))) then
    bif (k_ins_Right ((2 : Int), (false, ((0 : Int), (((3 : Int), ((0 : Int), ((0 : Int), (0 : Int)))), (((1 : Int), ((0 : Int), ((0 : Int), (0 : Int)))), ((bs []), []))))))) then
      bif ((v_ins_Right ((2 : Int), (false, ((0 : Int), (((3 : Int), ((0 : Int), ((0 : Int), (0 : Int)))), (((1 : Int), ((0 : Int), ((0 : Int), (0 : Int)))), ((bs []), []))))))) == (0 : Int)) then
        bif (k_ins_Parts ((2 : Int), (false, ((0 : Int), (((3 : Int), ((0 : Int), ((0 : Int), (0 : Int)))), (((1 : Int), ((0 : Int), ((0 : Int), (0 : Int)))), ((bs []), []))))))) then
          bif ((v_ins_Parts ((2 : Int), (false, ((0 : Int), (((3 : Int), ((0 : Int), ((0 : Int), (0 : Int)))), (((1 : Int), ((0 : Int), ((0 : Int), (0 : Int)))), ((bs []), []))))))) == (2 : Int)) then
            bif (k_ins_Parts ((2 : Int), (true, ((0 : Int), (((3 : Int), ((0 : Int), ((0 : Int), (0 : Int)))), (((1 : Int), ((0 : Int), ((0 : Int), (0 : Int)))), ((bs []), []))))))) then
              bif ((v_ins_Parts ((2 : Int), (true, ((0 : Int), (((3 : Int), ((0 : Int), ((0 : Int), (0 : Int)))), (((1 : Int), ((0 : Int), ((0 : Int), (0 : Int)))), ((bs []), []))))))) == (1 : Int)) then
                bif (k_ins_Fence ((2 : Int), (true, ((0 : Int), (((3 : Int), ((0 : Int), ((0 : Int), (0 : Int)))), (((1 : Int), ((0 : Int), ((0 : Int), (0 : Int)))), ((bs []), []))))))) then
                  bif (v_ins_Fence ((2 : Int), (true, ((0 : Int), (((3 : Int), ((0 : Int), ((0 : Int), (0 : Int)))), (((1 : Int), ((0 : Int), ((0 : Int), (0 : Int)))), ((bs []), []))))))) then
                    bif (k_ins_Fence ((2 : Int), (false, ((0 : Int), (((3 : Int), ((0 : Int), ((0 : Int), (0 : Int)))), (((1 : Int), ((0 : Int), ((0 : Int), (0 : Int)))), ((bs []), []))))))) then
                      bif (! (v_ins_Fence ((2 : Int), (false, ((0 : Int), (((3 : Int), ((0 : Int), ((0 : Int), (0 : Int)))), (((1 : Int), ((0 : Int), ((0 : Int), (0 : Int)))), ((bs []), [])))))))) then
                        bif (v_ins_Reads ((2 : Int), (false, ((0 : Int), (((3 : Int), ((0 : Int), ((0 : Int), (0 : Int)))), (((1 : Int), ((0 : Int), ((0 : Int), (0 : Int)))), ((bs []), []))))))).2 then
                          bif (((v_ins_Reads ((2 : Int), (false, ((0 : Int), (((3 : Int), ((0 : Int), ((0 : Int), (0 : Int)))), (((1 : Int), ((0 : Int), ((0 : Int), (0 : Int)))), ((bs []), []))))))).1.1 == (3 : Int)) && (((v_ins_Reads ((2 : Int), (false, ((0 : Int), (((3 : Int), ((0 : Int), ((0 : Int), (0 : Int)))), (((1 : Int), ((0 : Int), ((0 : Int), (0 : Int)))), ((bs []), []))))))).1.2.1 == (0 : Int)) && (((v_ins_Reads ((2 : Int), (false, ((0 : Int), (((3 : Int), ((0 : Int), ((0 : Int), (0 : Int)))), (((1 : Int), ((0 : Int), ((0 : Int), (0 : Int)))), ((bs []), []))))))).1.2.2.1 == (0 : Int)) && ((v_ins_Reads ((2 : Int), (false, ((0 : Int), (((3 : Int), ((0 : Int), ((0 : Int), (0 : Int)))), (((1 : Int), ((0 : Int), ((0 : Int), (0 : Int)))), ((bs []), []))))))).1.2.2.2 == (0 : Int))))) then
                            bif (k_ins_Right ((0 : Int), (false, ((0 : Int), (((0 : Int), ((0 : Int), ((0 : Int), (0 : Int)))), (((0 : Int), ((0 : Int), ((0 : Int), (0 : Int)))), ((bs []), []))))))) then
                              true
                            else false
                          else true
                        else true
                      else true
                    else false
                  else true
                else false
              else true
            else false
          else true
        else false
      else true
    else false
  else false
theorem g_law7_alive (hk : k_law7_alive = true) : Goes (T_law7_alive) (T0_law7_alive) (v_law7_alive) :=
  Goes.brk hk (fun hk =>
    Goes.brk hk (fun hk =>
      Goes.brk hk (fun hk =>
        Goes.brk hk (fun hk =>
          Goes.brk hk (fun hk =>
            Goes.brk hk (fun hk =>
              Goes.brk hk (fun hk =>
                Goes.brk hk (fun hk =>
                  Goes.brk hk (fun hk =>
                    Goes.brk hk (fun hk =>
                      Goes.brk hk (fun hk =>
                        Goes.brk hk (fun hk =>
                          Goes.brk hk (fun hk =>
                            Goes.brk hk (fun hk =>
                              Goes.leaf) (fun hk =>
                              Goes.nok hk)) (fun hk =>
                            Goes.leaf)) (fun hk =>
                          Goes.leaf)) (fun hk =>
                        Goes.leaf)) (fun hk =>
                      Goes.nok hk)) (fun hk =>
                    Goes.leaf)) (fun hk =>
                  Goes.nok hk)) (fun hk =>
                Goes.leaf)) (fun hk =>
              Goes.nok hk)) (fun hk =>
            Goes.leaf)) (fun hk =>
          Goes.nok hk)) (fun hk =>
        Goes.leaf)) (fun hk =>
      Goes.nok hk)) (fun hk =>
    Goes.nok hk)
def R_law7_alive : Bool → AV := fun (r : Bool) => .d .bool r
def S_law7_alive : Empty → Nat × St := fun j => nomatch j
theorem en_law7_alive (L : Lt) : entryA Go.Proofs.Tryd.prog (clOf t_law7_alive) tb_law7_alive Go.Proofs.Tryd.f15 c_law7_alive L (toForms sg_law7_alive (())) = (T0_law7_alive).run (fun v => some (R_law7_alive v, tps (toForms sg_law7_alive (())))) fun j => L (S_law7_alive j).1 (S_law7_alive j).2 := by kernel_rfl
theorem lp_law7_alive : ∀ (L : Lt) (j : Empty), procOf (procsF Go.Proofs.Tryd.prog (clOf t_law7_alive) tb_law7_alive Go.Proofs.Tryd.f15 c_law7_alive (toForms sg_law7_alive (()))) (S_law7_alive j).1 L (S_law7_alive j).2 = (T_law7_alive j).run (fun v => some (R_law7_alive v, tps (toForms sg_law7_alive (())))) fun j => L (S_law7_alive j).1 (S_law7_alive j).2 := fun L j => nomatch j
noncomputable def e_law7_alive : Run := entG sg_law7_alive R_law7_alive (fun a => k_law7_alive) (fun a => v_law7_alive)
theorem ok_law7_alive : EntOK Go.Proofs.Tryd.prog 15 e_law7_alive := entG_ok (tb := tb_law7_alive) (c := c_law7_alive) tk_law7_alive (by kernel_rfl) (by kernel_rfl) (by kernel_rfl) (fun a => by kernel_rfl) fun _ hk => evF_goes (c := c_law7_alive) (K := fun v => (R_law7_alive v, tps (toForms sg_law7_alive (())))) (S := S_law7_alive) (by kernel_rfl) (en_law7_alive) (lp_law7_alive) (g_law7_alive hk)
theorem co_law7_alive (hk : k_law7_alive = true) : CallOK Go.Proofs.Tryd.prog 15 (toForms sg_law7_alive (())) (R_law7_alive (v_law7_alive), tps (toForms sg_law7_alive (()))) := by
  obtain ⟨h1, h2⟩ := clOf_ok tk_law7_alive
  obtain ⟨n, hn⟩ := evF_goes (c := c_law7_alive) (K := fun v => (R_law7_alive v, tps (toForms sg_law7_alive (())))) (S := S_law7_alive) (by kernel_rfl) (en_law7_alive) (lp_law7_alive) (g_law7_alive hk)
  exact evF_sound (f := 15) (c := c_law7_alive) h1 h2 (by kernel_rfl) (by kernel_rfl) (by kernel_rfl) hn
end Go.Ev
end

section
set_option linter.unusedSectionVars false
set_option linter.unusedVariables false
set_option linter.unusedSimpArgs false
/- What is told of an instruction: `tells` is true. -/
set_option maxRecDepth 100000
set_option linter.unusedVariables false
set_option linter.unusedSimpArgs false
namespace Go.Ev
open Go
theorem k_alive7 : k_law7_alive = true := by decide
theorem v_alive7 : v_law7_alive = true := by decide

theorem nine (k : Int) : (k ≤ 9 ∧ decide (k > 9) = false) ∨ (9 < k ∧ decide (k > 9) = true) := by
  by_cases h : k ≤ 9
  · exact .inl ⟨h, by simp; omega⟩
  · exact .inr ⟨by omega, by simp; omega⟩
theorem right0_fits {i : El T_api_Ins} (h : v_ins_Right i = 0) : v_ins_fits i = true := by
  cases hf : v_ins_fits i with
  | true => rfl
  | false =>
    change u_ins_Right i = 0 at h
    unfold u_ins_Right at h
    simp only [hf, Bool.not_false, cond_true, Bool.cond_self] at h
    exact absurd h (by decide)
theorem right0_row {i : El T_api_Ins} (h : v_ins_Right i = 0) : (1 : Int) ≤ i.1 ∧ (show Int from i.1) ≤ 14 ∧ v_ref1_row i = true := by
  have hf := right0_fits h
  rw [fits_row] at hf
  simp only [Bool.and_eq_true, decide_eq_true_eq] at hf
  exact ⟨hf.1, hf.2.1, hf.2.2.1⟩
theorem row_low {i : El T_api_Ins} (h : v_ref1_row i = true) (h1 : (1 : Int) ≤ i.1) (h9 : (show Int from i.1) ≤ 9) : v_opnd_Right i.2.2.2.1 = true ∧ v_opnd_Right i.2.2.2.2.1 = true := by
  unfold v_ref1_row at h
  have e1 : decide ((show Int from i.1) < 1) = false := by simp; omega
  have e2 : decide ((show Int from i.1) > 9) = false := by simp; omega
  simp only [e1, e2, cond_false, right_eq] at h
  cases hA : v_opnd_Right i.2.2.2.1 with
  | false => rw [hA] at h; simp at h
  | true =>
    cases hB : v_opnd_Right i.2.2.2.2.1 with
    | false => rw [hA, hB] at h; simp at h
    | true => exact ⟨rfl, rfl⟩
theorem row_high {i : El T_api_Ins} (h : v_ref1_row i = true) (h9 : (9 : Int) < i.1) : (show Int from i.2.2.2.1.1) = 0 ∧ (show Int from i.2.2.2.2.1.1) = 0 := by
  unfold v_ref1_row at h
  have e1 : decide ((show Int from i.1) < 1) = false := by simp; omega
  have e2 : decide ((show Int from i.1) > 9) = true := by simp; omega
  simp only [e1, e2, cond_false, cond_true] at h
  simp only [Bool.cond_eq_ite, Bool.if_false_right, Bool.and_eq_true, beq_iff_eq, decide_eq_true_eq, Bool.decide_eq_true] at h
  exact ⟨h.1.1, h.2.1.1⟩
theorem mem_low {i : El T_api_Ins} (h : v_ins_Right i = 0) (h9 : (show Int from i.1) ≤ 9) : v_ins_memory i.2.2.2.1 = v_ref1_Memory i.2.2.2.1 ∧ v_ins_memory i.2.2.2.2.1 = v_ref1_Memory i.2.2.2.2.1 := by
  obtain ⟨h1, _, hr⟩ := right0_row h
  obtain ⟨a, b⟩ := row_low hr h1 h9
  constructor
  · rw [memory_eq, refMemory_eq, a, Bool.true_and]
  · rw [memory_eq, refMemory_eq, b, Bool.true_and]
theorem mem_high {i : El T_api_Ins} (h : v_ins_Right i = 0) (h9 : (9 : Int) < i.1) : v_ins_memory i.2.2.2.1 = false ∧ v_ins_memory i.2.2.2.2.1 = false := by
  obtain ⟨h1, _, hr⟩ := right0_row h
  obtain ⟨a, b⟩ := row_high hr h9
  constructor
  · rw [memory_eq, a]; simp
  · rw [memory_eq, b]; simp

theorem k_reads {i : El T_api_Ins} (h : smallText i.2.2.2.2.2.1 = true) : k_ins_Reads i = true ∧ k_ins_Writes i = true ∧ k_ins_Leads i = true ∧ k_ins_Locked i = true := by
  have h0 : k_ins_Right i = true := h
  unfold k_ins_Reads k_ins_Writes k_ins_Leads k_ins_Locked
  simp only [h0, cond_true, Bool.cond_self, and_self]
theorem k_refReads {i : El T_api_Ins} (h : smallText i.2.2.2.2.2.1 = true) : k_ref1_Reads i = true ∧ k_ref1_Writes i = true ∧ k_ref1_Leads i = true ∧ k_ref1_Locked i = true := by
  have h0 : k_ref1_InsRight i = true := h
  unfold k_ref1_Reads k_ref1_Writes k_ref1_Leads k_ref1_Locked
  simp only [h0, cond_true, Bool.cond_self, and_self]
theorem k_parts {i : El T_api_Ins} (h : smallText i.2.2.2.2.2.1 = true) : k_ins_Fence i = true ∧ k_ins_Parts i = true ∧ k_ref1_Fence i = true ∧ k_ref1_Parts i = true := by
  have h0 : k_ins_Right i = true := h
  have h1 : k_ref1_InsRight i = true := h
  obtain ⟨a1, a2, a3, a4⟩ := k_reads h
  obtain ⟨b1, b2, b3, b4⟩ := k_refReads h
  unfold k_ins_Fence k_ins_Parts k_ref1_Fence k_ref1_Parts
  simp only [h0, h1, a1, a2, a3, a4, b1, b2, b3, b4, cond_true, Bool.cond_self, and_self]

theorem reads_eq {i : El T_api_Ins} (h : smallText i.2.2.2.2.2.1 = true) : v_ref1_Reads i = v_ins_Reads i := by
  have h0 : k_ins_Right i = true := h
  have h1 : k_ref1_InsRight i = true := h
  unfold v_ref1_Reads v_ins_Reads v_ref1_InsRight
  simp only [h0, h1, cond_true]
  by_cases hr : v_ins_Right i = 0
  · simp only [hr, bne_self_eq_false, cond_false]
    rcases nine i.1 with ⟨h9, e⟩ | ⟨h9, e⟩
    · obtain ⟨a, b⟩ := mem_low hr h9
      rw [a, b, e, cond_false]
    · obtain ⟨a, b⟩ := mem_high hr h9
      rw [a, b, e]
      simp only [cond_true, cond_false]
  · have e : (v_ins_Right i != 0) = true := by simp [hr]
    simp only [e, cond_true]
theorem writes_eq {i : El T_api_Ins} (h : smallText i.2.2.2.2.2.1 = true) : v_ref1_Writes i = v_ins_Writes i := by
  have h0 : k_ins_Right i = true := h
  have h1 : k_ref1_InsRight i = true := h
  unfold v_ref1_Writes v_ins_Writes v_ref1_InsRight
  simp only [h0, h1, cond_true]
  by_cases hr : v_ins_Right i = 0
  · simp only [hr, bne_self_eq_false, cond_false]
    rcases nine i.1 with ⟨h9, e⟩ | ⟨h9, e⟩
    · obtain ⟨a, b⟩ := mem_low hr h9
      rw [a, e, cond_false]
      cases v_ref1_Memory i.2.2.2.1 <;> simp only [Bool.not_true, Bool.not_false, cond_true, cond_false, Bool.cond_self]
    · obtain ⟨a, b⟩ := mem_high hr h9
      rw [a, e]
      simp only [cond_true, Bool.not_false]
  · have e : (v_ins_Right i != 0) = true := by simp [hr]
    simp only [e, cond_true]
theorem leads_eq {i : El T_api_Ins} (h : smallText i.2.2.2.2.2.1 = true) : v_ref1_Leads i = v_ins_Leads i := by
  have h0 : k_ins_Right i = true := h
  have h1 : k_ref1_InsRight i = true := h
  unfold v_ref1_Leads v_ins_Leads v_ref1_InsRight v_ref1_Jumps
  simp only [h0, h1, cond_true]
  cases h10 : ((show Int from i.1) == 10) with
  | true => simp only [cond_true, bne, h10, Bool.not_true, cond_false]
  | false => simp only [cond_true, bne, h10, Bool.not_false, cond_false]
theorem locked_eq {i : El T_api_Ins} (h : smallText i.2.2.2.2.2.1 = true) : v_ref1_Locked i = v_ins_Locked i := by
  have h0 : k_ins_Right i = true := h
  have h1 : k_ref1_InsRight i = true := h
  unfold v_ref1_Locked v_ins_Locked v_ref1_InsRight
  simp only [h0, h1]
theorem fence_eq {i : El T_api_Ins} (h : smallText i.2.2.2.2.2.1 = true) : v_ref1_Fence i = v_ins_Fence i := by
  have h0 : k_ins_Right i = true := h
  have h1 : k_ref1_InsRight i = true := h
  obtain ⟨a1, a2, a3, a4⟩ := k_reads h
  obtain ⟨b1, b2, b3, b4⟩ := k_refReads h
  unfold v_ref1_Fence v_ins_Fence v_ref1_InsRight
  simp only [h0, h1, a4, b4, locked_eq h]
theorem parts_eq {i : El T_api_Ins} (h : smallText i.2.2.2.2.2.1 = true) : v_ref1_Parts i = v_ins_Parts i := by
  have h0 : k_ins_Right i = true := h
  have h1 : k_ref1_InsRight i = true := h
  obtain ⟨a1, a2, a3, a4⟩ := k_reads h
  obtain ⟨b1, b2, b3, b4⟩ := k_refReads h
  unfold v_ref1_Parts v_ins_Parts v_ref1_InsRight
  simp only [h0, h1, a1, b1, a2, b2, a4, b4, locked_eq h, writes_eq h, reads_eq h]

theorem tells_true {i : El T_api_Ins} (h : smallText i.2.2.2.2.2.1 = true) : k_law7_tells i = true ∧ v_law7_tells i = true := by
  have h0 : k_ins_Right i = true := h
  have h1 : k_ref1_InsRight i = true := h
  obtain ⟨a1, a2, a3, a4⟩ := k_reads h
  obtain ⟨b1, b2, b3, b4⟩ := k_refReads h
  obtain ⟨c1, c2, c3, c4⟩ := k_parts h
  have hb : ∀ x : Bool, (x == x) = true := fun x => by simp
  have hi : ∀ x : Int, (x == x) = true := fun x => by simp
  unfold k_law7_tells v_law7_tells v_ref1_InsRight
  simp only [h0, h1, a1, a2, a3, a4, b1, b2, b3, b4, c1, c2, c3, c4, reads_eq h, writes_eq h, leads_eq h, locked_eq h, fence_eq h, parts_eq h, hb, hi, cond_true, Bool.and_self, and_self, beq_self_eq_true]
end Go.Ev
end

section
set_option linter.unusedSectionVars false
set_option linter.unusedVariables false
set_option linter.unusedSimpArgs false
/- Chapter 8's rules, over lists. -/
set_option linter.unusedVariables false
set_option linter.unusedSimpArgs false
namespace Go.Ev
open Go
instance lawfulBytes : LawfulBEq ByteArray where
  rfl := fun {a} => by
    show (a.data == a.data) = true
    exact beq_self_eq_true _
  eq_of_beq := fun {a b} h => by
    have h : (a.data == b.data) = true := h
    have := eq_of_beq h
    cases a; cases b; simp at this; rw [this]
/-- How many are no mfence. -/
def countM (t : List (El T_api_Ins)) : Nat := (t.filter fun i => i.1 != (12 : Int)).length
theorem countM_le (t : List (El T_api_Ins)) : countM t ≤ t.length := List.length_filter_le _ _
/-- The first that bears a label. -/
def findI (label : ByteArray) : List (El T_api_Ins) → Nat → Int
  | [], _ => -1
  | i :: r, k => if i.2.2.2.2.2.2.contains label then (k : Int) else findI label r (k + 1)
/-- An operand's place. -/
def placeN (len : Int) (size : Int → Int) (k s n : Int) : Int := if k = 3 ∨ k = 4 then (if s < 0 ∨ len ≤ s then 7 else if k = 3 ∧ size s ≤ n then 8 else 0) else 0
def placeC (p : El T_api_Prog) (o : El T_api_Opd) : Int := placeN (p.1.length : Int) (fun s => (List.getD p.1 s.toNat (dflt T_api_Sym)).2.1) o.1 o.2.2.1 o.2.2.2
/-- An instruction's labels, behind those that were seen. -/
def scanL (seen : List ByteArray) (K : List ByteArray → Int) : List ByteArray → Int
  | [] => K seen
  | l :: r => if nameRight l = false then 3 else if seen.contains l then 6 else scanL (seen ++ [l]) K r
def insC (p : El T_api_Prog) (i : El T_api_Ins) : Int :=
  if v_ins_Right i ≠ 0 then v_ins_Right i else if placeC p i.2.2.2.1 ≠ 0 then placeC p i.2.2.2.1 else placeC p i.2.2.2.2.1
def scanI (p : El T_api_Prog) (K : List ByteArray → Int) : List ByteArray → List (El T_api_Ins) → Int
  | seen, [] => K seen
  | seen, i :: r => scanL seen (fun seen => if insC p i ≠ 0 then insC p i else scanI p K seen r) i.2.2.2.2.2.2
def endC (t : List (El T_api_Ins)) (K : Int) : Int := match t.getLast? with
  | none => 9
  | some i => if (i.1 == (10 : Int)) || (i.1 == (14 : Int)) then K else 9
def jumpC (seen : List ByteArray) : List (El T_api_Ins) → Int
  | [] => 0
  | i :: r => if (i.1 == (10 : Int)) || (i.1 == (11 : Int)) then (if seen.contains i.2.2.2.2.2.1 then jumpC seen r else 7) else jumpC seen r
def threadC (p : El T_api_Prog) (t : List (El T_api_Ins)) : Int := if 4096 < countM t then 10 else scanI p (fun seen => endC t (jumpC seen t)) [] t
def symsC (K : Int) : List ByteArray → List (El T_api_Sym) → Int
  | _, [] => K
  | seen, s :: r => if nameRight s.1 = false then 3 else if seen.contains s.1 then 6 else if s.2.1 < (1 : Int) ∨ (64 : Int) < s.2.1 ∨ s.2.1 < (s.2.2.length : Int) then 5 else symsC K (seen ++ [s.1]) r
def thsC (p : El T_api_Prog) : List (List (El T_api_Ins)) → Int
  | [] => 0
  | t :: r => if threadC p t ≠ 0 then threadC p t else thsC p r
def checkC (p : El T_api_Prog) : Int := if 64 < p.1.length ∨ 64 < p.2.length then 10 else symsC (thsC p p.2) [] p.1

/-! how great -/
def labels (t : List (El T_api_Ins)) : List ByteArray := t.flatMap fun i => i.2.2.2.2.2.2
def smallThread (t : List (El T_api_Ins)) : Bool := decide (t.length < 1099511627776) && (decide ((labels t).length < 1099511627776) && t.all fun i => smallText i.2.2.2.2.2.1 && i.2.2.2.2.2.2.all smallText)
def smallProg (p : El T_api_Prog) : Bool := (p.1.all fun s => smallText s.1) && p.2.all smallThread

theorem labels_mem {t : List (El T_api_Ins)} {i : El T_api_Ins} (h : i ∈ t) : i.2.2.2.2.2.2.length ≤ (labels t).length := by
  unfold labels
  induction t with
  | nil => cases h
  | cons j t ih =>
    rw [List.flatMap_cons, List.length_append]
    rcases List.mem_cons.1 h with rfl | h
    · omega
    · have := ih h; omega
structure SmallT (t : List (El T_api_Ins)) : Prop where
  len : t.length < 1099511627776
  labs : (labels t).length < 1099511627776
  to : ∀ i ∈ t, smallText i.2.2.2.2.2.1 = true
  lab : ∀ i ∈ t, ∀ l ∈ i.2.2.2.2.2.2, smallText l = true
theorem smallT {t : List (El T_api_Ins)} (h : smallThread t = true) : SmallT t := by
  unfold smallThread at h
  simp only [Bool.and_eq_true, decide_eq_true_eq, List.all_eq_true] at h
  exact ⟨h.1, h.2.1, fun i hi => (h.2.2 i hi).1, fun i hi l hl => (h.2.2 i hi).2 l hl⟩
theorem findFrom_contains {s : ByteArray} : ∀ {l : List ByteArray} {k : Nat}, (findFrom s l k).isSome = l.contains s
  | [], _ => rfl
  | x :: r, k => by
    unfold findFrom
    rw [List.contains_cons]
    by_cases h : x = s
    · subst h; simp
    · have : (s == x) = false := by simp; exact fun e => h e.symm
      rw [if_neg h, this, Bool.false_or]
      exact findFrom_contains
/-- A map of what was seen. -/
def Seen (m : List (ByteArray × Bool)) (seen : List ByteArray) : Prop := ∀ l, (mget (kt := .str) l m).getD false = seen.contains l
theorem mget_mput (m : List (ByteArray × Bool)) (l l' : ByteArray) : mget (kt := .str) l (mput (kt := .str) l' true m) = if l = l' then some true else mget (kt := .str) l m := by
  induction m with
  | nil =>
    show (bif (l == l') then some true else none) = _
    by_cases h : l = l'
    · subst h; rw [if_pos rfl, beq_self_eq_true]; rfl
    · rw [if_neg h, beq_false_of_ne h]; rfl
  | cons x m ih =>
    obtain ⟨x, u⟩ := x
    show mget (kt := .str) l (bif l' == x then (l', true) :: m else (x, u) :: mput (kt := .str) l' true m) = _
    by_cases hx : l' = x
    · subst hx
      rw [beq_self_eq_true, cond_true]
      show (bif l == l' then some true else mget (kt := .str) l m) = if l = l' then some true else (bif l == l' then some u else mget (kt := .str) l m)
      by_cases h : l = l'
      · subst h; rw [if_pos rfl, beq_self_eq_true]; rfl
      · rw [if_neg h, beq_false_of_ne h]; rfl
    · rw [beq_false_of_ne hx, cond_false]
      show (bif l == x then some u else mget (kt := .str) l (mput (kt := .str) l' true m)) = if l = l' then some true else (bif l == x then some u else mget (kt := .str) l m)
      rw [ih]
      by_cases h : l = x
      · subst h; rw [if_neg (Ne.symm hx), if_neg (Ne.symm hx), beq_self_eq_true]
      · rw [beq_false_of_ne h]; rfl
theorem Seen.nil : Seen [] [] := fun l => rfl
theorem Seen.put {m : List (ByteArray × Bool)} {seen : List ByteArray} (h : Seen m seen) (l : ByteArray) : Seen (mput (kt := .str) l true m) (seen ++ [l]) := fun (x : ByteArray) => by
  rw [mget_mput]
  by_cases hx : x = l
  · subst hx; rw [if_pos rfl]; simp
  · rw [if_neg hx, h x]
    simp [hx]

theorem jumps_is {i : El T_api_Ins} (h : smallText i.2.2.2.2.2.1 = true) (hr : v_ins_Right i = 0) : (v_ins_Leads i).2 = ((i.1 == (10 : Int)) || (i.1 == (11 : Int))) := by
  have h0 : k_ins_Right i = true := h
  unfold v_ins_Leads
  simp only [h0, hr, bne_self_eq_false, cond_true, cond_false]
  unfold bne
  cases (i.1 == (10 : Int)) <;> simp
theorem jumps_eq (op : Int) : v_ref1_Jumps op = ((op == (10 : Int)) || (op == (11 : Int))) := by
  unfold v_ref1_Jumps
  cases (op == (10 : Int)) <;> simp
theorem endC_nil {K : Int} : endC [] K = 9 := rfl
theorem endC_eq {t : List (El T_api_Ins)} (h : 0 < t.length) {K : Int} : endC t K = if (t[t.length - 1].1 == (10 : Int)) || (t[t.length - 1].1 == (14 : Int)) then K else 9 := by
  unfold endC
  have : t.getLast? = some t[t.length - 1] := by
    rw [List.getLast?_eq_getElem?, List.getElem?_eq_getElem (by omega)]
  rw [this]
theorem findI_neg {label : ByteArray} : ∀ {t : List (El T_api_Ins)} {k : Nat}, decide (findI label t k < 0) = ! (labels t).contains label
  | [], _ => rfl
  | i :: r, k => by
    unfold findI labels
    rw [List.flatMap_cons]
    have ih := findI_neg (label := label) (t := r) (k := k + 1)
    unfold labels at ih
    by_cases h : i.2.2.2.2.2.2.contains label = true
    · rw [if_pos h]
      have : (List.flatMap (fun (i : El T_api_Ins) => i.2.2.2.2.2.2) r).contains label = (List.flatMap (fun (i : El T_api_Ins) => i.2.2.2.2.2.2) r).contains label := rfl
      have h2 : (i.2.2.2.2.2.2 ++ List.flatMap (fun (i : El T_api_Ins) => i.2.2.2.2.2.2) r).contains label = true := by
        rw [List.contains_iff_mem] at h ⊢
        exact List.mem_append_left _ h
      rw [h2]
      simp
    · rw [if_neg h, ih]
      have h2 : (i.2.2.2.2.2.2 ++ List.flatMap (fun (i : El T_api_Ins) => i.2.2.2.2.2.2) r).contains label = (List.flatMap (fun (i : El T_api_Ins) => i.2.2.2.2.2.2) r).contains label := by
        rw [Bool.eq_iff_iff, List.contains_iff_mem, List.contains_iff_mem, List.mem_append]
        rw [List.contains_iff_mem] at h
        exact ⟨fun x => x.resolve_left h, .inr⟩
      rw [h2]
theorem index_contains {s : ByteArray} {l : List ByteArray} : decide (v_ref1_index l s ≥ 0) = l.contains s := by
  rw [← findFrom_contains (k := 0)]
  unfold v_ref1_index
  cases h : findFrom s l 0 with
  | none => rfl
  | some n => simp
end Go.Ev
end

section
set_option linter.unusedSectionVars false
set_option linter.unusedVariables false
set_option linter.unusedSimpArgs false
set_option linter.unusedVariables false
set_option linter.unusedSimpArgs false
open Go
namespace Go.Ev
def v_valid_Count (t : List (El T_api_Ins)) : Int := (countM t : Int)
def k_valid_Count (t : List (El T_api_Ins)) : Bool := decide (t.length < 1099511627776)
theorem g_valid_Count (t : List (El T_api_Ins)) (hk : k_valid_Count t = true) : Goes (T_valid_Count t) (T0_valid_Count t) (v_valid_Count t) := by
  have hn : t.length < 1099511627776 := of_decide_eq_true hk
  have loop : ∀ k, k ≤ t.length → ∀ n : Nat, n ≤ k → Goes (T_valid_Count t) (.jmp (.l4 (n : Int) (k : Int))) ((n + countM (t.drop k) : Nat) : Int) := by
    refine down ?_ fun k hk ih => ?_
    · intro n hnk
      rw [goes_jmp]
      simp only [T_valid_Count, goes_br, lt_len_not (Nat.lt_irrefl _), goes_leaf, List.drop_length]
      simp [countM]
    · intro n hnk
      rw [goes_jmp]
      simp only [T_valid_Count, goes_br, lt_len hk, nng, Bool.and_self, if_true, Int.toNat_natCast, getD_lt hk, wrap_succ (k := k) (by omega), wrap_succ (k := n) (by omega)]
      rw [drop_cons hk]
      unfold countM
      rw [List.filter_cons]
      split
      · rename_i h
        have := ih (n + 1) (by omega)
        unfold countM at this
        rw [List.length_cons, show n + ((List.filter (fun i => i.1 != (12 : Int)) (List.drop (k + 1) t)).length + 1) = n + 1 + (List.filter (fun i => i.1 != (12 : Int)) (List.drop (k + 1) t)).length by omega]
        exact this
      · exact ih n (by omega)
  have := loop 0 (Nat.zero_le _) 0 (Nat.le_refl _)
  unfold T0_valid_Count v_valid_Count
  simpa using this
end Go.Ev
end

section
set_option linter.unusedSectionVars false
set_option linter.unusedVariables false
set_option linter.unusedSimpArgs false
set_option maxRecDepth 100000
set_option linter.unusedVariables false
open Go Go.Ev
namespace Go.Ev
noncomputable def e_valid_Count : Run := entG sg_valid_Count R_valid_Count (fun a => k_valid_Count a.1) (fun a => v_valid_Count a.1)
theorem ok_valid_Count : EntOK Go.Proofs.Tryd.prog 37 e_valid_Count := entG_ok (tb := tb_valid_Count) (c := c_valid_Count) tk_valid_Count (by kernel_rfl) (by kernel_rfl) (by kernel_rfl) (fun a => by kernel_rfl) fun ⟨t, _⟩ hk => evF_goes (c := c_valid_Count) (K := fun v => (R_valid_Count v, tps (toForms sg_valid_Count (t, ())))) (S := S_valid_Count t) (by kernel_rfl) (en_valid_Count t) (lp_valid_Count t) (g_valid_Count t hk)
end Go.Ev
end

section
set_option linter.unusedSectionVars false
set_option linter.unusedVariables false
set_option linter.unusedSimpArgs false
set_option maxRecDepth 100000
set_option linter.unusedVariables false
open Go Go.Ev
namespace Go.Ev
/-! ### paling/valid.place -/
def sg_valid_place : Sig := [(true, T_api_Prog), (true, T_api_Opd)]
noncomputable def t_valid_place : Tbl := []
theorem tk_valid_place : ∀ p ∈ t_valid_place, EntOK Go.Proofs.Tryd.prog p.1 p.2 := tbl_nil
noncomputable def c_valid_place : Code := Go.Proofs.Tryd.f78.body.getD .skip
def tb_valid_place : Tb := [(5, ⟨[2, 3, 23, 28, 29, 30, 31, 32, 33, 34, 35, 36, 37], []⟩)]
inductive J_valid_place where
  | l5 (h : Bool)
def T_valid_place (p : El T_api_Prog) (o : El T_api_Opd) : J_valid_place → JT J_valid_place (Int)
  | .l5 h =>
    .br h
      (.leaf (7 : Int))
    (.br (o.1 == (3 : Int))
      (.br ((decide ((0 : Int) ≤ o.2.2.1)) && (decide (o.2.2.1 < (Int.ofNat (List.length p.1)))))
        (.br (decide (o.2.2.2 ≥ (List.getD p.1 (Int.toNat o.2.2.1) (dflt T_api_Sym)).2.1))
          (.leaf (8 : Int))
        (.leaf (0 : Int)))
      (.no))
    (.leaf (0 : Int)))
def T0_valid_place (p : El T_api_Prog) (o : El T_api_Opd) : JT J_valid_place (Int) :=
  .br (o.1 != (3 : Int))
    (.br (o.1 != (4 : Int))
      (.leaf (0 : Int))
    (.br (decide (o.2.2.1 < (0 : Int)))
      (.jmp (.l5 true))
    (.jmp (.l5 (decide (o.2.2.1 ≥ (Int.ofNat (List.length p.1))))))))
  (.br (decide (o.2.2.1 < (0 : Int)))
    (.jmp (.l5 true))
  (.jmp (.l5 (decide (o.2.2.1 ≥ (Int.ofNat (List.length p.1)))))))
def v_valid_place_l5 (p : El T_api_Prog) (o : El T_api_Opd) (h : Bool) : Int :=
  bif h then
    (7 : Int)
  else bif (o.1 == (3 : Int)) then
    bif ((decide ((0 : Int) ≤ o.2.2.1)) && (decide (o.2.2.1 < (Int.ofNat (List.length p.1))))) then
      bif (decide (o.2.2.2 ≥ (List.getD p.1 (Int.toNat o.2.2.1) (dflt T_api_Sym)).2.1)) then
        (8 : Int)
      else (0 : Int)
    else (0 : Int)
  else (0 : Int)
def k_valid_place_l5 (p : El T_api_Prog) (o : El T_api_Opd) (h : Bool) : Bool :=
  bif h then
    true
  else bif (o.1 == (3 : Int)) then
    bif ((decide ((0 : Int) ≤ o.2.2.1)) && (decide (o.2.2.1 < (Int.ofNat (List.length p.1))))) then
      bif (decide (o.2.2.2 ≥ (List.getD p.1 (Int.toNat o.2.2.1) (dflt T_api_Sym)).2.1)) then
        true
      else true
    else false
  else true
theorem g_valid_place_l5 (p : El T_api_Prog) (o : El T_api_Opd) (h : Bool) (hk : k_valid_place_l5 p o h = true) : Goes (T_valid_place p o) (.jmp (.l5 h)) (v_valid_place_l5 p o h) :=
  Goes.jmp (Goes.brk hk (fun hk =>
    Goes.leaf) (fun hk =>
    Goes.brk hk (fun hk =>
      Goes.brk hk (fun hk =>
        Goes.brk hk (fun hk =>
          Goes.leaf) (fun hk =>
          Goes.leaf)) (fun hk =>
        Goes.nok hk)) (fun hk =>
      Goes.leaf)))
def u_valid_place (p : El T_api_Prog) (o : El T_api_Opd) : Int :=
  bif (o.1 != (3 : Int)) then
    bif (o.1 != (4 : Int)) then
      (0 : Int)
    else bif (decide (o.2.2.1 < (0 : Int))) then
      v_valid_place_l5 p o true
    else v_valid_place_l5 p o (decide (o.2.2.1 ≥ (Int.ofNat (List.length p.1))))
  else bif (decide (o.2.2.1 < (0 : Int))) then
    v_valid_place_l5 p o true
  else v_valid_place_l5 p o (decide (o.2.2.1 ≥ (Int.ofNat (List.length p.1))))
def ku_valid_place (p : El T_api_Prog) (o : El T_api_Opd) : Bool :=
  bif (o.1 != (3 : Int)) then
    bif (o.1 != (4 : Int)) then
      true
    else bif (decide (o.2.2.1 < (0 : Int))) then
      k_valid_place_l5 p o true
    else k_valid_place_l5 p o (decide (o.2.2.1 ≥ (Int.ofNat (List.length p.1))))
  else bif (decide (o.2.2.1 < (0 : Int))) then
    k_valid_place_l5 p o true
  else k_valid_place_l5 p o (decide (o.2.2.1 ≥ (Int.ofNat (List.length p.1))))
theorem gu_valid_place (p : El T_api_Prog) (o : El T_api_Opd) (hk : ku_valid_place p o = true) : Goes (T_valid_place p o) (T0_valid_place p o) (u_valid_place p o) :=
  Goes.brk hk (fun hk =>
    Goes.brk hk (fun hk =>
      Goes.leaf) (fun hk =>
      Goes.brk hk (fun hk =>
        g_valid_place_l5 p o true hk) (fun hk =>
        g_valid_place_l5 p o (decide (o.2.2.1 ≥ (Int.ofNat (List.length p.1)))) hk))) (fun hk =>
    Goes.brk hk (fun hk =>
      g_valid_place_l5 p o true hk) (fun hk =>
      g_valid_place_l5 p o (decide (o.2.2.1 ≥ (Int.ofNat (List.length p.1)))) hk))
def R_valid_place : Int → AV := fun (r : Int) => .d (.int .i64) r
def S_valid_place (p : El T_api_Prog) (o : El T_api_Opd) : J_valid_place → Nat × St
  | .l5 h => (5, ⟨mkTm 39 [(2, .pt 3 0 0), (3, .pt 4 0 0), (23, .d .bool h)], [(3, 0, .box 49 [.d (.sl T_api_Sym) p.1, .d (.sl (.sl T_api_Ins)) p.2]), (4, 0, .box 23 [.d (.int .i64) o.1, .d (.int .i64) o.2.1, .d (.int .i64) o.2.2.1, .d (.int .i64) o.2.2.2])]⟩)
theorem en_valid_place (p : El T_api_Prog) (o : El T_api_Opd) (L : Lt) : entryA Go.Proofs.Tryd.prog (clOf t_valid_place) tb_valid_place Go.Proofs.Tryd.f78 c_valid_place L (toForms sg_valid_place (p, o, ())) = (T0_valid_place p o).run (fun v => some (R_valid_place v, tps (toForms sg_valid_place (p, o, ())))) fun j => L (S_valid_place p o j).1 (S_valid_place p o j).2 := by kernel_rfl
theorem lp_valid_place (p : El T_api_Prog) (o : El T_api_Opd) : ∀ (L : Lt) (j : J_valid_place), procOf (procsF Go.Proofs.Tryd.prog (clOf t_valid_place) tb_valid_place Go.Proofs.Tryd.f78 c_valid_place (toForms sg_valid_place (p, o, ()))) (S_valid_place p o j).1 L (S_valid_place p o j).2 = (T_valid_place p o j).run (fun v => some (R_valid_place v, tps (toForms sg_valid_place (p, o, ())))) fun j => L (S_valid_place p o j).1 (S_valid_place p o j).2
  | L, .l5 h => by kernel_rfl
end Go.Ev
end

section
set_option linter.unusedSectionVars false
set_option linter.unusedVariables false
set_option linter.unusedSimpArgs false
set_option linter.unusedVariables false
set_option linter.unusedSimpArgs false
open Go
namespace Go.Ev
def v_valid_place (p : El T_api_Prog) (o : El T_api_Opd) : Int := placeC p o
theorem place_eq' (len : Nat) (size : Int → Int) (k s n : Int) :
  (bif (k != (3 : Int)) then
    bif (k != (4 : Int)) then
      (0 : Int)
    else bif (decide (s < (0 : Int))) then (7 : Int)
    else bif (decide (s ≥ (Int.ofNat len))) then
    (7 : Int)
  else bif (k == (3 : Int)) then
    bif ((decide ((0 : Int) ≤ s)) && (decide (s < (Int.ofNat len)))) then
      bif (decide (n ≥ size s)) then
        (8 : Int)
      else (0 : Int)
    else (0 : Int)
  else (0 : Int)
  else bif (decide (s < (0 : Int))) then (7 : Int)
    else bif (decide (s ≥ (Int.ofNat len))) then
    (7 : Int)
  else bif (k == (3 : Int)) then
    bif ((decide ((0 : Int) ≤ s)) && (decide (s < (Int.ofNat len)))) then
      bif (decide (n ≥ size s)) then
        (8 : Int)
      else (0 : Int)
    else (0 : Int)
  else (0 : Int)) = placeN len size k s n := by
  unfold placeN
  by_cases h3 : k = 3
  · subst h3
    by_cases hs : s < 0
    · simp [hs]
    by_cases hl : (len : Int) ≤ s
    · simp [hs, hl]
    have h1 : 0 ≤ s := by omega
    have h2 : s < (len : Int) := by omega
    by_cases hn : size s ≤ n
    · simp [hs, hl, hn, h1, h2]
    · simp [hs, hl, hn, h1, h2]
  by_cases h4 : k = 4
  · subst h4
    by_cases hs : s < 0
    · simp [hs]
    by_cases hl : (len : Int) ≤ s
    · simp [hs, hl]
    simp [hs, hl]
  have e3 : (k != (3 : Int)) = true := by simp [h3]
  have e4 : (k != (4 : Int)) = true := by simp [h4]
  rw [e3, e4]
  simp [h3, h4]
theorem place_k' (len : Nat) (size : Int → Int) (k s n : Int) :
  (bif (k != (3 : Int)) then
    bif (k != (4 : Int)) then
      true
    else bif (decide (s < (0 : Int))) then true
    else bif (decide (s ≥ (Int.ofNat len))) then
    true
  else bif (k == (3 : Int)) then
    bif ((decide ((0 : Int) ≤ s)) && (decide (s < (Int.ofNat len)))) then
      bif (decide (n ≥ size s)) then
        true
      else true
    else false
  else true
  else bif (decide (s < (0 : Int))) then true
    else bif (decide (s ≥ (Int.ofNat len))) then
    true
  else bif (k == (3 : Int)) then
    bif ((decide ((0 : Int) ≤ s)) && (decide (s < (Int.ofNat len)))) then
      bif (decide (n ≥ size s)) then
        true
      else true
    else false
  else true) = true := by
  by_cases h3 : k = 3
  · subst h3
    by_cases hs : s < 0
    · simp [hs]
    by_cases hl : (len : Int) ≤ s
    · simp [hs, hl]
    have h1 : 0 ≤ s := by omega
    have h2 : s < (len : Int) := by omega
    by_cases hn : size s ≤ n
    · simp [hs, hl, hn, h1, h2]
    · simp [hs, hl, hn, h1, h2]
  by_cases h4 : k = 4
  · subst h4
    by_cases hs : s < 0
    · simp [hs]
    by_cases hl : (len : Int) ≤ s
    · simp [hs, hl]
    simp [hs, hl]
  have e3 : (k != (3 : Int)) = true := by simp [h3]
  have e4 : (k != (4 : Int)) = true := by simp [h4]
  rw [e3, e4]
  simp [h3, h4]
theorem g_valid_place (p : El T_api_Prog) (o : El T_api_Opd) : Goes (T_valid_place p o) (T0_valid_place p o) (v_valid_place p o) := by
  have hk : ku_valid_place p o = true := place_k' p.1.length (fun s => (List.getD p.1 s.toNat (dflt T_api_Sym)).2.1) o.1 o.2.2.1 o.2.2.2
  have he : u_valid_place p o = v_valid_place p o := place_eq' p.1.length (fun s => (List.getD p.1 s.toNat (dflt T_api_Sym)).2.1) o.1 o.2.2.1 o.2.2.2
  rw [← he]
  exact gu_valid_place p o hk
end Go.Ev
end

section
set_option linter.unusedSectionVars false
set_option linter.unusedVariables false
set_option linter.unusedSimpArgs false
set_option maxRecDepth 100000
set_option linter.unusedVariables false
open Go Go.Ev
namespace Go.Ev
noncomputable def e_valid_place : Run := entT sg_valid_place R_valid_place (fun a => v_valid_place a.1 a.2.1)
theorem ok_valid_place : EntOK Go.Proofs.Tryd.prog 78 e_valid_place := entT_ok (tb := tb_valid_place) (c := c_valid_place) tk_valid_place (by kernel_rfl) (by kernel_rfl) (by kernel_rfl) (fun a => by kernel_rfl) fun ⟨p, o, _⟩ => evF_goes (c := c_valid_place) (K := fun v => (R_valid_place v, tps (toForms sg_valid_place (p, o, ())))) (S := S_valid_place p o) (by kernel_rfl) (en_valid_place p o) (lp_valid_place p o) (g_valid_place p o)
end Go.Ev
end

section
set_option linter.unusedSectionVars false
set_option linter.unusedVariables false
set_option linter.unusedSimpArgs false
set_option maxRecDepth 100000
set_option linter.unusedVariables false
open Go Go.Ev
namespace Go.Ev
/-! ### paling/valid.thread -/
def sg_valid_thread : Sig := [(true, T_api_Prog), (true, (.sl T_api_Ins))]
noncomputable def t_valid_thread : Tbl := [(37, e_valid_Count), (58, e_names_Right), (18, e_ins_Right), (78, e_valid_place), (22, e_ins_Leads)]
theorem tk_valid_thread : ∀ p ∈ t_valid_thread, EntOK Go.Proofs.Tryd.prog p.1 p.2 := tbl_cons ok_valid_Count (tbl_cons ok_names_Right (tbl_cons ok_ins_Right (tbl_cons ok_valid_place (tbl_cons ok_ins_Leads (tbl_nil)))))
noncomputable def c_valid_thread : Code := Go.Proofs.Tryd.f61.body.getD .skip
def tb_valid_thread : Tb := [(7, ⟨[2, 3, 5, 21, 22, 23, 67, 68, 69, 70, 71, 72, 73, 74, 75, 76, 77, 78, 79, 80, 81, 82, 83, 84, 100, 101, 102, 103, 104], []⟩), (14, ⟨[2, 3, 5, 7, 21, 22, 23, 28, 29, 30, 67, 68, 69, 70, 71, 72, 73, 74, 75, 76, 77, 78, 79, 80, 81, 82, 83, 84, 100, 101, 102, 103, 104], []⟩), (38, ⟨[5, 87, 88, 89], []⟩)]
inductive J_valid_thread where
  | l7 (h : Int) (seen : List (ByteArray × Bool))
  | l14 (h : List ByteArray) (h1 : Int) (i : Int) (i1 : Bool) (i2 : Int) (i3 : Int) (i4 : Int) (i5 : Int) (i6 : Int) (i7 : Int) (i8 : Int) (i9 : Int) (i10 : Int) (i11 : ByteArray) (i12 : List ByteArray) (h2 : Int) (seen : List (ByteArray × Bool)) (h3 : Int)
  | l38 (h : Int) (seen : List (ByteArray × Bool))
def T_valid_thread (p : El T_api_Prog) (t : List (El T_api_Ins)) : J_valid_thread → JT J_valid_thread (Int)
  | .l7 h seen =>
    .br (decide (h < (Int.ofNat (List.length t))))
      (.br ((decide ((0 : Int) ≤ h)) && (decide (h < (Int.ofNat (List.length t)))))
        (.jmp (.l14 (List.getD t (Int.toNat h) (dflt T_api_Ins)).2.2.2.2.2.2 (Int.ofNat (List.length (List.getD t (Int.toNat h) (dflt T_api_Ins)).2.2.2.2.2.2)) (List.getD t (Int.toNat h) (dflt T_api_Ins)).1 (List.getD t (Int.toNat h) (dflt T_api_Ins)).2.1 (List.getD t (Int.toNat h) (dflt T_api_Ins)).2.2.1 (List.getD t (Int.toNat h) (dflt T_api_Ins)).2.2.2.1.1 (List.getD t (Int.toNat h) (dflt T_api_Ins)).2.2.2.1.2.1 (List.getD t (Int.toNat h) (dflt T_api_Ins)).2.2.2.1.2.2.1 (List.getD t (Int.toNat h) (dflt T_api_Ins)).2.2.2.1.2.2.2 (List.getD t (Int.toNat h) (dflt T_api_Ins)).2.2.2.2.1.1 (List.getD t (Int.toNat h) (dflt T_api_Ins)).2.2.2.2.1.2.1 (List.getD t (Int.toNat h) (dflt T_api_Ins)).2.2.2.2.1.2.2.1 (List.getD t (Int.toNat h) (dflt T_api_Ins)).2.2.2.2.1.2.2.2 (List.getD t (Int.toNat h) (dflt T_api_Ins)).2.2.2.2.2.1 (List.getD t (Int.toNat h) (dflt T_api_Ins)).2.2.2.2.2.2 (0 : Int) seen h))
      (.no))
    (.br ((Int.ofNat (List.length t)) == (0 : Int))
      (.leaf (9 : Int))
    (.br ((decide ((0 : Int) ≤ (IntKind.i64.wrap ((Int.ofNat (List.length t)) - (1 : Int))))) && (decide ((IntKind.i64.wrap ((Int.ofNat (List.length t)) - (1 : Int))) < (Int.ofNat (List.length t)))))
      (.br ((List.getD t (Int.toNat (IntKind.i64.wrap ((Int.ofNat (List.length t)) - (1 : Int)))) (dflt T_api_Ins)).1 != (10 : Int))
        (.br ((decide ((0 : Int) ≤ (IntKind.i64.wrap ((Int.ofNat (List.length t)) - (1 : Int))))) && (decide ((IntKind.i64.wrap ((Int.ofNat (List.length t)) - (1 : Int))) < (Int.ofNat (List.length t)))))
          (.br ((List.getD t (Int.toNat (IntKind.i64.wrap ((Int.ofNat (List.length t)) - (1 : Int)))) (dflt T_api_Ins)).1 != (14 : Int))
            (.leaf (9 : Int))
          (.jmp (.l38 (0 : Int) seen)))
        (.no))
      (.jmp (.l38 (0 : Int) seen)))
    (.no)))
  | .l14 h h1 i i1 i2 i3 i4 i5 i6 i7 i8 i9 i10 i11 i12 h2 seen h3 =>
    .br (decide (h2 < h1))
      (.br ((decide ((0 : Int) ≤ h2)) && (decide (h2 < (Int.ofNat (List.length h)))))
        (.br (k_names_Right (List.getD h (Int.toNat h2) (dflt .str)))
          (.br (! (v_names_Right (List.getD h (Int.toNat h2) (dflt .str))))
            (.leaf (3 : Int))
          (.br (Option.getD (mget (kt := .str) (List.getD h (Int.toNat h2) (dflt .str)) seen) false)
            (.leaf (6 : Int))
          (.jmp (.l14 h h1 i i1 i2 i3 i4 i5 i6 i7 i8 i9 i10 i11 i12 (IntKind.i64.wrap (h2 + (1 : Int))) (mput (kt := .str) (List.getD h (Int.toNat h2) (dflt .str)) true seen) h3))))
        (.no))
      (.no))
    (.br (k_ins_Right (i, (i1, (i2, ((i3, (i4, (i5, i6))), ((i7, (i8, (i9, i10))), (i11, i12)))))))
      (.br ((v_ins_Right (i, (i1, (i2, ((i3, (i4, (i5, i6))), ((i7, (i8, (i9, i10))), (i11, i12))))))) == (0 : Int))
        (.br ((v_valid_place p (i3, (i4, (i5, i6)))) == (0 : Int))
          (.br ((v_valid_place p (i7, (i8, (i9, i10)))) != (0 : Int))
            (.leaf (v_valid_place p (i7, (i8, (i9, i10)))))
          (.jmp (.l7 (IntKind.i64.wrap (h3 + (1 : Int))) seen)))
        (.br ((v_valid_place p (i3, (i4, (i5, i6)))) != (0 : Int))
          (.leaf (v_valid_place p (i3, (i4, (i5, i6)))))
        (.jmp (.l7 (IntKind.i64.wrap (h3 + (1 : Int))) seen))))
      (.br ((v_ins_Right (i, (i1, (i2, ((i3, (i4, (i5, i6))), ((i7, (i8, (i9, i10))), (i11, i12))))))) == (0 : Int))
        (.br ((v_valid_place p (i7, (i8, (i9, i10)))) != (0 : Int))
          (.leaf (v_valid_place p (i7, (i8, (i9, i10)))))
        (.jmp (.l7 (IntKind.i64.wrap (h3 + (1 : Int))) seen)))
      (.br ((v_ins_Right (i, (i1, (i2, ((i3, (i4, (i5, i6))), ((i7, (i8, (i9, i10))), (i11, i12))))))) != (0 : Int))
        (.leaf (v_ins_Right (i, (i1, (i2, ((i3, (i4, (i5, i6))), ((i7, (i8, (i9, i10))), (i11, i12))))))))
      (.jmp (.l7 (IntKind.i64.wrap (h3 + (1 : Int))) seen)))))
    (.no))
  | .l38 h seen =>
    .br (decide (h < (Int.ofNat (List.length t))))
      (.br ((decide ((0 : Int) ≤ h)) && (decide (h < (Int.ofNat (List.length t)))))
        (.br (k_ins_Leads (List.getD t (Int.toNat h) (dflt T_api_Ins)))
          (.br (v_ins_Leads (List.getD t (Int.toNat h) (dflt T_api_Ins))).2
            (.br (! (Option.getD (mget (kt := .str) (List.getD t (Int.toNat h) (dflt T_api_Ins)).2.2.2.2.2.1 seen) false))
              (.leaf (7 : Int))
            (.jmp (.l38 (IntKind.i64.wrap (h + (1 : Int))) seen)))
          (.jmp (.l38 (IntKind.i64.wrap (h + (1 : Int))) seen)))
        (.no))
      (.no))
    (.leaf (0 : Int))
def T0_valid_thread (p : El T_api_Prog) (t : List (El T_api_Ins)) : JT J_valid_thread (Int) :=
  .br (k_valid_Count t)
    (.br (decide ((v_valid_Count t) > (4096 : Int)))
      (.leaf (10 : Int))
    (.jmp (.l7 (0 : Int) [])))
  (.no)
def R_valid_thread : Int → AV := fun (r : Int) => .d (.int .i64) r
def S_valid_thread (p : El T_api_Prog) (t : List (El T_api_Ins)) : J_valid_thread → Nat × St
  | .l7 h seen => (7, ⟨mkTm 107 [(2, .pt 3 0 0), (3, .pt 4 0 0), (5, .mp 6 0), (21, .d (.sl T_api_Ins) t), (22, .d (.int .i64) (Int.ofNat (List.length t))), (23, .d (.int .i64) h)], [(3, 0, .box 49 [.d (.sl T_api_Sym) p.1, .d (.sl (.sl T_api_Ins)) p.2]), (4, 0, .box 63 [.d (.sl T_api_Ins) t]), (6, 0, .map .str .bool seen)]⟩)
  | .l14 h h1 i i1 i2 i3 i4 i5 i6 i7 i8 i9 i10 i11 i12 h2 seen h3 => (14, ⟨mkTm 107 [(2, .pt 3 0 0), (3, .pt 4 0 0), (5, .mp 6 0), (7, .pt 8 0 0), (21, .d (.sl T_api_Ins) t), (22, .d (.int .i64) (Int.ofNat (List.length t))), (23, .d (.int .i64) h3), (28, .d (.sl .str) h), (29, .d (.int .i64) h1), (30, .d (.int .i64) h2)], [(3, 0, .box 49 [.d (.sl T_api_Sym) p.1, .d (.sl (.sl T_api_Ins)) p.2]), (4, 0, .box 63 [.d (.sl T_api_Ins) t]), (6, 0, .map .str .bool seen), (8, 0, .box 26 [.d (.int .i64) i, .d .bool i1, .d (.int .i64) i2, .d (.int .i64) i3, .d (.int .i64) i4, .d (.int .i64) i5, .d (.int .i64) i6, .d (.int .i64) i7, .d (.int .i64) i8, .d (.int .i64) i9, .d (.int .i64) i10, .d .str i11, .d (.sl .str) i12])]⟩)
  | .l38 h seen => (38, ⟨mkTm 107 [(5, .mp 6 0), (87, .d (.sl T_api_Ins) t), (88, .d (.int .i64) (Int.ofNat (List.length t))), (89, .d (.int .i64) h)], [(6, 0, .map .str .bool seen)]⟩)
theorem en_valid_thread (p : El T_api_Prog) (t : List (El T_api_Ins)) (L : Lt) : entryA Go.Proofs.Tryd.prog (clOf t_valid_thread) tb_valid_thread Go.Proofs.Tryd.f61 c_valid_thread L (toForms sg_valid_thread (p, t, ())) = (T0_valid_thread p t).run (fun v => some (R_valid_thread v, tps (toForms sg_valid_thread (p, t, ())))) fun j => L (S_valid_thread p t j).1 (S_valid_thread p t j).2 := by kernel_rfl
theorem lp_valid_thread (p : El T_api_Prog) (t : List (El T_api_Ins)) : ∀ (L : Lt) (j : J_valid_thread), procOf (procsF Go.Proofs.Tryd.prog (clOf t_valid_thread) tb_valid_thread Go.Proofs.Tryd.f61 c_valid_thread (toForms sg_valid_thread (p, t, ()))) (S_valid_thread p t j).1 L (S_valid_thread p t j).2 = (T_valid_thread p t j).run (fun v => some (R_valid_thread v, tps (toForms sg_valid_thread (p, t, ())))) fun j => L (S_valid_thread p t j).1 (S_valid_thread p t j).2
  | L, .l7 h seen => by kernel_rfl
  | L, .l14 h h1 i i1 i2 i3 i4 i5 i6 i7 i8 i9 i10 i11 i12 h2 seen h3 => by kernel_rfl
  | L, .l38 h seen => by kernel_rfl
end Go.Ev
end

section
set_option linter.unusedSectionVars false
set_option linter.unusedVariables false
set_option linter.unusedSimpArgs false
set_option linter.unusedVariables false
set_option linter.unusedSimpArgs false
open Go
namespace Go.Ev
def v_valid_thread (p : El T_api_Prog) (t : List (El T_api_Ins)) : Int := threadC p t
def k_valid_thread (p : El T_api_Prog) (t : List (El T_api_Ins)) : Bool := smallThread t
theorem g_valid_thread (p : El T_api_Prog) (t : List (El T_api_Ins)) (hk : k_valid_thread p t = true) : Goes (T_valid_thread p t) (T0_valid_thread p t) (v_valid_thread p t) := by
  have hS := smallT hk
  have hn := hS.len
  have jmps : ∀ m seen, Seen m seen → (∀ i ∈ t, v_ins_Right i = 0) → ∀ k, k ≤ t.length → Goes (T_valid_thread p t) (.jmp (.l38 (k : Int) m)) (jumpC seen (t.drop k)) := by
    intro m seen hm hr
    refine down ?_ fun k hk ih => ?_
    · rw [goes_jmp]
      simp only [T_valid_thread, goes_br, lt_len_not (Nat.lt_irrefl _), goes_leaf, List.drop_length]
      simp [jumpC]
    · have hmem : t[k] ∈ t := List.getElem_mem hk
      have hto := hS.to _ hmem
      rw [goes_jmp]
      simp only [T_valid_thread, goes_br, lt_len hk, nng, Bool.and_self, if_true, Int.toNat_natCast, getD_lt hk, wrap_succ (k := k) (by omega), (k_reads hto).2.2.1, jumps_is hto (hr _ hmem), hm t[k].2.2.2.2.2.1]
      rw [drop_cons hk]
      unfold jumpC
      by_cases h1 : ((t[k].1 == (10 : Int)) || (t[k].1 == (11 : Int))) = true
      · rw [if_pos h1, if_pos h1]
        by_cases h2 : seen.contains t[k].2.2.2.2.2.1 = true
        · rw [if_pos h2, if_neg (by rw [h2]; decide)]; exact ih
        · rw [if_neg h2, if_pos (by rw [Bool.eq_false_iff.2 h2]; rfl)]; exact .leaf
      · rw [if_neg h1, if_neg h1]; exact ih
  have main : ∀ k, k ≤ t.length → ∀ m seen, Seen m seen → (∀ i ∈ t.take k, v_ins_Right i = 0) → Goes (T_valid_thread p t) (.jmp (.l7 (k : Int) m)) (scanI p (fun seen => endC t (jumpC seen t)) seen (t.drop k)) := by
    refine down ?_ fun k hk ih => ?_
    · intro m seen hm hr
      rw [List.take_length] at hr
      have hj := jmps m seen hm hr 0 (Nat.zero_le _)
      rw [List.drop_zero] at hj
      rw [goes_jmp, List.drop_length]
      unfold scanI
      simp only [T_valid_thread, goes_br, lt_len_not (Nat.lt_irrefl _)]
      rw [if_neg (by decide)]
      by_cases h0 : t.length = 0
      · have : t = [] := List.eq_nil_of_length_eq_zero h0
        rw [this]; simp [goes_leaf, endC]
      · have hp : 0 < t.length := by omega
        rw [if_neg (by simp; exact fun e => h0 (by rw [e]; rfl)), endC_eq hp]
        rw [show Int.ofNat t.length = (t.length : Int) from rfl, wrap_pred (k := t.length) (by omega) hp]
        have hb : (decide (0 ≤ ((t.length - 1 : Nat) : Int)) && decide (((t.length - 1 : Nat) : Int) < (t.length : Int))) = true := by simp; omega
        simp only [hb, if_true, Int.toNat_natCast, getD_lt (show t.length - 1 < t.length by omega)]
        unfold bne
        cases h10 : (t[t.length - 1].1 == (10 : Int)) with
        | true => simpa using hj
        | false =>
          cases h14 : (t[t.length - 1].1 == (14 : Int)) with
          | true => simpa using hj
          | false => simp [goes_leaf]
    · intro m seen hm hr
      have hmem : t[k] ∈ t := List.getElem_mem hk
      have hto := hS.to _ hmem
      have hlab := hS.lab _ hmem
      have hlen := Nat.lt_of_le_of_lt (labels_mem hmem) hS.labs
      have hr' : v_ins_Right t[k] = 0 → ∀ i ∈ t.take (k + 1), v_ins_Right i = 0 := fun h i hi => by
        rw [List.take_add_one, List.getElem?_eq_getElem hk] at hi
        rcases List.mem_append.1 hi with hi | hi
        · exact hr i hi
        · rw [Option.toList_some, List.mem_singleton] at hi; rw [hi]; exact h
      rw [goes_jmp]
      simp only [T_valid_thread, goes_br, lt_len hk, nng, Bool.and_self, if_true, Int.toNat_natCast, getD_lt hk]
      rw [drop_cons hk]
      unfold scanI
      generalize t[k] = i at hto hlab hlen hr'
      obtain ⟨op, lock, cond, ⟨ak, ar, ay, an⟩, ⟨bk, br, bz, bn⟩, to, ls⟩ := i
      dsimp only at hto hlab hlen hr' ⊢
      have inner : ∀ j, j ≤ ls.length → ∀ m seen, Seen m seen → Goes (T_valid_thread p t) (.jmp (.l14 ls (Int.ofNat ls.length) op lock cond ak ar ay an bk br bz bn to ls (j : Int) m (k : Int))) (scanL seen (fun seen => if insC p (op, (lock, (cond, ((ak, (ar, (ay, an))), ((bk, (br, (bz, bn))), (to, ls)))))) ≠ 0 then insC p (op, (lock, (cond, ((ak, (ar, (ay, an))), ((bk, (br, (bz, bn))), (to, ls)))))) else scanI p (fun seen => endC t (jumpC seen t)) seen (t.drop (k + 1))) (ls.drop j)) := by
        refine down ?_ fun j hj ihj => ?_
        · intro m seen hm
          rw [goes_jmp, List.drop_length]
          unfold scanL
          have hkr : k_ins_Right (op, (lock, (cond, ((ak, (ar, (ay, an))), ((bk, (br, (bz, bn))), (to, ls)))))) = true := hto
          simp only [T_valid_thread, goes_br, lt_len_not (Nat.lt_irrefl _), hkr, if_true, v_valid_place, wrap_succ (k := k) (by omega)]
          rw [if_neg (by decide)]
          unfold insC
          dsimp only
          by_cases hr : v_ins_Right (op, (lock, (cond, ((ak, (ar, (ay, an))), ((bk, (br, (bz, bn))), (to, ls)))))) = 0
          · have ih' := ih m seen hm (hr' hr)
            by_cases ha : placeC p (ak, (ar, (ay, an))) = 0
            · by_cases hb : placeC p (bk, (br, (bz, bn))) = 0
              · simp [hr, ha, hb]; exact ih'
              · simp [hr, ha, hb, goes_leaf]
            · simp [hr, ha, goes_leaf]
          · simp [hr, goes_leaf]
        · intro m seen hm
          have hl := hlab ls[j] (List.getElem_mem hj)
          have hkn : k_names_Right ls[j] = true := hl
          rw [goes_jmp]
          simp only [T_valid_thread, goes_br, lt_len hj, nng, Bool.and_self, if_true, Int.toNat_natCast, getD_lt hj, wrap_succ (k := j) (by omega), hkn, hm ls[j]]
          rw [drop_cons hj]
          unfold scanL
          by_cases h1 : nameRight ls[j] = false
          · rw [if_pos h1, if_pos (by show (! nameRight ls[j]) = true; rw [h1]; rfl)]; exact .leaf
          · rw [if_neg h1, if_neg (by show ¬ (! nameRight ls[j]) = true; simpa using h1)]
            by_cases h2 : seen.contains ls[j] = true
            · rw [if_pos h2, if_pos h2]; exact .leaf
            · rw [if_neg h2, if_neg h2]; exact ihj _ _ (hm.put _)
      have := inner 0 (Nat.zero_le _) m seen hm
      rw [List.drop_zero] at this
      exact this
  unfold T0_valid_thread v_valid_thread
  have hkc : k_valid_Count t = true := decide_eq_true hn
  simp only [goes_br, hkc, if_true]
  unfold threadC v_valid_Count
  by_cases h : 4096 < countM t
  · rw [if_pos (by simp; omega), if_pos h]; exact .leaf
  · rw [if_neg (by simp; omega), if_neg h]
    exact main 0 (Nat.zero_le _) [] [] Seen.nil (fun i hi => by simp at hi)
end Go.Ev
end

section
set_option linter.unusedSectionVars false
set_option linter.unusedVariables false
set_option linter.unusedSimpArgs false
set_option maxRecDepth 100000
set_option linter.unusedVariables false
open Go Go.Ev
namespace Go.Ev
noncomputable def e_valid_thread : Run := entG sg_valid_thread R_valid_thread (fun a => k_valid_thread a.1 a.2.1) (fun a => v_valid_thread a.1 a.2.1)
theorem ok_valid_thread : EntOK Go.Proofs.Tryd.prog 61 e_valid_thread := entG_ok (tb := tb_valid_thread) (c := c_valid_thread) tk_valid_thread (by kernel_rfl) (by kernel_rfl) (by kernel_rfl) (fun a => by kernel_rfl) fun ⟨p, t, _⟩ hk => evF_goes (c := c_valid_thread) (K := fun v => (R_valid_thread v, tps (toForms sg_valid_thread (p, t, ())))) (S := S_valid_thread p t) (by kernel_rfl) (en_valid_thread p t) (lp_valid_thread p t) (g_valid_thread p t hk)
end Go.Ev
end

section
set_option linter.unusedSectionVars false
set_option linter.unusedVariables false
set_option linter.unusedSimpArgs false
set_option maxRecDepth 100000
set_option linter.unusedVariables false
open Go Go.Ev
namespace Go.Ev
/-! ### paling/valid.Check -/
def sg_valid_Check : Sig := [(true, T_api_Prog)]
noncomputable def t_valid_Check : Tbl := [(58, e_names_Right), (61, e_valid_thread)]
theorem tk_valid_Check : ∀ p ∈ t_valid_Check, EntOK Go.Proofs.Tryd.prog p.1 p.2 := tbl_cons ok_names_Right (tbl_cons ok_valid_thread (tbl_nil))
noncomputable def c_valid_Check : Code := Go.Proofs.Tryd.f31.body.getD .skip
def tb_valid_Check : Tb := [(7, ⟨[1, 3, 21, 22, 23], []⟩), (21, ⟨[1, 59, 60, 61], []⟩)]
inductive J_valid_Check where
  | l7 (h : Int) (seen : List (ByteArray × Bool))
  | l21 (h : Int)
def T_valid_Check (p : El T_api_Prog) : J_valid_Check → JT J_valid_Check (Int)
  | .l7 h seen =>
    .br (decide (h < (Int.ofNat (List.length p.1))))
      (.br ((decide ((0 : Int) ≤ h)) && (decide (h < (Int.ofNat (List.length p.1)))))
        (.br (k_names_Right (List.getD p.1 (Int.toNat h) (dflt T_api_Sym)).1)
          (.br (! (v_names_Right (List.getD p.1 (Int.toNat h) (dflt T_api_Sym)).1))
            (.leaf (3 : Int))
          (.br (Option.getD (mget (kt := .str) (List.getD p.1 (Int.toNat h) (dflt T_api_Sym)).1 seen) false)
            (.leaf (6 : Int))
          (.br (decide ((List.getD p.1 (Int.toNat h) (dflt T_api_Sym)).2.1 < (1 : Int)))
            (.leaf (5 : Int))
          (.br (decide ((List.getD p.1 (Int.toNat h) (dflt T_api_Sym)).2.1 > (64 : Int)))
            (.leaf (5 : Int))
          (.br (decide ((Int.ofNat (List.length (List.getD p.1 (Int.toNat h) (dflt T_api_Sym)).2.2)) > (List.getD p.1 (Int.toNat h) (dflt T_api_Sym)).2.1))
            (.leaf (5 : Int))
          (.jmp (.l7 (IntKind.i64.wrap (h + (1 : Int))) (mput (kt := .str) (List.getD p.1 (Int.toNat h) (dflt T_api_Sym)).1 true seen))))))))
        (.no))
      (.no))
    (.jmp (.l21 (0 : Int)))
  | .l21 h =>
    .br (decide (h < (Int.ofNat (List.length p.2))))
      (.br ((decide ((0 : Int) ≤ h)) && (decide (h < (Int.ofNat (List.length p.2)))))
        (.br (k_valid_thread p (List.getD p.2 (Int.toNat h) (dflt (.sl (.pr (.int .i64) (.pr .bool (.pr (.int .i64) (.pr (.pr (.int .i64) (.pr (.int .i64) (.pr (.int .i64) (.int .i64)))) (.pr (.pr (.int .i64) (.pr (.int .i64) (.pr (.int .i64) (.int .i64)))) (.pr .str (.sl .str)))))))))))
          (.br ((v_valid_thread p (List.getD p.2 (Int.toNat h) (dflt (.sl (.pr (.int .i64) (.pr .bool (.pr (.int .i64) (.pr (.pr (.int .i64) (.pr (.int .i64) (.pr (.int .i64) (.int .i64)))) (.pr (.pr (.int .i64) (.pr (.int .i64) (.pr (.int .i64) (.int .i64)))) (.pr .str (.sl .str))))))))))) != (0 : Int))
            (.leaf (v_valid_thread p (List.getD p.2 (Int.toNat h) (dflt (.sl (.pr (.int .i64) (.pr .bool (.pr (.int .i64) (.pr (.pr (.int .i64) (.pr (.int .i64) (.pr (.int .i64) (.int .i64)))) (.pr (.pr (.int .i64) (.pr (.int .i64) (.pr (.int .i64) (.int .i64)))) (.pr .str (.sl .str))))))))))))
          (.jmp (.l21 (IntKind.i64.wrap (h + (1 : Int))))))
        (.no))
      (.no))
    (.leaf (0 : Int))
def T0_valid_Check (p : El T_api_Prog) : JT J_valid_Check (Int) :=
  .br (decide ((Int.ofNat (List.length p.1)) > (64 : Int)))
    (.leaf (10 : Int))
  (.br (decide ((Int.ofNat (List.length p.2)) > (64 : Int)))
    (.leaf (10 : Int))
  (.jmp (.l7 (0 : Int) [])))
def R_valid_Check : Int → AV := fun (r : Int) => .d (.int .i64) r
def S_valid_Check (p : El T_api_Prog) : J_valid_Check → Nat × St
  | .l7 h seen => (7, ⟨mkTm 72 [(1, .pt 2 0 0), (3, .mp 4 0), (21, .d (.sl T_api_Sym) p.1), (22, .d (.int .i64) (Int.ofNat (List.length p.1))), (23, .d (.int .i64) h)], [(2, 0, .box 49 [.d (.sl T_api_Sym) p.1, .d (.sl (.sl T_api_Ins)) p.2]), (4, 0, .map .str .bool seen)]⟩)
  | .l21 h => (21, ⟨mkTm 72 [(1, .pt 2 0 0), (59, .d (.sl (.sl T_api_Ins)) p.2), (60, .d (.int .i64) (Int.ofNat (List.length p.2))), (61, .d (.int .i64) h)], [(2, 0, .box 49 [.d (.sl T_api_Sym) p.1, .d (.sl (.sl T_api_Ins)) p.2])]⟩)
theorem en_valid_Check (p : El T_api_Prog) (L : Lt) : entryA Go.Proofs.Tryd.prog (clOf t_valid_Check) tb_valid_Check Go.Proofs.Tryd.f31 c_valid_Check L (toForms sg_valid_Check (p, ())) = (T0_valid_Check p).run (fun v => some (R_valid_Check v, tps (toForms sg_valid_Check (p, ())))) fun j => L (S_valid_Check p j).1 (S_valid_Check p j).2 := by kernel_rfl
theorem lp_valid_Check (p : El T_api_Prog) : ∀ (L : Lt) (j : J_valid_Check), procOf (procsF Go.Proofs.Tryd.prog (clOf t_valid_Check) tb_valid_Check Go.Proofs.Tryd.f31 c_valid_Check (toForms sg_valid_Check (p, ()))) (S_valid_Check p j).1 L (S_valid_Check p j).2 = (T_valid_Check p j).run (fun v => some (R_valid_Check v, tps (toForms sg_valid_Check (p, ())))) fun j => L (S_valid_Check p j).1 (S_valid_Check p j).2
  | L, .l7 h seen => by kernel_rfl
  | L, .l21 h => by kernel_rfl
end Go.Ev
end

section
set_option linter.unusedSectionVars false
set_option linter.unusedVariables false
set_option linter.unusedSimpArgs false
set_option linter.unusedVariables false
set_option linter.unusedSimpArgs false
open Go
namespace Go.Ev
def v_valid_Check (p : El T_api_Prog) : Int := checkC p
def k_valid_Check (p : El T_api_Prog) : Bool := smallProg p
theorem g_valid_Check (p : El T_api_Prog) (hk : k_valid_Check p = true) : Goes (T_valid_Check p) (T0_valid_Check p) (v_valid_Check p) := by
  have hth : ∀ t ∈ p.2, smallThread t = true := by
    unfold k_valid_Check smallProg at hk
    simp only [Bool.and_eq_true, List.all_eq_true] at hk
    exact hk.2
  have hsy : ∀ s ∈ p.1, smallText s.1 = true := by
    unfold k_valid_Check smallProg at hk
    simp only [Bool.and_eq_true, List.all_eq_true] at hk
    exact hk.1
  obtain ⟨sy, th⟩ := p
  dsimp only at hth hsy
  have ths : th.length ≤ 64 → ∀ k, k ≤ th.length → Goes (T_valid_Check (sy, th)) (.jmp (.l21 (k : Int))) (thsC (sy, th) (th.drop k)) := by
    intro hn
    refine down ?_ fun k hk ih => ?_
    · rw [goes_jmp]
      simp only [T_valid_Check, goes_br, lt_len_not (Nat.lt_irrefl _), goes_leaf, List.drop_length]
      simp [thsC]
    · have hkt : k_valid_thread (sy, th) th[k] = true := hth _ (List.getElem_mem hk)
      rw [goes_jmp]
      simp only [T_valid_Check, goes_br, lt_len hk, nng, Bool.and_self, if_true, Int.toNat_natCast, getD_lt hk, wrap_succ (k := k) (by omega), hkt]
      rw [drop_cons hk]
      unfold thsC
      show (if (threadC (sy, th) th[k] != 0) = true then _ else _)
      by_cases h : threadC (sy, th) th[k] = 0
      · rw [if_neg (by simp [h]), if_neg (by simp [h])]; exact ih
      · rw [if_pos (by simp [h]), if_pos h]; exact .leaf

  have main : sy.length ≤ 64 → th.length ≤ 64 → ∀ k, k ≤ sy.length → ∀ m seen, Seen m seen → Goes (T_valid_Check (sy, th)) (.jmp (.l7 (k : Int) m)) (symsC (thsC (sy, th) th) seen (sy.drop k)) := by
    intro hn hm
    refine down ?_ fun k hk ih => ?_
    · intro m seen hs
      rw [goes_jmp, List.drop_length]
      unfold symsC
      simp only [T_valid_Check, goes_br, lt_len_not (Nat.lt_irrefl _)]
      rw [if_neg (by decide)]
      simpa using ths hm 0 (Nat.zero_le _)
    · intro m seen hs
      have hkn : k_names_Right sy[k].1 = true := hsy _ (List.getElem_mem hk)
      rw [goes_jmp]
      simp only [T_valid_Check, goes_br, lt_len hk, nng, Bool.and_self, if_true, Int.toNat_natCast, getD_lt hk, wrap_succ (k := k) (by omega), hkn, hs sy[k].1]
      rw [drop_cons hk]
      unfold symsC
      generalize sy[k] = s at *
      obtain ⟨nm, size, init⟩ := s
      dsimp only
      change Int at size
      by_cases h1 : nameRight nm = false
      · rw [if_pos h1, if_pos (by show (! nameRight nm) = true; rw [h1]; rfl)]; exact .leaf
      rw [if_neg h1, if_neg (by show ¬ (! nameRight nm) = true; simpa using h1)]
      by_cases h2 : seen.contains nm = true
      · rw [if_pos h2, if_pos h2]; exact .leaf
      rw [if_neg h2, if_neg h2]
      by_cases h3 : size < 1
      · rw [if_pos (decide_eq_true h3), if_pos (.inl h3)]; exact .leaf
      rw [if_neg (by simpa using h3)]
      by_cases h4 : 64 < size
      · rw [if_pos (decide_eq_true h4), if_pos (.inr (.inl h4))]; exact .leaf
      rw [if_neg (by simpa using h4)]
      by_cases h5 : size < (List.length init : Int)
      · rw [if_pos (show decide (Int.ofNat (List.length init) > size) = true from decide_eq_true h5), if_pos (.inr (.inr h5))]; exact .leaf
      rw [if_neg (show ¬ decide (Int.ofNat (List.length init) > size) = true by simpa using h5), if_neg (by rintro (h | h | h) <;> contradiction)]
      exact ih _ _ (hs.put nm)
  unfold T0_valid_Check v_valid_Check checkC
  simp only [goes_br]
  by_cases h : 64 < sy.length
  · rw [if_pos (by simp; omega), if_pos (.inl h)]; exact .leaf
  rw [if_neg (by simp; omega)]
  by_cases h2 : 64 < th.length
  · rw [if_pos (by simp; omega), if_pos (.inr h2)]; exact .leaf
  rw [if_neg (by simp; omega), if_neg (by rintro (h | h) <;> contradiction)]
  exact main (by omega) (by omega) 0 (Nat.zero_le _) [] [] Seen.nil
end Go.Ev
end

section
set_option linter.unusedSectionVars false
set_option linter.unusedVariables false
set_option linter.unusedSimpArgs false
set_option maxRecDepth 100000
set_option linter.unusedVariables false
open Go Go.Ev
namespace Go.Ev
noncomputable def e_valid_Check : Run := entG sg_valid_Check R_valid_Check (fun a => k_valid_Check a.1) (fun a => v_valid_Check a.1)
theorem ok_valid_Check : EntOK Go.Proofs.Tryd.prog 31 e_valid_Check := entG_ok (tb := tb_valid_Check) (c := c_valid_Check) tk_valid_Check (by kernel_rfl) (by kernel_rfl) (by kernel_rfl) (fun a => by kernel_rfl) fun ⟨p, _⟩ hk => evF_goes (c := c_valid_Check) (K := fun v => (R_valid_Check v, tps (toForms sg_valid_Check (p, ())))) (S := S_valid_Check p) (by kernel_rfl) (en_valid_Check p) (lp_valid_Check p) (g_valid_Check p hk)
end Go.Ev
end

section
set_option linter.unusedSectionVars false
set_option linter.unusedVariables false
set_option linter.unusedSimpArgs false
set_option maxRecDepth 100000
set_option linter.unusedVariables false
open Go Go.Ev
namespace Go.Ev
/-! ### paling/valid.Find -/
def sg_valid_Find : Sig := [(true, (.sl T_api_Ins)), (false, .str)]
noncomputable def t_valid_Find : Tbl := []
theorem tk_valid_Find : ∀ p ∈ t_valid_Find, EntOK Go.Proofs.Tryd.prog p.1 p.2 := tbl_nil
noncomputable def c_valid_Find : Code := Go.Proofs.Tryd.f39.body.getD .skip
def tb_valid_Find : Tb := [(3, ⟨[1, 10, 11, 12], []⟩), (9, ⟨[1, 5, 10, 11, 12, 18, 19, 20], []⟩)]
inductive J_valid_Find where
  | l3 (h : Int)
  | l9 (h : List ByteArray) (h1 : Int) (h2 : Int) (k : Int) (h3 : Int)
def T_valid_Find (t : List (El T_api_Ins)) (label : ByteArray) : J_valid_Find → JT J_valid_Find (Int)
  | .l3 h =>
    .br (decide (h < (Int.ofNat (List.length t))))
      (.br ((decide ((0 : Int) ≤ h)) && (decide (h < (Int.ofNat (List.length t)))))
        (.jmp (.l9 (List.getD t (Int.toNat h) (dflt T_api_Ins)).2.2.2.2.2.2 (Int.ofNat (List.length (List.getD t (Int.toNat h) (dflt T_api_Ins)).2.2.2.2.2.2)) (0 : Int) h h))
      (.no))
    (.leaf (-1 : Int))
  | .l9 h h1 h2 k h3 =>
    .br (decide (h2 < h1))
      (.br ((decide ((0 : Int) ≤ h2)) && (decide (h2 < (Int.ofNat (List.length h)))))
        (.br (eqB (List.getD h (Int.toNat h2) (dflt .str)) label)
          (.leaf k)
        (.jmp (.l9 h h1 (IntKind.i64.wrap (h2 + (1 : Int))) k h3)))
      (.no))
    (.jmp (.l3 (IntKind.i64.wrap (h3 + (1 : Int)))))
def T0_valid_Find (t : List (El T_api_Ins)) (label : ByteArray) : JT J_valid_Find (Int) :=
  .jmp (.l3 (0 : Int))
def R_valid_Find : Int → AV := fun (r : Int) => .d (.int .i64) r
def S_valid_Find (t : List (El T_api_Ins)) (label : ByteArray) : J_valid_Find → Nat × St
  | .l3 h => (3, ⟨mkTm 30 [(1, .d .str label), (10, .d (.sl T_api_Ins) t), (11, .d (.int .i64) (Int.ofNat (List.length t))), (12, .d (.int .i64) h)], []⟩)
  | .l9 h h1 h2 k h3 => (9, ⟨mkTm 30 [(1, .d .str label), (5, .d (.int .i64) k), (10, .d (.sl T_api_Ins) t), (11, .d (.int .i64) (Int.ofNat (List.length t))), (12, .d (.int .i64) h3), (18, .d (.sl .str) h), (19, .d (.int .i64) h1), (20, .d (.int .i64) h2)], []⟩)
theorem en_valid_Find (t : List (El T_api_Ins)) (label : ByteArray) (L : Lt) : entryA Go.Proofs.Tryd.prog (clOf t_valid_Find) tb_valid_Find Go.Proofs.Tryd.f39 c_valid_Find L (toForms sg_valid_Find (t, label, ())) = (T0_valid_Find t label).run (fun v => some (R_valid_Find v, tps (toForms sg_valid_Find (t, label, ())))) fun j => L (S_valid_Find t label j).1 (S_valid_Find t label j).2 := by kernel_rfl
theorem lp_valid_Find (t : List (El T_api_Ins)) (label : ByteArray) : ∀ (L : Lt) (j : J_valid_Find), procOf (procsF Go.Proofs.Tryd.prog (clOf t_valid_Find) tb_valid_Find Go.Proofs.Tryd.f39 c_valid_Find (toForms sg_valid_Find (t, label, ()))) (S_valid_Find t label j).1 L (S_valid_Find t label j).2 = (T_valid_Find t label j).run (fun v => some (R_valid_Find v, tps (toForms sg_valid_Find (t, label, ())))) fun j => L (S_valid_Find t label j).1 (S_valid_Find t label j).2
  | L, .l3 h => by kernel_rfl
  | L, .l9 h h1 h2 k h3 => by kernel_rfl
end Go.Ev
end

section
set_option linter.unusedSectionVars false
set_option linter.unusedVariables false
set_option linter.unusedSimpArgs false
set_option linter.unusedVariables false
set_option linter.unusedSimpArgs false
open Go
namespace Go.Ev
def v_valid_Find (t : List (El T_api_Ins)) (label : ByteArray) : Int := findI label t 0
def k_valid_Find (t : List (El T_api_Ins)) (label : ByteArray) : Bool := decide (t.length < 1099511627776) && t.all fun i => decide (i.2.2.2.2.2.2.length < 1099511627776)
theorem g_valid_Find (t : List (El T_api_Ins)) (label : ByteArray) (hk : k_valid_Find t label = true) : Goes (T_valid_Find t label) (T0_valid_Find t label) (v_valid_Find t label) := by
  unfold k_valid_Find at hk
  simp only [Bool.and_eq_true, decide_eq_true_eq, List.all_eq_true] at hk
  obtain ⟨hn, hl⟩ := hk
  have loop : ∀ k, k ≤ t.length → Goes (T_valid_Find t label) (.jmp (.l3 (k : Int))) (findI label (t.drop k) k) := by
    refine down ?_ fun k hk ih => ?_
    · rw [goes_jmp]
      simp only [T_valid_Find, goes_br, lt_len_not (Nat.lt_irrefl _), goes_leaf, List.drop_length]
      simp [findI]
    · have hli := hl t[k] (List.getElem_mem hk)
      rw [goes_jmp]
      simp only [T_valid_Find, goes_br, lt_len hk, nng, Bool.and_self, if_true, Int.toNat_natCast, getD_lt hk]
      rw [drop_cons hk]
      unfold findI
      generalize t[k].2.2.2.2.2.2 = ls at hli
      have inner : ∀ j, j ≤ ls.length → Goes (T_valid_Find t label) (.jmp (.l9 ls (Int.ofNat ls.length) (j : Int) (k : Int) (k : Int))) (if (ls.drop j).contains label then (k : Int) else findI label (t.drop (k + 1)) (k + 1)) := by
        refine down ?_ fun j hj ihj => ?_
        · rw [goes_jmp]
          simp only [T_valid_Find, goes_br, lt_len_not (Nat.lt_irrefl _), wrap_succ (k := k) (by omega), List.drop_length]
          simpa using ih
        · rw [goes_jmp]
          simp only [T_valid_Find, goes_br, lt_len hj, nng, Bool.and_self, if_true, Int.toNat_natCast, getD_lt hj, wrap_succ (k := j) (by omega), eqB_iff]
          rw [drop_cons hj, List.contains_cons]
          by_cases h : ls[j] = label
          · rw [if_pos h]; subst h; simp [goes_leaf]
          · rw [if_neg h, beq_false_of_ne (Ne.symm h), Bool.false_or]
            exact ihj
      simpa using inner 0 (Nat.zero_le _)
  unfold T0_valid_Find v_valid_Find
  simpa using loop 0 (Nat.zero_le _)
end Go.Ev
end

section
set_option linter.unusedSectionVars false
set_option linter.unusedVariables false
set_option linter.unusedSimpArgs false
set_option maxRecDepth 100000
set_option linter.unusedVariables false
open Go Go.Ev
namespace Go.Ev
noncomputable def e_valid_Find : Run := entG sg_valid_Find R_valid_Find (fun a => k_valid_Find a.1 a.2.1) (fun a => v_valid_Find a.1 a.2.1)
theorem ok_valid_Find : EntOK Go.Proofs.Tryd.prog 39 e_valid_Find := entG_ok (tb := tb_valid_Find) (c := c_valid_Find) tk_valid_Find (by kernel_rfl) (by kernel_rfl) (by kernel_rfl) (fun a => by kernel_rfl) fun ⟨t, label, _⟩ hk => evF_goes (c := c_valid_Find) (K := fun v => (R_valid_Find v, tps (toForms sg_valid_Find (t, label, ())))) (S := S_valid_Find t label) (by kernel_rfl) (en_valid_Find t label) (lp_valid_Find t label) (g_valid_Find t label hk)
end Go.Ev
end

section
set_option linter.unusedSectionVars false
set_option linter.unusedVariables false
set_option linter.unusedSimpArgs false
set_option maxRecDepth 100000
set_option linter.unusedVariables false
open Go Go.Ev
namespace Go.Ev
/-! ### paling/palinglaw8.alive -/
def sg_law8_alive : Sig := []
noncomputable def t_law8_alive : Tbl := [(31, e_valid_Check), (39, e_valid_Find), (37, e_valid_Count)]
theorem tk_law8_alive : ∀ p ∈ t_law8_alive, EntOK Go.Proofs.Tryd.prog p.1 p.2 := tbl_cons ok_valid_Check (tbl_cons ok_valid_Find (tbl_cons ok_valid_Count (tbl_nil)))
noncomputable def c_law8_alive : Code := Go.Proofs.Tryd.f30.body.getD .skip
def tb_law8_alive : Tb := []
def T_law8_alive : Empty → JT Empty (Bool) := fun j => nomatch j
def T0_law8_alive : JT Empty (Bool) :=
  .br (k_valid_Check ([], []))
    (.br ((v_valid_Check ([], [])) == (0 : Int))
      (.br (k_valid_Check ([], [[((13 : Int), (false, ((0 : Int), (((0 : Int), ((0 : Int), ((0 : Int), (0 : Int)))), (((0 : Int), ((0 : Int), ((0 : Int), (0 : Int)))), ((bs []), []))))))]]))
        (.br ((v_valid_Check ([], [[((13 : Int), (false, ((0 : Int), (((0 : Int), ((0 : Int), ((0 : Int), (0 : Int)))), (((0 : Int), ((0 : Int), ((0 : Int), (0 : Int)))), ((bs []), []))))))]])) == (9 : Int))
          (.br (k_valid_Find [((14 : Int), (false, ((0 : Int), (((0 : Int), ((0 : Int), ((0 : Int), (0 : Int)))), (((0 : Int), ((0 : Int), ((0 : Int), (0 : Int)))), ((bs []), [(bs [97])]))))))] (bs [97]))
            (.br ((v_valid_Find [((14 : Int), (false, ((0 : Int), (((0 : Int), ((0 : Int), ((0 : Int), (0 : Int)))), (((0 : Int), ((0 : Int), ((0 : Int), (0 : Int)))), ((bs []), [(bs [97])]))))))] (bs [97])) == (0 : Int))
              (.br (k_valid_Find [((14 : Int), (false, ((0 : Int), (((0 : Int), ((0 : Int), ((0 : Int), (0 : Int)))), (((0 : Int), ((0 : Int), ((0 : Int), (0 : Int)))), ((bs []), [(bs [97])]))))))] (bs [98]))
                (.br ((v_valid_Find [((14 : Int), (false, ((0 : Int), (((0 : Int), ((0 : Int), ((0 : Int), (0 : Int)))), (((0 : Int), ((0 : Int), ((0 : Int), (0 : Int)))), ((bs []), [(bs [97])]))))))] (bs [98])) == (-1 : Int))
                  (.br (k_valid_Count [((14 : Int), (false, ((0 : Int), (((0 : Int), ((0 : Int), ((0 : Int), (0 : Int)))), (((0 : Int), ((0 : Int), ((0 : Int), (0 : Int)))), ((bs []), [(bs [97])]))))))])
                    (.leaf ((v_valid_Count [((14 : Int), (false, ((0 : Int), (((0 : Int), ((0 : Int), ((0 : Int), (0 : Int)))), (((0 : Int), ((0 : Int), ((0 : Int), (0 : Int)))), ((bs []), [(bs [97])]))))))]) == (1 : Int)))
                  (.no))
                (.leaf false))
              (.no))
            (.leaf false))
          (.no))
        (.leaf false))
      (.no))
    (.leaf false))
  (.no)
def v_law8_alive : Bool :=
  bif (k_valid_Check ([], [])) then
    bif ((v_valid_Check ([], [])) == (0 : Int)) then
      bif (k_valid_Check ([], [[((13 : Int), (false, ((0 : Int), (((0 : Int), ((0 : Int), ((0 : Int), (0 : Int)))), (((0 : Int), ((0 : Int), ((0 : Int), (0 : Int)))), ((bs []), []))))))]])) then
        bif ((v_valid_Check ([], [[((13 : Int), (false, ((0 : Int), (((0 : Int), ((0 : Int), ((0 : Int), (0 : Int)))), (((0 : Int), ((0 : Int), ((0 : Int), (0 : Int)))), ((bs []), []))))))]])) == (9 : Int)) then
          bif (k_valid_Find [((14 : Int), (false, ((0 : Int), (((0 : Int), ((0 : Int), ((0 : Int), (0 : Int)))), (((0 : Int), ((0 : Int), ((0 : Int), (0 : Int)))), ((bs []), [(bs [97])]))))))] (bs [97])) then
            bif ((v_valid_Find [((14 : Int), (false, ((0 : Int), (((0 : Int), ((0 : Int), ((0 : Int), (0 : Int)))), (((0 : Int), ((0 : Int), ((0 : Int), (0 : Int)))), ((bs []), [(bs [97])]))))))] (bs [97])) == (0 : Int)) then
              bif (k_valid_Find [((14 : Int), (false, ((0 : Int), (((0 : Int), ((0 : Int), ((0 : Int), (0 : Int)))), (((0 : Int), ((0 : Int), ((0 : Int), (0 : Int)))), ((bs []), [(bs [97])]))))))] (bs [98])) then
                bif ((v_valid_Find [((14 : Int), (false, ((0 : Int), (((0 : Int), ((0 : Int), ((0 : Int), (0 : Int)))), (((0 : Int), ((0 : Int), ((0 : Int), (0 : Int)))), ((bs []), [(bs [97])]))))))] (bs [98])) == (-1 : Int)) then
                  bif (k_valid_Count [((14 : Int), (false, ((0 : Int), (((0 : Int), ((0 : Int), ((0 : Int), (0 : Int)))), (((0 : Int), ((0 : Int), ((0 : Int), (0 : Int)))), ((bs []), [(bs [97])]))))))]) then
                    ((v_valid_Count [((14 : Int), (false, ((0 : Int), (((0 : Int), ((0 : Int), ((0 : Int), (0 : Int)))), (((0 : Int), ((0 : Int), ((0 : Int), (0 : Int)))), ((bs []), [(bs [97])]))))))]) == (1 : Int))
                  else false
                else false
              else false
            else false
          else false
        else false
      else false
    else false
  else false
def k_law8_alive : Bool :=
  bif (k_valid_Check ([], [])) then
    bif ((v_valid_Check ([], [])) == (0 : Int)) then
      bif (k_valid_Check ([], [[((13 : Int), (false, ((0 : Int), (((0 : Int), ((0 : Int), ((0 : Int), (0 : Int)))), (((0 : Int), ((0 : Int), ((0 : Int), (0 : Int)))), ((bs []), []))))))]])) then
        bif ((v_valid_Check ([], [[((13 : Int), (false, ((0 : Int), (((0 : Int), ((0 : Int), ((0 : Int), (0 : Int)))), (((0 : Int), ((0 : Int), ((0 : Int), (0 : Int)))), ((bs []), []))))))]])) == (9 : Int)) then
          bif (k_valid_Find [((14 : Int), (false, ((0 : Int), (((0 : Int), ((0 : Int), ((0 : Int), (0 : Int)))), (((0 : Int), ((0 : Int), ((0 : Int), (0 : Int)))), ((bs []), [(bs [97])]))))))] (bs [97])) then
            bif ((v_valid_Find [((14 : Int), (false, ((0 : Int), (((0 : Int), ((0 : Int), ((0 : Int), (0 : Int)))), (((0 : Int), ((0 : Int), ((0 : Int), (0 : Int)))), ((bs []), [(bs [97])]))))))] (bs [97])) == (0 : Int)) then
              bif (k_valid_Find [((14 : Int), (false, ((0 : Int), (((0 : Int), ((0 : Int), ((0 : Int), (0 : Int)))), (((0 : Int), ((0 : Int), ((0 : Int), (0 : Int)))), ((bs []), [(bs [97])]))))))] (bs [98])) then
                bif ((v_valid_Find [((14 : Int), (false, ((0 : Int), (((0 : Int), ((0 : Int), ((0 : Int), (0 : Int)))), (((0 : Int), ((0 : Int), ((0 : Int), (0 : Int)))), ((bs []), [(bs [97])]))))))] (bs [98])) == (-1 : Int)) then
                  bif (k_valid_Count [((14 : Int), (false, ((0 : Int), (((0 : Int), ((0 : Int), ((0 : Int), (0 : Int)))), (((0 : Int), ((0 : Int), ((0 : Int), (0 : Int)))), ((bs []), [(bs [97])]))))))]) then
                    true
                  else false
                else true
              else false
            else true
          else false
        else true
      else false
    else true
  else false
theorem g_law8_alive (hk : k_law8_alive = true) : Goes (T_law8_alive) (T0_law8_alive) (v_law8_alive) :=
  Goes.brk hk (fun hk =>
    Goes.brk hk (fun hk =>
      Goes.brk hk (fun hk =>
        Goes.brk hk (fun hk =>
          Goes.brk hk (fun hk =>
            Goes.brk hk (fun hk =>
              Goes.brk hk (fun hk =>
                Goes.brk hk (fun hk =>
                  Goes.brk hk (fun hk =>
                    Goes.leaf) (fun hk =>
                    Goes.nok hk)) (fun hk =>
                  Goes.leaf)) (fun hk =>
                Goes.nok hk)) (fun hk =>
              Goes.leaf)) (fun hk =>
            Goes.nok hk)) (fun hk =>
          Goes.leaf)) (fun hk =>
        Goes.nok hk)) (fun hk =>
      Goes.leaf)) (fun hk =>
    Goes.nok hk)
def R_law8_alive : Bool → AV := fun (r : Bool) => .d .bool r
def S_law8_alive : Empty → Nat × St := fun j => nomatch j
theorem en_law8_alive (L : Lt) : entryA Go.Proofs.Tryd.prog (clOf t_law8_alive) tb_law8_alive Go.Proofs.Tryd.f30 c_law8_alive L (toForms sg_law8_alive (())) = (T0_law8_alive).run (fun v => some (R_law8_alive v, tps (toForms sg_law8_alive (())))) fun j => L (S_law8_alive j).1 (S_law8_alive j).2 := by kernel_rfl
theorem lp_law8_alive : ∀ (L : Lt) (j : Empty), procOf (procsF Go.Proofs.Tryd.prog (clOf t_law8_alive) tb_law8_alive Go.Proofs.Tryd.f30 c_law8_alive (toForms sg_law8_alive (()))) (S_law8_alive j).1 L (S_law8_alive j).2 = (T_law8_alive j).run (fun v => some (R_law8_alive v, tps (toForms sg_law8_alive (())))) fun j => L (S_law8_alive j).1 (S_law8_alive j).2 := fun L j => nomatch j
noncomputable def e_law8_alive : Run := entG sg_law8_alive R_law8_alive (fun a => k_law8_alive) (fun a => v_law8_alive)
theorem ok_law8_alive : EntOK Go.Proofs.Tryd.prog 30 e_law8_alive := entG_ok (tb := tb_law8_alive) (c := c_law8_alive) tk_law8_alive (by kernel_rfl) (by kernel_rfl) (by kernel_rfl) (fun a => by kernel_rfl) fun _ hk => evF_goes (c := c_law8_alive) (K := fun v => (R_law8_alive v, tps (toForms sg_law8_alive (())))) (S := S_law8_alive) (by kernel_rfl) (en_law8_alive) (lp_law8_alive) (g_law8_alive hk)
theorem co_law8_alive (hk : k_law8_alive = true) : CallOK Go.Proofs.Tryd.prog 30 (toForms sg_law8_alive (())) (R_law8_alive (v_law8_alive), tps (toForms sg_law8_alive (()))) := by
  obtain ⟨h1, h2⟩ := clOf_ok tk_law8_alive
  obtain ⟨n, hn⟩ := evF_goes (c := c_law8_alive) (K := fun v => (R_law8_alive v, tps (toForms sg_law8_alive (())))) (S := S_law8_alive) (by kernel_rfl) (en_law8_alive) (lp_law8_alive) (g_law8_alive hk)
  exact evF_sound (f := 30) (c := c_law8_alive) h1 h2 (by kernel_rfl) (by kernel_rfl) (by kernel_rfl) hn
end Go.Ev
end

section
set_option linter.unusedSectionVars false
set_option linter.unusedVariables false
set_option linter.unusedSimpArgs false
set_option maxRecDepth 100000
set_option linter.unusedVariables false
open Go Go.Ev
namespace Go.Ev
/-! ### paling/palinglaw8.ValidMany -/
def sg_law8_ValidMany : Sig := [(false, (.int .i64)), (false, (.int .i64)), (false, (.int .i64))]
noncomputable def t_law8_ValidMany : Tbl := [(19, e_book_Pick), (36, e_ref1_Text), (31, e_valid_Check), (30, e_law8_alive)]
theorem tk_law8_ValidMany : ∀ p ∈ t_law8_ValidMany, EntOK Go.Proofs.Tryd.prog p.1 p.2 := tbl_cons ok_book_Pick (tbl_cons ok_ref1_Text (tbl_cons ok_valid_Check (tbl_cons ok_law8_alive (tbl_nil))))
noncomputable def c_law8_ValidMany : Code := Go.Proofs.Tryd.f10.body.getD .skip
def tb_law8_ValidMany : Tb := [(5, ⟨[0, 1, 2, 7, 8, 56, 57, 67], [(8193, 92)]⟩), (11, ⟨[0, 1, 2, 7, 9, 56, 57, 67], [(8194, 94)]⟩), (16, ⟨[7, 10, 67], []⟩)]
inductive J_law8_ValidMany where
  | l5 (i : Int) (p : List (El T_api_Sym))
  | l11 (p : List (El T_api_Sym)) (i : Int) (p1 : List (List (El T_api_Ins)))
  | l16 (want : Int) (p : List (El T_api_Sym)) (p1 : List (List (El T_api_Ins)))
def T_law8_ValidMany (syms : Int) (size : Int) (threads : Int) : J_law8_ValidMany → JT J_law8_ValidMany (Bool)
  | .l5 i p =>
    .br (decide (i < (IntKind.i64.wrap ((IntKind.i64.wrap ((v_book_Pick syms (3 : Int)) + (64 : Int))) - (1 : Int)))))
      (.br (k_ref1_Text i)
        (.br (decide ((Int.ofNat ((ByteArray.size (bs [115])) + (ByteArray.size (v_ref1_Text i)))) > (9223372036854775807 : Int)))
          (.no)
        (.br (Nat.ble (((List.length p) + 1) * 48) limit)
          (.jmp (.l5 (IntKind.i64.wrap (i + (1 : Int))) (p ++ [(((bs [115]) ++ (v_ref1_Text i)), ((IntKind.i64.wrap ((IntKind.i64.wrap ((v_book_Pick size (3 : Int)) + (64 : Int))) - (1 : Int))), [(1 : Int)]))])))
        (.no)))
      (.no))
    (.jmp (.l11 p (0 : Int) []))
  | .l11 p i p1 =>
    .br (decide (i < (IntKind.i64.wrap ((IntKind.i64.wrap ((v_book_Pick threads (3 : Int)) + (64 : Int))) - (1 : Int)))))
      (.br (Nat.ble (((List.length p1) + 1) * 24) limit)
        (.jmp (.l11 p (IntKind.i64.wrap (i + (1 : Int))) (p1 ++ [[((14 : Int), (false, ((0 : Int), (((0 : Int), ((0 : Int), ((0 : Int), (0 : Int)))), (((0 : Int), ((0 : Int), ((0 : Int), (0 : Int)))), ((bs []), []))))))]])))
      (.no))
    (.br (decide ((IntKind.i64.wrap ((IntKind.i64.wrap ((v_book_Pick syms (3 : Int)) + (64 : Int))) - (1 : Int))) > (64 : Int)))
      (.jmp (.l16 (10 : Int) p p1))
    (.br (decide ((IntKind.i64.wrap ((IntKind.i64.wrap ((v_book_Pick threads (3 : Int)) + (64 : Int))) - (1 : Int))) > (64 : Int)))
      (.jmp (.l16 (10 : Int) p p1))
    (.br (decide ((IntKind.i64.wrap ((IntKind.i64.wrap ((v_book_Pick size (3 : Int)) + (64 : Int))) - (1 : Int))) > (64 : Int)))
      (.jmp (.l16 (5 : Int) p p1))
    (.jmp (.l16 (0 : Int) p p1)))))
  | .l16 want p p1 =>
    .br (k_valid_Check (p, p1))
      (.br ((v_valid_Check (p, p1)) == want)
        (.br k_law8_alive
          (.leaf v_law8_alive)
        (.no))
      (.leaf false))
    (.no)
def T0_law8_ValidMany (syms : Int) (size : Int) (threads : Int) : JT J_law8_ValidMany (Bool) :=
  .br (k_book_Pick syms (3 : Int))
    (.br (k_book_Pick size (3 : Int))
      (.br (k_book_Pick threads (3 : Int))
        (.jmp (.l5 (0 : Int) []))
      (.no))
    (.no))
  (.no)
def v_law8_ValidMany_l16 (syms : Int) (size : Int) (threads : Int) (want : Int) (p : List (El T_api_Sym)) (p1 : List (List (El T_api_Ins))) : Bool :=
  bif (k_valid_Check (p, p1)) then
    bif ((v_valid_Check (p, p1)) == want) then
      bif k_law8_alive then
        v_law8_alive
      else false
    else false
  else false
def k_law8_ValidMany_l16 (syms : Int) (size : Int) (threads : Int) (want : Int) (p : List (El T_api_Sym)) (p1 : List (List (El T_api_Ins))) : Bool :=
  bif (k_valid_Check (p, p1)) then
    bif ((v_valid_Check (p, p1)) == want) then
      bif k_law8_alive then
        true
      else false
    else true
  else false
theorem g_law8_ValidMany_l16 (syms : Int) (size : Int) (threads : Int) (want : Int) (p : List (El T_api_Sym)) (p1 : List (List (El T_api_Ins))) (hk : k_law8_ValidMany_l16 syms size threads want p p1 = true) : Goes (T_law8_ValidMany syms size threads) (.jmp (.l16 want p p1)) (v_law8_ValidMany_l16 syms size threads want p p1) :=
  Goes.jmp (Goes.brk hk (fun hk =>
    Goes.brk hk (fun hk =>
      Goes.brk hk (fun hk =>
        Goes.leaf) (fun hk =>
        Goes.nok hk)) (fun hk =>
      Goes.leaf)) (fun hk =>
    Goes.nok hk))
def R_law8_ValidMany : Bool → AV := fun (r : Bool) => .d .bool r
def S_law8_ValidMany (syms : Int) (size : Int) (threads : Int) : J_law8_ValidMany → Nat × St
  | .l5 i p => (5, ⟨mkTm 69 [(0, .d (.int .i64) (IntKind.i64.wrap ((IntKind.i64.wrap ((v_book_Pick syms (3 : Int)) + (64 : Int))) - (1 : Int)))), (1, .d (.int .i64) (IntKind.i64.wrap ((IntKind.i64.wrap ((v_book_Pick size (3 : Int)) + (64 : Int))) - (1 : Int)))), (2, .d (.int .i64) (IntKind.i64.wrap ((IntKind.i64.wrap ((v_book_Pick threads (3 : Int)) + (64 : Int))) - (1 : Int)))), (7, .pt 8 0 0), (8, .d (.int .i64) i)], [(8, 0, .box 49 [.own 8193 0 none, .nil]), (8193, 0, .row 60 T_api_Sym p false)]⟩)
  | .l11 p i p1 => (11, ⟨mkTm 69 [(0, .d (.int .i64) (IntKind.i64.wrap ((IntKind.i64.wrap ((v_book_Pick syms (3 : Int)) + (64 : Int))) - (1 : Int)))), (1, .d (.int .i64) (IntKind.i64.wrap ((IntKind.i64.wrap ((v_book_Pick size (3 : Int)) + (64 : Int))) - (1 : Int)))), (2, .d (.int .i64) (IntKind.i64.wrap ((IntKind.i64.wrap ((v_book_Pick threads (3 : Int)) + (64 : Int))) - (1 : Int)))), (7, .pt 8 0 0), (9, .d (.int .i64) i)], [(8, 0, .box 49 [.own 8193 0 none, .own 8194 0 none]), (8193, 0, .row 60 T_api_Sym p false), (8194, 0, .row 63 (.sl T_api_Ins) p1 false)]⟩)
  | .l16 want p p1 => (16, ⟨mkTm 69 [(7, .pt 8 0 0), (10, .d (.int .i64) want)], [(8, 0, .box 49 [.own 8193 0 none, .own 8194 0 none]), (8193, 0, .row 60 T_api_Sym p false), (8194, 0, .row 63 (.sl T_api_Ins) p1 false)]⟩)
theorem en_law8_ValidMany (syms : Int) (size : Int) (threads : Int) (L : Lt) : entryA Go.Proofs.Tryd.prog (clOf t_law8_ValidMany) tb_law8_ValidMany Go.Proofs.Tryd.f10 c_law8_ValidMany L (toForms sg_law8_ValidMany (syms, size, threads, ())) = (T0_law8_ValidMany syms size threads).run (fun v => some (R_law8_ValidMany v, tps (toForms sg_law8_ValidMany (syms, size, threads, ())))) fun j => L (S_law8_ValidMany syms size threads j).1 (S_law8_ValidMany syms size threads j).2 := by kernel_rfl
theorem lp_law8_ValidMany (syms : Int) (size : Int) (threads : Int) : ∀ (L : Lt) (j : J_law8_ValidMany), procOf (procsF Go.Proofs.Tryd.prog (clOf t_law8_ValidMany) tb_law8_ValidMany Go.Proofs.Tryd.f10 c_law8_ValidMany (toForms sg_law8_ValidMany (syms, size, threads, ()))) (S_law8_ValidMany syms size threads j).1 L (S_law8_ValidMany syms size threads j).2 = (T_law8_ValidMany syms size threads j).run (fun v => some (R_law8_ValidMany v, tps (toForms sg_law8_ValidMany (syms, size, threads, ())))) fun j => L (S_law8_ValidMany syms size threads j).1 (S_law8_ValidMany syms size threads j).2
  | L, .l5 i p => by kernel_rfl
  | L, .l11 p i p1 => by kernel_rfl
  | L, .l16 want p p1 => by kernel_rfl
end Go.Ev
end

section
set_option linter.unusedSectionVars false
set_option linter.unusedVariables false
set_option linter.unusedSimpArgs false
set_option maxRecDepth 100000
set_option linter.unusedVariables false
open Go Go.Ev
namespace Go.Ev
/-! ### paling/palingbook.GreatIns -/
def sg_book_GreatIns : Sig := [(true, T_api_Ins)]
noncomputable def t_book_GreatIns : Tbl := []
theorem tk_book_GreatIns : ∀ p ∈ t_book_GreatIns, EntOK Go.Proofs.Tryd.prog p.1 p.2 := tbl_nil
noncomputable def c_book_GreatIns : Code := Go.Proofs.Tryd.f14.body.getD .skip
def tb_book_GreatIns : Tb := [(6, ⟨[1, 3], []⟩)]
inductive J_book_GreatIns where
  | l6 (k : Int)
def T_book_GreatIns (i : El T_api_Ins) : J_book_GreatIns → JT J_book_GreatIns (Bool)
  | .l6 k =>
    .br (decide (k < (Int.ofNat (List.length i.2.2.2.2.2.2))))
      (.br ((decide ((0 : Int) ≤ k)) && (decide (k < (Int.ofNat (List.length i.2.2.2.2.2.2)))))
        (.br (decide ((Int.ofNat (ByteArray.size (List.getD i.2.2.2.2.2.2 (Int.toNat k) (dflt .str)))) > (60 : Int)))
          (.leaf true)
        (.jmp (.l6 (IntKind.i64.wrap (k + (1 : Int))))))
      (.no))
    (.leaf false)
def T0_book_GreatIns (i : El T_api_Ins) : JT J_book_GreatIns (Bool) :=
  .br (decide ((Int.ofNat (List.length i.2.2.2.2.2.2)) > (6 : Int)))
    (.leaf true)
  (.br (decide ((Int.ofNat (ByteArray.size i.2.2.2.2.2.1)) > (60 : Int)))
    (.leaf true)
  (.jmp (.l6 (0 : Int))))
def R_book_GreatIns : Bool → AV := fun (r : Bool) => .d .bool r
def S_book_GreatIns (i : El T_api_Ins) : J_book_GreatIns → Nat × St
  | .l6 k => (6, ⟨mkTm 28 [(1, .pt 2 0 0), (3, .d (.int .i64) k)], [(2, 0, .box 26 [.d (.int .i64) i.1, .d .bool i.2.1, .d (.int .i64) i.2.2.1, .d (.int .i64) i.2.2.2.1.1, .d (.int .i64) i.2.2.2.1.2.1, .d (.int .i64) i.2.2.2.1.2.2.1, .d (.int .i64) i.2.2.2.1.2.2.2, .d (.int .i64) i.2.2.2.2.1.1, .d (.int .i64) i.2.2.2.2.1.2.1, .d (.int .i64) i.2.2.2.2.1.2.2.1, .d (.int .i64) i.2.2.2.2.1.2.2.2, .d .str i.2.2.2.2.2.1, .d (.sl .str) i.2.2.2.2.2.2])]⟩)
theorem en_book_GreatIns (i : El T_api_Ins) (L : Lt) : entryA Go.Proofs.Tryd.prog (clOf t_book_GreatIns) tb_book_GreatIns Go.Proofs.Tryd.f14 c_book_GreatIns L (toForms sg_book_GreatIns (i, ())) = (T0_book_GreatIns i).run (fun v => some (R_book_GreatIns v, tps (toForms sg_book_GreatIns (i, ())))) fun j => L (S_book_GreatIns i j).1 (S_book_GreatIns i j).2 := by kernel_rfl
theorem lp_book_GreatIns (i : El T_api_Ins) : ∀ (L : Lt) (j : J_book_GreatIns), procOf (procsF Go.Proofs.Tryd.prog (clOf t_book_GreatIns) tb_book_GreatIns Go.Proofs.Tryd.f14 c_book_GreatIns (toForms sg_book_GreatIns (i, ()))) (S_book_GreatIns i j).1 L (S_book_GreatIns i j).2 = (T_book_GreatIns i j).run (fun v => some (R_book_GreatIns v, tps (toForms sg_book_GreatIns (i, ())))) fun j => L (S_book_GreatIns i j).1 (S_book_GreatIns i j).2
  | L, .l6 k => by kernel_rfl
end Go.Ev
end

section
set_option linter.unusedSectionVars false
set_option linter.unusedVariables false
set_option linter.unusedSimpArgs false
set_option linter.unusedVariables false
set_option linter.unusedSimpArgs false
open Go
namespace Go.Ev

def v_book_GreatIns (i : El T_api_Ins) : Bool := decide (6 < i.2.2.2.2.2.2.length) || (decide (60 < i.2.2.2.2.2.1.size) || i.2.2.2.2.2.2.any fun l => decide (60 < l.size))
theorem g_book_GreatIns (i : El T_api_Ins) : Goes (T_book_GreatIns i) (T0_book_GreatIns i) (v_book_GreatIns i) := by
  obtain ⟨op, lock, cond, A, B, to, ls⟩ := i
  have loop : ls.length ≤ 6 → ∀ k, k ≤ ls.length → Goes (T_book_GreatIns (op, lock, cond, A, B, to, ls)) (.jmp (.l6 (k : Int))) ((ls.drop k).any fun l => decide (60 < l.size)) := by
    intro hn
    refine down ?_ fun k hk ih => ?_
    · rw [goes_jmp]
      simp [T_book_GreatIns, goes_br, goes_leaf]
    · rw [goes_jmp]
      simp only [T_book_GreatIns, goes_br, lt_len hk, nng, Bool.and_self, if_true, Int.toNat_natCast, getD_lt hk, wrap_succ (k := k) (by omega)]
      rw [drop_cons hk, List.any_cons]
      by_cases h : 60 < ls[k].size
      · rw [if_pos (by simp; omega), decide_eq_true h, Bool.true_or]
        exact .leaf
      · rw [if_neg (by simp; omega), decide_eq_false h, Bool.false_or]
        exact ih
  unfold T0_book_GreatIns v_book_GreatIns
  simp only [goes_br]
  by_cases h : 6 < ls.length
  · rw [if_pos (by simp; omega), decide_eq_true h, Bool.true_or]
    exact .leaf
  rw [if_neg (by simp; omega), decide_eq_false h, Bool.false_or]
  by_cases h2 : 60 < to.size
  · rw [if_pos (by simp; omega), decide_eq_true h2, Bool.true_or]
    exact .leaf
  rw [if_neg (by simp; omega), decide_eq_false h2, Bool.false_or]
  exact loop (by omega) 0 (Nat.zero_le _)

end Go.Ev
end

section
set_option linter.unusedSectionVars false
set_option linter.unusedVariables false
set_option linter.unusedSimpArgs false
set_option maxRecDepth 100000
set_option linter.unusedVariables false
open Go Go.Ev
namespace Go.Ev
noncomputable def e_book_GreatIns : Run := entT sg_book_GreatIns R_book_GreatIns (fun a => v_book_GreatIns a.1)
theorem ok_book_GreatIns : EntOK Go.Proofs.Tryd.prog 14 e_book_GreatIns := entT_ok (tb := tb_book_GreatIns) (c := c_book_GreatIns) tk_book_GreatIns (by kernel_rfl) (by kernel_rfl) (by kernel_rfl) (fun a => by kernel_rfl) fun ⟨i, _⟩ => evF_goes (c := c_book_GreatIns) (K := fun v => (R_book_GreatIns v, tps (toForms sg_book_GreatIns (i, ())))) (S := S_book_GreatIns i) (by kernel_rfl) (en_book_GreatIns i) (lp_book_GreatIns i) (g_book_GreatIns i)
end Go.Ev
end

section
set_option linter.unusedSectionVars false
set_option linter.unusedVariables false
set_option linter.unusedSimpArgs false
set_option maxRecDepth 100000
set_option linter.unusedVariables false
open Go Go.Ev
namespace Go.Ev
/-! ### paling/palingbook.GreatThread -/
def sg_book_GreatThread : Sig := [(true, (.sl T_api_Ins))]
noncomputable def t_book_GreatThread : Tbl := [(14, e_book_GreatIns)]
theorem tk_book_GreatThread : ∀ p ∈ t_book_GreatThread, EntOK Go.Proofs.Tryd.prog p.1 p.2 := tbl_cons ok_book_GreatIns (tbl_nil)
noncomputable def c_book_GreatThread : Code := Go.Proofs.Tryd.f38.body.getD .skip
def tb_book_GreatThread : Tb := [(6, ⟨[1, 3], []⟩)]
inductive J_book_GreatThread where
  | l6 (i : Int)
def T_book_GreatThread (t : List (El T_api_Ins)) : J_book_GreatThread → JT J_book_GreatThread (Bool)
  | .l6 i =>
    .br (decide (i < (Int.ofNat (List.length t))))
      (.br ((decide ((0 : Int) ≤ i)) && (decide (i < (Int.ofNat (List.length t)))))
        (.br (v_book_GreatIns (List.getD t (Int.toNat i) (dflt T_api_Ins)))
          (.leaf true)
        (.jmp (.l6 (IntKind.i64.wrap (i + (1 : Int))))))
      (.no))
    (.leaf false)
def T0_book_GreatThread (t : List (El T_api_Ins)) : JT J_book_GreatThread (Bool) :=
  .br (decide ((Int.ofNat (List.length t)) > (12 : Int)))
    (.leaf true)
  (.jmp (.l6 (0 : Int)))
def R_book_GreatThread : Bool → AV := fun (r : Bool) => .d .bool r
def S_book_GreatThread (t : List (El T_api_Ins)) : J_book_GreatThread → Nat × St
  | .l6 i => (6, ⟨mkTm 21 [(1, .pt 2 0 0), (3, .d (.int .i64) i)], [(2, 0, .box 63 [.d (.sl T_api_Ins) t])]⟩)
theorem en_book_GreatThread (t : List (El T_api_Ins)) (L : Lt) : entryA Go.Proofs.Tryd.prog (clOf t_book_GreatThread) tb_book_GreatThread Go.Proofs.Tryd.f38 c_book_GreatThread L (toForms sg_book_GreatThread (t, ())) = (T0_book_GreatThread t).run (fun v => some (R_book_GreatThread v, tps (toForms sg_book_GreatThread (t, ())))) fun j => L (S_book_GreatThread t j).1 (S_book_GreatThread t j).2 := by kernel_rfl
theorem lp_book_GreatThread (t : List (El T_api_Ins)) : ∀ (L : Lt) (j : J_book_GreatThread), procOf (procsF Go.Proofs.Tryd.prog (clOf t_book_GreatThread) tb_book_GreatThread Go.Proofs.Tryd.f38 c_book_GreatThread (toForms sg_book_GreatThread (t, ()))) (S_book_GreatThread t j).1 L (S_book_GreatThread t j).2 = (T_book_GreatThread t j).run (fun v => some (R_book_GreatThread v, tps (toForms sg_book_GreatThread (t, ())))) fun j => L (S_book_GreatThread t j).1 (S_book_GreatThread t j).2
  | L, .l6 i => by kernel_rfl
end Go.Ev
end

section
set_option linter.unusedSectionVars false
set_option linter.unusedVariables false
set_option linter.unusedSimpArgs false
set_option linter.unusedVariables false
set_option linter.unusedSimpArgs false
open Go
namespace Go.Ev
def v_book_GreatThread (t : List (El T_api_Ins)) : Bool := decide (12 < t.length) || t.any v_book_GreatIns
theorem g_book_GreatThread (t : List (El T_api_Ins)) : Goes (T_book_GreatThread t) (T0_book_GreatThread t) (v_book_GreatThread t) := by
  have loop : t.length ≤ 12 → ∀ k, k ≤ t.length → Goes (T_book_GreatThread t) (.jmp (.l6 (k : Int))) ((t.drop k).any v_book_GreatIns) := by
    intro hn
    refine down ?_ fun k hk ih => ?_
    · rw [goes_jmp]
      simp [T_book_GreatThread, goes_br, goes_leaf]
    · rw [goes_jmp]
      simp only [T_book_GreatThread, goes_br, lt_len hk, nng, Bool.and_self, if_true, Int.toNat_natCast, getD_lt hk, wrap_succ (k := k) (by omega)]
      rw [drop_cons hk, List.any_cons]
      cases v_book_GreatIns t[k] with
      | true => simp [goes_leaf]
      | false => simpa using ih
  unfold T0_book_GreatThread v_book_GreatThread
  simp only [goes_br]
  by_cases h : 12 < t.length
  · rw [if_pos (by simp; omega), decide_eq_true h, Bool.true_or]
    exact .leaf
  rw [if_neg (by simp; omega), decide_eq_false h, Bool.false_or]
  exact loop (by omega) 0 (Nat.zero_le _)
end Go.Ev
end

section
set_option linter.unusedSectionVars false
set_option linter.unusedVariables false
set_option linter.unusedSimpArgs false
set_option maxRecDepth 100000
set_option linter.unusedVariables false
open Go Go.Ev
namespace Go.Ev
noncomputable def e_book_GreatThread : Run := entT sg_book_GreatThread R_book_GreatThread (fun a => v_book_GreatThread a.1)
theorem ok_book_GreatThread : EntOK Go.Proofs.Tryd.prog 38 e_book_GreatThread := entT_ok (tb := tb_book_GreatThread) (c := c_book_GreatThread) tk_book_GreatThread (by kernel_rfl) (by kernel_rfl) (by kernel_rfl) (fun a => by kernel_rfl) fun ⟨t, _⟩ => evF_goes (c := c_book_GreatThread) (K := fun v => (R_book_GreatThread v, tps (toForms sg_book_GreatThread (t, ())))) (S := S_book_GreatThread t) (by kernel_rfl) (en_book_GreatThread t) (lp_book_GreatThread t) (g_book_GreatThread t)
end Go.Ev
end

section
set_option linter.unusedSectionVars false
set_option linter.unusedVariables false
set_option linter.unusedSimpArgs false
set_option maxRecDepth 100000
set_option linter.unusedVariables false
open Go Go.Ev
namespace Go.Ev
/-! ### paling/palingbook.Great -/
def sg_book_Great : Sig := [(true, T_api_Prog)]
noncomputable def t_book_Great : Tbl := [(38, e_book_GreatThread)]
theorem tk_book_Great : ∀ p ∈ t_book_Great, EntOK Go.Proofs.Tryd.prog p.1 p.2 := tbl_cons ok_book_GreatThread (tbl_nil)
noncomputable def c_book_Great : Code := Go.Proofs.Tryd.f29.body.getD .skip
def tb_book_Great : Tb := [(6, ⟨[1, 3], []⟩), (14, ⟨[1, 4], []⟩)]
inductive J_book_Great where
  | l6 (i : Int)
  | l14 (i : Int)
def T_book_Great (p : El T_api_Prog) : J_book_Great → JT J_book_Great (Bool)
  | .l6 i =>
    .br (decide (i < (Int.ofNat (List.length p.1))))
      (.br ((decide ((0 : Int) ≤ i)) && (decide (i < (Int.ofNat (List.length p.1)))))
        (.br (decide ((Int.ofNat (ByteArray.size (List.getD p.1 (Int.toNat i) (dflt T_api_Sym)).1)) > (60 : Int)))
          (.leaf true)
        (.br ((decide ((0 : Int) ≤ i)) && (decide (i < (Int.ofNat (List.length p.1)))))
          (.br (decide ((Int.ofNat (List.length (List.getD p.1 (Int.toNat i) (dflt T_api_Sym)).2.2)) > (66 : Int)))
            (.leaf true)
          (.jmp (.l6 (IntKind.i64.wrap (i + (1 : Int))))))
        (.no)))
      (.no))
    (.jmp (.l14 (0 : Int)))
  | .l14 i =>
    .br (decide (i < (Int.ofNat (List.length p.2))))
      (.br ((decide ((0 : Int) ≤ i)) && (decide (i < (Int.ofNat (List.length p.2)))))
        (.br (v_book_GreatThread (List.getD p.2 (Int.toNat i) (dflt (.sl (.pr (.int .i64) (.pr .bool (.pr (.int .i64) (.pr (.pr (.int .i64) (.pr (.int .i64) (.pr (.int .i64) (.int .i64)))) (.pr (.pr (.int .i64) (.pr (.int .i64) (.pr (.int .i64) (.int .i64)))) (.pr .str (.sl .str)))))))))))
          (.leaf true)
        (.jmp (.l14 (IntKind.i64.wrap (i + (1 : Int))))))
      (.no))
    (.leaf false)
def T0_book_Great (p : El T_api_Prog) : JT J_book_Great (Bool) :=
  .br (decide ((Int.ofNat (List.length p.1)) > (66 : Int)))
    (.leaf true)
  (.br (decide ((Int.ofNat (List.length p.2)) > (66 : Int)))
    (.leaf true)
  (.jmp (.l6 (0 : Int))))
def R_book_Great : Bool → AV := fun (r : Bool) => .d .bool r
def S_book_Great (p : El T_api_Prog) : J_book_Great → Nat × St
  | .l6 i => (6, ⟨mkTm 53 [(1, .pt 2 0 0), (3, .d (.int .i64) i)], [(2, 0, .box 49 [.d (.sl T_api_Sym) p.1, .d (.sl (.sl T_api_Ins)) p.2])]⟩)
  | .l14 i => (14, ⟨mkTm 53 [(1, .pt 2 0 0), (4, .d (.int .i64) i)], [(2, 0, .box 49 [.d (.sl T_api_Sym) p.1, .d (.sl (.sl T_api_Ins)) p.2])]⟩)
theorem en_book_Great (p : El T_api_Prog) (L : Lt) : entryA Go.Proofs.Tryd.prog (clOf t_book_Great) tb_book_Great Go.Proofs.Tryd.f29 c_book_Great L (toForms sg_book_Great (p, ())) = (T0_book_Great p).run (fun v => some (R_book_Great v, tps (toForms sg_book_Great (p, ())))) fun j => L (S_book_Great p j).1 (S_book_Great p j).2 := by kernel_rfl
theorem lp_book_Great (p : El T_api_Prog) : ∀ (L : Lt) (j : J_book_Great), procOf (procsF Go.Proofs.Tryd.prog (clOf t_book_Great) tb_book_Great Go.Proofs.Tryd.f29 c_book_Great (toForms sg_book_Great (p, ()))) (S_book_Great p j).1 L (S_book_Great p j).2 = (T_book_Great p j).run (fun v => some (R_book_Great v, tps (toForms sg_book_Great (p, ())))) fun j => L (S_book_Great p j).1 (S_book_Great p j).2
  | L, .l6 i => by kernel_rfl
  | L, .l14 i => by kernel_rfl
end Go.Ev
end

section
set_option linter.unusedSectionVars false
set_option linter.unusedVariables false
set_option linter.unusedSimpArgs false
set_option linter.unusedVariables false
set_option linter.unusedSimpArgs false
open Go
namespace Go.Ev
def v_book_Great (p : El T_api_Prog) : Bool := decide (66 < p.1.length) || (decide (66 < p.2.length) || ((p.1.any fun s => decide (60 < s.1.size) || decide (66 < s.2.2.length)) || p.2.any v_book_GreatThread))
theorem g_book_Great (p : El T_api_Prog) : Goes (T_book_Great p) (T0_book_Great p) (v_book_Great p) := by
  obtain ⟨sy, th⟩ := p
  have loop2 : th.length ≤ 66 → ∀ k, k ≤ th.length → Goes (T_book_Great (sy, th)) (.jmp (.l14 (k : Int))) ((th.drop k).any v_book_GreatThread) := by
    intro hn
    refine down ?_ fun k hk ih => ?_
    · rw [goes_jmp]
      simp [T_book_Great, goes_br, goes_leaf]
    · rw [goes_jmp]
      simp only [T_book_Great, goes_br, lt_len hk, nng, Bool.and_self, if_true, Int.toNat_natCast, getD_lt hk, wrap_succ (k := k) (by omega)]
      rw [drop_cons hk, List.any_cons]
      cases v_book_GreatThread th[k] with
      | true => simp [goes_leaf]
      | false => simpa using ih
  have loop : sy.length ≤ 66 → th.length ≤ 66 → ∀ k, k ≤ sy.length → Goes (T_book_Great (sy, th)) (.jmp (.l6 (k : Int))) (((sy.drop k).any fun s => decide (60 < s.1.size) || decide (66 < s.2.2.length)) || th.any v_book_GreatThread) := by
    intro hn hm
    refine down ?_ fun k hk ih => ?_
    · rw [goes_jmp]
      simp only [T_book_Great, goes_br, lt_len_not (Nat.lt_irrefl _), List.drop_length, List.any_nil, Bool.false_or]
      simpa using loop2 hm 0 (Nat.zero_le _)
    · rw [goes_jmp]
      simp only [T_book_Great, goes_br, lt_len hk, nng, Bool.and_self, if_true, Int.toNat_natCast, getD_lt hk, wrap_succ (k := k) (by omega)]
      rw [drop_cons hk, List.any_cons]
      by_cases h : 60 < sy[k].1.size
      · rw [if_pos (by simp; omega), decide_eq_true h]
        simp [goes_leaf]
      rw [if_neg (by simp; omega), decide_eq_false h, Bool.false_or]
      by_cases h2 : 66 < sy[k].2.2.length
      · rw [if_pos (by simp; omega), decide_eq_true h2]
        simp [goes_leaf]
      rw [if_neg (by simp; omega), decide_eq_false h2, Bool.false_or]
      exact ih
  unfold T0_book_Great v_book_Great
  simp only [goes_br]
  by_cases h : 66 < sy.length
  · rw [if_pos (by simp; omega), decide_eq_true h, Bool.true_or]
    exact .leaf
  rw [if_neg (by simp; omega), decide_eq_false h, Bool.false_or]
  by_cases h2 : 66 < th.length
  · rw [if_pos (by simp; omega), decide_eq_true h2, Bool.true_or]
    exact .leaf
  rw [if_neg (by simp; omega), decide_eq_false h2, Bool.false_or]
  exact loop (by omega) (by omega) 0 (Nat.zero_le _)
end Go.Ev
end

section
set_option linter.unusedSectionVars false
set_option linter.unusedVariables false
set_option linter.unusedSimpArgs false
set_option maxRecDepth 100000
set_option linter.unusedVariables false
open Go Go.Ev
namespace Go.Ev
noncomputable def e_book_Great : Run := entT sg_book_Great R_book_Great (fun a => v_book_Great a.1)
theorem ok_book_Great : EntOK Go.Proofs.Tryd.prog 29 e_book_Great := entT_ok (tb := tb_book_Great) (c := c_book_Great) tk_book_Great (by kernel_rfl) (by kernel_rfl) (by kernel_rfl) (fun a => by kernel_rfl) fun ⟨p, _⟩ => evF_goes (c := c_book_Great) (K := fun v => (R_book_Great v, tps (toForms sg_book_Great (p, ())))) (S := S_book_Great p) (by kernel_rfl) (en_book_Great p) (lp_book_Great p) (g_book_Great p)
end Go.Ev
end

section
set_option linter.unusedSectionVars false
set_option linter.unusedVariables false
set_option linter.unusedSimpArgs false
set_option maxRecDepth 100000
set_option linter.unusedVariables false
open Go Go.Ev
namespace Go.Ev
/-! ### paling/palingref1.Count -/
def sg_ref1_Count : Sig := [(true, (.sl T_api_Ins))]
noncomputable def t_ref1_Count : Tbl := []
theorem tk_ref1_Count : ∀ p ∈ t_ref1_Count, EntOK Go.Proofs.Tryd.prog p.1 p.2 := tbl_nil
noncomputable def c_ref1_Count : Code := Go.Proofs.Tryd.f41.body.getD .skip
def tb_ref1_Count : Tb := [(4, ⟨[1, 3, 4], []⟩)]
inductive J_ref1_Count where
  | l4 (n : Int) (i : Int)
def T_ref1_Count (t : List (El T_api_Ins)) : J_ref1_Count → JT J_ref1_Count (Int)
  | .l4 n i =>
    .br (decide (i < (Int.ofNat (List.length t))))
      (.br ((decide ((0 : Int) ≤ i)) && (decide (i < (Int.ofNat (List.length t)))))
        (.br ((List.getD t (Int.toNat i) (dflt T_api_Ins)).1 != (12 : Int))
          (.jmp (.l4 (IntKind.i64.wrap (n + (1 : Int))) (IntKind.i64.wrap (i + (1 : Int)))))
        (.jmp (.l4 n (IntKind.i64.wrap (i + (1 : Int))))))
      (.no))
    (.leaf n)
def T0_ref1_Count (t : List (El T_api_Ins)) : JT J_ref1_Count (Int) :=
  .jmp (.l4 (0 : Int) (0 : Int))
def R_ref1_Count : Int → AV := fun (r : Int) => .d (.int .i64) r
def S_ref1_Count (t : List (El T_api_Ins)) : J_ref1_Count → Nat × St
  | .l4 n i => (4, ⟨mkTm 22 [(1, .pt 2 0 0), (3, .d (.int .i64) n), (4, .d (.int .i64) i)], [(2, 0, .box 63 [.d (.sl T_api_Ins) t])]⟩)
theorem en_ref1_Count (t : List (El T_api_Ins)) (L : Lt) : entryA Go.Proofs.Tryd.prog (clOf t_ref1_Count) tb_ref1_Count Go.Proofs.Tryd.f41 c_ref1_Count L (toForms sg_ref1_Count (t, ())) = (T0_ref1_Count t).run (fun v => some (R_ref1_Count v, tps (toForms sg_ref1_Count (t, ())))) fun j => L (S_ref1_Count t j).1 (S_ref1_Count t j).2 := by kernel_rfl
theorem lp_ref1_Count (t : List (El T_api_Ins)) : ∀ (L : Lt) (j : J_ref1_Count), procOf (procsF Go.Proofs.Tryd.prog (clOf t_ref1_Count) tb_ref1_Count Go.Proofs.Tryd.f41 c_ref1_Count (toForms sg_ref1_Count (t, ()))) (S_ref1_Count t j).1 L (S_ref1_Count t j).2 = (T_ref1_Count t j).run (fun v => some (R_ref1_Count v, tps (toForms sg_ref1_Count (t, ())))) fun j => L (S_ref1_Count t j).1 (S_ref1_Count t j).2
  | L, .l4 n i => by kernel_rfl
end Go.Ev
end

section
set_option linter.unusedSectionVars false
set_option linter.unusedVariables false
set_option linter.unusedSimpArgs false
set_option linter.unusedVariables false
set_option linter.unusedSimpArgs false
open Go
namespace Go.Ev
def v_ref1_Count (t : List (El T_api_Ins)) : Int := (countM t : Int)
def k_ref1_Count (t : List (El T_api_Ins)) : Bool := decide (t.length < 1099511627776)
theorem g_ref1_Count (t : List (El T_api_Ins)) (hk : k_ref1_Count t = true) : Goes (T_ref1_Count t) (T0_ref1_Count t) (v_ref1_Count t) := by
  have hn : t.length < 1099511627776 := of_decide_eq_true hk
  have loop : ∀ k, k ≤ t.length → ∀ n : Nat, n ≤ k → Goes (T_ref1_Count t) (.jmp (.l4 (n : Int) (k : Int))) ((n + countM (t.drop k) : Nat) : Int) := by
    refine down ?_ fun k hk ih => ?_
    · intro n hnk
      rw [goes_jmp]
      simp only [T_ref1_Count, goes_br, lt_len_not (Nat.lt_irrefl _), goes_leaf, List.drop_length]
      simp [countM]
    · intro n hnk
      rw [goes_jmp]
      simp only [T_ref1_Count, goes_br, lt_len hk, nng, Bool.and_self, if_true, Int.toNat_natCast, getD_lt hk, wrap_succ (k := k) (by omega), wrap_succ (k := n) (by omega)]
      rw [drop_cons hk]
      unfold countM
      rw [List.filter_cons]
      split
      · rename_i h
        have := ih (n + 1) (by omega)
        unfold countM at this
        rw [List.length_cons, show n + ((List.filter (fun i => i.1 != (12 : Int)) (List.drop (k + 1) t)).length + 1) = n + 1 + (List.filter (fun i => i.1 != (12 : Int)) (List.drop (k + 1) t)).length by omega]
        exact this
      · exact ih n (by omega)
  have := loop 0 (Nat.zero_le _) 0 (Nat.le_refl _)
  unfold T0_ref1_Count v_ref1_Count
  simpa using this
end Go.Ev
end

section
set_option linter.unusedSectionVars false
set_option linter.unusedVariables false
set_option linter.unusedSimpArgs false
set_option maxRecDepth 100000
set_option linter.unusedVariables false
open Go Go.Ev
namespace Go.Ev
noncomputable def e_ref1_Count : Run := entG sg_ref1_Count R_ref1_Count (fun a => k_ref1_Count a.1) (fun a => v_ref1_Count a.1)
theorem ok_ref1_Count : EntOK Go.Proofs.Tryd.prog 41 e_ref1_Count := entG_ok (tb := tb_ref1_Count) (c := c_ref1_Count) tk_ref1_Count (by kernel_rfl) (by kernel_rfl) (by kernel_rfl) (fun a => by kernel_rfl) fun ⟨t, _⟩ hk => evF_goes (c := c_ref1_Count) (K := fun v => (R_ref1_Count v, tps (toForms sg_ref1_Count (t, ())))) (S := S_ref1_Count t) (by kernel_rfl) (en_ref1_Count t) (lp_ref1_Count t) (g_ref1_Count t hk)
end Go.Ev
end

section
set_option linter.unusedSectionVars false
set_option linter.unusedVariables false
set_option linter.unusedSimpArgs false
set_option maxRecDepth 100000
set_option linter.unusedVariables false
open Go Go.Ev
namespace Go.Ev
/-! ### paling/palingref1.operand -/
def sg_ref1_operand : Sig := [(true, T_api_Prog), (true, T_api_Opd)]
noncomputable def t_ref1_operand : Tbl := [(66, e_ref1_Memory)]
theorem tk_ref1_operand : ∀ p ∈ t_ref1_operand, EntOK Go.Proofs.Tryd.prog p.1 p.2 := tbl_cons ok_ref1_Memory (tbl_nil)
noncomputable def c_ref1_operand : Code := Go.Proofs.Tryd.f83.body.getD .skip
def tb_ref1_operand : Tb := []
def T_ref1_operand (p : El T_api_Prog) (o : El T_api_Opd) : Empty → JT Empty (Int) := fun j => nomatch j
def T0_ref1_operand (p : El T_api_Prog) (o : El T_api_Opd) : JT Empty (Int) :=
  .br (! (v_ref1_Memory o))
    (.leaf (0 : Int))
  (.br (decide (o.2.2.1 ≥ (Int.ofNat (List.length p.1))))
    (.leaf (7 : Int))
  (.br (o.1 == (3 : Int))
    (.br ((decide ((0 : Int) ≤ o.2.2.1)) && (decide (o.2.2.1 < (Int.ofNat (List.length p.1)))))
      (.br (decide (o.2.2.2 ≥ (List.getD p.1 (Int.toNat o.2.2.1) (dflt T_api_Sym)).2.1))
        (.leaf (8 : Int))
      (.leaf (0 : Int)))
    (.no))
  (.leaf (0 : Int))))
def v_ref1_operand (p : El T_api_Prog) (o : El T_api_Opd) : Int :=
  bif (! (v_ref1_Memory o)) then
    (0 : Int)
  else bif (decide (o.2.2.1 ≥ (Int.ofNat (List.length p.1)))) then
    (7 : Int)
  else bif (o.1 == (3 : Int)) then
    bif ((decide ((0 : Int) ≤ o.2.2.1)) && (decide (o.2.2.1 < (Int.ofNat (List.length p.1))))) then
      bif (decide (o.2.2.2 ≥ (List.getD p.1 (Int.toNat o.2.2.1) (dflt T_api_Sym)).2.1)) then
        (8 : Int)
      else (0 : Int)
    else (0 : Int)
  else (0 : Int)
def k_ref1_operand (p : El T_api_Prog) (o : El T_api_Opd) : Bool :=
  bif (! (v_ref1_Memory o)) then
    true
  else bif (decide (o.2.2.1 ≥ (Int.ofNat (List.length p.1)))) then
    true
  else bif (o.1 == (3 : Int)) then
    bif ((decide ((0 : Int) ≤ o.2.2.1)) && (decide (o.2.2.1 < (Int.ofNat (List.length p.1))))) then
      bif (decide (o.2.2.2 ≥ (List.getD p.1 (Int.toNat o.2.2.1) (dflt T_api_Sym)).2.1)) then
        true
      else true
    else false
  else true
theorem g_ref1_operand (p : El T_api_Prog) (o : El T_api_Opd) (hk : k_ref1_operand p o = true) : Goes (T_ref1_operand p o) (T0_ref1_operand p o) (v_ref1_operand p o) :=
  Goes.brk hk (fun hk =>
    Goes.leaf) (fun hk =>
    Goes.brk hk (fun hk =>
      Goes.leaf) (fun hk =>
      Goes.brk hk (fun hk =>
        Goes.brk hk (fun hk =>
          Goes.brk hk (fun hk =>
            Goes.leaf) (fun hk =>
            Goes.leaf)) (fun hk =>
          Goes.nok hk)) (fun hk =>
        Goes.leaf)))
def R_ref1_operand : Int → AV := fun (r : Int) => .d (.int .i64) r
def S_ref1_operand (p : El T_api_Prog) (o : El T_api_Opd) : Empty → Nat × St := fun j => nomatch j
theorem en_ref1_operand (p : El T_api_Prog) (o : El T_api_Opd) (L : Lt) : entryA Go.Proofs.Tryd.prog (clOf t_ref1_operand) tb_ref1_operand Go.Proofs.Tryd.f83 c_ref1_operand L (toForms sg_ref1_operand (p, o, ())) = (T0_ref1_operand p o).run (fun v => some (R_ref1_operand v, tps (toForms sg_ref1_operand (p, o, ())))) fun j => L (S_ref1_operand p o j).1 (S_ref1_operand p o j).2 := by kernel_rfl
theorem lp_ref1_operand (p : El T_api_Prog) (o : El T_api_Opd) : ∀ (L : Lt) (j : Empty), procOf (procsF Go.Proofs.Tryd.prog (clOf t_ref1_operand) tb_ref1_operand Go.Proofs.Tryd.f83 c_ref1_operand (toForms sg_ref1_operand (p, o, ()))) (S_ref1_operand p o j).1 L (S_ref1_operand p o j).2 = (T_ref1_operand p o j).run (fun v => some (R_ref1_operand v, tps (toForms sg_ref1_operand (p, o, ())))) fun j => L (S_ref1_operand p o j).1 (S_ref1_operand p o j).2 := fun L j => nomatch j
noncomputable def e_ref1_operand : Run := entG sg_ref1_operand R_ref1_operand (fun a => k_ref1_operand a.1 a.2.1) (fun a => v_ref1_operand a.1 a.2.1)
theorem ok_ref1_operand : EntOK Go.Proofs.Tryd.prog 83 e_ref1_operand := entG_ok (tb := tb_ref1_operand) (c := c_ref1_operand) tk_ref1_operand (by kernel_rfl) (by kernel_rfl) (by kernel_rfl) (fun a => by kernel_rfl) fun ⟨p, o, _⟩ hk => evF_goes (c := c_ref1_operand) (K := fun v => (R_ref1_operand v, tps (toForms sg_ref1_operand (p, o, ())))) (S := S_ref1_operand p o) (by kernel_rfl) (en_ref1_operand p o) (lp_ref1_operand p o) (g_ref1_operand p o hk)
end Go.Ev
end

section
set_option linter.unusedSectionVars false
set_option linter.unusedVariables false
set_option linter.unusedSimpArgs false
set_option maxRecDepth 100000
set_option linter.unusedVariables false
open Go Go.Ev
namespace Go.Ev
/-! ### paling/palingref1.Find -/
def sg_ref1_Find : Sig := [(true, (.sl T_api_Ins)), (false, .str)]
noncomputable def t_ref1_Find : Tbl := [(64, e_ref1_index)]
theorem tk_ref1_Find : ∀ p ∈ t_ref1_Find, EntOK Go.Proofs.Tryd.prog p.1 p.2 := tbl_cons ok_ref1_index (tbl_nil)
noncomputable def c_ref1_Find : Code := Go.Proofs.Tryd.f40.body.getD .skip
def tb_ref1_Find : Tb := [(3, ⟨[1, 2, 5], []⟩)]
inductive J_ref1_Find where
  | l3 (i : Int)
def T_ref1_Find (t : List (El T_api_Ins)) (label : ByteArray) : J_ref1_Find → JT J_ref1_Find (Int)
  | .l3 i =>
    .br (decide (i < (Int.ofNat (List.length t))))
      (.br ((decide ((0 : Int) ≤ i)) && (decide (i < (Int.ofNat (List.length t)))))
        (.br (k_ref1_index (List.getD t (Int.toNat i) (dflt T_api_Ins)).2.2.2.2.2.2 label)
          (.br (decide ((v_ref1_index (List.getD t (Int.toNat i) (dflt T_api_Ins)).2.2.2.2.2.2 label) ≥ (0 : Int)))
            (.leaf i)
          (.jmp (.l3 (IntKind.i64.wrap (i + (1 : Int))))))
        (.no))
      (.no))
    (.leaf (-1 : Int))
def T0_ref1_Find (t : List (El T_api_Ins)) (label : ByteArray) : JT J_ref1_Find (Int) :=
  .jmp (.l3 (0 : Int))
def R_ref1_Find : Int → AV := fun (r : Int) => .d (.int .i64) r
def S_ref1_Find (t : List (El T_api_Ins)) (label : ByteArray) : J_ref1_Find → Nat × St
  | .l3 i => (3, ⟨mkTm 23 [(1, .d .str label), (2, .pt 3 0 0), (5, .d (.int .i64) i)], [(3, 0, .box 63 [.d (.sl T_api_Ins) t])]⟩)
theorem en_ref1_Find (t : List (El T_api_Ins)) (label : ByteArray) (L : Lt) : entryA Go.Proofs.Tryd.prog (clOf t_ref1_Find) tb_ref1_Find Go.Proofs.Tryd.f40 c_ref1_Find L (toForms sg_ref1_Find (t, label, ())) = (T0_ref1_Find t label).run (fun v => some (R_ref1_Find v, tps (toForms sg_ref1_Find (t, label, ())))) fun j => L (S_ref1_Find t label j).1 (S_ref1_Find t label j).2 := by kernel_rfl
theorem lp_ref1_Find (t : List (El T_api_Ins)) (label : ByteArray) : ∀ (L : Lt) (j : J_ref1_Find), procOf (procsF Go.Proofs.Tryd.prog (clOf t_ref1_Find) tb_ref1_Find Go.Proofs.Tryd.f40 c_ref1_Find (toForms sg_ref1_Find (t, label, ()))) (S_ref1_Find t label j).1 L (S_ref1_Find t label j).2 = (T_ref1_Find t label j).run (fun v => some (R_ref1_Find v, tps (toForms sg_ref1_Find (t, label, ())))) fun j => L (S_ref1_Find t label j).1 (S_ref1_Find t label j).2
  | L, .l3 i => by kernel_rfl
end Go.Ev
end

section
set_option linter.unusedSectionVars false
set_option linter.unusedVariables false
set_option linter.unusedSimpArgs false
set_option linter.unusedVariables false
set_option linter.unusedSimpArgs false
open Go
namespace Go.Ev
def v_ref1_Find (t : List (El T_api_Ins)) (label : ByteArray) : Int := findI label t 0
def k_ref1_Find (t : List (El T_api_Ins)) (label : ByteArray) : Bool := decide (t.length < 1099511627776) && t.all fun i => decide (i.2.2.2.2.2.2.length < 1099511627776)
theorem g_ref1_Find (t : List (El T_api_Ins)) (label : ByteArray) (hk : k_ref1_Find t label = true) : Goes (T_ref1_Find t label) (T0_ref1_Find t label) (v_ref1_Find t label) := by
  unfold k_ref1_Find at hk
  simp only [Bool.and_eq_true, decide_eq_true_eq, List.all_eq_true] at hk
  obtain ⟨hn, hl⟩ := hk
  have loop : ∀ k, k ≤ t.length → Goes (T_ref1_Find t label) (.jmp (.l3 (k : Int))) (findI label (t.drop k) k) := by
    refine down ?_ fun k hk ih => ?_
    · rw [goes_jmp]
      simp only [T_ref1_Find, goes_br, lt_len_not (Nat.lt_irrefl _), goes_leaf, List.drop_length]
      simp [findI]
    · have hli := hl t[k] (List.getElem_mem hk)
      have hki : k_ref1_index t[k].2.2.2.2.2.2 label = true := decide_eq_true (by omega)
      rw [goes_jmp]
      simp only [T_ref1_Find, goes_br, lt_len hk, nng, Bool.and_self, if_true, Int.toNat_natCast, getD_lt hk, wrap_succ (k := k) (by omega), hki]
      rw [drop_cons hk]
      unfold findI
      have hi : decide (v_ref1_index t[k].2.2.2.2.2.2 label ≥ 0) = t[k].2.2.2.2.2.2.contains label := by
        rw [← findFrom_contains (k := 0)]
        unfold v_ref1_index
        cases h : findFrom label t[k].2.2.2.2.2.2 0 with
        | none => rfl
        | some n => simp
      rw [hi]
      split
      · exact .leaf
      · exact ih
  unfold T0_ref1_Find v_ref1_Find
  simpa using loop 0 (Nat.zero_le _)
end Go.Ev
end

section
set_option linter.unusedSectionVars false
set_option linter.unusedVariables false
set_option linter.unusedSimpArgs false
set_option maxRecDepth 100000
set_option linter.unusedVariables false
open Go Go.Ev
namespace Go.Ev
noncomputable def e_ref1_Find : Run := entG sg_ref1_Find R_ref1_Find (fun a => k_ref1_Find a.1 a.2.1) (fun a => v_ref1_Find a.1 a.2.1)
theorem ok_ref1_Find : EntOK Go.Proofs.Tryd.prog 40 e_ref1_Find := entG_ok (tb := tb_ref1_Find) (c := c_ref1_Find) tk_ref1_Find (by kernel_rfl) (by kernel_rfl) (by kernel_rfl) (fun a => by kernel_rfl) fun ⟨t, label, _⟩ hk => evF_goes (c := c_ref1_Find) (K := fun v => (R_ref1_Find v, tps (toForms sg_ref1_Find (t, label, ())))) (S := S_ref1_Find t label) (by kernel_rfl) (en_ref1_Find t label) (lp_ref1_Find t label) (g_ref1_Find t label hk)
end Go.Ev
end

section
set_option linter.unusedSectionVars false
set_option linter.unusedVariables false
set_option linter.unusedSimpArgs false
set_option maxRecDepth 100000
set_option linter.unusedVariables false
open Go Go.Ev
namespace Go.Ev
/-! ### paling/palingref1.thread -/
def sg_ref1_thread : Sig := [(true, T_api_Prog), (true, (.sl T_api_Ins))]
noncomputable def t_ref1_thread : Tbl := [(41, e_ref1_Count), (62, e_ref1_Right), (64, e_ref1_index), (49, e_ref1_InsRight), (83, e_ref1_operand), (67, e_ref1_Jumps), (40, e_ref1_Find)]
theorem tk_ref1_thread : ∀ p ∈ t_ref1_thread, EntOK Go.Proofs.Tryd.prog p.1 p.2 := tbl_cons ok_ref1_Count (tbl_cons ok_ref1_Right (tbl_cons ok_ref1_index (tbl_cons ok_ref1_InsRight (tbl_cons ok_ref1_operand (tbl_cons ok_ref1_Jumps (tbl_cons ok_ref1_Find (tbl_nil)))))))
noncomputable def c_ref1_thread : Code := Go.Proofs.Tryd.f63.body.getD .skip
def tb_ref1_thread : Tb := [(7, ⟨[2, 3, 5, 6, 94, 95, 112, 113, 114, 115, 116, 117, 118, 119, 120], [(6, 48)]⟩), (14, ⟨[2, 3, 5, 6, 7, 8, 94, 95, 112, 113, 114, 115, 116, 117, 118, 119, 120], [(6, 48)]⟩), (44, ⟨[3, 13], []⟩)]
inductive J_ref1_thread where
  | l7 (i : Int) (seen : List ByteArray)
  | l14 (x : Int) (x1 : Bool) (x2 : Int) (x3 : Int) (x4 : Int) (x5 : Int) (x6 : Int) (x7 : Int) (x8 : Int) (x9 : Int) (x10 : Int) (x11 : ByteArray) (x12 : List ByteArray) (k : Int) (seen : List ByteArray) (i : Int)
  | l44 (i : Int)
def T_ref1_thread (p : El T_api_Prog) (t : List (El T_api_Ins)) : J_ref1_thread → JT J_ref1_thread (Int)
  | .l7 i seen =>
    .br (decide (i < (Int.ofNat (List.length t))))
      (.br ((decide ((0 : Int) ≤ i)) && (decide (i < (Int.ofNat (List.length t)))))
        (.jmp (.l14 (List.getD t (Int.toNat i) (dflt T_api_Ins)).1 (List.getD t (Int.toNat i) (dflt T_api_Ins)).2.1 (List.getD t (Int.toNat i) (dflt T_api_Ins)).2.2.1 (List.getD t (Int.toNat i) (dflt T_api_Ins)).2.2.2.1.1 (List.getD t (Int.toNat i) (dflt T_api_Ins)).2.2.2.1.2.1 (List.getD t (Int.toNat i) (dflt T_api_Ins)).2.2.2.1.2.2.1 (List.getD t (Int.toNat i) (dflt T_api_Ins)).2.2.2.1.2.2.2 (List.getD t (Int.toNat i) (dflt T_api_Ins)).2.2.2.2.1.1 (List.getD t (Int.toNat i) (dflt T_api_Ins)).2.2.2.2.1.2.1 (List.getD t (Int.toNat i) (dflt T_api_Ins)).2.2.2.2.1.2.2.1 (List.getD t (Int.toNat i) (dflt T_api_Ins)).2.2.2.2.1.2.2.2 (List.getD t (Int.toNat i) (dflt T_api_Ins)).2.2.2.2.2.1 (List.getD t (Int.toNat i) (dflt T_api_Ins)).2.2.2.2.2.2 (0 : Int) seen i))
      (.no))
    (.br ((Int.ofNat (List.length t)) == (0 : Int))
      (.leaf (9 : Int))
    (.br ((decide ((0 : Int) ≤ (IntKind.i64.wrap ((Int.ofNat (List.length t)) - (1 : Int))))) && (decide ((IntKind.i64.wrap ((Int.ofNat (List.length t)) - (1 : Int))) < (Int.ofNat (List.length t)))))
      (.br ((List.getD t (Int.toNat (IntKind.i64.wrap ((Int.ofNat (List.length t)) - (1 : Int)))) (dflt T_api_Ins)).1 != (10 : Int))
        (.br ((List.getD t (Int.toNat (IntKind.i64.wrap ((Int.ofNat (List.length t)) - (1 : Int)))) (dflt T_api_Ins)).1 != (14 : Int))
          (.leaf (9 : Int))
        (.jmp (.l44 (0 : Int))))
      (.jmp (.l44 (0 : Int))))
    (.no)))
  | .l14 x x1 x2 x3 x4 x5 x6 x7 x8 x9 x10 x11 x12 k seen i =>
    .br (decide (k < (Int.ofNat (List.length x12))))
      (.br ((decide ((0 : Int) ≤ k)) && (decide (k < (Int.ofNat (List.length x12)))))
        (.br (k_ref1_Right (List.getD x12 (Int.toNat k) (dflt .str)))
          (.br (! (v_ref1_Right (List.getD x12 (Int.toNat k) (dflt .str))))
            (.leaf (3 : Int))
          (.br ((decide ((0 : Int) ≤ k)) && (decide (k < (Int.ofNat (List.length x12)))))
            (.br (k_ref1_index seen (List.getD x12 (Int.toNat k) (dflt .str)))
              (.br (decide ((v_ref1_index seen (List.getD x12 (Int.toNat k) (dflt .str))) ≥ (0 : Int)))
                (.leaf (6 : Int))
              (.br ((decide ((0 : Int) ≤ k)) && (decide (k < (Int.ofNat (List.length x12)))))
                (.br (Nat.ble (((List.length seen) + 1) * 16) limit)
                  (.jmp (.l14 x x1 x2 x3 x4 x5 x6 x7 x8 x9 x10 x11 x12 (IntKind.i64.wrap (k + (1 : Int))) (seen ++ [(List.getD x12 (Int.toNat k) (dflt .str))]) i))
                (.no))
              (.no)))
            (.no))
          (.no)))
        (.no))
      (.no))
    (.br (k_ref1_InsRight (x, (x1, (x2, ((x3, (x4, (x5, x6))), ((x7, (x8, (x9, x10))), (x11, x12)))))))
      (.br ((v_ref1_InsRight (x, (x1, (x2, ((x3, (x4, (x5, x6))), ((x7, (x8, (x9, x10))), (x11, x12))))))) != (0 : Int))
        (.leaf (v_ref1_InsRight (x, (x1, (x2, ((x3, (x4, (x5, x6))), ((x7, (x8, (x9, x10))), (x11, x12))))))))
      (.br (k_ref1_operand p (x3, (x4, (x5, x6))))
        (.br ((v_ref1_operand p (x3, (x4, (x5, x6)))) != (0 : Int))
          (.leaf (v_ref1_operand p (x3, (x4, (x5, x6)))))
        (.br (k_ref1_operand p (x7, (x8, (x9, x10))))
          (.br ((v_ref1_operand p (x7, (x8, (x9, x10)))) != (0 : Int))
            (.leaf (v_ref1_operand p (x7, (x8, (x9, x10)))))
          (.jmp (.l7 (IntKind.i64.wrap (i + (1 : Int))) seen)))
        (.no)))
      (.no)))
    (.no))
  | .l44 i =>
    .br (decide (i < (Int.ofNat (List.length t))))
      (.br ((decide ((0 : Int) ≤ i)) && (decide (i < (Int.ofNat (List.length t)))))
        (.br (v_ref1_Jumps (List.getD t (Int.toNat i) (dflt T_api_Ins)).1)
          (.br ((decide ((0 : Int) ≤ i)) && (decide (i < (Int.ofNat (List.length t)))))
            (.br (k_ref1_Find t (List.getD t (Int.toNat i) (dflt T_api_Ins)).2.2.2.2.2.1)
              (.br (decide ((v_ref1_Find t (List.getD t (Int.toNat i) (dflt T_api_Ins)).2.2.2.2.2.1) < (0 : Int)))
                (.leaf (7 : Int))
              (.jmp (.l44 (IntKind.i64.wrap (i + (1 : Int))))))
            (.no))
          (.no))
        (.jmp (.l44 (IntKind.i64.wrap (i + (1 : Int))))))
      (.no))
    (.leaf (0 : Int))
def T0_ref1_thread (p : El T_api_Prog) (t : List (El T_api_Ins)) : JT J_ref1_thread (Int) :=
  .br (k_ref1_Count t)
    (.br (decide ((v_ref1_Count t) > (4096 : Int)))
      (.leaf (10 : Int))
    (.jmp (.l7 (0 : Int) [])))
  (.no)
def R_ref1_thread : Int → AV := fun (r : Int) => .d (.int .i64) r
def S_ref1_thread (p : El T_api_Prog) (t : List (El T_api_Ins)) : J_ref1_thread → Nat × St
  | .l7 i seen => (7, ⟨mkTm 122 [(2, .pt 3 0 0), (3, .pt 4 0 0), (5, .own 6 0 none), (6, .d (.int .i64) i)], [(3, 0, .box 49 [.d (.sl T_api_Sym) p.1, .d (.sl (.sl T_api_Ins)) p.2]), (4, 0, .box 63 [.d (.sl T_api_Ins) t]), (6, 0, .row 9 .str seen false)]⟩)
  | .l14 x x1 x2 x3 x4 x5 x6 x7 x8 x9 x10 x11 x12 k seen i => (14, ⟨mkTm 122 [(2, .pt 3 0 0), (3, .pt 4 0 0), (5, .own 6 0 none), (6, .d (.int .i64) i), (7, .pt 8 0 0), (8, .d (.int .i64) k)], [(3, 0, .box 49 [.d (.sl T_api_Sym) p.1, .d (.sl (.sl T_api_Ins)) p.2]), (4, 0, .box 63 [.d (.sl T_api_Ins) t]), (6, 0, .row 9 .str seen false), (8, 0, .box 26 [.d (.int .i64) x, .d .bool x1, .d (.int .i64) x2, .d (.int .i64) x3, .d (.int .i64) x4, .d (.int .i64) x5, .d (.int .i64) x6, .d (.int .i64) x7, .d (.int .i64) x8, .d (.int .i64) x9, .d (.int .i64) x10, .d .str x11, .d (.sl .str) x12])]⟩)
  | .l44 i => (44, ⟨mkTm 122 [(3, .pt 4 0 0), (13, .d (.int .i64) i)], [(4, 0, .box 63 [.d (.sl T_api_Ins) t])]⟩)
theorem en_ref1_thread (p : El T_api_Prog) (t : List (El T_api_Ins)) (L : Lt) : entryA Go.Proofs.Tryd.prog (clOf t_ref1_thread) tb_ref1_thread Go.Proofs.Tryd.f63 c_ref1_thread L (toForms sg_ref1_thread (p, t, ())) = (T0_ref1_thread p t).run (fun v => some (R_ref1_thread v, tps (toForms sg_ref1_thread (p, t, ())))) fun j => L (S_ref1_thread p t j).1 (S_ref1_thread p t j).2 := by kernel_rfl
theorem lp_ref1_thread (p : El T_api_Prog) (t : List (El T_api_Ins)) : ∀ (L : Lt) (j : J_ref1_thread), procOf (procsF Go.Proofs.Tryd.prog (clOf t_ref1_thread) tb_ref1_thread Go.Proofs.Tryd.f63 c_ref1_thread (toForms sg_ref1_thread (p, t, ()))) (S_ref1_thread p t j).1 L (S_ref1_thread p t j).2 = (T_ref1_thread p t j).run (fun v => some (R_ref1_thread v, tps (toForms sg_ref1_thread (p, t, ())))) fun j => L (S_ref1_thread p t j).1 (S_ref1_thread p t j).2
  | L, .l7 i seen => by kernel_rfl
  | L, .l14 x x1 x2 x3 x4 x5 x6 x7 x8 x9 x10 x11 x12 k seen i => by kernel_rfl
  | L, .l44 i => by kernel_rfl
end Go.Ev
end

section
set_option linter.unusedSectionVars false
set_option linter.unusedVariables false
set_option linter.unusedSimpArgs false
set_option linter.unusedVariables false
set_option linter.unusedSimpArgs false
open Go
namespace Go.Ev
def v_ref1_thread (p : El T_api_Prog) (t : List (El T_api_Ins)) : Int := threadC p t
def k_ref1_thread (p : El T_api_Prog) (t : List (El T_api_Ins)) : Bool := smallThread t
theorem operand_eq' (len : Nat) (size : Int → Int) (k s n : Int) (h : (k = 3 ∨ k = 4) → 0 ≤ s) :
  (bif (! (decide (k = 3) || decide (k = 4))) then
    (0 : Int)
  else bif (decide (s ≥ (Int.ofNat len))) then
    (7 : Int)
  else bif (k == (3 : Int)) then
    bif ((decide ((0 : Int) ≤ s)) && (decide (s < (Int.ofNat len)))) then
      bif (decide (n ≥ size s)) then
        (8 : Int)
      else (0 : Int)
    else (0 : Int)
  else (0 : Int)) = placeN len size k s n ∧
  (bif (! (decide (k = 3) || decide (k = 4))) then
    true
  else bif (decide (s ≥ (Int.ofNat len))) then
    true
  else bif (k == (3 : Int)) then
    bif ((decide ((0 : Int) ≤ s)) && (decide (s < (Int.ofNat len)))) then
      bif (decide (n ≥ size s)) then
        true
      else true
    else false
  else true) = true := by
  unfold placeN
  by_cases h3 : k = 3
  · have h0 := h (.inl h3)
    subst h3
    by_cases hl : (len : Int) ≤ s
    · simp [hl]
    have h2 : s < (len : Int) := by omega
    have h1 : ¬ s < 0 := by omega
    by_cases hn : size s ≤ n
    · simp [hl, hn, h0, h1, h2]
    · simp [hl, hn, h0, h1, h2]
  by_cases h4 : k = 4
  · have h0 := h (.inr h4)
    subst h4
    have h1 : ¬ s < 0 := by omega
    by_cases hl : (len : Int) ≤ s
    · simp [hl]
    simp [hl, h1]
  simp [h3, h4]
theorem operand_eq (p : El T_api_Prog) (o : El T_api_Opd) (h : ∀ k s : Int, o.1 = k → o.2.2.1 = s → (k = 3 ∨ k = 4) → 0 ≤ s) : v_ref1_operand p o = placeC p o ∧ k_ref1_operand p o = true := by
  have := operand_eq' p.1.length (fun s => (List.getD p.1 s.toNat (dflt T_api_Sym)).2.1) o.1 o.2.2.1 o.2.2.2 (h _ _ rfl rfl)
  unfold v_ref1_operand k_ref1_operand
  rw [refMemory_eq]
  exact this
theorem right_sym' {k r s n : Int} (h : v_opnd_Right (k, r, s, n) = true) (hk : k = 3 ∨ k = 4) : 0 ≤ s := by
  unfold v_opnd_Right at h
  rcases hk with rfl | rfl
  · by_cases hs : 0 ≤ s
    · exact hs
    · simp [hs] at h
  · by_cases hs : 0 ≤ s
    · exact hs
    · simp [hs] at h
theorem opds_ok {i : El T_api_Ins} (hr : v_ins_Right i = 0) : (∀ k s : Int, i.2.2.2.1.1 = k → i.2.2.2.1.2.2.1 = s → (k = 3 ∨ k = 4) → 0 ≤ s) ∧ ∀ k s : Int, i.2.2.2.2.1.1 = k → i.2.2.2.2.1.2.2.1 = s → (k = 3 ∨ k = 4) → 0 ≤ s := by
  obtain ⟨h1, h14, hrow⟩ := right0_row hr
  rcases nine i.1 with ⟨h9, _⟩ | ⟨h9, _⟩
  · obtain ⟨a, b⟩ := row_low hrow h1 h9
    exact ⟨fun k s hk hs h => hs ▸ right_sym' (k := i.2.2.2.1.1) (r := i.2.2.2.1.2.1) (s := i.2.2.2.1.2.2.1) (n := i.2.2.2.1.2.2.2) a (hk ▸ h), fun k s hk hs h => hs ▸ right_sym' (k := i.2.2.2.2.1.1) (r := i.2.2.2.2.1.2.1) (s := i.2.2.2.2.1.2.2.1) (n := i.2.2.2.2.1.2.2.2) b (hk ▸ h)⟩
  · obtain ⟨a, b⟩ := row_high hrow h9
    refine ⟨fun k s hk hs h => ?_, fun k s hk hs h => ?_⟩
    · have : k = 0 := hk ▸ a
      omega
    · have : k = 0 := hk ▸ b
      omega
theorem g_ref1_thread (p : El T_api_Prog) (t : List (El T_api_Ins)) (hk : k_ref1_thread p t = true) : Goes (T_ref1_thread p t) (T0_ref1_thread p t) (v_ref1_thread p t) := by
  have hS := smallT hk
  have hn := hS.len
  have hkf : ∀ l, k_ref1_Find t l = true := fun l => by
    unfold k_ref1_Find
    simp only [Bool.and_eq_true, decide_eq_true_eq, List.all_eq_true]
    exact ⟨hn, fun i hi => Nat.lt_of_le_of_lt (labels_mem hi) hS.labs⟩
  have jmps : ∀ k, k ≤ t.length → Goes (T_ref1_thread p t) (.jmp (.l44 (k : Int))) (jumpC (labels t) (t.drop k)) := by
    refine down ?_ fun k hk ih => ?_
    · rw [goes_jmp]
      simp only [T_ref1_thread, goes_br, lt_len_not (Nat.lt_irrefl _), goes_leaf, List.drop_length]
      simp [jumpC]
    · rw [goes_jmp]
      simp only [T_ref1_thread, goes_br, lt_len hk, nng, Bool.and_self, if_true, Int.toNat_natCast, getD_lt hk, wrap_succ (k := k) (by omega), hkf, jumps_eq]
      have hfi : decide (v_ref1_Find t t[k].2.2.2.2.2.1 < 0) = ! (labels t).contains t[k].2.2.2.2.2.1 := findI_neg
      rw [hfi, drop_cons hk]
      unfold jumpC
      by_cases h1 : ((t[k].1 == (10 : Int)) || (t[k].1 == (11 : Int))) = true
      · rw [if_pos h1, if_pos h1]
        by_cases h2 : (labels t).contains t[k].2.2.2.2.2.1 = true
        · rw [if_pos h2, if_neg (by rw [h2]; decide)]; exact ih
        · rw [if_neg h2, if_pos (by rw [Bool.eq_false_iff.2 h2]; rfl)]; exact .leaf
      · rw [if_neg h1, if_neg h1]; exact ih
  have main : ∀ k, k ≤ t.length → Goes (T_ref1_thread p t) (.jmp (.l7 (k : Int) (labels (t.take k)))) (scanI p (fun seen => endC t (jumpC seen t)) (labels (t.take k)) (t.drop k)) := by
    refine down ?_ fun k hk ih => ?_
    · have hj := jmps 0 (Nat.zero_le _)
      rw [List.drop_zero] at hj
      rw [goes_jmp, List.drop_length, List.take_length]
      unfold scanI
      simp only [T_ref1_thread, goes_br, lt_len_not (Nat.lt_irrefl _)]
      rw [if_neg (by decide)]
      by_cases h0 : t.length = 0
      · have : t = [] := List.eq_nil_of_length_eq_zero h0
        rw [this]; simp [goes_leaf, endC]
      · have hp : 0 < t.length := by omega
        rw [if_neg (by simp; exact fun e => h0 (by rw [e]; rfl)), endC_eq hp]
        rw [show Int.ofNat t.length = (t.length : Int) from rfl, wrap_pred (k := t.length) (by omega) hp]
        have hb : (decide (0 ≤ ((t.length - 1 : Nat) : Int)) && decide (((t.length - 1 : Nat) : Int) < (t.length : Int))) = true := by simp; omega
        simp only [hb, if_true, Int.toNat_natCast, getD_lt (show t.length - 1 < t.length by omega)]
        unfold bne
        cases h10 : (t[t.length - 1].1 == (10 : Int)) with
        | true => simpa using hj
        | false =>
          cases h14 : (t[t.length - 1].1 == (14 : Int)) with
          | true => simpa using hj
          | false => simp [goes_leaf]
    · have hmem : t[k] ∈ t := List.getElem_mem hk
      have hto := hS.to _ hmem
      have hlab := hS.lab _ hmem
      have hlen := Nat.lt_of_le_of_lt (labels_mem hmem) hS.labs
      have htk : labels (t.take (k + 1)) = labels (t.take k) ++ t[k].2.2.2.2.2.2 := by
        unfold labels
        rw [List.take_add_one, List.getElem?_eq_getElem hk, List.flatMap_append]
        simp
      have hall : labels t = labels (t.take (k + 1)) ++ labels (t.drop (k + 1)) := by
        unfold labels
        rw [← List.flatMap_append, List.take_append_drop]
      have hlt : (labels (t.take (k + 1))).length < 1099511627776 := by
        have := hS.labs
        rw [hall, List.length_append] at this
        omega
      rw [goes_jmp]
      simp only [T_ref1_thread, goes_br, lt_len hk, nng, Bool.and_self, if_true, Int.toNat_natCast, getD_lt hk]
      rw [drop_cons hk]
      unfold scanI
      rw [htk] at ih hlt
      generalize t[k] = i at hto hlab hlen htk ih hlt
      obtain ⟨op, lock, cond, ⟨ak, ar, ay, an⟩, ⟨bk, br, bz, bn⟩, to, ls⟩ := i
      dsimp only at hto hlab hlen htk ih hlt ⊢
      have inner : ∀ j, j ≤ ls.length → Goes (T_ref1_thread p t) (.jmp (.l14 op lock cond ak ar ay an bk br bz bn to ls (j : Int) (labels (t.take k) ++ ls.take j) (k : Int))) (scanL (labels (t.take k) ++ ls.take j) (fun seen => if insC p (op, (lock, (cond, ((ak, (ar, (ay, an))), ((bk, (br, (bz, bn))), (to, ls)))))) ≠ 0 then insC p (op, (lock, (cond, ((ak, (ar, (ay, an))), ((bk, (br, (bz, bn))), (to, ls)))))) else scanI p (fun seen => endC t (jumpC seen t)) seen (t.drop (k + 1))) (ls.drop j)) := by
        refine down ?_ fun j hj ihj => ?_
        · rw [goes_jmp, List.drop_length, List.take_length]
          unfold scanL
          have hkr : k_ref1_InsRight (op, (lock, (cond, ((ak, (ar, (ay, an))), ((bk, (br, (bz, bn))), (to, ls)))))) = true := hto
          simp only [T_ref1_thread, goes_br, lt_len_not (Nat.lt_irrefl _), hkr, if_true, wrap_succ (k := k) (by omega)]
          rw [if_neg (by decide)]
          unfold insC v_ref1_InsRight
          dsimp only
          by_cases hr : v_ins_Right (op, (lock, (cond, ((ak, (ar, (ay, an))), ((bk, (br, (bz, bn))), (to, ls)))))) = 0
          · obtain ⟨oa, ob⟩ := opds_ok hr
            obtain ⟨a1, a2⟩ := operand_eq p (ak, (ar, (ay, an))) oa
            obtain ⟨b1, b2⟩ := operand_eq p (bk, (br, (bz, bn))) ob
            by_cases ha : placeC p (ak, (ar, (ay, an))) = 0
            · by_cases hb : placeC p (bk, (br, (bz, bn))) = 0
              · simp [hr, ha, hb, a1, a2, b1, b2]; exact ih
              · simp [hr, ha, hb, a1, a2, b1, b2, goes_leaf]
            · simp [hr, ha, a1, a2, goes_leaf]
          · simp [hr, goes_leaf]
        · have hl := hlab ls[j] (List.getElem_mem hj)
          have hkn : k_ref1_Right ls[j] = true := hl
          have hsl : (labels (t.take k) ++ ls.take j).length < 1099511627776 := by
            rw [List.length_append] at hlt ⊢
            rw [List.length_take]
            omega
          have hki : k_ref1_index (labels (t.take k) ++ ls.take j) ls[j] = true := decide_eq_true (by omega)
          have hap : Nat.ble (((labels (t.take k) ++ ls.take j).length + 1) * 16) limit = true := by apply Nat.ble_eq_true_of_le; unfold limit; omega
          have htj : labels (t.take k) ++ ls.take (j + 1) = (labels (t.take k) ++ ls.take j) ++ [ls[j]] := by
            rw [List.take_add_one, List.getElem?_eq_getElem hj, List.append_assoc]; rfl
          rw [htj] at ihj
          rw [goes_jmp]
          simp only [T_ref1_thread, goes_br, lt_len hj, nng, Bool.and_self, if_true, Int.toNat_natCast, getD_lt hj, wrap_succ (k := j) (by omega), hkn, hki, hap, index_contains]
          rw [drop_cons hj]
          unfold scanL
          by_cases h1 : nameRight ls[j] = false
          · rw [if_pos h1, if_pos (by show (! nameRight ls[j]) = true; rw [h1]; rfl)]; exact .leaf
          · rw [if_neg h1, if_neg (by show ¬ (! nameRight ls[j]) = true; simpa using h1)]
            by_cases h2 : (labels (t.take k) ++ ls.take j).contains ls[j] = true
            · rw [if_pos h2, if_pos h2]; exact .leaf
            · rw [if_neg h2, if_neg h2]; exact ihj
      have := inner 0 (Nat.zero_le _)
      rw [List.drop_zero, List.take_zero, List.append_nil] at this
      exact this
  unfold T0_ref1_thread v_ref1_thread
  have hkc : k_ref1_Count t = true := decide_eq_true hn
  simp only [goes_br, hkc, if_true]
  unfold threadC v_ref1_Count
  by_cases h : 4096 < countM t
  · rw [if_pos (by simp; omega), if_pos h]; exact .leaf
  · rw [if_neg (by simp; omega), if_neg h]
    exact main 0 (Nat.zero_le _)
end Go.Ev
end

section
set_option linter.unusedSectionVars false
set_option linter.unusedVariables false
set_option linter.unusedSimpArgs false
set_option maxRecDepth 100000
set_option linter.unusedVariables false
open Go Go.Ev
namespace Go.Ev
noncomputable def e_ref1_thread : Run := entG sg_ref1_thread R_ref1_thread (fun a => k_ref1_thread a.1 a.2.1) (fun a => v_ref1_thread a.1 a.2.1)
theorem ok_ref1_thread : EntOK Go.Proofs.Tryd.prog 63 e_ref1_thread := entG_ok (tb := tb_ref1_thread) (c := c_ref1_thread) tk_ref1_thread (by kernel_rfl) (by kernel_rfl) (by kernel_rfl) (fun a => by kernel_rfl) fun ⟨p, t, _⟩ hk => evF_goes (c := c_ref1_thread) (K := fun v => (R_ref1_thread v, tps (toForms sg_ref1_thread (p, t, ())))) (S := S_ref1_thread p t) (by kernel_rfl) (en_ref1_thread p t) (lp_ref1_thread p t) (g_ref1_thread p t hk)
end Go.Ev
end

section
set_option linter.unusedSectionVars false
set_option linter.unusedVariables false
set_option linter.unusedSimpArgs false
set_option maxRecDepth 100000
set_option linter.unusedVariables false
open Go Go.Ev
namespace Go.Ev
/-! ### paling/palingref1.Check -/
def sg_ref1_Check : Sig := [(true, T_api_Prog)]
noncomputable def t_ref1_Check : Tbl := [(62, e_ref1_Right), (63, e_ref1_thread)]
theorem tk_ref1_Check : ∀ p ∈ t_ref1_Check, EntOK Go.Proofs.Tryd.prog p.1 p.2 := tbl_cons ok_ref1_Right (tbl_cons ok_ref1_thread (tbl_nil))
noncomputable def c_ref1_Check : Code := Go.Proofs.Tryd.f32.body.getD .skip
def tb_ref1_Check : Tb := [(6, ⟨[1, 3], []⟩), (16, ⟨[1, 3, 4, 5, 52, 53, 54, 57, 58, 59, 60, 61, 62], []⟩), (26, ⟨[1, 6], []⟩)]
inductive J_ref1_Check where
  | l6 (i : Int)
  | l16 (x : ByteArray) (x1 : Int) (x2 : List Int) (i : Int) (k : Int)
  | l26 (i : Int)
def T_ref1_Check (p : El T_api_Prog) : J_ref1_Check → JT J_ref1_Check (Int)
  | .l6 i =>
    .br (decide (i < (Int.ofNat (List.length p.1))))
      (.br ((decide ((0 : Int) ≤ i)) && (decide (i < (Int.ofNat (List.length p.1)))))
        (.br (k_ref1_Right (List.getD p.1 (Int.toNat i) (dflt T_api_Sym)).1)
          (.br (! (v_ref1_Right (List.getD p.1 (Int.toNat i) (dflt T_api_Sym)).1))
            (.leaf (3 : Int))
          (.jmp (.l16 (List.getD p.1 (Int.toNat i) (dflt T_api_Sym)).1 (List.getD p.1 (Int.toNat i) (dflt T_api_Sym)).2.1 (List.getD p.1 (Int.toNat i) (dflt T_api_Sym)).2.2 i (0 : Int))))
        (.no))
      (.no))
    (.jmp (.l26 (0 : Int)))
  | .l16 x x1 x2 i k =>
    .br (decide (k < i))
      (.br ((decide ((0 : Int) ≤ k)) && (decide (k < (Int.ofNat (List.length p.1)))))
        (.br (eqB (List.getD p.1 (Int.toNat k) (dflt T_api_Sym)).1 x)
          (.leaf (6 : Int))
        (.jmp (.l16 x x1 x2 i (IntKind.i64.wrap (k + (1 : Int))))))
      (.no))
    (.br (decide (x1 < (1 : Int)))
      (.leaf (5 : Int))
    (.br (decide (x1 > (64 : Int)))
      (.leaf (5 : Int))
    (.br (decide ((Int.ofNat (List.length x2)) > x1))
      (.leaf (5 : Int))
    (.jmp (.l6 (IntKind.i64.wrap (i + (1 : Int))))))))
  | .l26 i =>
    .br (decide (i < (Int.ofNat (List.length p.2))))
      (.br ((decide ((0 : Int) ≤ i)) && (decide (i < (Int.ofNat (List.length p.2)))))
        (.br (k_ref1_thread p (List.getD p.2 (Int.toNat i) (dflt (.sl (.pr (.int .i64) (.pr .bool (.pr (.int .i64) (.pr (.pr (.int .i64) (.pr (.int .i64) (.pr (.int .i64) (.int .i64)))) (.pr (.pr (.int .i64) (.pr (.int .i64) (.pr (.int .i64) (.int .i64)))) (.pr .str (.sl .str)))))))))))
          (.br ((v_ref1_thread p (List.getD p.2 (Int.toNat i) (dflt (.sl (.pr (.int .i64) (.pr .bool (.pr (.int .i64) (.pr (.pr (.int .i64) (.pr (.int .i64) (.pr (.int .i64) (.int .i64)))) (.pr (.pr (.int .i64) (.pr (.int .i64) (.pr (.int .i64) (.int .i64)))) (.pr .str (.sl .str))))))))))) != (0 : Int))
            (.leaf (v_ref1_thread p (List.getD p.2 (Int.toNat i) (dflt (.sl (.pr (.int .i64) (.pr .bool (.pr (.int .i64) (.pr (.pr (.int .i64) (.pr (.int .i64) (.pr (.int .i64) (.int .i64)))) (.pr (.pr (.int .i64) (.pr (.int .i64) (.pr (.int .i64) (.int .i64)))) (.pr .str (.sl .str))))))))))))
          (.jmp (.l26 (IntKind.i64.wrap (i + (1 : Int))))))
        (.no))
      (.no))
    (.leaf (0 : Int))
def T0_ref1_Check (p : El T_api_Prog) : JT J_ref1_Check (Int) :=
  .br (decide ((Int.ofNat (List.length p.1)) > (64 : Int)))
    (.leaf (10 : Int))
  (.br (decide ((Int.ofNat (List.length p.2)) > (64 : Int)))
    (.leaf (10 : Int))
  (.jmp (.l6 (0 : Int))))
def R_ref1_Check : Int → AV := fun (r : Int) => .d (.int .i64) r
def S_ref1_Check (p : El T_api_Prog) : J_ref1_Check → Nat × St
  | .l6 i => (6, ⟨mkTm 81 [(1, .pt 2 0 0), (3, .d (.int .i64) i)], [(2, 0, .box 49 [.d (.sl T_api_Sym) p.1, .d (.sl (.sl T_api_Ins)) p.2])]⟩)
  | .l16 x x1 x2 i k => (16, ⟨mkTm 81 [(1, .pt 2 0 0), (3, .d (.int .i64) i), (4, .pt 5 0 0), (5, .d (.int .i64) k)], [(2, 0, .box 49 [.d (.sl T_api_Sym) p.1, .d (.sl (.sl T_api_Ins)) p.2]), (5, 0, .box 60 [.d .str x, .d (.int .i64) x1, .d (.sl (.int .i64)) x2])]⟩)
  | .l26 i => (26, ⟨mkTm 81 [(1, .pt 2 0 0), (6, .d (.int .i64) i)], [(2, 0, .box 49 [.d (.sl T_api_Sym) p.1, .d (.sl (.sl T_api_Ins)) p.2])]⟩)
theorem en_ref1_Check (p : El T_api_Prog) (L : Lt) : entryA Go.Proofs.Tryd.prog (clOf t_ref1_Check) tb_ref1_Check Go.Proofs.Tryd.f32 c_ref1_Check L (toForms sg_ref1_Check (p, ())) = (T0_ref1_Check p).run (fun v => some (R_ref1_Check v, tps (toForms sg_ref1_Check (p, ())))) fun j => L (S_ref1_Check p j).1 (S_ref1_Check p j).2 := by kernel_rfl
theorem lp_ref1_Check (p : El T_api_Prog) : ∀ (L : Lt) (j : J_ref1_Check), procOf (procsF Go.Proofs.Tryd.prog (clOf t_ref1_Check) tb_ref1_Check Go.Proofs.Tryd.f32 c_ref1_Check (toForms sg_ref1_Check (p, ()))) (S_ref1_Check p j).1 L (S_ref1_Check p j).2 = (T_ref1_Check p j).run (fun v => some (R_ref1_Check v, tps (toForms sg_ref1_Check (p, ())))) fun j => L (S_ref1_Check p j).1 (S_ref1_Check p j).2
  | L, .l6 i => by kernel_rfl
  | L, .l16 x x1 x2 i k => by kernel_rfl
  | L, .l26 i => by kernel_rfl
end Go.Ev
end

section
set_option linter.unusedSectionVars false
set_option linter.unusedVariables false
set_option linter.unusedSimpArgs false
set_option linter.unusedVariables false
set_option linter.unusedSimpArgs false
open Go
namespace Go.Ev
def v_ref1_Check (p : El T_api_Prog) : Int := checkC p
def k_ref1_Check (p : El T_api_Prog) : Bool := smallProg p
theorem g_ref1_Check (p : El T_api_Prog) (hk : k_ref1_Check p = true) : Goes (T_ref1_Check p) (T0_ref1_Check p) (v_ref1_Check p) := by
  have hth : ∀ t ∈ p.2, smallThread t = true := by
    unfold k_ref1_Check smallProg at hk
    simp only [Bool.and_eq_true, List.all_eq_true] at hk
    exact hk.2
  have hsy : ∀ s ∈ p.1, smallText s.1 = true := by
    unfold k_ref1_Check smallProg at hk
    simp only [Bool.and_eq_true, List.all_eq_true] at hk
    exact hk.1
  obtain ⟨sy, th⟩ := p
  dsimp only at hth hsy
  have ths : th.length ≤ 64 → ∀ k, k ≤ th.length → Goes (T_ref1_Check (sy, th)) (.jmp (.l26 (k : Int))) (thsC (sy, th) (th.drop k)) := by
    intro hn
    refine down ?_ fun k hk ih => ?_
    · rw [goes_jmp]
      simp only [T_ref1_Check, goes_br, lt_len_not (Nat.lt_irrefl _), goes_leaf, List.drop_length]
      simp [thsC]
    · have hkt : k_ref1_thread (sy, th) th[k] = true := hth _ (List.getElem_mem hk)
      rw [goes_jmp]
      simp only [T_ref1_Check, goes_br, lt_len hk, nng, Bool.and_self, if_true, Int.toNat_natCast, getD_lt hk, wrap_succ (k := k) (by omega), hkt]
      rw [drop_cons hk]
      unfold thsC
      show (if (threadC (sy, th) th[k] != 0) = true then _ else _)
      by_cases h : threadC (sy, th) th[k] = 0
      · rw [if_neg (by simp [h]), if_neg (by simp [h])]; exact ih
      · rw [if_pos (by simp [h]), if_pos h]; exact .leaf

  have main : sy.length ≤ 64 → th.length ≤ 64 → ∀ k, k ≤ sy.length → Goes (T_ref1_Check (sy, th)) (.jmp (.l6 (k : Int))) (symsC (thsC (sy, th) th) ((sy.take k).map fun s => s.1) (sy.drop k)) := by
    intro hn hm
    refine down ?_ fun k hk ih => ?_
    · rw [goes_jmp, List.drop_length]
      unfold symsC
      simp only [T_ref1_Check, goes_br, lt_len_not (Nat.lt_irrefl _)]
      rw [if_neg (by decide)]
      simpa using ths hm 0 (Nat.zero_le _)
    · have hkn : k_ref1_Right sy[k].1 = true := hsy _ (List.getElem_mem hk)
      have htk : (sy.take (k + 1)).map (fun s => s.1) = (sy.take k).map (fun s => s.1) ++ [sy[k].1] := by
        rw [List.take_add_one, List.getElem?_eq_getElem hk, List.map_append]; rfl
      rw [htk] at ih
      rw [goes_jmp]
      simp only [T_ref1_Check, goes_br, lt_len hk, nng, Bool.and_self, if_true, Int.toNat_natCast, getD_lt hk, hkn]
      rw [drop_cons hk]
      unfold symsC
      generalize sy[k] = s at ih hkn
      obtain ⟨nm, size, init⟩ := s
      dsimp only at ih hkn ⊢
      change Int at size
      by_cases h1 : nameRight nm = false
      · rw [if_pos h1, if_pos (by show (! nameRight nm) = true; rw [h1]; rfl)]; exact .leaf
      rw [if_neg h1, if_neg (by show ¬ (! nameRight nm) = true; simpa using h1)]
      have inner : ∀ j, j ≤ k → Goes (T_ref1_Check (sy, th)) (.jmp (.l16 nm size init (k : Int) (j : Int))) (if (((sy.take k).drop j).map (fun s => s.1)).contains nm = true then 6 else if size < (1 : Int) ∨ (64 : Int) < size ∨ size < (List.length init : Int) then 5 else symsC (thsC (sy, th) th) ((sy.take k).map (fun s => s.1) ++ [nm]) (sy.drop (k + 1))) := by
        refine down ?_ fun j hj ihj => ?_
        · rw [goes_jmp]
          have : (sy.take k).drop k = [] := List.drop_eq_nil_of_le (by rw [List.length_take]; omega)
          rw [this]
          simp only [T_ref1_Check, goes_br, wrap_succ (k := k) (by omega)]
          rw [if_neg (by simp)]
          simp only [List.map_nil, List.contains_nil, Bool.false_eq_true, if_false]
          by_cases h3 : size < 1
          · rw [if_pos (decide_eq_true h3), if_pos (.inl h3)]; exact .leaf
          rw [if_neg (by simpa using h3)]
          by_cases h4 : 64 < size
          · rw [if_pos (decide_eq_true h4), if_pos (.inr (.inl h4))]; exact .leaf
          rw [if_neg (by simpa using h4)]
          by_cases h5 : size < (List.length init : Int)
          · rw [if_pos (show decide (Int.ofNat (List.length init) > size) = true from decide_eq_true h5), if_pos (.inr (.inr h5))]; exact .leaf
          rw [if_neg (show ¬ decide (Int.ofNat (List.length init) > size) = true by simpa using h5), if_neg (by rintro (h | h | h) <;> contradiction)]
          exact ih
        · have hjs : j < sy.length := by omega
          have hjt : j < (sy.take k).length := by rw [List.length_take]; omega
          rw [goes_jmp, drop_cons hjt, List.map_cons, List.contains_cons, List.getElem_take]
          simp only [T_ref1_Check, goes_br, lt_len hjs, nng, Bool.and_self, if_true, Int.toNat_natCast, getD_lt hjs, wrap_succ (k := j) (by omega), eqB_iff]
          rw [if_pos (by simp; omega)]
          by_cases h2 : sy[j].1 = nm
          · rw [if_pos h2, if_pos (by rw [h2]; simp)]; exact .leaf
          · rw [if_neg h2, beq_false_of_ne (Ne.symm h2), Bool.false_or]; exact ihj
      simpa using inner 0 (Nat.zero_le _)
  unfold T0_ref1_Check v_ref1_Check checkC
  simp only [goes_br]
  by_cases h : 64 < sy.length
  · rw [if_pos (by simp; omega), if_pos (.inl h)]; exact .leaf
  rw [if_neg (by simp; omega)]
  by_cases h2 : 64 < th.length
  · rw [if_pos (by simp; omega), if_pos (.inr h2)]; exact .leaf
  rw [if_neg (by simp; omega), if_neg (by rintro (h | h) <;> contradiction)]
  exact main (by omega) (by omega) 0 (Nat.zero_le _)
end Go.Ev
end

section
set_option linter.unusedSectionVars false
set_option linter.unusedVariables false
set_option linter.unusedSimpArgs false
set_option maxRecDepth 100000
set_option linter.unusedVariables false
open Go Go.Ev
namespace Go.Ev
noncomputable def e_ref1_Check : Run := entG sg_ref1_Check R_ref1_Check (fun a => k_ref1_Check a.1) (fun a => v_ref1_Check a.1)
theorem ok_ref1_Check : EntOK Go.Proofs.Tryd.prog 32 e_ref1_Check := entG_ok (tb := tb_ref1_Check) (c := c_ref1_Check) tk_ref1_Check (by kernel_rfl) (by kernel_rfl) (by kernel_rfl) (fun a => by kernel_rfl) fun ⟨p, _⟩ hk => evF_goes (c := c_ref1_Check) (K := fun v => (R_ref1_Check v, tps (toForms sg_ref1_Check (p, ())))) (S := S_ref1_Check p) (by kernel_rfl) (en_ref1_Check p) (lp_ref1_Check p) (g_ref1_Check p hk)
end Go.Ev
end

section
set_option linter.unusedSectionVars false
set_option linter.unusedVariables false
set_option linter.unusedSimpArgs false
/- Chapter 8: what is not great is small. -/
set_option maxRecDepth 100000
set_option linter.unusedVariables false
set_option linter.unusedSimpArgs false
namespace Go.Ev
open Go
theorem k_alive8 : k_law8_alive = true := by decide +kernel
theorem v_alive8 : v_law8_alive = true := by decide +kernel
theorem smallText_of {s : ByteArray} (h : s.size ≤ 60) : smallText s = true := decide_eq_true (by omega)
theorem great_ins {i : El T_api_Ins} (h : v_book_GreatIns i = false) : i.2.2.2.2.2.2.length ≤ 6 ∧ smallText i.2.2.2.2.2.1 = true ∧ ∀ l ∈ i.2.2.2.2.2.2, smallText l = true := by
  unfold v_book_GreatIns at h
  simp only [Bool.or_eq_false_iff, decide_eq_false_iff_not, List.any_eq_false, decide_eq_true_eq] at h
  exact ⟨by omega, smallText_of (by omega), fun l hl => smallText_of (by have := h.2.2 l hl; omega)⟩
theorem labels_le {t : List (El T_api_Ins)} {n : Nat} (h : ∀ i ∈ t, i.2.2.2.2.2.2.length ≤ n) : (labels t).length ≤ n * t.length := by
  unfold labels
  induction t with
  | nil => simp
  | cons i t ih =>
    rw [List.flatMap_cons, List.length_append, List.length_cons, Nat.mul_add, Nat.mul_one]
    have h1 := h i (List.mem_cons_self ..)
    have h2 := ih fun j hj => h j (List.mem_cons_of_mem _ hj)
    omega
theorem great_thread {t : List (El T_api_Ins)} (h : v_book_GreatThread t = false) : smallThread t = true := by
  unfold v_book_GreatThread at h
  simp only [Bool.or_eq_false_iff, decide_eq_false_iff_not, List.any_eq_false, Bool.not_eq_true] at h
  have hl := labels_le (t := t) (n := 6) fun i hi => (great_ins (h.2 i hi)).1
  unfold smallThread
  simp only [Bool.and_eq_true, decide_eq_true_eq, List.all_eq_true]
  exact ⟨by omega, by omega, fun i hi => ⟨(great_ins (h.2 i hi)).2.1, (great_ins (h.2 i hi)).2.2⟩⟩
theorem great_prog {p : El T_api_Prog} (h : v_book_Great p = false) : smallProg p = true := by
  unfold v_book_Great at h
  simp only [Bool.or_eq_false_iff, decide_eq_false_iff_not, List.any_eq_false, Bool.not_eq_true] at h
  unfold smallProg
  simp only [Bool.and_eq_true, List.all_eq_true]
  refine ⟨fun s hs => smallText_of ?_, fun t ht => great_thread (h.2.2.2 t ht)⟩
  have := (h.2.2.1 s hs)
  omega
end Go.Ev
end

section
set_option linter.unusedSectionVars false
set_option linter.unusedVariables false
set_option linter.unusedSimpArgs false
/- The helper Pick, and what is made with it. -/
set_option linter.unusedVariables false
namespace Go.Ev
open Go
theorem pick_lt {n m : Int} (h1 : 0 < m) (h2 : m < 9223372036854775808) : k_book_Pick n m = true ∧ 0 ≤ v_book_Pick n m ∧ v_book_Pick n m < m := by
  have h0 : (m == 0) = false := by simp; omega
  have hl : Int.tmod n m < m := Int.tmod_lt_of_pos n h1
  have hg : -m < Int.tmod n m := by have := Int.tmod_lt_of_pos (-n) h1; rw [Int.neg_tmod] at this; omega
  unfold k_book_Pick v_book_Pick
  simp only [h0, cond_false, Bool.cond_self, true_and]
  by_cases hn : Int.tmod n m < 0
  · simp only [hn, decide_true, cond_true]
    rw [wrap_i64 (by omega) (by omega)]
    omega
  · simp only [hn, decide_false, cond_false]
    omega
theorem pick_fin {P : Int → Prop} {n m : Int} (h1 : 0 < m) (h2 : m < 9223372036854775808) (h : ∀ k : Fin m.toNat, P (k.1 : Int)) : P (v_book_Pick n m) := by
  obtain ⟨_, h3, h4⟩ := pick_lt (n := n) h1 h2
  have := h ⟨(v_book_Pick n m).toNat, by omega⟩
  rwa [Int.toNat_of_nonneg h3] at this
end Go.Ev
end

section
set_option linter.unusedSectionVars false
set_option linter.unusedVariables false
set_option linter.unusedSimpArgs false
set_option maxRecDepth 100000
set_option linter.unusedVariables false
open Go Go.Ev
namespace Go.Ev
/-! ### paling/palinglaw8.ValidLong -/
def sg_law8_ValidLong : Sig := [(false, (.int .i64)), (false, (.int .i64))]
noncomputable def t_law8_ValidLong : Tbl := [(19, e_book_Pick), (31, e_valid_Check), (37, e_valid_Count), (30, e_law8_alive)]
theorem tk_law8_ValidLong : ∀ p ∈ t_law8_ValidLong, EntOK Go.Proofs.Tryd.prog p.1 p.2 := tbl_cons ok_book_Pick (tbl_cons ok_valid_Check (tbl_cons ok_valid_Count (tbl_cons ok_law8_alive (tbl_nil))))
noncomputable def c_law8_ValidLong : Code := Go.Proofs.Tryd.f11.body.getD .skip
def tb_law8_ValidLong : Tb := [(5, ⟨[0, 1, 5, 6, 52, 53, 54, 55, 56, 59, 60, 61, 62, 63, 64, 67], [(6145, 122)]⟩), (11, ⟨[0, 1, 5, 7, 52, 53, 54, 55, 56, 59, 60, 61, 62, 63, 64, 67], []⟩)]
inductive J_law8_ValidLong where
  | l5 (i : Int) (t : List (El T_api_Ins))
  | l11 (t : List (El T_api_Ins)) (i : Int)
def T_law8_ValidLong (n : Int) (fences : Int) : J_law8_ValidLong → JT J_law8_ValidLong (Bool)
  | .l5 i t =>
    .br (decide (i < (IntKind.i64.wrap ((4094 : Int) + (v_book_Pick n (3 : Int))))))
      (.br (Nat.ble (((List.length t) + 1) * 128) limit)
        (.jmp (.l5 (IntKind.i64.wrap (i + (1 : Int))) (t ++ [((13 : Int), (false, ((0 : Int), (((0 : Int), ((0 : Int), ((0 : Int), (0 : Int)))), (((0 : Int), ((0 : Int), ((0 : Int), (0 : Int)))), ((bs []), []))))))])))
      (.no))
    (.jmp (.l11 t (0 : Int)))
  | .l11 t i =>
    .br (decide (i < (v_book_Pick fences (4 : Int))))
      (.br (Nat.ble (((List.length t) + 1) * 128) limit)
        (.jmp (.l11 (t ++ [((12 : Int), (false, ((0 : Int), (((0 : Int), ((0 : Int), ((0 : Int), (0 : Int)))), (((0 : Int), ((0 : Int), ((0 : Int), (0 : Int)))), ((bs []), []))))))]) (IntKind.i64.wrap (i + (1 : Int)))))
      (.no))
    (.br (Nat.ble (((List.length t) + 1) * 128) limit)
      (.br (k_valid_Check ([], [(t ++ [((14 : Int), (false, ((0 : Int), (((0 : Int), ((0 : Int), ((0 : Int), (0 : Int)))), (((0 : Int), ((0 : Int), ((0 : Int), (0 : Int)))), ((bs []), []))))))])]))
        (.br (k_valid_Count (t ++ [((14 : Int), (false, ((0 : Int), (((0 : Int), ((0 : Int), ((0 : Int), (0 : Int)))), (((0 : Int), ((0 : Int), ((0 : Int), (0 : Int)))), ((bs []), []))))))]))
          (.br ((v_valid_Count (t ++ [((14 : Int), (false, ((0 : Int), (((0 : Int), ((0 : Int), ((0 : Int), (0 : Int)))), (((0 : Int), ((0 : Int), ((0 : Int), (0 : Int)))), ((bs []), []))))))])) == (IntKind.i64.wrap ((IntKind.i64.wrap ((4094 : Int) + (v_book_Pick n (3 : Int)))) + (1 : Int))))
            (.br (((v_valid_Check ([], [(t ++ [((14 : Int), (false, ((0 : Int), (((0 : Int), ((0 : Int), ((0 : Int), (0 : Int)))), (((0 : Int), ((0 : Int), ((0 : Int), (0 : Int)))), ((bs []), []))))))])])) == (0 : Int)) == (decide ((IntKind.i64.wrap ((4094 : Int) + (v_book_Pick n (3 : Int)))) < (4096 : Int))))
              (.br ((v_valid_Check ([], [(t ++ [((14 : Int), (false, ((0 : Int), (((0 : Int), ((0 : Int), ((0 : Int), (0 : Int)))), (((0 : Int), ((0 : Int), ((0 : Int), (0 : Int)))), ((bs []), []))))))])])) == (0 : Int))
                (.br k_law8_alive
                  (.leaf v_law8_alive)
                (.no))
              (.br ((v_valid_Check ([], [(t ++ [((14 : Int), (false, ((0 : Int), (((0 : Int), ((0 : Int), ((0 : Int), (0 : Int)))), (((0 : Int), ((0 : Int), ((0 : Int), (0 : Int)))), ((bs []), []))))))])])) == (10 : Int))
                (.br k_law8_alive
                  (.leaf v_law8_alive)
                (.no))
              (.leaf false)))
            (.leaf false))
          (.leaf false))
        (.no))
      (.no))
    (.no))
def T0_law8_ValidLong (n : Int) (fences : Int) : JT J_law8_ValidLong (Bool) :=
  .br (k_book_Pick n (3 : Int))
    (.br (k_book_Pick fences (4 : Int))
      (.jmp (.l5 (0 : Int) []))
    (.no))
  (.no)
def R_law8_ValidLong : Bool → AV := fun (r : Bool) => .d .bool r
def S_law8_ValidLong (n : Int) (fences : Int) : J_law8_ValidLong → Nat × St
  | .l5 i t => (5, ⟨mkTm 69 [(0, .d (.int .i64) (IntKind.i64.wrap ((4094 : Int) + (v_book_Pick n (3 : Int))))), (1, .d (.int .i64) (v_book_Pick fences (4 : Int))), (5, .pt 6 0 0), (6, .d (.int .i64) i)], [(6, 0, .box 63 [.own 6145 0 none]), (6145, 0, .row 26 T_api_Ins t false)]⟩)
  | .l11 t i => (11, ⟨mkTm 69 [(0, .d (.int .i64) (IntKind.i64.wrap ((4094 : Int) + (v_book_Pick n (3 : Int))))), (1, .d (.int .i64) (v_book_Pick fences (4 : Int))), (5, .pt 6 0 0), (7, .d (.int .i64) i)], [(6, 0, .box 63 [.own 6145 0 none]), (6145, 0, .row 26 T_api_Ins t false)]⟩)
theorem en_law8_ValidLong (n : Int) (fences : Int) (L : Lt) : entryA Go.Proofs.Tryd.prog (clOf t_law8_ValidLong) tb_law8_ValidLong Go.Proofs.Tryd.f11 c_law8_ValidLong L (toForms sg_law8_ValidLong (n, fences, ())) = (T0_law8_ValidLong n fences).run (fun v => some (R_law8_ValidLong v, tps (toForms sg_law8_ValidLong (n, fences, ())))) fun j => L (S_law8_ValidLong n fences j).1 (S_law8_ValidLong n fences j).2 := by kernel_rfl
theorem lp_law8_ValidLong (n : Int) (fences : Int) : ∀ (L : Lt) (j : J_law8_ValidLong), procOf (procsF Go.Proofs.Tryd.prog (clOf t_law8_ValidLong) tb_law8_ValidLong Go.Proofs.Tryd.f11 c_law8_ValidLong (toForms sg_law8_ValidLong (n, fences, ()))) (S_law8_ValidLong n fences j).1 L (S_law8_ValidLong n fences j).2 = (T_law8_ValidLong n fences j).run (fun v => some (R_law8_ValidLong v, tps (toForms sg_law8_ValidLong (n, fences, ())))) fun j => L (S_law8_ValidLong n fences j).1 (S_law8_ValidLong n fences j).2
  | L, .l5 i t => by kernel_rfl
  | L, .l11 t i => by kernel_rfl
end Go.Ev
end

section
set_option linter.unusedSectionVars false
set_option linter.unusedVariables false
set_option linter.unusedSimpArgs false
set_option maxRecDepth 100000
set_option linter.unusedVariables false
set_option linter.unusedSimpArgs false
open Go
namespace Go.Ev
def v_law8_ValidLong (n fences : Int) : Bool := true
def k_law8_ValidLong (n fences : Int) : Bool := true
/-- An instruction of nothing but its op. -/
def bare (op : Int) : El T_api_Ins := (op, (false, ((0 : Int), (((0 : Int), ((0 : Int), ((0 : Int), (0 : Int)))), (((0 : Int), ((0 : Int), ((0 : Int), (0 : Int)))), ((bs []), []))))))
theorem bare_right {op : Int} (h : op = 12 ∨ op = 13 ∨ op = 14) : v_ins_Right (bare op) = 0 := by rcases h with rfl | rfl | rfl <;> decide +kernel
theorem bare_insC {p : El T_api_Prog} {op : Int} (h : op = 12 ∨ op = 13 ∨ op = 14) : insC p (bare op) = 0 := by
  unfold insC
  rw [bare_right h]
  rfl
theorem scanI_bare {p : El T_api_Prog} {K : List ByteArray → Int} {seen : List ByteArray} : ∀ {t : List (El T_api_Ins)}, (∀ i ∈ t, ∃ op, i = bare op ∧ (op = 12 ∨ op = 13 ∨ op = 14)) → scanI p K seen t = K seen
  | [], _ => rfl
  | i :: r, h => by
    obtain ⟨op, rfl, ho⟩ := h i (List.mem_cons_self ..)
    unfold scanI
    show scanL seen _ [] = _
    unfold scanL
    rw [bare_insC ho]
    simp only [ne_eq, not_true_eq_false, if_false]
    exact scanI_bare fun j hj => h j (List.mem_cons_of_mem _ hj)
theorem jumpC_bare {seen : List ByteArray} : ∀ {t : List (El T_api_Ins)}, (∀ i ∈ t, ∃ op, i = bare op ∧ (op = 12 ∨ op = 13 ∨ op = 14)) → jumpC seen t = 0
  | [], _ => rfl
  | i :: r, h => by
    obtain ⟨op, rfl, ho⟩ := h i (List.mem_cons_self ..)
    unfold jumpC
    rw [if_neg (by rcases ho with rfl | rfl | rfl <;> decide)]
    exact jumpC_bare fun j hj => h j (List.mem_cons_of_mem _ hj)
theorem small_bare {t : List (El T_api_Ins)} (hn : t.length < 1099511627776) (h : ∀ i ∈ t, ∃ op, i = bare op ∧ (op = 12 ∨ op = 13 ∨ op = 14)) : smallThread t = true := by
  have hl := labels_le (t := t) (n := 0) fun i hi => by obtain ⟨op, rfl, _⟩ := h i hi; exact Nat.le_refl _
  unfold smallThread
  simp only [Bool.and_eq_true, decide_eq_true_eq, List.all_eq_true]
  refine ⟨hn, by omega, fun i hi => ?_⟩
  obtain ⟨op, rfl, _⟩ := h i hi
  exact ⟨(by decide : smallText (bs []) = true), fun l hl => by cases hl⟩
theorem threadC_bare {p : El T_api_Prog} {t : List (El T_api_Ins)} (h : ∀ i ∈ t, ∃ op, i = bare op ∧ (op = 12 ∨ op = 13 ∨ op = 14)) : threadC p (t ++ [bare 14]) = if 4096 < countM (t ++ [bare 14]) then 10 else 0 := by
  have h' : ∀ i ∈ t ++ [bare 14], ∃ op, i = bare op ∧ (op = 12 ∨ op = 13 ∨ op = 14) := fun i hi => by
    rcases List.mem_append.1 hi with hi | hi
    · exact h i hi
    · rw [List.mem_singleton] at hi; exact ⟨14, hi, .inr (.inr rfl)⟩
  unfold threadC
  rw [scanI_bare h', jumpC_bare h']
  unfold endC
  rw [List.getLast?_append]
  rfl
theorem g_law8_ValidLong (n fences : Int) (hk : k_law8_ValidLong n fences = true) : Goes (T_law8_ValidLong n fences) (T0_law8_ValidLong n fences) (v_law8_ValidLong n fences) := by
  obtain ⟨kn, n0, n3⟩ := pick_lt (n := n) (m := 3) (by omega) (by omega)
  obtain ⟨kf, f0, f4⟩ := pick_lt (n := fences) (m := 4) (by omega) (by omega)
  unfold T0_law8_ValidLong v_law8_ValidLong
  simp only [goes_br, kn, kf, if_true]
  obtain ⟨a, ha⟩ : ∃ a : Nat, v_book_Pick n 3 = (a : Int) := ⟨_, (Int.toNat_of_nonneg n0).symm⟩
  obtain ⟨b, hb⟩ : ∃ b : Nat, v_book_Pick fences 4 = (b : Int) := ⟨_, (Int.toNat_of_nonneg f0).symm⟩
  have hN : IntKind.i64.wrap ((4094 : Int) + v_book_Pick n 3) = ((4094 + a : Nat) : Int) := by rw [ha, wrap_i64 (by omega) (by omega)]; omega
  have ha3 : a < 3 := by omega
  have hb4 : b < 4 := by omega
  have hbare : ∀ j, ∀ i ∈ List.replicate (4094 + a) (bare 13) ++ List.replicate j (bare 12), ∃ op, i = bare op ∧ (op = 12 ∨ op = 13 ∨ op = 14) := fun j i hi => by
    rcases List.mem_append.1 hi with hi | hi
    · exact ⟨13, (List.mem_replicate.1 hi).2, .inr (.inl rfl)⟩
    · exact ⟨12, (List.mem_replicate.1 hi).2, .inl rfl⟩
  have hcount : countM (List.replicate (4094 + a) (bare 13) ++ List.replicate b (bare 12) ++ [bare 14]) = 4094 + a + 1 := by
    unfold countM
    rw [List.filter_append, List.filter_append, List.filter_replicate_of_pos (by decide), List.filter_replicate_of_neg (by decide)]
    simp only [List.append_nil, List.length_append, List.length_replicate]
    rfl
  have hlen : (List.replicate (4094 + a) (bare 13) ++ List.replicate b (bare 12) ++ [bare 14]).length = 4094 + a + b + 1 := by simp; omega
  have hthr := fun p => threadC_bare (p := p) (hbare b)
  simp only [hcount] at hthr
  have hsm : smallThread (List.replicate (4094 + a) (bare 13) ++ List.replicate b (bare 12) ++ [bare 14]) = true := small_bare (by omega) fun i hi => by
    rcases List.mem_append.1 hi with hi | hi
    · exact hbare b i hi
    · rw [List.mem_singleton] at hi; exact ⟨14, hi, .inr (.inr rfl)⟩
  have hchk : ∀ t : List (El T_api_Ins), (∀ p, threadC p t = if 4096 < 4094 + a + 1 then 10 else 0) → v_valid_Check ([], [t]) = if 4096 < 4094 + a + 1 then 10 else 0 := fun t h => by
    unfold v_valid_Check checkC
    rw [if_neg (by simp)]
    show thsC _ [t] = _
    unfold thsC
    rw [h]
    by_cases h1 : 4096 < 4094 + a + 1
    · rw [if_pos h1]; rfl
    · rw [if_neg h1]; rfl
  have hks : ∀ t : List (El T_api_Ins), smallThread t = true → k_valid_Check ([], [t]) = true := fun t h => by
    unfold k_valid_Check smallProg
    simp [h]
  have hble : ∀ m : Nat, m < 5000 → Nat.ble ((m + 1) * 128) limit = true := fun m h => by apply Nat.ble_eq_true_of_le; unfold limit; omega
  have l11 : ∀ j, j ≤ b → Goes (T_law8_ValidLong n fences) (.jmp (.l11 (List.replicate (4094 + a) (bare 13) ++ List.replicate j (bare 12)) (j : Int))) true := by
    refine down ?_ fun j hj ih => ?_
    · rw [goes_jmp]
      have hb' := hble (List.replicate (4094 + a) (bare 13) ++ List.replicate b (bare 12)).length (by simp; omega)
      have hk1 := hks _ hsm
      have hc1 := hchk _ hthr
      have hk2 : k_valid_Count (List.replicate (4094 + a) (bare 13) ++ List.replicate b (bare 12) ++ [bare 14]) = true := decide_eq_true (by omega)
      have hc2 : v_valid_Count (List.replicate (4094 + a) (bare 13) ++ List.replicate b (bare 12) ++ [bare 14]) = ((4094 + a + 1 : Nat) : Int) := by unfold v_valid_Count; rw [hcount]
      simp only [T_law8_ValidLong, goes_br, hb, hN]
      rw [if_neg (by simp)]
      unfold bare at hb' hk1 hc1 hk2 hc2 ⊢
      simp only [hb', hk1, hk2, hc1, hc2, if_true]
      have hw : IntKind.i64.wrap (((4094 + a : Nat) : Int) + 1) = ((4094 + a + 1 : Nat) : Int) := wrap_succ (by omega)
      rw [hw]
      by_cases h1 : 4096 < 4094 + a + 1
      · rw [if_pos h1]
        have h2 : decide (((4094 + a : Nat) : Int) < 4096) = false := by simp; omega
        simp only [h2, k_alive8, v_alive8]
        simp [goes_leaf]
      · rw [if_neg h1]
        have h2 : decide (((4094 + a : Nat) : Int) < 4096) = true := by simp; omega
        simp only [h2, k_alive8, v_alive8]
        simp [goes_leaf]
    · rw [goes_jmp]
      have hb' := hble (List.replicate (4094 + a) (bare 13) ++ List.replicate j (bare 12)).length (by simp; omega)
      have hs : List.replicate (4094 + a) (bare 13) ++ List.replicate j (bare 12) ++ [bare 12] = List.replicate (4094 + a) (bare 13) ++ List.replicate (j + 1) (bare 12) := by rw [List.append_assoc, ← List.replicate_succ']
      rw [← hs] at ih
      simp only [T_law8_ValidLong, goes_br, hb, hb', wrap_succ (k := j) (by omega), if_true]
      rw [if_pos (by simp; omega)]
      exact ih
  have l5 : ∀ j, j ≤ 4094 + a → Goes (T_law8_ValidLong n fences) (.jmp (.l5 (j : Int) (List.replicate j (bare 13)))) true := by
    refine down ?_ fun j hj ih => ?_
    · rw [goes_jmp]
      simp only [T_law8_ValidLong, goes_br, hN]
      rw [if_neg (by simp)]
      have := l11 0 (Nat.zero_le _)
      rw [List.replicate_zero, List.append_nil] at this
      exact this
    · rw [goes_jmp]
      have hb' := hble (List.replicate j (bare 13)).length (by simp; omega)
      rw [List.replicate_succ'] at ih
      simp only [T_law8_ValidLong, goes_br, hN, hb', wrap_succ (k := j) (by omega), if_true]
      rw [if_pos (by simp; omega)]
      exact ih
  exact l5 0 (Nat.zero_le _)
end Go.Ev
end

section
set_option linter.unusedSectionVars false
set_option linter.unusedVariables false
set_option linter.unusedSimpArgs false
set_option maxRecDepth 100000
set_option linter.unusedVariables false
set_option linter.unusedSimpArgs false
open Go
namespace Go.Ev
def v_law8_ValidMany (syms size threads : Int) : Bool := true
def k_law8_ValidMany (syms size threads : Int) : Bool := true
def nmS (i : Nat) : ByteArray := bs [115] ++ v_ref1_Text (i : Int)
def symN (size : Int) (k : Nat) : List (El T_api_Sym) := (List.range k).map fun i => (nmS i, (size, [(1 : Int)]))
theorem symN_succ (size : Int) (k : Nat) : symN size (k + 1) = symN size k ++ [(nmS k, (size, [(1 : Int)]))] := by unfold symN; rw [List.range_succ, List.map_append]; rfl
theorem symN_len (size : Int) (k : Nat) : (symN size k).length = k := by unfold symN; simp
theorem nmS_small : ∀ i : Fin 70, smallText (nmS i.1) = true := by decide +kernel
theorem nmS_size : ∀ i : Fin 70, (v_ref1_Text (i.1 : Int)).size < 100 := by decide +kernel
theorem sym63 (K : Int) : symsC K [] (symN 63 63) = K ∧ symsC K [] (symN 64 63) = K ∧ symsC K [] (symN 65 63) = 5 := ⟨by kernel_rfl, by kernel_rfl, by kernel_rfl⟩
theorem sym64 (K : Int) : symsC K [] (symN 63 64) = K ∧ symsC K [] (symN 64 64) = K ∧ symsC K [] (symN 65 64) = 5 := ⟨by kernel_rfl, by kernel_rfl, by kernel_rfl⟩
theorem ths_bare (p : El T_api_Prog) : ∀ m, thsC p (List.replicate m [bare 14]) = 0
  | 0 => rfl
  | m + 1 => by
    rw [List.replicate_succ]
    unfold thsC
    have : threadC p [bare 14] = 0 := by
      have := threadC_bare (p := p) (t := []) (fun i hi => by cases hi)
      rw [List.nil_append] at this
      rw [this]; rfl
    rw [this]
    simp only [ne_eq, not_true_eq_false, if_false]
    exact ths_bare p m
theorem g_law8_ValidMany (syms size threads : Int) (hk : k_law8_ValidMany syms size threads = true) : Goes (T_law8_ValidMany syms size threads) (T0_law8_ValidMany syms size threads) (v_law8_ValidMany syms size threads) := by
  obtain ⟨ks, s0, s3⟩ := pick_lt (n := syms) (m := 3) (by omega) (by omega)
  obtain ⟨kz, z0, z3⟩ := pick_lt (n := size) (m := 3) (by omega) (by omega)
  obtain ⟨kt, t0, t3⟩ := pick_lt (n := threads) (m := 3) (by omega) (by omega)
  unfold T0_law8_ValidMany v_law8_ValidMany
  simp only [goes_br, ks, kz, kt, if_true]
  have hw : ∀ x : Int, 0 ≤ x → x < 3 → ∃ a : Nat, a < 3 ∧ IntKind.i64.wrap (IntKind.i64.wrap (x + 64) - 1) = ((63 + a : Nat) : Int) := fun x h0 h3 => ⟨x.toNat, by omega, by
    rw [wrap_i64 (n := x + 64) (by omega) (by omega), wrap_i64 (by omega) (by omega)]
    omega⟩
  obtain ⟨a, ha, eS⟩ := hw _ s0 s3
  obtain ⟨z, hz, eZ⟩ := hw _ z0 z3
  obtain ⟨t, ht, eT⟩ := hw _ t0 t3
  have hgt : ∀ b : Nat, decide (((63 + b : Nat) : Int) > 64) = decide (1 < b) := fun b => by
    rw [Bool.eq_iff_iff, decide_eq_true_iff, decide_eq_true_iff]; omega
  have hsm : smallProg (symN ((63 + z : Nat) : Int) (63 + a), List.replicate (63 + t) [bare 14]) = true := by
    unfold smallProg
    simp only [Bool.and_eq_true, List.all_eq_true]
    refine ⟨fun s hs => ?_, fun x hx => ?_⟩
    · unfold symN at hs
      obtain ⟨i, hi, rfl⟩ := List.mem_map.1 hs
      rw [List.mem_range] at hi
      exact nmS_small ⟨i, by omega⟩
    · rw [(List.mem_replicate.1 hx).2]
      exact small_bare (by decide) fun i hi => ⟨14, by simpa using hi, .inr (.inr rfl)⟩
  have hkc : k_valid_Check (symN ((63 + z : Nat) : Int) (63 + a), List.replicate (63 + t) [bare 14]) = true := hsm
  have l16 : ∀ w, v_valid_Check (symN ((63 + z : Nat) : Int) (63 + a), List.replicate (63 + t) [bare 14]) = w → Goes (T_law8_ValidMany syms size threads) (.jmp (.l16 w (symN ((63 + z : Nat) : Int) (63 + a)) (List.replicate (63 + t) [bare 14]))) true := fun w h => by
    rw [goes_jmp]
    simp only [T_law8_ValidMany, goes_br, hkc, h, k_alive8, v_alive8, beq_self_eq_true, if_true]
    exact .leaf
  have hchk : v_valid_Check (symN ((63 + z : Nat) : Int) (63 + a), List.replicate (63 + t) [bare 14]) = if 1 < a ∨ 1 < t then 10 else if 1 < z then 5 else 0 := by
    unfold v_valid_Check checkC
    show (if 64 < (symN ((63 + z : Nat) : Int) (63 + a)).length ∨ 64 < (List.replicate (63 + t) [bare 14]).length then (10 : Int) else symsC (thsC (symN ((63 + z : Nat) : Int) (63 + a), List.replicate (63 + t) [bare 14]) (List.replicate (63 + t) [bare 14])) [] (symN ((63 + z : Nat) : Int) (63 + a))) = _
    rw [symN_len, List.length_replicate, ths_bare]
    by_cases h : 1 < a ∨ 1 < t
    · rw [if_pos (by omega), if_pos h]
    · rw [if_neg (by omega), if_neg h]
      have ha' : a = 0 ∨ a = 1 := by omega
      have hz' : z = 0 ∨ z = 1 ∨ z = 2 := by omega
      rcases ha' with rfl | rfl <;> rcases hz' with rfl | rfl | rfl
      · exact (sym63 0).1
      · exact (sym63 0).2.1
      · exact (sym63 0).2.2
      · exact (sym64 0).1
      · exact (sym64 0).2.1
      · exact (sym64 0).2.2
  have l11 : ∀ j, j ≤ 63 + t → Goes (T_law8_ValidMany syms size threads) (.jmp (.l11 (symN ((63 + z : Nat) : Int) (63 + a)) (j : Int) (List.replicate j [bare 14]))) true := by
    refine down ?_ fun j hj ih => ?_
    · rw [goes_jmp]
      simp only [T_law8_ValidMany, goes_br, eS, eZ, eT, hgt]
      rw [if_neg (by simp)]
      by_cases h1 : 1 < a
      · rw [if_pos (decide_eq_true h1)]
        exact l16 _ (by rw [hchk, if_pos (.inl h1)])
      rw [if_neg (by simpa using h1)]
      by_cases h2 : 1 < t
      · rw [if_pos (decide_eq_true h2)]
        exact l16 _ (by rw [hchk, if_pos (.inr h2)])
      rw [if_neg (by simpa using h2)]
      by_cases h3 : 1 < z
      · rw [if_pos (decide_eq_true h3)]
        exact l16 _ (by rw [hchk, if_neg (by omega), if_pos h3])
      rw [if_neg (by simpa using h3)]
      exact l16 _ (by rw [hchk, if_neg (by omega), if_neg h3])
    · rw [goes_jmp]
      have hb : Nat.ble (((List.replicate j [bare 14]).length + 1) * 24) limit = true := by apply Nat.ble_eq_true_of_le; unfold limit; rw [List.length_replicate]; omega
      rw [List.replicate_succ'] at ih
      simp only [T_law8_ValidMany, goes_br, eT, hb, wrap_succ (k := j) (by omega), if_true]
      rw [if_pos (by simp; omega)]
      exact ih
  have l5 : ∀ j, j ≤ 63 + a → Goes (T_law8_ValidMany syms size threads) (.jmp (.l5 (j : Int) (symN ((63 + z : Nat) : Int) j))) true := by
    refine down ?_ fun j hj ih => ?_
    · rw [goes_jmp]
      simp only [T_law8_ValidMany, goes_br, eS]
      rw [if_neg (by simp)]
      exact l11 0 (Nat.zero_le _)
    · rw [goes_jmp]
      have hb : Nat.ble (((symN ((63 + z : Nat) : Int) j).length + 1) * 48) limit = true := by apply Nat.ble_eq_true_of_le; unfold limit; rw [symN_len]; omega
      have hkt : k_ref1_Text (j : Int) = true := by unfold k_ref1_Text; simp; omega
      have hsz : decide (Int.ofNat ((bs [115]).size + (v_ref1_Text (j : Int)).size) > 9223372036854775807) = false := by
        have := nmS_size ⟨j, by omega⟩
        rw [show (bs [115]).size = 1 from rfl]
        simp only [decide_eq_false_iff_not]
        show ¬ ((1 + (v_ref1_Text (j : Int)).size : Nat) : Int) > 9223372036854775807
        dsimp only at this
        omega
      rw [symN_succ] at ih
      simp only [T_law8_ValidMany, goes_br, eS, eZ, hb, hkt, hsz, wrap_succ (k := j) (by omega), if_true]
      rw [if_pos (by simp; omega), if_neg (by decide)]
      exact ih
  exact l5 0 (Nat.zero_le _)
end Go.Ev
end

section
set_option linter.unusedSectionVars false
set_option linter.unusedVariables false
set_option linter.unusedSimpArgs false
set_option maxRecDepth 100000
set_option linter.unusedVariables false
open Go Go.Ev
namespace Go.Ev
noncomputable def e_law8_ValidMany : Run := entG sg_law8_ValidMany R_law8_ValidMany (fun a => k_law8_ValidMany a.1 a.2.1 a.2.2.1) (fun a => v_law8_ValidMany a.1 a.2.1 a.2.2.1)
theorem ok_law8_ValidMany : EntOK Go.Proofs.Tryd.prog 10 e_law8_ValidMany := entG_ok (tb := tb_law8_ValidMany) (c := c_law8_ValidMany) tk_law8_ValidMany (by kernel_rfl) (by kernel_rfl) (by kernel_rfl) (fun a => by kernel_rfl) fun ⟨syms, size, threads, _⟩ hk => evF_goes (c := c_law8_ValidMany) (K := fun v => (R_law8_ValidMany v, tps (toForms sg_law8_ValidMany (syms, size, threads, ())))) (S := S_law8_ValidMany syms size threads) (by kernel_rfl) (en_law8_ValidMany syms size threads) (lp_law8_ValidMany syms size threads) (g_law8_ValidMany syms size threads hk)
theorem co_law8_ValidMany (syms : Int) (size : Int) (threads : Int) (hk : k_law8_ValidMany syms size threads = true) : CallOK Go.Proofs.Tryd.prog 10 (toForms sg_law8_ValidMany (syms, size, threads, ())) (R_law8_ValidMany (v_law8_ValidMany syms size threads), tps (toForms sg_law8_ValidMany (syms, size, threads, ()))) := by
  obtain ⟨h1, h2⟩ := clOf_ok tk_law8_ValidMany
  obtain ⟨n, hn⟩ := evF_goes (c := c_law8_ValidMany) (K := fun v => (R_law8_ValidMany v, tps (toForms sg_law8_ValidMany (syms, size, threads, ())))) (S := S_law8_ValidMany syms size threads) (by kernel_rfl) (en_law8_ValidMany syms size threads) (lp_law8_ValidMany syms size threads) (g_law8_ValidMany syms size threads hk)
  exact evF_sound (f := 10) (c := c_law8_ValidMany) h1 h2 (by kernel_rfl) (by kernel_rfl) (by kernel_rfl) hn
end Go.Ev
end

section
set_option linter.unusedSectionVars false
set_option linter.unusedVariables false
set_option linter.unusedSimpArgs false
set_option maxRecDepth 100000
set_option linter.unusedVariables false
namespace Go.Ev
open Go
theorem call_law8_ValidMany (a : Args sg_law8_ValidMany) (ha : smallArgs sg_law8_ValidMany a) : CallOK Go.Proofs.Tryd.prog 10 (toForms sg_law8_ValidMany a) (.d .bool true, tps (toForms sg_law8_ValidMany a)) := by
  obtain ⟨x, y, z, _⟩ := a
  exact co_law8_ValidMany x y z rfl
end Go.Ev
end

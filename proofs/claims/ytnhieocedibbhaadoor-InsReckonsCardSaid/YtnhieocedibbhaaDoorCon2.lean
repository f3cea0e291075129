/- Part of the proof of: the law InsReckons holds: what reads and writes memory is locked or takes two steps; a fence is what is locked and an mfence; nothing is both a jump and of memory -/
import Derived.Test.YtnhieocedibbhaaDoorCon1
section
set_option linter.unusedSectionVars false
set_option linter.unusedVariables false
set_option linter.unusedSimpArgs false
set_option maxRecDepth 100000
set_option linter.unusedVariables false
open Go Go.Ev
namespace Go.Ev
/-! ### paling/palinglaw7.InsReckons -/
def sg_law7_InsReckons : Sig := [(true, T_book_Act)]
noncomputable def t_law7_InsReckons : Tbl := [(17, e_book_Ins), (20, e_ins_Reads), (21, e_ins_Writes), (22, e_ins_Leads), (23, e_ins_Parts), (24, e_ins_Locked), (25, e_ins_Fence), (15, e_law7_alive)]
theorem tk_law7_InsReckons : ∀ p ∈ t_law7_InsReckons, EntOK Go.Proofs.Tryd.prog p.1 p.2 := tbl_cons ok_book_Ins (tbl_cons ok_ins_Reads (tbl_cons ok_ins_Writes (tbl_cons ok_ins_Leads (tbl_cons ok_ins_Parts (tbl_cons ok_ins_Locked (tbl_cons ok_ins_Fence (tbl_cons ok_law7_alive (tbl_nil))))))))
noncomputable def c_law7_InsReckons : Code := Go.Proofs.Tryd.f6.body.getD .skip
def tb_law7_InsReckons : Tb := []
def T_law7_InsReckons (a : El T_book_Act) : Empty → JT Empty (Bool) := fun j => nomatch j
def T0_law7_InsReckons (a : El T_book_Act) : JT Empty (Bool) :=
  .br (k_book_Ins a (9 : Int))
    (.br (k_ins_Reads ((v_book_Ins a (9 : Int)).1, ((v_book_Ins a (9 : Int)).2.1, ((v_book_Ins a (9 : Int)).2.2.1, ((v_book_Ins a (9 : Int)).2.2.2.1, ((v_book_Ins a (9 : Int)).2.2.2.2.1, ((v_book_Ins a (9 : Int)).2.2.2.2.2.1, [])))))))
      (.br (k_ins_Writes ((v_book_Ins a (9 : Int)).1, ((v_book_Ins a (9 : Int)).2.1, ((v_book_Ins a (9 : Int)).2.2.1, ((v_book_Ins a (9 : Int)).2.2.2.1, ((v_book_Ins a (9 : Int)).2.2.2.2.1, ((v_book_Ins a (9 : Int)).2.2.2.2.2.1, [])))))))
        (.br (k_ins_Leads ((v_book_Ins a (9 : Int)).1, ((v_book_Ins a (9 : Int)).2.1, ((v_book_Ins a (9 : Int)).2.2.1, ((v_book_Ins a (9 : Int)).2.2.2.1, ((v_book_Ins a (9 : Int)).2.2.2.2.1, ((v_book_Ins a (9 : Int)).2.2.2.2.2.1, [])))))))
          (.br (k_ins_Parts ((v_book_Ins a (9 : Int)).1, ((v_book_Ins a (9 : Int)).2.1, ((v_book_Ins a (9 : Int)).2.2.1, ((v_book_Ins a (9 : Int)).2.2.2.1, ((v_book_Ins a (9 : Int)).2.2.2.2.1, ((v_book_Ins a (9 : Int)).2.2.2.2.2.1, [])))))))
            (.br (v_ins_Reads ((v_book_Ins a (9 : Int)).1, ((v_book_Ins a (9 : Int)).2.1, ((v_book_Ins a (9 : Int)).2.2.1, ((v_book_Ins a (9 : Int)).2.2.2.1, ((v_book_Ins a (9 : Int)).2.2.2.2.1, ((v_book_Ins a (9 : Int)).2.2.2.2.2.1, []))))))).2
              (.br (v_ins_Writes ((v_book_Ins a (9 : Int)).1, ((v_book_Ins a (9 : Int)).2.1, ((v_book_Ins a (9 : Int)).2.2.1, ((v_book_Ins a (9 : Int)).2.2.2.1, ((v_book_Ins a (9 : Int)).2.2.2.2.1, ((v_book_Ins a (9 : Int)).2.2.2.2.2.1, []))))))).2
                (.br (k_ins_Locked ((v_book_Ins a (9 : Int)).1, ((v_book_Ins a (9 : Int)).2.1, ((v_book_Ins a (9 : Int)).2.2.1, ((v_book_Ins a (9 : Int)).2.2.2.1, ((v_book_Ins a (9 : Int)).2.2.2.2.1, ((v_book_Ins a (9 : Int)).2.2.2.2.2.1, [])))))))
                  (.br (((v_ins_Parts ((v_book_Ins a (9 : Int)).1, ((v_book_Ins a (9 : Int)).2.1, ((v_book_Ins a (9 : Int)).2.2.1, ((v_book_Ins a (9 : Int)).2.2.2.1, ((v_book_Ins a (9 : Int)).2.2.2.2.1, ((v_book_Ins a (9 : Int)).2.2.2.2.2.1, []))))))) == (2 : Int)) == (! (v_ins_Locked ((v_book_Ins a (9 : Int)).1, ((v_book_Ins a (9 : Int)).2.1, ((v_book_Ins a (9 : Int)).2.2.1, ((v_book_Ins a (9 : Int)).2.2.2.1, ((v_book_Ins a (9 : Int)).2.2.2.2.1, ((v_book_Ins a (9 : Int)).2.2.2.2.2.1, [])))))))))
                    (.br (k_ins_Fence ((v_book_Ins a (9 : Int)).1, ((v_book_Ins a (9 : Int)).2.1, ((v_book_Ins a (9 : Int)).2.2.1, ((v_book_Ins a (9 : Int)).2.2.2.1, ((v_book_Ins a (9 : Int)).2.2.2.2.1, ((v_book_Ins a (9 : Int)).2.2.2.2.2.1, [])))))))
                      (.br (k_ins_Locked ((v_book_Ins a (9 : Int)).1, ((v_book_Ins a (9 : Int)).2.1, ((v_book_Ins a (9 : Int)).2.2.1, ((v_book_Ins a (9 : Int)).2.2.2.1, ((v_book_Ins a (9 : Int)).2.2.2.2.1, ((v_book_Ins a (9 : Int)).2.2.2.2.2.1, [])))))))
                        (.br (v_ins_Locked ((v_book_Ins a (9 : Int)).1, ((v_book_Ins a (9 : Int)).2.1, ((v_book_Ins a (9 : Int)).2.2.1, ((v_book_Ins a (9 : Int)).2.2.2.1, ((v_book_Ins a (9 : Int)).2.2.2.2.1, ((v_book_Ins a (9 : Int)).2.2.2.2.2.1, [])))))))
                          (.br ((v_ins_Fence ((v_book_Ins a (9 : Int)).1, ((v_book_Ins a (9 : Int)).2.1, ((v_book_Ins a (9 : Int)).2.2.1, ((v_book_Ins a (9 : Int)).2.2.2.1, ((v_book_Ins a (9 : Int)).2.2.2.2.1, ((v_book_Ins a (9 : Int)).2.2.2.2.2.1, []))))))) == true)
                            (.br (v_ins_Leads ((v_book_Ins a (9 : Int)).1, ((v_book_Ins a (9 : Int)).2.1, ((v_book_Ins a (9 : Int)).2.2.1, ((v_book_Ins a (9 : Int)).2.2.2.1, ((v_book_Ins a (9 : Int)).2.2.2.2.1, ((v_book_Ins a (9 : Int)).2.2.2.2.2.1, []))))))).2
                              (.br (v_ins_Reads ((v_book_Ins a (9 : Int)).1, ((v_book_Ins a (9 : Int)).2.1, ((v_book_Ins a (9 : Int)).2.2.1, ((v_book_Ins a (9 : Int)).2.2.2.1, ((v_book_Ins a (9 : Int)).2.2.2.2.1, ((v_book_Ins a (9 : Int)).2.2.2.2.2.1, []))))))).2
                                (.leaf false)
                              (.br (! (v_ins_Writes ((v_book_Ins a (9 : Int)).1, ((v_book_Ins a (9 : Int)).2.1, ((v_book_Ins a (9 : Int)).2.2.1, ((v_book_Ins a (9 : Int)).2.2.2.1, ((v_book_Ins a (9 : Int)).2.2.2.2.1, ((v_book_Ins a (9 : Int)).2.2.2.2.2.1, []))))))).2)
                                (.br (v_ins_Leads ((v_book_Ins a (9 : Int)).1, ((v_book_Ins a (9 : Int)).2.1, ((v_book_Ins a (9 : Int)).2.2.1, ((v_book_Ins a (9 : Int)).2.2.2.1, ((v_book_Ins a (9 : Int)).2.2.2.2.1, ((v_book_Ins a (9 : Int)).2.2.2.2.2.1, []))))))).1
                                  (.br (k_ins_Locked ((v_book_Ins a (9 : Int)).1, ((v_book_Ins a (9 : Int)).2.1, ((v_book_Ins a (9 : Int)).2.2.1, ((v_book_Ins a (9 : Int)).2.2.2.1, ((v_book_Ins a (9 : Int)).2.2.2.2.1, ((v_book_Ins a (9 : Int)).2.2.2.2.2.1, [])))))))
                                    (.br (! (v_ins_Locked ((v_book_Ins a (9 : Int)).1, ((v_book_Ins a (9 : Int)).2.1, ((v_book_Ins a (9 : Int)).2.2.1, ((v_book_Ins a (9 : Int)).2.2.2.1, ((v_book_Ins a (9 : Int)).2.2.2.2.1, ((v_book_Ins a (9 : Int)).2.2.2.2.2.1, []))))))))
                                      (.br k_law7_alive
                                        (.leaf v_law7_alive)
                                      (.no))
                                    (.br (v_ins_Reads ((v_book_Ins a (9 : Int)).1, ((v_book_Ins a (9 : Int)).2.1, ((v_book_Ins a (9 : Int)).2.2.1, ((v_book_Ins a (9 : Int)).2.2.2.1, ((v_book_Ins a (9 : Int)).2.2.2.2.1, ((v_book_Ins a (9 : Int)).2.2.2.2.2.1, []))))))).2
                                      (.br k_law7_alive
                                        (.leaf v_law7_alive)
                                      (.no))
                                    (.leaf false)))
                                  (.no))
                                (.br ((v_book_Ins a (9 : Int)).1 == (10 : Int))
                                  (.br (k_ins_Locked ((v_book_Ins a (9 : Int)).1, ((v_book_Ins a (9 : Int)).2.1, ((v_book_Ins a (9 : Int)).2.2.1, ((v_book_Ins a (9 : Int)).2.2.2.1, ((v_book_Ins a (9 : Int)).2.2.2.2.1, ((v_book_Ins a (9 : Int)).2.2.2.2.2.1, [])))))))
                                    (.br (! (v_ins_Locked ((v_book_Ins a (9 : Int)).1, ((v_book_Ins a (9 : Int)).2.1, ((v_book_Ins a (9 : Int)).2.2.1, ((v_book_Ins a (9 : Int)).2.2.2.1, ((v_book_Ins a (9 : Int)).2.2.2.2.1, ((v_book_Ins a (9 : Int)).2.2.2.2.2.1, []))))))))
                                      (.br k_law7_alive
                                        (.leaf v_law7_alive)
                                      (.no))
                                    (.br (v_ins_Reads ((v_book_Ins a (9 : Int)).1, ((v_book_Ins a (9 : Int)).2.1, ((v_book_Ins a (9 : Int)).2.2.1, ((v_book_Ins a (9 : Int)).2.2.2.1, ((v_book_Ins a (9 : Int)).2.2.2.2.1, ((v_book_Ins a (9 : Int)).2.2.2.2.2.1, []))))))).2
                                      (.br k_law7_alive
                                        (.leaf v_law7_alive)
                                      (.no))
                                    (.leaf false)))
                                  (.no))
                                (.br ((v_book_Ins a (9 : Int)).1 == (14 : Int))
                                  (.br (k_ins_Locked ((v_book_Ins a (9 : Int)).1, ((v_book_Ins a (9 : Int)).2.1, ((v_book_Ins a (9 : Int)).2.2.1, ((v_book_Ins a (9 : Int)).2.2.2.1, ((v_book_Ins a (9 : Int)).2.2.2.2.1, ((v_book_Ins a (9 : Int)).2.2.2.2.2.1, [])))))))
                                    (.br (! (v_ins_Locked ((v_book_Ins a (9 : Int)).1, ((v_book_Ins a (9 : Int)).2.1, ((v_book_Ins a (9 : Int)).2.2.1, ((v_book_Ins a (9 : Int)).2.2.2.1, ((v_book_Ins a (9 : Int)).2.2.2.2.1, ((v_book_Ins a (9 : Int)).2.2.2.2.2.1, []))))))))
                                      (.br k_law7_alive
                                        (.leaf v_law7_alive)
                                      (.no))
                                    (.br (v_ins_Reads ((v_book_Ins a (9 : Int)).1, ((v_book_Ins a (9 : Int)).2.1, ((v_book_Ins a (9 : Int)).2.2.1, ((v_book_Ins a (9 : Int)).2.2.2.1, ((v_book_Ins a (9 : Int)).2.2.2.2.1, ((v_book_Ins a (9 : Int)).2.2.2.2.2.1, []))))))).2
                                      (.br k_law7_alive
                                        (.leaf v_law7_alive)
                                      (.no))
                                    (.leaf false)))
                                  (.no))
                                (.leaf false))))
                              (.leaf false)))
                            (.br (v_ins_Leads ((v_book_Ins a (9 : Int)).1, ((v_book_Ins a (9 : Int)).2.1, ((v_book_Ins a (9 : Int)).2.2.1, ((v_book_Ins a (9 : Int)).2.2.2.1, ((v_book_Ins a (9 : Int)).2.2.2.2.1, ((v_book_Ins a (9 : Int)).2.2.2.2.2.1, []))))))).1
                              (.br (k_ins_Locked ((v_book_Ins a (9 : Int)).1, ((v_book_Ins a (9 : Int)).2.1, ((v_book_Ins a (9 : Int)).2.2.1, ((v_book_Ins a (9 : Int)).2.2.2.1, ((v_book_Ins a (9 : Int)).2.2.2.2.1, ((v_book_Ins a (9 : Int)).2.2.2.2.2.1, [])))))))
                                (.br (! (v_ins_Locked ((v_book_Ins a (9 : Int)).1, ((v_book_Ins a (9 : Int)).2.1, ((v_book_Ins a (9 : Int)).2.2.1, ((v_book_Ins a (9 : Int)).2.2.2.1, ((v_book_Ins a (9 : Int)).2.2.2.2.1, ((v_book_Ins a (9 : Int)).2.2.2.2.2.1, []))))))))
                                  (.br k_law7_alive
                                    (.leaf v_law7_alive)
                                  (.no))
                                (.br (v_ins_Reads ((v_book_Ins a (9 : Int)).1, ((v_book_Ins a (9 : Int)).2.1, ((v_book_Ins a (9 : Int)).2.2.1, ((v_book_Ins a (9 : Int)).2.2.2.1, ((v_book_Ins a (9 : Int)).2.2.2.2.1, ((v_book_Ins a (9 : Int)).2.2.2.2.2.1, []))))))).2
                                  (.br k_law7_alive
                                    (.leaf v_law7_alive)
                                  (.no))
                                (.leaf false)))
                              (.no))
                            (.br ((v_book_Ins a (9 : Int)).1 == (10 : Int))
                              (.br (k_ins_Locked ((v_book_Ins a (9 : Int)).1, ((v_book_Ins a (9 : Int)).2.1, ((v_book_Ins a (9 : Int)).2.2.1, ((v_book_Ins a (9 : Int)).2.2.2.1, ((v_book_Ins a (9 : Int)).2.2.2.2.1, ((v_book_Ins a (9 : Int)).2.2.2.2.2.1, [])))))))
                                (.br (! (v_ins_Locked ((v_book_Ins a (9 : Int)).1, ((v_book_Ins a (9 : Int)).2.1, ((v_book_Ins a (9 : Int)).2.2.1, ((v_book_Ins a (9 : Int)).2.2.2.1, ((v_book_Ins a (9 : Int)).2.2.2.2.1, ((v_book_Ins a (9 : Int)).2.2.2.2.2.1, []))))))))
                                  (.br k_law7_alive
                                    (.leaf v_law7_alive)
                                  (.no))
                                (.br (v_ins_Reads ((v_book_Ins a (9 : Int)).1, ((v_book_Ins a (9 : Int)).2.1, ((v_book_Ins a (9 : Int)).2.2.1, ((v_book_Ins a (9 : Int)).2.2.2.1, ((v_book_Ins a (9 : Int)).2.2.2.2.1, ((v_book_Ins a (9 : Int)).2.2.2.2.2.1, []))))))).2
                                  (.br k_law7_alive
                                    (.leaf v_law7_alive)
                                  (.no))
                                (.leaf false)))
                              (.no))
                            (.br ((v_book_Ins a (9 : Int)).1 == (14 : Int))
                              (.br (k_ins_Locked ((v_book_Ins a (9 : Int)).1, ((v_book_Ins a (9 : Int)).2.1, ((v_book_Ins a (9 : Int)).2.2.1, ((v_book_Ins a (9 : Int)).2.2.2.1, ((v_book_Ins a (9 : Int)).2.2.2.2.1, ((v_book_Ins a (9 : Int)).2.2.2.2.2.1, [])))))))
                                (.br (! (v_ins_Locked ((v_book_Ins a (9 : Int)).1, ((v_book_Ins a (9 : Int)).2.1, ((v_book_Ins a (9 : Int)).2.2.1, ((v_book_Ins a (9 : Int)).2.2.2.1, ((v_book_Ins a (9 : Int)).2.2.2.2.1, ((v_book_Ins a (9 : Int)).2.2.2.2.2.1, []))))))))
                                  (.br k_law7_alive
                                    (.leaf v_law7_alive)
                                  (.no))
                                (.br (v_ins_Reads ((v_book_Ins a (9 : Int)).1, ((v_book_Ins a (9 : Int)).2.1, ((v_book_Ins a (9 : Int)).2.2.1, ((v_book_Ins a (9 : Int)).2.2.2.1, ((v_book_Ins a (9 : Int)).2.2.2.2.1, ((v_book_Ins a (9 : Int)).2.2.2.2.2.1, []))))))).2
                                  (.br k_law7_alive
                                    (.leaf v_law7_alive)
                                  (.no))
                                (.leaf false)))
                              (.no))
                            (.leaf false)))))
                          (.leaf false))
                        (.br ((v_ins_Fence ((v_book_Ins a (9 : Int)).1, ((v_book_Ins a (9 : Int)).2.1, ((v_book_Ins a (9 : Int)).2.2.1, ((v_book_Ins a (9 : Int)).2.2.2.1, ((v_book_Ins a (9 : Int)).2.2.2.2.1, ((v_book_Ins a (9 : Int)).2.2.2.2.2.1, []))))))) == ((v_book_Ins a (9 : Int)).1 == (12 : Int)))
                          (.br (v_ins_Leads ((v_book_Ins a (9 : Int)).1, ((v_book_Ins a (9 : Int)).2.1, ((v_book_Ins a (9 : Int)).2.2.1, ((v_book_Ins a (9 : Int)).2.2.2.1, ((v_book_Ins a (9 : Int)).2.2.2.2.1, ((v_book_Ins a (9 : Int)).2.2.2.2.2.1, []))))))).2
                            (.br (v_ins_Reads ((v_book_Ins a (9 : Int)).1, ((v_book_Ins a (9 : Int)).2.1, ((v_book_Ins a (9 : Int)).2.2.1, ((v_book_Ins a (9 : Int)).2.2.2.1, ((v_book_Ins a (9 : Int)).2.2.2.2.1, ((v_book_Ins a (9 : Int)).2.2.2.2.2.1, []))))))).2
                              (.leaf false)
                            (.br (! (v_ins_Writes ((v_book_Ins a (9 : Int)).1, ((v_book_Ins a (9 : Int)).2.1, ((v_book_Ins a (9 : Int)).2.2.1, ((v_book_Ins a (9 : Int)).2.2.2.1, ((v_book_Ins a (9 : Int)).2.2.2.2.1, ((v_book_Ins a (9 : Int)).2.2.2.2.2.1, []))))))).2)
                              (.br (v_ins_Leads ((v_book_Ins a (9 : Int)).1, ((v_book_Ins a (9 : Int)).2.1, ((v_book_Ins a (9 : Int)).2.2.1, ((v_book_Ins a (9 : Int)).2.2.2.1, ((v_book_Ins a (9 : Int)).2.2.2.2.1, ((v_book_Ins a (9 : Int)).2.2.2.2.2.1, []))))))).1
                                (.br (k_ins_Locked ((v_book_Ins a (9 : Int)).1, ((v_book_Ins a (9 : Int)).2.1, ((v_book_Ins a (9 : Int)).2.2.1, ((v_book_Ins a (9 : Int)).2.2.2.1, ((v_book_Ins a (9 : Int)).2.2.2.2.1, ((v_book_Ins a (9 : Int)).2.2.2.2.2.1, [])))))))
                                  (.br (! (v_ins_Locked ((v_book_Ins a (9 : Int)).1, ((v_book_Ins a (9 : Int)).2.1, ((v_book_Ins a (9 : Int)).2.2.1, ((v_book_Ins a (9 : Int)).2.2.2.1, ((v_book_Ins a (9 : Int)).2.2.2.2.1, ((v_book_Ins a (9 : Int)).2.2.2.2.2.1, []))))))))
                                    (.br k_law7_alive
                                      (.leaf v_law7_alive)
                                    (.no))
                                  (.br (v_ins_Reads ((v_book_Ins a (9 : Int)).1, ((v_book_Ins a (9 : Int)).2.1, ((v_book_Ins a (9 : Int)).2.2.1, ((v_book_Ins a (9 : Int)).2.2.2.1, ((v_book_Ins a (9 : Int)).2.2.2.2.1, ((v_book_Ins a (9 : Int)).2.2.2.2.2.1, []))))))).2
                                    (.br k_law7_alive
                                      (.leaf v_law7_alive)
                                    (.no))
                                  (.leaf false)))
                                (.no))
                              (.br ((v_book_Ins a (9 : Int)).1 == (10 : Int))
                                (.br (k_ins_Locked ((v_book_Ins a (9 : Int)).1, ((v_book_Ins a (9 : Int)).2.1, ((v_book_Ins a (9 : Int)).2.2.1, ((v_book_Ins a (9 : Int)).2.2.2.1, ((v_book_Ins a (9 : Int)).2.2.2.2.1, ((v_book_Ins a (9 : Int)).2.2.2.2.2.1, [])))))))
                                  (.br (! (v_ins_Locked ((v_book_Ins a (9 : Int)).1, ((v_book_Ins a (9 : Int)).2.1, ((v_book_Ins a (9 : Int)).2.2.1, ((v_book_Ins a (9 : Int)).2.2.2.1, ((v_book_Ins a (9 : Int)).2.2.2.2.1, ((v_book_Ins a (9 : Int)).2.2.2.2.2.1, []))))))))
                                    (.br k_law7_alive
                                      (.leaf v_law7_alive)
                                    (.no))
                                  (.br (v_ins_Reads ((v_book_Ins a (9 : Int)).1, ((v_book_Ins a (9 : Int)).2.1, ((v_book_Ins a (9 : Int)).2.2.1, ((v_book_Ins a (9 : Int)).2.2.2.1, ((v_book_Ins a (9 : Int)).2.2.2.2.1, ((v_book_Ins a (9 : Int)).2.2.2.2.2.1, []))))))).2
                                    (.br k_law7_alive
                                      (.leaf v_law7_alive)
                                    (.no))
                                  (.leaf false)))
                                (.no))
                              (.br ((v_book_Ins a (9 : Int)).1 == (14 : Int))
                                (.br (k_ins_Locked ((v_book_Ins a (9 : Int)).1, ((v_book_Ins a (9 : Int)).2.1, ((v_book_Ins a (9 : Int)).2.2.1, ((v_book_Ins a (9 : Int)).2.2.2.1, ((v_book_Ins a (9 : Int)).2.2.2.2.1, ((v_book_Ins a (9 : Int)).2.2.2.2.2.1, [])))))))
                                  (.br (! (v_ins_Locked ((v_book_Ins a (9 : Int)).1, ((v_book_Ins a (9 : Int)).2.1, ((v_book_Ins a (9 : Int)).2.2.1, ((v_book_Ins a (9 : Int)).2.2.2.1, ((v_book_Ins a (9 : Int)).2.2.2.2.1, ((v_book_Ins a (9 : Int)).2.2.2.2.2.1, []))))))))
                                    (.br k_law7_alive
                                      (.leaf v_law7_alive)
                                    (.no))
                                  (.br (v_ins_Reads ((v_book_Ins a (9 : Int)).1, ((v_book_Ins a (9 : Int)).2.1, ((v_book_Ins a (9 : Int)).2.2.1, ((v_book_Ins a (9 : Int)).2.2.2.1, ((v_book_Ins a (9 : Int)).2.2.2.2.1, ((v_book_Ins a (9 : Int)).2.2.2.2.2.1, []))))))).2
                                    (.br k_law7_alive
                                      (.leaf v_law7_alive)
                                    (.no))
                                  (.leaf false)))
                                (.no))
                              (.leaf false))))
                            (.leaf false)))
                          (.br (v_ins_Leads ((v_book_Ins a (9 : Int)).1, ((v_book_Ins a (9 : Int)).2.1, ((v_book_Ins a (9 : Int)).2.2.1, ((v_book_Ins a (9 : Int)).2.2.2.1, ((v_book_Ins a (9 : Int)).2.2.2.2.1, ((v_book_Ins a (9 : Int)).2.2.2.2.2.1, []))))))).1
                            (.br (k_ins_Locked ((v_book_Ins a (9 : Int)).1, ((v_book_Ins a (9 : Int)).2.1, ((v_book_Ins a (9 : Int)).2.2.1, ((v_book_Ins a (9 : Int)).2.2.2.1, ((v_book_Ins a (9 : Int)).2.2.2.2.1, ((v_book_Ins a (9 : Int)).2.2.2.2.2.1, [])))))))
                              (.br (! (v_ins_Locked ((v_book_Ins a (9 : Int)).1, ((v_book_Ins a (9 : Int)).2.1, ((v_book_Ins a (9 : Int)).2.2.1, ((v_book_Ins a (9 : Int)).2.2.2.1, ((v_book_Ins a (9 : Int)).2.2.2.2.1, ((v_book_Ins a (9 : Int)).2.2.2.2.2.1, []))))))))
                                (.br k_law7_alive
                                  (.leaf v_law7_alive)
                                (.no))
                              (.br (v_ins_Reads ((v_book_Ins a (9 : Int)).1, ((v_book_Ins a (9 : Int)).2.1, ((v_book_Ins a (9 : Int)).2.2.1, ((v_book_Ins a (9 : Int)).2.2.2.1, ((v_book_Ins a (9 : Int)).2.2.2.2.1, ((v_book_Ins a (9 : Int)).2.2.2.2.2.1, []))))))).2
                                (.br k_law7_alive
                                  (.leaf v_law7_alive)
                                (.no))
                              (.leaf false)))
                            (.no))
                          (.br ((v_book_Ins a (9 : Int)).1 == (10 : Int))
                            (.br (k_ins_Locked ((v_book_Ins a (9 : Int)).1, ((v_book_Ins a (9 : Int)).2.1, ((v_book_Ins a (9 : Int)).2.2.1, ((v_book_Ins a (9 : Int)).2.2.2.1, ((v_book_Ins a (9 : Int)).2.2.2.2.1, ((v_book_Ins a (9 : Int)).2.2.2.2.2.1, [])))))))
                              (.br (! (v_ins_Locked ((v_book_Ins a (9 : Int)).1, ((v_book_Ins a (9 : Int)).2.1, ((v_book_Ins a (9 : Int)).2.2.1, ((v_book_Ins a (9 : Int)).2.2.2.1, ((v_book_Ins a (9 : Int)).2.2.2.2.1, ((v_book_Ins a (9 : Int)).2.2.2.2.2.1, []))))))))
                                (.br k_law7_alive
                                  (.leaf v_law7_alive)
                                (.no))
                              (.br (v_ins_Reads ((v_book_Ins a (9 : Int)).1, ((v_book_Ins a (9 : Int)).2.1, ((v_book_Ins a (9 : Int)).2.2.1, ((v_book_Ins a (9 : Int)).2.2.2.1, ((v_book_Ins a (9 : Int)).2.2.2.2.1, ((v_book_Ins a (9 : Int)).2.2.2.2.2.1, []))))))).2
                                (.br k_law7_alive
                                  (.leaf v_law7_alive)
                                (.no))
                              (.leaf false)))
                            (.no))
                          (.br ((v_book_Ins a (9 : Int)).1 == (14 : Int))
                            (.br (k_ins_Locked ((v_book_Ins a (9 : Int)).1, ((v_book_Ins a (9 : Int)).2.1, ((v_book_Ins a (9 : Int)).2.2.1, ((v_book_Ins a (9 : Int)).2.2.2.1, ((v_book_Ins a (9 : Int)).2.2.2.2.1, ((v_book_Ins a (9 : Int)).2.2.2.2.2.1, [])))))))
                              (.br (! (v_ins_Locked ((v_book_Ins a (9 : Int)).1, ((v_book_Ins a (9 : Int)).2.1, ((v_book_Ins a (9 : Int)).2.2.1, ((v_book_Ins a (9 : Int)).2.2.2.1, ((v_book_Ins a (9 : Int)).2.2.2.2.1, ((v_book_Ins a (9 : Int)).2.2.2.2.2.1, []))))))))
                                (.br k_law7_alive
                                  (.leaf v_law7_alive)
                                (.no))
                              (.br (v_ins_Reads ((v_book_Ins a (9 : Int)).1, ((v_book_Ins a (9 : Int)).2.1, ((v_book_Ins a (9 : Int)).2.2.1, ((v_book_Ins a (9 : Int)).2.2.2.1, ((v_book_Ins a (9 : Int)).2.2.2.2.1, ((v_book_Ins a (9 : Int)).2.2.2.2.2.1, []))))))).2
                                (.br k_law7_alive
                                  (.leaf v_law7_alive)
                                (.no))
                              (.leaf false)))
                            (.no))
                          (.leaf false)))))
                        (.leaf false)))
                      (.no))
                    (.no))
                  (.leaf false))
                (.no))
              (.br (((v_ins_Parts ((v_book_Ins a (9 : Int)).1, ((v_book_Ins a (9 : Int)).2.1, ((v_book_Ins a (9 : Int)).2.2.1, ((v_book_Ins a (9 : Int)).2.2.2.1, ((v_book_Ins a (9 : Int)).2.2.2.2.1, ((v_book_Ins a (9 : Int)).2.2.2.2.2.1, []))))))) == (2 : Int)) == false)
                (.br (k_ins_Fence ((v_book_Ins a (9 : Int)).1, ((v_book_Ins a (9 : Int)).2.1, ((v_book_Ins a (9 : Int)).2.2.1, ((v_book_Ins a (9 : Int)).2.2.2.1, ((v_book_Ins a (9 : Int)).2.2.2.2.1, ((v_book_Ins a (9 : Int)).2.2.2.2.2.1, [])))))))
                  (.br (k_ins_Locked ((v_book_Ins a (9 : Int)).1, ((v_book_Ins a (9 : Int)).2.1, ((v_book_Ins a (9 : Int)).2.2.1, ((v_book_Ins a (9 : Int)).2.2.2.1, ((v_book_Ins a (9 : Int)).2.2.2.2.1, ((v_book_Ins a (9 : Int)).2.2.2.2.2.1, [])))))))
                    (.br (v_ins_Locked ((v_book_Ins a (9 : Int)).1, ((v_book_Ins a (9 : Int)).2.1, ((v_book_Ins a (9 : Int)).2.2.1, ((v_book_Ins a (9 : Int)).2.2.2.1, ((v_book_Ins a (9 : Int)).2.2.2.2.1, ((v_book_Ins a (9 : Int)).2.2.2.2.2.1, [])))))))
                      (.br ((v_ins_Fence ((v_book_Ins a (9 : Int)).1, ((v_book_Ins a (9 : Int)).2.1, ((v_book_Ins a (9 : Int)).2.2.1, ((v_book_Ins a (9 : Int)).2.2.2.1, ((v_book_Ins a (9 : Int)).2.2.2.2.1, ((v_book_Ins a (9 : Int)).2.2.2.2.2.1, []))))))) == true)
                        (.br (v_ins_Leads ((v_book_Ins a (9 : Int)).1, ((v_book_Ins a (9 : Int)).2.1, ((v_book_Ins a (9 : Int)).2.2.1, ((v_book_Ins a (9 : Int)).2.2.2.1, ((v_book_Ins a (9 : Int)).2.2.2.2.1, ((v_book_Ins a (9 : Int)).2.2.2.2.2.1, []))))))).2
                          (.br (v_ins_Reads ((v_book_Ins a (9 : Int)).1, ((v_book_Ins a (9 : Int)).2.1, ((v_book_Ins a (9 : Int)).2.2.1, ((v_book_Ins a (9 : Int)).2.2.2.1, ((v_book_Ins a (9 : Int)).2.2.2.2.1, ((v_book_Ins a (9 : Int)).2.2.2.2.2.1, []))))))).2
                            (.leaf false)
                          (.br (! (v_ins_Writes ((v_book_Ins a (9 : Int)).1, ((v_book_Ins a (9 : Int)).2.1, ((v_book_Ins a (9 : Int)).2.2.1, ((v_book_Ins a (9 : Int)).2.2.2.1, ((v_book_Ins a (9 : Int)).2.2.2.2.1, ((v_book_Ins a (9 : Int)).2.2.2.2.2.1, []))))))).2)
                            (.br (v_ins_Leads ((v_book_Ins a (9 : Int)).1, ((v_book_Ins a (9 : Int)).2.1, ((v_book_Ins a (9 : Int)).2.2.1, ((v_book_Ins a (9 : Int)).2.2.2.1, ((v_book_Ins a (9 : Int)).2.2.2.2.1, ((v_book_Ins a (9 : Int)).2.2.2.2.2.1, []))))))).1
                              (.br (k_ins_Locked ((v_book_Ins a (9 : Int)).1, ((v_book_Ins a (9 : Int)).2.1, ((v_book_Ins a (9 : Int)).2.2.1, ((v_book_Ins a (9 : Int)).2.2.2.1, ((v_book_Ins a (9 : Int)).2.2.2.2.1, ((v_book_Ins a (9 : Int)).2.2.2.2.2.1, [])))))))
                                (.br (! (v_ins_Locked ((v_book_Ins a (9 : Int)).1, ((v_book_Ins a (9 : Int)).2.1, ((v_book_Ins a (9 : Int)).2.2.1, ((v_book_Ins a (9 : Int)).2.2.2.1, ((v_book_Ins a (9 : Int)).2.2.2.2.1, ((v_book_Ins a (9 : Int)).2.2.2.2.2.1, []))))))))
                                  (.br k_law7_alive
                                    (.leaf v_law7_alive)
                                  (.no))
                                (.br (v_ins_Reads ((v_book_Ins a (9 : Int)).1, ((v_book_Ins a (9 : Int)).2.1, ((v_book_Ins a (9 : Int)).2.2.1, ((v_book_Ins a (9 : Int)).2.2.2.1, ((v_book_Ins a (9 : Int)).2.2.2.2.1, ((v_book_Ins a (9 : Int)).2.2.2.2.2.1, []))))))).2
                                  (.br k_law7_alive
                                    (.leaf v_law7_alive)
                                  (.no))
                                (.leaf false)))
                              (.no))
                            (.br ((v_book_Ins a (9 : Int)).1 == (10 : Int))
                              (.br (k_ins_Locked ((v_book_Ins a (9 : Int)).1, ((v_book_Ins a (9 : Int)).2.1, ((v_book_Ins a (9 : Int)).2.2.1, ((v_book_Ins a (9 : Int)).2.2.2.1, ((v_book_Ins a (9 : Int)).2.2.2.2.1, ((v_book_Ins a (9 : Int)).2.2.2.2.2.1, [])))))))
                                (.br (! (v_ins_Locked ((v_book_Ins a (9 : Int)).1, ((v_book_Ins a (9 : Int)).2.1, ((v_book_Ins a (9 : Int)).2.2.1, ((v_book_Ins a (9 : Int)).2.2.2.1, ((v_book_Ins a (9 : Int)).2.2.2.2.1, ((v_book_Ins a (9 : Int)).2.2.2.2.2.1, []))))))))
                                  (.br k_law7_alive
                                    (.leaf v_law7_alive)
                                  (.no))
                                (.br (v_ins_Reads ((v_book_Ins a (9 : Int)).1, ((v_book_Ins a (9 : Int)).2.1, ((v_book_Ins a (9 : Int)).2.2.1, ((v_book_Ins a (9 : Int)).2.2.2.1, ((v_book_Ins a (9 : Int)).2.2.2.2.1, ((v_book_Ins a (9 : Int)).2.2.2.2.2.1, []))))))).2
                                  (.br k_law7_alive
                                    (.leaf v_law7_alive)
                                  (.no))
                                (.leaf false)))
                              (.no))
                            (.br ((v_book_Ins a (9 : Int)).1 == (14 : Int))
                              (.br (k_ins_Locked ((v_book_Ins a (9 : Int)).1, ((v_book_Ins a (9 : Int)).2.1, ((v_book_Ins a (9 : Int)).2.2.1, ((v_book_Ins a (9 : Int)).2.2.2.1, ((v_book_Ins a (9 : Int)).2.2.2.2.1, ((v_book_Ins a (9 : Int)).2.2.2.2.2.1, [])))))))
                                (.br (! (v_ins_Locked ((v_book_Ins a (9 : Int)).1, ((v_book_Ins a (9 : Int)).2.1, ((v_book_Ins a (9 : Int)).2.2.1, ((v_book_Ins a (9 : Int)).2.2.2.1, ((v_book_Ins a (9 : Int)).2.2.2.2.1, ((v_book_Ins a (9 : Int)).2.2.2.2.2.1, []))))))))
                                  (.br k_law7_alive
                                    (.leaf v_law7_alive)
                                  (.no))
                                (.br (v_ins_Reads ((v_book_Ins a (9 : Int)).1, ((v_book_Ins a (9 : Int)).2.1, ((v_book_Ins a (9 : Int)).2.2.1, ((v_book_Ins a (9 : Int)).2.2.2.1, ((v_book_Ins a (9 : Int)).2.2.2.2.1, ((v_book_Ins a (9 : Int)).2.2.2.2.2.1, []))))))).2
                                  (.br k_law7_alive
                                    (.leaf v_law7_alive)
                                  (.no))
                                (.leaf false)))
                              (.no))
                            (.leaf false))))
                          (.leaf false)))
                        (.br (v_ins_Leads ((v_book_Ins a (9 : Int)).1, ((v_book_Ins a (9 : Int)).2.1, ((v_book_Ins a (9 : Int)).2.2.1, ((v_book_Ins a (9 : Int)).2.2.2.1, ((v_book_Ins a (9 : Int)).2.2.2.2.1, ((v_book_Ins a (9 : Int)).2.2.2.2.2.1, []))))))).1
                          (.br (k_ins_Locked ((v_book_Ins a (9 : Int)).1, ((v_book_Ins a (9 : Int)).2.1, ((v_book_Ins a (9 : Int)).2.2.1, ((v_book_Ins a (9 : Int)).2.2.2.1, ((v_book_Ins a (9 : Int)).2.2.2.2.1, ((v_book_Ins a (9 : Int)).2.2.2.2.2.1, [])))))))
                            (.br (! (v_ins_Locked ((v_book_Ins a (9 : Int)).1, ((v_book_Ins a (9 : Int)).2.1, ((v_book_Ins a (9 : Int)).2.2.1, ((v_book_Ins a (9 : Int)).2.2.2.1, ((v_book_Ins a (9 : Int)).2.2.2.2.1, ((v_book_Ins a (9 : Int)).2.2.2.2.2.1, []))))))))
                              (.br k_law7_alive
                                (.leaf v_law7_alive)
                              (.no))
                            (.br (v_ins_Reads ((v_book_Ins a (9 : Int)).1, ((v_book_Ins a (9 : Int)).2.1, ((v_book_Ins a (9 : Int)).2.2.1, ((v_book_Ins a (9 : Int)).2.2.2.1, ((v_book_Ins a (9 : Int)).2.2.2.2.1, ((v_book_Ins a (9 : Int)).2.2.2.2.2.1, []))))))).2
                              (.br k_law7_alive
                                (.leaf v_law7_alive)
                              (.no))
                            (.leaf false)))
                          (.no))
                        (.br ((v_book_Ins a (9 : Int)).1 == (10 : Int))
                          (.br (k_ins_Locked ((v_book_Ins a (9 : Int)).1, ((v_book_Ins a (9 : Int)).2.1, ((v_book_Ins a (9 : Int)).2.2.1, ((v_book_Ins a (9 : Int)).2.2.2.1, ((v_book_Ins a (9 : Int)).2.2.2.2.1, ((v_book_Ins a (9 : Int)).2.2.2.2.2.1, [])))))))
                            (.br (! (v_ins_Locked ((v_book_Ins a (9 : Int)).1, ((v_book_Ins a (9 : Int)).2.1, ((v_book_Ins a (9 : Int)).2.2.1, ((v_book_Ins a (9 : Int)).2.2.2.1, ((v_book_Ins a (9 : Int)).2.2.2.2.1, ((v_book_Ins a (9 : Int)).2.2.2.2.2.1, []))))))))
                              (.br k_law7_alive
                                (.leaf v_law7_alive)
                              (.no))
                            (.br (v_ins_Reads ((v_book_Ins a (9 : Int)).1, ((v_book_Ins a (9 : Int)).2.1, ((v_book_Ins a (9 : Int)).2.2.1, ((v_book_Ins a (9 : Int)).2.2.2.1, ((v_book_Ins a (9 : Int)).2.2.2.2.1, ((v_book_Ins a (9 : Int)).2.2.2.2.2.1, []))))))).2
                              (.br k_law7_alive
                                (.leaf v_law7_alive)
                              (.no))
                            (.leaf false)))
                          (.no))
                        (.br ((v_book_Ins a (9 : Int)).1 == (14 : Int))
                          (.br (k_ins_Locked ((v_book_Ins a (9 : Int)).1, ((v_book_Ins a (9 : Int)).2.1, ((v_book_Ins a (9 : Int)).2.2.1, ((v_book_Ins a (9 : Int)).2.2.2.1, ((v_book_Ins a (9 : Int)).2.2.2.2.1, ((v_book_Ins a (9 : Int)).2.2.2.2.2.1, [])))))))
                            (.br (! (v_ins_Locked ((v_book_Ins a (9 : Int)).1, ((v_book_Ins a (9 : Int)).2.1, ((v_book_Ins a (9 : Int)).2.2.1, ((v_book_Ins a (9 : Int)).2.2.2.1, ((v_book_Ins a (9 : Int)).2.2.2.2.1, ((v_book_Ins a (9 : Int)).2.2.2.2.2.1, []))))))))
                              (.br k_law7_alive
                                (.leaf v_law7_alive)
                              (.no))
                            (.br (v_ins_Reads ((v_book_Ins a (9 : Int)).1, ((v_book_Ins a (9 : Int)).2.1, ((v_book_Ins a (9 : Int)).2.2.1, ((v_book_Ins a (9 : Int)).2.2.2.1, ((v_book_Ins a (9 : Int)).2.2.2.2.1, ((v_book_Ins a (9 : Int)).2.2.2.2.2.1, []))))))).2
                              (.br k_law7_alive
                                (.leaf v_law7_alive)
                              (.no))
                            (.leaf false)))
                          (.no))
                        (.leaf false)))))
                      (.leaf false))
                    (.br ((v_ins_Fence ((v_book_Ins a (9 : Int)).1, ((v_book_Ins a (9 : Int)).2.1, ((v_book_Ins a (9 : Int)).2.2.1, ((v_book_Ins a (9 : Int)).2.2.2.1, ((v_book_Ins a (9 : Int)).2.2.2.2.1, ((v_book_Ins a (9 : Int)).2.2.2.2.2.1, []))))))) == ((v_book_Ins a (9 : Int)).1 == (12 : Int)))
                      (.br (v_ins_Leads ((v_book_Ins a (9 : Int)).1, ((v_book_Ins a (9 : Int)).2.1, ((v_book_Ins a (9 : Int)).2.2.1, ((v_book_Ins a (9 : Int)).2.2.2.1, ((v_book_Ins a (9 : Int)).2.2.2.2.1, ((v_book_Ins a (9 : Int)).2.2.2.2.2.1, []))))))).2
                        (.br (v_ins_Reads ((v_book_Ins a (9 : Int)).1, ((v_book_Ins a (9 : Int)).2.1, ((v_book_Ins a (9 : Int)).2.2.1, ((v_book_Ins a (9 : Int)).2.2.2.1, ((v_book_Ins a (9 : Int)).2.2.2.2.1, ((v_book_Ins a (9 : Int)).2.2.2.2.2.1, []))))))).2
                          (.leaf false)
                        (.br (! (v_ins_Writes ((v_book_Ins a (9 : Int)).1, ((v_book_Ins a (9 : Int)).2.1, ((v_book_Ins a (9 : Int)).2.2.1, ((v_book_Ins a (9 : Int)).2.2.2.1, ((v_book_Ins a (9 : Int)).2.2.2.2.1, ((v_book_Ins a (9 : Int)).2.2.2.2.2.1, []))))))).2)
                          (.br (v_ins_Leads ((v_book_Ins a (9 : Int)).1, ((v_book_Ins a (9 : Int)).2.1, ((v_book_Ins a (9 : Int)).2.2.1, ((v_book_Ins a (9 : Int)).2.2.2.1, ((v_book_Ins a (9 : Int)).2.2.2.2.1, ((v_book_Ins a (9 : Int)).2.2.2.2.2.1, []))))))).1
                            (.br (k_ins_Locked ((v_book_Ins a (9 : Int)).1, ((v_book_Ins a (9 : Int)).2.1, ((v_book_Ins a (9 : Int)).2.2.1, ((v_book_Ins a (9 : Int)).2.2.2.1, ((v_book_Ins a (9 : Int)).2.2.2.2.1, ((v_book_Ins a (9 : Int)).2.2.2.2.2.1, [])))))))
                              (.br (! (v_ins_Locked ((v_book_Ins a (9 : Int)).1, ((v_book_Ins a (9 : Int)).2.1, ((v_book_Ins a (9 : Int)).2.2.1, ((v_book_Ins a (9 : Int)).2.2.2.1, ((v_book_Ins a (9 : Int)).2.2.2.2.1, ((v_book_Ins a (9 : Int)).2.2.2.2.2.1, []))))))))
                                (.br k_law7_alive
                                  (.leaf v_law7_alive)
                                (.no))
                              (.br (v_ins_Reads ((v_book_Ins a (9 : Int)).1, ((v_book_Ins a (9 : Int)).2.1, ((v_book_Ins a (9 : Int)).2.2.1, ((v_book_Ins a (9 : Int)).2.2.2.1, ((v_book_Ins a (9 : Int)).2.2.2.2.1, ((v_book_Ins a (9 : Int)).2.2.2.2.2.1, []))))))).2
                                (.br k_law7_alive
                                  (.leaf v_law7_alive)
                                (.no))
                              (.leaf false)))
                            (.no))
                          (.br ((v_book_Ins a (9 : Int)).1 == (10 : Int))
                            (.br (k_ins_Locked ((v_book_Ins a (9 : Int)).1, ((v_book_Ins a (9 : Int)).2.1, ((v_book_Ins a (9 : Int)).2.2.1, ((v_book_Ins a (9 : Int)).2.2.2.1, ((v_book_Ins a (9 : Int)).2.2.2.2.1, ((v_book_Ins a (9 : Int)).2.2.2.2.2.1, [])))))))
                              (.br (! (v_ins_Locked ((v_book_Ins a (9 : Int)).1, ((v_book_Ins a (9 : Int)).2.1, ((v_book_Ins a (9 : Int)).2.2.1, ((v_book_Ins a (9 : Int)).2.2.2.1, ((v_book_Ins a (9 : Int)).2.2.2.2.1, ((v_book_Ins a (9 : Int)).2.2.2.2.2.1, []))))))))
                                (.br k_law7_alive
                                  (.leaf v_law7_alive)
                                (.no))
                              (.br (v_ins_Reads ((v_book_Ins a (9 : Int)).1, ((v_book_Ins a (9 : Int)).2.1, ((v_book_Ins a (9 : Int)).2.2.1, ((v_book_Ins a (9 : Int)).2.2.2.1, ((v_book_Ins a (9 : Int)).2.2.2.2.1, ((v_book_Ins a (9 : Int)).2.2.2.2.2.1, []))))))).2
                                (.br k_law7_alive
                                  (.leaf v_law7_alive)
                                (.no))
                              (.leaf false)))
                            (.no))
                          (.br ((v_book_Ins a (9 : Int)).1 == (14 : Int))
                            (.br (k_ins_Locked ((v_book_Ins a (9 : Int)).1, ((v_book_Ins a (9 : Int)).2.1, ((v_book_Ins a (9 : Int)).2.2.1, ((v_book_Ins a (9 : Int)).2.2.2.1, ((v_book_Ins a (9 : Int)).2.2.2.2.1, ((v_book_Ins a (9 : Int)).2.2.2.2.2.1, [])))))))
                              (.br (! (v_ins_Locked ((v_book_Ins a (9 : Int)).1, ((v_book_Ins a (9 : Int)).2.1, ((v_book_Ins a (9 : Int)).2.2.1, ((v_book_Ins a (9 : Int)).2.2.2.1, ((v_book_Ins a (9 : Int)).2.2.2.2.1, ((v_book_Ins a (9 : Int)).2.2.2.2.2.1, []))))))))
                                (.br k_law7_alive
                                  (.leaf v_law7_alive)
                                (.no))
                              (.br (v_ins_Reads ((v_book_Ins a (9 : Int)).1, ((v_book_Ins a (9 : Int)).2.1, ((v_book_Ins a (9 : Int)).2.2.1, ((v_book_Ins a (9 : Int)).2.2.2.1, ((v_book_Ins a (9 : Int)).2.2.2.2.1, ((v_book_Ins a (9 : Int)).2.2.2.2.2.1, []))))))).2
                                (.br k_law7_alive
                                  (.leaf v_law7_alive)
                                (.no))
                              (.leaf false)))
                            (.no))
                          (.leaf false))))
                        (.leaf false)))
                      (.br (v_ins_Leads ((v_book_Ins a (9 : Int)).1, ((v_book_Ins a (9 : Int)).2.1, ((v_book_Ins a (9 : Int)).2.2.1, ((v_book_Ins a (9 : Int)).2.2.2.1, ((v_book_Ins a (9 : Int)).2.2.2.2.1, ((v_book_Ins a (9 : Int)).2.2.2.2.2.1, []))))))).1
                        (.br (k_ins_Locked ((v_book_Ins a (9 : Int)).1, ((v_book_Ins a (9 : Int)).2.1, ((v_book_Ins a (9 : Int)).2.2.1, ((v_book_Ins a (9 : Int)).2.2.2.1, ((v_book_Ins a (9 : Int)).2.2.2.2.1, ((v_book_Ins a (9 : Int)).2.2.2.2.2.1, [])))))))
                          (.br (! (v_ins_Locked ((v_book_Ins a (9 : Int)).1, ((v_book_Ins a (9 : Int)).2.1, ((v_book_Ins a (9 : Int)).2.2.1, ((v_book_Ins a (9 : Int)).2.2.2.1, ((v_book_Ins a (9 : Int)).2.2.2.2.1, ((v_book_Ins a (9 : Int)).2.2.2.2.2.1, []))))))))
                            (.br k_law7_alive
                              (.leaf v_law7_alive)
                            (.no))
                          (.br (v_ins_Reads ((v_book_Ins a (9 : Int)).1, ((v_book_Ins a (9 : Int)).2.1, ((v_book_Ins a (9 : Int)).2.2.1, ((v_book_Ins a (9 : Int)).2.2.2.1, ((v_book_Ins a (9 : Int)).2.2.2.2.1, ((v_book_Ins a (9 : Int)).2.2.2.2.2.1, []))))))).2
                            (.br k_law7_alive
                              (.leaf v_law7_alive)
                            (.no))
                          (.leaf false)))
                        (.no))
                      (.br ((v_book_Ins a (9 : Int)).1 == (10 : Int))
                        (.br (k_ins_Locked ((v_book_Ins a (9 : Int)).1, ((v_book_Ins a (9 : Int)).2.1, ((v_book_Ins a (9 : Int)).2.2.1, ((v_book_Ins a (9 : Int)).2.2.2.1, ((v_book_Ins a (9 : Int)).2.2.2.2.1, ((v_book_Ins a (9 : Int)).2.2.2.2.2.1, [])))))))
                          (.br (! (v_ins_Locked ((v_book_Ins a (9 : Int)).1, ((v_book_Ins a (9 : Int)).2.1, ((v_book_Ins a (9 : Int)).2.2.1, ((v_book_Ins a (9 : Int)).2.2.2.1, ((v_book_Ins a (9 : Int)).2.2.2.2.1, ((v_book_Ins a (9 : Int)).2.2.2.2.2.1, []))))))))
                            (.br k_law7_alive
                              (.leaf v_law7_alive)
                            (.no))
                          (.br (v_ins_Reads ((v_book_Ins a (9 : Int)).1, ((v_book_Ins a (9 : Int)).2.1, ((v_book_Ins a (9 : Int)).2.2.1, ((v_book_Ins a (9 : Int)).2.2.2.1, ((v_book_Ins a (9 : Int)).2.2.2.2.1, ((v_book_Ins a (9 : Int)).2.2.2.2.2.1, []))))))).2
                            (.br k_law7_alive
                              (.leaf v_law7_alive)
                            (.no))
                          (.leaf false)))
                        (.no))
                      (.br ((v_book_Ins a (9 : Int)).1 == (14 : Int))
                        (.br (k_ins_Locked ((v_book_Ins a (9 : Int)).1, ((v_book_Ins a (9 : Int)).2.1, ((v_book_Ins a (9 : Int)).2.2.1, ((v_book_Ins a (9 : Int)).2.2.2.1, ((v_book_Ins a (9 : Int)).2.2.2.2.1, ((v_book_Ins a (9 : Int)).2.2.2.2.2.1, [])))))))
                          (.br (! (v_ins_Locked ((v_book_Ins a (9 : Int)).1, ((v_book_Ins a (9 : Int)).2.1, ((v_book_Ins a (9 : Int)).2.2.1, ((v_book_Ins a (9 : Int)).2.2.2.1, ((v_book_Ins a (9 : Int)).2.2.2.2.1, ((v_book_Ins a (9 : Int)).2.2.2.2.2.1, []))))))))
                            (.br k_law7_alive
                              (.leaf v_law7_alive)
                            (.no))
                          (.br (v_ins_Reads ((v_book_Ins a (9 : Int)).1, ((v_book_Ins a (9 : Int)).2.1, ((v_book_Ins a (9 : Int)).2.2.1, ((v_book_Ins a (9 : Int)).2.2.2.1, ((v_book_Ins a (9 : Int)).2.2.2.2.1, ((v_book_Ins a (9 : Int)).2.2.2.2.2.1, []))))))).2
                            (.br k_law7_alive
                              (.leaf v_law7_alive)
                            (.no))
                          (.leaf false)))
                        (.no))
                      (.leaf false)))))
                    (.leaf false)))
                  (.no))
                (.no))
              (.leaf false)))
            (.br (((v_ins_Parts ((v_book_Ins a (9 : Int)).1, ((v_book_Ins a (9 : Int)).2.1, ((v_book_Ins a (9 : Int)).2.2.1, ((v_book_Ins a (9 : Int)).2.2.2.1, ((v_book_Ins a (9 : Int)).2.2.2.2.1, ((v_book_Ins a (9 : Int)).2.2.2.2.2.1, []))))))) == (2 : Int)) == false)
              (.br (k_ins_Fence ((v_book_Ins a (9 : Int)).1, ((v_book_Ins a (9 : Int)).2.1, ((v_book_Ins a (9 : Int)).2.2.1, ((v_book_Ins a (9 : Int)).2.2.2.1, ((v_book_Ins a (9 : Int)).2.2.2.2.1, ((v_book_Ins a (9 : Int)).2.2.2.2.2.1, [])))))))
                (.br (k_ins_Locked ((v_book_Ins a (9 : Int)).1, ((v_book_Ins a (9 : Int)).2.1, ((v_book_Ins a (9 : Int)).2.2.1, ((v_book_Ins a (9 : Int)).2.2.2.1, ((v_book_Ins a (9 : Int)).2.2.2.2.1, ((v_book_Ins a (9 : Int)).2.2.2.2.2.1, [])))))))
                  (.br (v_ins_Locked ((v_book_Ins a (9 : Int)).1, ((v_book_Ins a (9 : Int)).2.1, ((v_book_Ins a (9 : Int)).2.2.1, ((v_book_Ins a (9 : Int)).2.2.2.1, ((v_book_Ins a (9 : Int)).2.2.2.2.1, ((v_book_Ins a (9 : Int)).2.2.2.2.2.1, [])))))))
                    (.br ((v_ins_Fence ((v_book_Ins a (9 : Int)).1, ((v_book_Ins a (9 : Int)).2.1, ((v_book_Ins a (9 : Int)).2.2.1, ((v_book_Ins a (9 : Int)).2.2.2.1, ((v_book_Ins a (9 : Int)).2.2.2.2.1, ((v_book_Ins a (9 : Int)).2.2.2.2.2.1, []))))))) == true)
                      (.br (v_ins_Leads ((v_book_Ins a (9 : Int)).1, ((v_book_Ins a (9 : Int)).2.1, ((v_book_Ins a (9 : Int)).2.2.1, ((v_book_Ins a (9 : Int)).2.2.2.1, ((v_book_Ins a (9 : Int)).2.2.2.2.1, ((v_book_Ins a (9 : Int)).2.2.2.2.2.1, []))))))).2
                        (.br (v_ins_Reads ((v_book_Ins a (9 : Int)).1, ((v_book_Ins a (9 : Int)).2.1, ((v_book_Ins a (9 : Int)).2.2.1, ((v_book_Ins a (9 : Int)).2.2.2.1, ((v_book_Ins a (9 : Int)).2.2.2.2.1, ((v_book_Ins a (9 : Int)).2.2.2.2.2.1, []))))))).2
                          (.leaf false)
                        (.br (! (v_ins_Writes ((v_book_Ins a (9 : Int)).1, ((v_book_Ins a (9 : Int)).2.1, ((v_book_Ins a (9 : Int)).2.2.1, ((v_book_Ins a (9 : Int)).2.2.2.1, ((v_book_Ins a (9 : Int)).2.2.2.2.1, ((v_book_Ins a (9 : Int)).2.2.2.2.2.1, []))))))).2)
                          (.br (v_ins_Leads ((v_book_Ins a (9 : Int)).1, ((v_book_Ins a (9 : Int)).2.1, ((v_book_Ins a (9 : Int)).2.2.1, ((v_book_Ins a (9 : Int)).2.2.2.1, ((v_book_Ins a (9 : Int)).2.2.2.2.1, ((v_book_Ins a (9 : Int)).2.2.2.2.2.1, []))))))).1
                            (.br (k_ins_Locked ((v_book_Ins a (9 : Int)).1, ((v_book_Ins a (9 : Int)).2.1, ((v_book_Ins a (9 : Int)).2.2.1, ((v_book_Ins a (9 : Int)).2.2.2.1, ((v_book_Ins a (9 : Int)).2.2.2.2.1, ((v_book_Ins a (9 : Int)).2.2.2.2.2.1, [])))))))
                              (.br (! (v_ins_Locked ((v_book_Ins a (9 : Int)).1, ((v_book_Ins a (9 : Int)).2.1, ((v_book_Ins a (9 : Int)).2.2.1, ((v_book_Ins a (9 : Int)).2.2.2.1, ((v_book_Ins a (9 : Int)).2.2.2.2.1, ((v_book_Ins a (9 : Int)).2.2.2.2.2.1, []))))))))
                                (.br k_law7_alive
                                  (.leaf v_law7_alive)
                                (.no))
                              (.br (v_ins_Reads ((v_book_Ins a (9 : Int)).1, ((v_book_Ins a (9 : Int)).2.1, ((v_book_Ins a (9 : Int)).2.2.1, ((v_book_Ins a (9 : Int)).2.2.2.1, ((v_book_Ins a (9 : Int)).2.2.2.2.1, ((v_book_Ins a (9 : Int)).2.2.2.2.2.1, []))))))).2
                                (.br k_law7_alive
                                  (.leaf v_law7_alive)
                                (.no))
                              (.leaf false)))
                            (.no))
                          (.br ((v_book_Ins a (9 : Int)).1 == (10 : Int))
                            (.br (k_ins_Locked ((v_book_Ins a (9 : Int)).1, ((v_book_Ins a (9 : Int)).2.1, ((v_book_Ins a (9 : Int)).2.2.1, ((v_book_Ins a (9 : Int)).2.2.2.1, ((v_book_Ins a (9 : Int)).2.2.2.2.1, ((v_book_Ins a (9 : Int)).2.2.2.2.2.1, [])))))))
                              (.br (! (v_ins_Locked ((v_book_Ins a (9 : Int)).1, ((v_book_Ins a (9 : Int)).2.1, ((v_book_Ins a (9 : Int)).2.2.1, ((v_book_Ins a (9 : Int)).2.2.2.1, ((v_book_Ins a (9 : Int)).2.2.2.2.1, ((v_book_Ins a (9 : Int)).2.2.2.2.2.1, []))))))))
                                (.br k_law7_alive
                                  (.leaf v_law7_alive)
                                (.no))
                              (.br (v_ins_Reads ((v_book_Ins a (9 : Int)).1, ((v_book_Ins a (9 : Int)).2.1, ((v_book_Ins a (9 : Int)).2.2.1, ((v_book_Ins a (9 : Int)).2.2.2.1, ((v_book_Ins a (9 : Int)).2.2.2.2.1, ((v_book_Ins a (9 : Int)).2.2.2.2.2.1, []))))))).2
                                (.br k_law7_alive
                                  (.leaf v_law7_alive)
                                (.no))
                              (.leaf false)))
                            (.no))
                          (.br ((v_book_Ins a (9 : Int)).1 == (14 : Int))
                            (.br (k_ins_Locked ((v_book_Ins a (9 : Int)).1, ((v_book_Ins a (9 : Int)).2.1, ((v_book_Ins a (9 : Int)).2.2.1, ((v_book_Ins a (9 : Int)).2.2.2.1, ((v_book_Ins a (9 : Int)).2.2.2.2.1, ((v_book_Ins a (9 : Int)).2.2.2.2.2.1, [])))))))
                              (.br (! (v_ins_Locked ((v_book_Ins a (9 : Int)).1, ((v_book_Ins a (9 : Int)).2.1, ((v_book_Ins a (9 : Int)).2.2.1, ((v_book_Ins a (9 : Int)).2.2.2.1, ((v_book_Ins a (9 : Int)).2.2.2.2.1, ((v_book_Ins a (9 : Int)).2.2.2.2.2.1, []))))))))
                                (.br k_law7_alive
                                  (.leaf v_law7_alive)
                                (.no))
                              (.br (v_ins_Reads ((v_book_Ins a (9 : Int)).1, ((v_book_Ins a (9 : Int)).2.1, ((v_book_Ins a (9 : Int)).2.2.1, ((v_book_Ins a (9 : Int)).2.2.2.1, ((v_book_Ins a (9 : Int)).2.2.2.2.1, ((v_book_Ins a (9 : Int)).2.2.2.2.2.1, []))))))).2
                                (.br k_law7_alive
                                  (.leaf v_law7_alive)
                                (.no))
                              (.leaf false)))
                            (.no))
                          (.leaf false))))
                        (.leaf false)))
                      (.br (v_ins_Leads ((v_book_Ins a (9 : Int)).1, ((v_book_Ins a (9 : Int)).2.1, ((v_book_Ins a (9 : Int)).2.2.1, ((v_book_Ins a (9 : Int)).2.2.2.1, ((v_book_Ins a (9 : Int)).2.2.2.2.1, ((v_book_Ins a (9 : Int)).2.2.2.2.2.1, []))))))).1
                        (.br (k_ins_Locked ((v_book_Ins a (9 : Int)).1, ((v_book_Ins a (9 : Int)).2.1, ((v_book_Ins a (9 : Int)).2.2.1, ((v_book_Ins a (9 : Int)).2.2.2.1, ((v_book_Ins a (9 : Int)).2.2.2.2.1, ((v_book_Ins a (9 : Int)).2.2.2.2.2.1, [])))))))
                          (.br (! (v_ins_Locked ((v_book_Ins a (9 : Int)).1, ((v_book_Ins a (9 : Int)).2.1, ((v_book_Ins a (9 : Int)).2.2.1, ((v_book_Ins a (9 : Int)).2.2.2.1, ((v_book_Ins a (9 : Int)).2.2.2.2.1, ((v_book_Ins a (9 : Int)).2.2.2.2.2.1, []))))))))
                            (.br k_law7_alive
                              (.leaf v_law7_alive)
                            (.no))
                          (.br (v_ins_Reads ((v_book_Ins a (9 : Int)).1, ((v_book_Ins a (9 : Int)).2.1, ((v_book_Ins a (9 : Int)).2.2.1, ((v_book_Ins a (9 : Int)).2.2.2.1, ((v_book_Ins a (9 : Int)).2.2.2.2.1, ((v_book_Ins a (9 : Int)).2.2.2.2.2.1, []))))))).2
                            (.br k_law7_alive
                              (.leaf v_law7_alive)
                            (.no))
                          (.leaf false)))
                        (.no))
                      (.br ((v_book_Ins a (9 : Int)).1 == (10 : Int))
                        (.br (k_ins_Locked ((v_book_Ins a (9 : Int)).1, ((v_book_Ins a (9 : Int)).2.1, ((v_book_Ins a (9 : Int)).2.2.1, ((v_book_Ins a (9 : Int)).2.2.2.1, ((v_book_Ins a (9 : Int)).2.2.2.2.1, ((v_book_Ins a (9 : Int)).2.2.2.2.2.1, [])))))))
                          (.br (! (v_ins_Locked ((v_book_Ins a (9 : Int)).1, ((v_book_Ins a (9 : Int)).2.1, ((v_book_Ins a (9 : Int)).2.2.1, ((v_book_Ins a (9 : Int)).2.2.2.1, ((v_book_Ins a (9 : Int)).2.2.2.2.1, ((v_book_Ins a (9 : Int)).2.2.2.2.2.1, []))))))))
                            (.br k_law7_alive
                              (.leaf v_law7_alive)
                            (.no))
                          (.br (v_ins_Reads ((v_book_Ins a (9 : Int)).1, ((v_book_Ins a (9 : Int)).2.1, ((v_book_Ins a (9 : Int)).2.2.1, ((v_book_Ins a (9 : Int)).2.2.2.1, ((v_book_Ins a (9 : Int)).2.2.2.2.1, ((v_book_Ins a (9 : Int)).2.2.2.2.2.1, []))))))).2
                            (.br k_law7_alive
                              (.leaf v_law7_alive)
                            (.no))
                          (.leaf false)))
                        (.no))
                      (.br ((v_book_Ins a (9 : Int)).1 == (14 : Int))
                        (.br (k_ins_Locked ((v_book_Ins a (9 : Int)).1, ((v_book_Ins a (9 : Int)).2.1, ((v_book_Ins a (9 : Int)).2.2.1, ((v_book_Ins a (9 : Int)).2.2.2.1, ((v_book_Ins a (9 : Int)).2.2.2.2.1, ((v_book_Ins a (9 : Int)).2.2.2.2.2.1, [])))))))
                          (.br (! (v_ins_Locked ((v_book_Ins a (9 : Int)).1, ((v_book_Ins a (9 : Int)).2.1, ((v_book_Ins a (9 : Int)).2.2.1, ((v_book_Ins a (9 : Int)).2.2.2.1, ((v_book_Ins a (9 : Int)).2.2.2.2.1, ((v_book_Ins a (9 : Int)).2.2.2.2.2.1, []))))))))
                            (.br k_law7_alive
                              (.leaf v_law7_alive)
                            (.no))
                          (.br (v_ins_Reads ((v_book_Ins a (9 : Int)).1, ((v_book_Ins a (9 : Int)).2.1, ((v_book_Ins a (9 : Int)).2.2.1, ((v_book_Ins a (9 : Int)).2.2.2.1, ((v_book_Ins a (9 : Int)).2.2.2.2.1, ((v_book_Ins a (9 : Int)).2.2.2.2.2.1, []))))))).2
                            (.br k_law7_alive
                              (.leaf v_law7_alive)
                            (.no))
                          (.leaf false)))
                        (.no))
                      (.leaf false)))))
                    (.leaf false))
                  (.br ((v_ins_Fence ((v_book_Ins a (9 : Int)).1, ((v_book_Ins a (9 : Int)).2.1, ((v_book_Ins a (9 : Int)).2.2.1, ((v_book_Ins a (9 : Int)).2.2.2.1, ((v_book_Ins a (9 : Int)).2.2.2.2.1, ((v_book_Ins a (9 : Int)).2.2.2.2.2.1, []))))))) == ((v_book_Ins a (9 : Int)).1 == (12 : Int)))
                    (.br (v_ins_Leads ((v_book_Ins a (9 : Int)).1, ((v_book_Ins a (9 : Int)).2.1, ((v_book_Ins a (9 : Int)).2.2.1, ((v_book_Ins a (9 : Int)).2.2.2.1, ((v_book_Ins a (9 : Int)).2.2.2.2.1, ((v_book_Ins a (9 : Int)).2.2.2.2.2.1, []))))))).2
                      (.br (v_ins_Reads ((v_book_Ins a (9 : Int)).1, ((v_book_Ins a (9 : Int)).2.1, ((v_book_Ins a (9 : Int)).2.2.1, ((v_book_Ins a (9 : Int)).2.2.2.1, ((v_book_Ins a (9 : Int)).2.2.2.2.1, ((v_book_Ins a (9 : Int)).2.2.2.2.2.1, []))))))).2
                        (.leaf false)
                      (.br (! (v_ins_Writes ((v_book_Ins a (9 : Int)).1, ((v_book_Ins a (9 : Int)).2.1, ((v_book_Ins a (9 : Int)).2.2.1, ((v_book_Ins a (9 : Int)).2.2.2.1, ((v_book_Ins a (9 : Int)).2.2.2.2.1, ((v_book_Ins a (9 : Int)).2.2.2.2.2.1, []))))))).2)
                        (.br (v_ins_Leads ((v_book_Ins a (9 : Int)).1, ((v_book_Ins a (9 : Int)).2.1, ((v_book_Ins a (9 : Int)).2.2.1, ((v_book_Ins a (9 : Int)).2.2.2.1, ((v_book_Ins a (9 : Int)).2.2.2.2.1, ((v_book_Ins a (9 : Int)).2.2.2.2.2.1, []))))))).1
                          (.br (k_ins_Locked ((v_book_Ins a (9 : Int)).1, ((v_book_Ins a (9 : Int)).2.1, ((v_book_Ins a (9 : Int)).2.2.1, ((v_book_Ins a (9 : Int)).2.2.2.1, ((v_book_Ins a (9 : Int)).2.2.2.2.1, ((v_book_Ins a (9 : Int)).2.2.2.2.2.1, [])))))))
                            (.br (! (v_ins_Locked ((v_book_Ins a (9 : Int)).1, ((v_book_Ins a (9 : Int)).2.1, ((v_book_Ins a (9 : Int)).2.2.1, ((v_book_Ins a (9 : Int)).2.2.2.1, ((v_book_Ins a (9 : Int)).2.2.2.2.1, ((v_book_Ins a (9 : Int)).2.2.2.2.2.1, []))))))))
                              (.br k_law7_alive
                                (.leaf v_law7_alive)
                              (.no))
                            (.br (v_ins_Reads ((v_book_Ins a (9 : Int)).1, ((v_book_Ins a (9 : Int)).2.1, ((v_book_Ins a (9 : Int)).2.2.1, ((v_book_Ins a (9 : Int)).2.2.2.1, ((v_book_Ins a (9 : Int)).2.2.2.2.1, ((v_book_Ins a (9 : Int)).2.2.2.2.2.1, []))))))).2
                              (.br k_law7_alive
                                (.leaf v_law7_alive)
                              (.no))
                            (.leaf false)))
                          (.no))
                        (.br ((v_book_Ins a (9 : Int)).1 == (10 : Int))
                          (.br (k_ins_Locked ((v_book_Ins a (9 : Int)).1, ((v_book_Ins a (9 : Int)).2.1, ((v_book_Ins a (9 : Int)).2.2.1, ((v_book_Ins a (9 : Int)).2.2.2.1, ((v_book_Ins a (9 : Int)).2.2.2.2.1, ((v_book_Ins a (9 : Int)).2.2.2.2.2.1, [])))))))
                            (.br (! (v_ins_Locked ((v_book_Ins a (9 : Int)).1, ((v_book_Ins a (9 : Int)).2.1, ((v_book_Ins a (9 : Int)).2.2.1, ((v_book_Ins a (9 : Int)).2.2.2.1, ((v_book_Ins a (9 : Int)).2.2.2.2.1, ((v_book_Ins a (9 : Int)).2.2.2.2.2.1, []))))))))
                              (.br k_law7_alive
                                (.leaf v_law7_alive)
                              (.no))
                            (.br (v_ins_Reads ((v_book_Ins a (9 : Int)).1, ((v_book_Ins a (9 : Int)).2.1, ((v_book_Ins a (9 : Int)).2.2.1, ((v_book_Ins a (9 : Int)).2.2.2.1, ((v_book_Ins a (9 : Int)).2.2.2.2.1, ((v_book_Ins a (9 : Int)).2.2.2.2.2.1, []))))))).2
                              (.br k_law7_alive
                                (.leaf v_law7_alive)
                              (.no))
                            (.leaf false)))
                          (.no))
                        (.br ((v_book_Ins a (9 : Int)).1 == (14 : Int))
                          (.br (k_ins_Locked ((v_book_Ins a (9 : Int)).1, ((v_book_Ins a (9 : Int)).2.1, ((v_book_Ins a (9 : Int)).2.2.1, ((v_book_Ins a (9 : Int)).2.2.2.1, ((v_book_Ins a (9 : Int)).2.2.2.2.1, ((v_book_Ins a (9 : Int)).2.2.2.2.2.1, [])))))))
                            (.br (! (v_ins_Locked ((v_book_Ins a (9 : Int)).1, ((v_book_Ins a (9 : Int)).2.1, ((v_book_Ins a (9 : Int)).2.2.1, ((v_book_Ins a (9 : Int)).2.2.2.1, ((v_book_Ins a (9 : Int)).2.2.2.2.1, ((v_book_Ins a (9 : Int)).2.2.2.2.2.1, []))))))))
                              (.br k_law7_alive
                                (.leaf v_law7_alive)
                              (.no))
                            (.br (v_ins_Reads ((v_book_Ins a (9 : Int)).1, ((v_book_Ins a (9 : Int)).2.1, ((v_book_Ins a (9 : Int)).2.2.1, ((v_book_Ins a (9 : Int)).2.2.2.1, ((v_book_Ins a (9 : Int)).2.2.2.2.1, ((v_book_Ins a (9 : Int)).2.2.2.2.2.1, []))))))).2
                              (.br k_law7_alive
                                (.leaf v_law7_alive)
                              (.no))
                            (.leaf false)))
                          (.no))
                        (.leaf false))))
                      (.leaf false)))
                    (.br (v_ins_Leads ((v_book_Ins a (9 : Int)).1, ((v_book_Ins a (9 : Int)).2.1, ((v_book_Ins a (9 : Int)).2.2.1, ((v_book_Ins a (9 : Int)).2.2.2.1, ((v_book_Ins a (9 : Int)).2.2.2.2.1, ((v_book_Ins a (9 : Int)).2.2.2.2.2.1, []))))))).1
                      (.br (k_ins_Locked ((v_book_Ins a (9 : Int)).1, ((v_book_Ins a (9 : Int)).2.1, ((v_book_Ins a (9 : Int)).2.2.1, ((v_book_Ins a (9 : Int)).2.2.2.1, ((v_book_Ins a (9 : Int)).2.2.2.2.1, ((v_book_Ins a (9 : Int)).2.2.2.2.2.1, [])))))))
                        (.br (! (v_ins_Locked ((v_book_Ins a (9 : Int)).1, ((v_book_Ins a (9 : Int)).2.1, ((v_book_Ins a (9 : Int)).2.2.1, ((v_book_Ins a (9 : Int)).2.2.2.1, ((v_book_Ins a (9 : Int)).2.2.2.2.1, ((v_book_Ins a (9 : Int)).2.2.2.2.2.1, []))))))))
                          (.br k_law7_alive
                            (.leaf v_law7_alive)
                          (.no))
                        (.br (v_ins_Reads ((v_book_Ins a (9 : Int)).1, ((v_book_Ins a (9 : Int)).2.1, ((v_book_Ins a (9 : Int)).2.2.1, ((v_book_Ins a (9 : Int)).2.2.2.1, ((v_book_Ins a (9 : Int)).2.2.2.2.1, ((v_book_Ins a (9 : Int)).2.2.2.2.2.1, []))))))).2
                          (.br k_law7_alive
                            (.leaf v_law7_alive)
                          (.no))
                        (.leaf false)))
                      (.no))
                    (.br ((v_book_Ins a (9 : Int)).1 == (10 : Int))
                      (.br (k_ins_Locked ((v_book_Ins a (9 : Int)).1, ((v_book_Ins a (9 : Int)).2.1, ((v_book_Ins a (9 : Int)).2.2.1, ((v_book_Ins a (9 : Int)).2.2.2.1, ((v_book_Ins a (9 : Int)).2.2.2.2.1, ((v_book_Ins a (9 : Int)).2.2.2.2.2.1, [])))))))
                        (.br (! (v_ins_Locked ((v_book_Ins a (9 : Int)).1, ((v_book_Ins a (9 : Int)).2.1, ((v_book_Ins a (9 : Int)).2.2.1, ((v_book_Ins a (9 : Int)).2.2.2.1, ((v_book_Ins a (9 : Int)).2.2.2.2.1, ((v_book_Ins a (9 : Int)).2.2.2.2.2.1, []))))))))
                          (.br k_law7_alive
                            (.leaf v_law7_alive)
                          (.no))
                        (.br (v_ins_Reads ((v_book_Ins a (9 : Int)).1, ((v_book_Ins a (9 : Int)).2.1, ((v_book_Ins a (9 : Int)).2.2.1, ((v_book_Ins a (9 : Int)).2.2.2.1, ((v_book_Ins a (9 : Int)).2.2.2.2.1, ((v_book_Ins a (9 : Int)).2.2.2.2.2.1, []))))))).2
                          (.br k_law7_alive
                            (.leaf v_law7_alive)
                          (.no))
                        (.leaf false)))
                      (.no))
                    (.br ((v_book_Ins a (9 : Int)).1 == (14 : Int))
                      (.br (k_ins_Locked ((v_book_Ins a (9 : Int)).1, ((v_book_Ins a (9 : Int)).2.1, ((v_book_Ins a (9 : Int)).2.2.1, ((v_book_Ins a (9 : Int)).2.2.2.1, ((v_book_Ins a (9 : Int)).2.2.2.2.1, ((v_book_Ins a (9 : Int)).2.2.2.2.2.1, [])))))))
                        (.br (! (v_ins_Locked ((v_book_Ins a (9 : Int)).1, ((v_book_Ins a (9 : Int)).2.1, ((v_book_Ins a (9 : Int)).2.2.1, ((v_book_Ins a (9 : Int)).2.2.2.1, ((v_book_Ins a (9 : Int)).2.2.2.2.1, ((v_book_Ins a (9 : Int)).2.2.2.2.2.1, []))))))))
                          (.br k_law7_alive
                            (.leaf v_law7_alive)
                          (.no))
                        (.br (v_ins_Reads ((v_book_Ins a (9 : Int)).1, ((v_book_Ins a (9 : Int)).2.1, ((v_book_Ins a (9 : Int)).2.2.1, ((v_book_Ins a (9 : Int)).2.2.2.1, ((v_book_Ins a (9 : Int)).2.2.2.2.1, ((v_book_Ins a (9 : Int)).2.2.2.2.2.1, []))))))).2
                          (.br k_law7_alive
                            (.leaf v_law7_alive)
                          (.no))
                        (.leaf false)))
                      (.no))
                    (.leaf false)))))
                  (.leaf false)))
                (.no))
              (.no))
            (.leaf false)))
          (.no))
        (.no))
      (.no))
    (.no))
  (.no)
def v_law7_InsReckons (a : El T_book_Act) : Bool :=
  bif (k_book_Ins a (9 : Int)) then
    bif (k_ins_Reads ((v_book_Ins a (9 : Int)).1, ((v_book_Ins a (9 : Int)).2.1, ((v_book_Ins a (9 : Int)).2.2.1, ((v_book_Ins a (9 : Int)).2.2.2.1, ((v_book_Ins a (9 : Int)).2.2.2.2.1, ((v_book_Ins a (9 : Int)).2.2.2.2.2.1, []))))))) then
      bif (k_ins_Writes ((v_book_Ins a (9 : Int)).1, ((v_book_Ins a (9 : Int)).2.1, ((v_book_Ins a (9 : Int)).2.2.1, ((v_book_Ins a (9 : Int)).2.2.2.1, ((v_book_Ins a (9 : Int)).2.2.2.2.1, ((v_book_Ins a (9 : Int)).2.2.2.2.2.1, []))))))) then
        bif (k_ins_Leads ((v_book_Ins a (9 : Int)).1, ((v_book_Ins a (9 : Int)).2.1, ((v_book_Ins a (9 : Int)).2.2.1, ((v_book_Ins a (9 : Int)).2.2.2.1, ((v_book_Ins a (9 : Int)).2.2.2.2.1, ((v_book_Ins a (9 : Int)).2.2.2.2.2.1, []))))))) then
          bif (k_ins_Parts ((v_book_Ins a (9 : Int)).1, ((v_book_Ins a (9 : Int)).2.1, ((v_book_Ins a (9 : Int)).2.2.1, ((v_book_Ins a (9 : Int)).2.2.2.1, ((v_book_Ins a (9 : Int)).2.2.2.2.1, ((v_book_Ins a (9 : Int)).2.2.2.2.2.1, []))))))) then
            bif (v_ins_Reads ((v_book_Ins a (9 : Int)).1, ((v_book_Ins a (9 : Int)).2.1, ((v_book_Ins a (9 : Int)).2.2.1, ((v_book_Ins a (9 : Int)).2.2.2.1, ((v_book_Ins a (9 : Int)).2.2.2.2.1, ((v_book_Ins a (9 : Int)).2.2.2.2.2.1, []))))))).2 then
              bif (v_ins_Writes ((v_book_Ins a (9 : Int)).1, ((v_book_Ins a (9 : Int)).2.1, ((v_book_Ins a (9 : Int)).2.2.1, ((v_book_Ins a (9 : Int)).2.2.2.1, ((v_book_Ins a (9 : Int)).2.2.2.2.1, ((v_book_Ins a (9 : Int)).2.2.2.2.2.1, []))))))).2 then
                bif (k_ins_Locked ((v_book_Ins a (9 : Int)).1, ((v_book_Ins a (9 : Int)).2.1, ((v_book_Ins a (9 : Int)).2.2.1, ((v_book_Ins a (9 : Int)).2.2.2.1, ((v_book_Ins a (9 : Int)).2.2.2.2.1, ((v_book_Ins a (9 : Int)).2.2.2.2.2.1, []))))))) then
                  bif (((v_ins_Parts ((v_book_Ins a (9 : Int)).1, ((v_book_Ins a (9 : Int)).2.1, ((v_book_Ins a (9 : Int)).2.2.1, ((v_book_Ins a (9 : Int)).2.2.2.1, ((v_book_Ins a (9 : Int)).2.2.2.2.1, ((v_book_Ins a (9 : Int)).2.2.2.2.2.1, []))))))) == (2 : Int)) == (! (v_ins_Locked ((v_book_Ins a (9 : Int)).1, ((v_book_Ins a (9 : Int)).2.1, ((v_book_Ins a (9 : Int)).2.2.1, ((v_book_Ins a (9 : Int)).2.2.2.1, ((v_book_Ins a (9 : Int)).2.2.2.2.1, ((v_book_Ins a (9 : Int)).2.2.2.2.2.1, []))))))))) then
                    bif (k_ins_Fence ((v_book_Ins a (9 : Int)).1, ((v_book_Ins a (9 : Int)).2.1, ((v_book_Ins a (9 : Int)).2.2.1, ((v_book_Ins a (9 : Int)).2.2.2.1, ((v_book_Ins a (9 : Int)).2.2.2.2.1, ((v_book_Ins a (9 : Int)).2.2.2.2.2.1, []))))))) then
                      bif (k_ins_Locked ((v_book_Ins a (9 : Int)).1, ((v_book_Ins a (9 : Int)).2.1, ((v_book_Ins a (9 : Int)).2.2.1, ((v_book_Ins a (9 : Int)).2.2.2.1, ((v_book_Ins a (9 : Int)).2.2.2.2.1, ((v_book_Ins a (9 : Int)).2.2.2.2.2.1, []))))))) then
                        bif (v_ins_Locked ((v_book_Ins a (9 : Int)).1, ((v_book_Ins a (9 : Int)).2.1, ((v_book_Ins a (9 : Int)).2.2.1, ((v_book_Ins a (9 : Int)).2.2.2.1, ((v_book_Ins a (9 : Int)).2.2.2.2.1, ((v_book_Ins a (9 : Int)).2.2.2.2.2.1, []))))))) then
                          bif ((v_ins_Fence ((v_book_Ins a (9 : Int)).1, ((v_book_Ins a (9 : Int)).2.1, ((v_book_Ins a (9 : Int)).2.2.1, ((v_book_Ins a (9 : Int)).2.2.2.1, ((v_book_Ins a (9 : Int)).2.2.2.2.1, ((v_book_Ins a (9 : Int)).2.2.2.2.2.1, []))))))) == true) then
                            bif (v_ins_Leads ((v_book_Ins a (9 : Int)).1, ((v_book_Ins a (9 : Int)).2.1, ((v_book_Ins a (9 : Int)).2.2.1, ((v_book_Ins a (9 : Int)).2.2.2.1, ((v_book_Ins a (9 : Int)).2.2.2.2.1, ((v_book_Ins a (9 : Int)).2.2.2.2.2.1, []))))))).2 then
                              bif (v_ins_Reads ((v_book_Ins a (9 : Int)).1, ((v_book_Ins a (9 : Int)).2.1, ((v_book_Ins a (9 : Int)).2.2.1, ((v_book_Ins a (9 : Int)).2.2.2.1, ((v_book_Ins a (9 : Int)).2.2.2.2.1, ((v_book_Ins a (9 : Int)).2.2.2.2.2.1, []))))))).2 then
                                false
                              else bif (! (v_ins_Writes ((v_book_Ins a (9 : Int)).1, ((v_book_Ins a (9 : Int)).2.1, ((v_book_Ins a (9 : Int)).2.2.1, ((v_book_Ins a (9 : Int)).2.2.2.1, ((v_book_Ins a (9 : Int)).2.2.2.2.1, ((v_book_Ins a (9 : Int)).2.2.2.2.2.1, []))))))).2) then
                                bif (v_ins_Leads ((v_book_Ins a (9 : Int)).1, ((v_book_Ins a (9 : Int)).2.1, ((v_book_Ins a (9 : Int)).2.2.1, ((v_book_Ins a (9 : Int)).2.2.2.1, ((v_book_Ins a (9 : Int)).2.2.2.2.1, ((v_book_Ins a (9 : Int)).2.2.2.2.2.1, []))))))).1 then
                                  bif (k_ins_Locked ((v_book_Ins a (9 : Int)).1, ((v_book_Ins a (9 : Int)).2.1, ((v_book_Ins a (9 : Int)).2.2.1, ((v_book_Ins a (9 : Int)).2.2.2.1, ((v_book_Ins a (9 : Int)).2.2.2.2.1, ((v_book_Ins a (9 : Int)).2.2.2.2.2.1, []))))))) then
                                    bif (! (v_ins_Locked ((v_book_Ins a (9 : Int)).1, ((v_book_Ins a (9 : Int)).2.1, ((v_book_Ins a (9 : Int)).2.2.1, ((v_book_Ins a (9 : Int)).2.2.2.1, ((v_book_Ins a (9 : Int)).2.2.2.2.1, ((v_book_Ins a (9 : Int)).2.2.2.2.2.1, [])))))))) then
                                      bif k_law7_alive then
                                        v_law7_alive
                                      else false
                                    else bif (v_ins_Reads ((v_book_Ins a (9 : Int)).1, ((v_book_Ins a (9 : Int)).2.1, ((v_book_Ins a (9 : Int)).2.2.1, ((v_book_Ins a (9 : Int)).2.2.2.1, ((v_book_Ins a (9 : Int)).2.2.2.2.1, ((v_book_Ins a (9 : Int)).2.2.2.2.2.1, []))))))).2 then
                                      bif k_law7_alive then
                                        v_law7_alive
                                      else false
                                    else false
                                  else false
                                else bif ((v_book_Ins a (9 : Int)).1 == (10 : Int)) then
                                  bif (k_ins_Locked ((v_book_Ins a (9 : Int)).1, ((v_book_Ins a (9 : Int)).2.1, ((v_book_Ins a (9 : Int)).2.2.1, ((v_book_Ins a (9 : Int)).2.2.2.1, ((v_book_Ins a (9 : Int)).2.2.2.2.1, ((v_book_Ins a (9 : Int)).2.2.2.2.2.1, []))))))) then
                                    bif (! (v_ins_Locked ((v_book_Ins a (9 : Int)).1, ((v_book_Ins a (9 : Int)).2.1, ((v_book_Ins a (9 : Int)).2.2.1, ((v_book_Ins a (9 : Int)).2.2.2.1, ((v_book_Ins a (9 : Int)).2.2.2.2.1, ((v_book_Ins a (9 : Int)).2.2.2.2.2.1, [])))))))) then
                                      bif k_law7_alive then
                                        v_law7_alive
                                      else false
                                    else bif (v_ins_Reads ((v_book_Ins a (9 : Int)).1, ((v_book_Ins a (9 : Int)).2.1, ((v_book_Ins a (9 : Int)).2.2.1, ((v_book_Ins a (9 : Int)).2.2.2.1, ((v_book_Ins a (9 : Int)).2.2.2.2.1, ((v_book_Ins a (9 : Int)).2.2.2.2.2.1, []))))))).2 then
                                      bif k_law7_alive then
                                        v_law7_alive
                                      else false
                                    else false
                                  else false
                                else bif ((v_book_Ins a (9 : Int)).1 == (14 : Int)) then
                                  bif (k_ins_Locked ((v_book_Ins a (9 : Int)).1, ((v_book_Ins a (9 : Int)).2.1, ((v_book_Ins a (9 : Int)).2.2.1, ((v_book_Ins a (9 : Int)).2.2.2.1, ((v_book_Ins a (9 : Int)).2.2.2.2.1, ((v_book_Ins a (9 : Int)).2.2.2.2.2.1, []))))))) then
                                    bif (! (v_ins_Locked ((v_book_Ins a (9 : Int)).1, ((v_book_Ins a (9 : Int)).2.1, ((v_book_Ins a (9 : Int)).2.2.1, ((v_book_Ins a (9 : Int)).2.2.2.1, ((v_book_Ins a (9 : Int)).2.2.2.2.1, ((v_book_Ins a (9 : Int)).2.2.2.2.2.1, [])))))))) then
                                      bif k_law7_alive then
                                        v_law7_alive
                                      else false
                                    else bif (v_ins_Reads ((v_book_Ins a (9 : Int)).1, ((v_book_Ins a (9 : Int)).2.1, ((v_book_Ins a (9 : Int)).2.2.1, ((v_book_Ins a (9 : Int)).2.2.2.1, ((v_book_Ins a (9 : Int)).2.2.2.2.1, ((v_book_Ins a (9 : Int)).2.2.2.2.2.1, []))))))).2 then
                                      bif k_law7_alive then
                                        v_law7_alive
                                      else false
                                    else false
                                  else false
                                else false
                              else false
                            else bif (v_ins_Leads ((v_book_Ins a (9 : Int)).1, ((v_book_Ins a (9 : Int)).2.1, ((v_book_Ins a (9 : Int)).2.2.1, ((v_book_Ins a (9 : Int)).2.2.2.1, ((v_book_Ins a (9 : Int)).2.2.2.2.1, ((v_book_Ins a (9 : Int)).2.2.2.2.2.1, []))))))).1 then
                              bif (k_ins_Locked ((v_book_Ins a (9 : Int)).1, ((v_book_Ins a (9 : Int)).2.1, ((v_book_Ins a (9 : Int)).2.2.1, ((v_book_Ins a (9 : Int)).2.2.2.1, ((v_book_Ins a (9 : Int)).2.2.2.2.1, ((v_book_Ins a (9 : Int)).2.2.2.2.2.1, []))))))) then
                                bif (! (v_ins_Locked ((v_book_Ins a (9 : Int)).1, ((v_book_Ins a (9 : Int)).2.1, ((v_book_Ins a (9 : Int)).2.2.1, ((v_book_Ins a (9 : Int)).2.2.2.1, ((v_book_Ins a (9 : Int)).2.2.2.2.1, ((v_book_Ins a (9 : Int)).2.2.2.2.2.1, [])))))))) then
                                  bif k_law7_alive then
                                    v_law7_alive
                                  else false
                                else bif (v_ins_Reads ((v_book_Ins a (9 : Int)).1, ((v_book_Ins a (9 : Int)).2.1, ((v_book_Ins a (9 : Int)).2.2.1, ((v_book_Ins a (9 : Int)).2.2.2.1, ((v_book_Ins a (9 : Int)).2.2.2.2.1, ((v_book_Ins a (9 : Int)).2.2.2.2.2.1, []))))))).2 then
                                  bif k_law7_alive then
                                    v_law7_alive
                                  else false
                                else false
                              else false
                            else bif ((v_book_Ins a (9 : Int)).1 == (10 : Int)) then
                              bif (k_ins_Locked ((v_book_Ins a (9 : Int)).1, ((v_book_Ins a (9 : Int)).2.1, ((v_book_Ins a (9 : Int)).2.2.1, ((v_book_Ins a (9 : Int)).2.2.2.1, ((v_book_Ins a (9 : Int)).2.2.2.2.1, ((v_book_Ins a (9 : Int)).2.2.2.2.2.1, []))))))) then
                                bif (! (v_ins_Locked ((v_book_Ins a (9 : Int)).1, ((v_book_Ins a (9 : Int)).2.1, ((v_book_Ins a (9 : Int)).2.2.1, ((v_book_Ins a (9 : Int)).2.2.2.1, ((v_book_Ins a (9 : Int)).2.2.2.2.1, ((v_book_Ins a (9 : Int)).2.2.2.2.2.1, [])))))))) then
                                  bif k_law7_alive then
                                    v_law7_alive
                                  else false
                                else bif (v_ins_Reads ((v_book_Ins a (9 : Int)).1, ((v_book_Ins a (9 : Int)).2.1, ((v_book_Ins a (9 : Int)).2.2.1, ((v_book_Ins a (9 : Int)).2.2.2.1, ((v_book_Ins a (9 : Int)).2.2.2.2.1, ((v_book_Ins a (9 : Int)).2.2.2.2.2.1, []))))))).2 then
                                  bif k_law7_alive then
                                    v_law7_alive
                                  else false
                                else false
                              else false
                            else bif ((v_book_Ins a (9 : Int)).1 == (14 : Int)) then
                              bif (k_ins_Locked ((v_book_Ins a (9 : Int)).1, ((v_book_Ins a (9 : Int)).2.1, ((v_book_Ins a (9 : Int)).2.2.1, ((v_book_Ins a (9 : Int)).2.2.2.1, ((v_book_Ins a (9 : Int)).2.2.2.2.1, ((v_book_Ins a (9 : Int)).2.2.2.2.2.1, []))))))) then
                                bif (! (v_ins_Locked ((v_book_Ins a (9 : Int)).1, ((v_book_Ins a (9 : Int)).2.1, ((v_book_Ins a (9 : Int)).2.2.1, ((v_book_Ins a (9 : Int)).2.2.2.1, ((v_book_Ins a (9 : Int)).2.2.2.2.1, ((v_book_Ins a (9 : Int)).2.2.2.2.2.1, [])))))))) then
                                  bif k_law7_alive then
                                    v_law7_alive
                                  else false
                                else bif (v_ins_Reads ((v_book_Ins a (9 : Int)).1, ((v_book_Ins a (9 : Int)).2.1, ((v_book_Ins a (9 : Int)).2.2.1, ((v_book_Ins a (9 : Int)).2.2.2.1, ((v_book_Ins a (9 : Int)).2.2.2.2.1, ((v_book_Ins a (9 : Int)).2.2.2.2.2.1, []))))))).2 then
                                  bif k_law7_alive then
                                    v_law7_alive
                                  else false
                                else false
                              else false
                            else false
                          else false
                        else bif ((v_ins_Fence ((v_book_Ins a (9 : Int)).1, ((v_book_Ins a (9 : Int)).2.1, ((v_book_Ins a (9 : Int)).2.2.1, ((v_book_Ins a (9 : Int)).2.2.2.1, ((v_book_Ins a (9 : Int)).2.2.2.2.1, ((v_book_Ins a (9 : Int)).2.2.2.2.2.1, []))))))) == ((v_book_Ins a (9 : Int)).1 == (12 : Int))) then
                          bif (v_ins_Leads ((v_book_Ins a (9 : Int)).1, ((v_book_Ins a (9 : Int)).2.1, ((v_book_Ins a (9 : Int)).2.2.1, ((v_book_Ins a (9 : Int)).2.2.2.1, ((v_book_Ins a (9 : Int)).2.2.2.2.1, ((v_book_Ins a (9 : Int)).2.2.2.2.2.1, []))))))).2 then
                            bif (v_ins_Reads ((v_book_Ins a (9 : Int)).1, ((v_book_Ins a (9 : Int)).2.1, ((v_book_Ins a (9 : Int)).2.2.1, ((v_book_Ins a (9 : Int)).2.2.2.1, ((v_book_Ins a (9 : Int)).2.2.2.2.1, ((v_book_Ins a (9 : Int)).2.2.2.2.2.1, []))))))).2 then
                              false
                            else bif (! (v_ins_Writes ((v_book_Ins a (9 : Int)).1, ((v_book_Ins a (9 : Int)).2.1, ((v_book_Ins a (9 : Int)).2.2.1, ((v_book_Ins a (9 : Int)).2.2.2.1, ((v_book_Ins a (9 : Int)).2.2.2.2.1, ((v_book_Ins a (9 : Int)).2.2.2.2.2.1, []))))))).2) then
                              bif (v_ins_Leads ((v_book_Ins a (9 : Int)).1, ((v_book_Ins a (9 : Int)).2.1, ((v_book_Ins a (9 : Int)).2.2.1, ((v_book_Ins a (9 : Int)).2.2.2.1, ((v_book_Ins a (9 : Int)).2.2.2.2.1, ((v_book_Ins a (9 : Int)).2.2.2.2.2.1, []))))))).1 then
                                bif (k_ins_Locked ((v_book_Ins a (9 : Int)).1, ((v_book_Ins a (9 : Int)).2.1, ((v_book_Ins a (9 : Int)).2.2.1, ((v_book_Ins a (9 : Int)).2.2.2.1, ((v_book_Ins a (9 : Int)).2.2.2.2.1, ((v_book_Ins a (9 : Int)).2.2.2.2.2.1, []))))))) then
                                  bif (! (v_ins_Locked ((v_book_Ins a (9 : Int)).1, ((v_book_Ins a (9 : Int)).2.1, ((v_book_Ins a (9 : Int)).2.2.1, ((v_book_Ins a (9 : Int)).2.2.2.1, ((v_book_Ins a (9 : Int)).2.2.2.2.1, ((v_book_Ins a (9 : Int)).2.2.2.2.2.1, [])))))))) then
                                    bif k_law7_alive then
                                      v_law7_alive
                                    else false
                                  else bif (v_ins_Reads ((v_book_Ins a (9 : Int)).1, ((v_book_Ins a (9 : Int)).2.1, ((v_book_Ins a (9 : Int)).2.2.1, ((v_book_Ins a (9 : Int)).2.2.2.1, ((v_book_Ins a (9 : Int)).2.2.2.2.1, ((v_book_Ins a (9 : Int)).2.2.2.2.2.1, []))))))).2 then
                                    bif k_law7_alive then
                                      v_law7_alive
                                    else false
                                  else false
                                else false
                              else bif ((v_book_Ins a (9 : Int)).1 == (10 : Int)) then
                                bif (k_ins_Locked ((v_book_Ins a (9 : Int)).1, ((v_book_Ins a (9 : Int)).2.1, ((v_book_Ins a (9 : Int)).2.2.1, ((v_book_Ins a (9 : Int)).2.2.2.1, ((v_book_Ins a (9 : Int)).2.2.2.2.1, ((v_book_Ins a (9 : Int)).2.2.2.2.2.1, []))))))) then
                                  bif (! (v_ins_Locked ((v_book_Ins a (9 : Int)).1, ((v_book_Ins a (9 : Int)).2.1, ((v_book_Ins a (9 : Int)).2.2.1, ((v_book_Ins a (9 : Int)).2.2.2.1, ((v_book_Ins a (9 : Int)).2.2.2.2.1, ((v_book_Ins a (9 : Int)).2.2.2.2.2.1, [])))))))) then
                                    bif k_law7_alive then
                                      v_law7_alive
                                    else false
                                  else bif (v_ins_Reads ((v_book_Ins a (9 : Int)).1, ((v_book_Ins a (9 : Int)).2.1, ((v_book_Ins a (9 : Int)).2.2.1, ((v_book_Ins a (9 : Int)).2.2.2.1, ((v_book_Ins a (9 : Int)).2.2.2.2.1, ((v_book_Ins a (9 : Int)).2.2.2.2.2.1, []))))))).2 then
                                    bif k_law7_alive then
                                      v_law7_alive
                                    else false
                                  else false
                                else false
                              else bif ((v_book_Ins a (9 : Int)).1 == (14 : Int)) then
                                bif (k_ins_Locked ((v_book_Ins a (9 : Int)).1, ((v_book_Ins a (9 : Int)).2.1, ((v_book_Ins a (9 : Int)).2.2.1, ((v_book_Ins a (9 : Int)).2.2.2.1, ((v_book_Ins a (9 : Int)).2.2.2.2.1, ((v_book_Ins a (9 : Int)).2.2.2.2.2.1, []))))))) then
                                  bif (! (v_ins_Locked ((v_book_Ins a (9 : Int)).1, ((v_book_Ins a (9 : Int)).2.1, ((v_book_Ins a (9 : Int)).2.2.1, ((v_book_Ins a (9 : Int)).2.2.2.1, ((v_book_Ins a (9 : Int)).2.2.2.2.1, ((v_book_Ins a (9 : Int)).2.2.2.2.2.1, [])))))))) then
                                    bif k_law7_alive then
                                      v_law7_alive
                                    else false
                                  else bif (v_ins_Reads ((v_book_Ins a (9 : Int)).1, ((v_book_Ins a (9 : Int)).2.1, ((v_book_Ins a (9 : Int)).2.2.1, ((v_book_Ins a (9 : Int)).2.2.2.1, ((v_book_Ins a (9 : Int)).2.2.2.2.1, ((v_book_Ins a (9 : Int)).2.2.2.2.2.1, []))))))).2 then
                                    bif k_law7_alive then
                                      v_law7_alive
                                    else false
                                  else false
                                else false
                              else false
                            else false
                          else bif (v_ins_Leads ((v_book_Ins a (9 : Int)).1, ((v_book_Ins a (9 : Int)).2.1, ((v_book_Ins a (9 : Int)).2.2.1, ((v_book_Ins a (9 : Int)).2.2.2.1, ((v_book_Ins a (9 : Int)).2.2.2.2.1, ((v_book_Ins a (9 : Int)).2.2.2.2.2.1, []))))))).1 then
                            bif (k_ins_Locked ((v_book_Ins a (9 : Int)).1, ((v_book_Ins a (9 : Int)).2.1, ((v_book_Ins a (9 : Int)).2.2.1, ((v_book_Ins a (9 : Int)).2.2.2.1, ((v_book_Ins a (9 : Int)).2.2.2.2.1, ((v_book_Ins a (9 : Int)).2.2.2.2.2.1, []))))))) then
                              bif (! (v_ins_Locked ((v_book_Ins a (9 : Int)).1, ((v_book_Ins a (9 : Int)).2.1, ((v_book_Ins a (9 : Int)).2.2.1, ((v_book_Ins a (9 : Int)).2.2.2.1, ((v_book_Ins a (9 : Int)).2.2.2.2.1, ((v_book_Ins a (9 : Int)).2.2.2.2.2.1, [])))))))) then
                                bif k_law7_alive then
                                  v_law7_alive
                                else false
                              else bif (v_ins_Reads ((v_book_Ins a (9 : Int)).1, ((v_book_Ins a (9 : Int)).2.1, ((v_book_Ins a (9 : Int)).2.2.1, ((v_book_Ins a (9 : Int)).2.2.2.1, ((v_book_Ins a (9 : Int)).2.2.2.2.1, ((v_book_Ins a (9 : Int)).2.2.2.2.2.1, []))))))).2 then
                                bif k_law7_alive then
                                  v_law7_alive
                                else false
                              else false
                            else false
                          else bif ((v_book_Ins a (9 : Int)).1 == (10 : Int)) then
                            bif (k_ins_Locked ((v_book_Ins a (9 : Int)).1, ((v_book_Ins a (9 : Int)).2.1, ((v_book_Ins a (9 : Int)).2.2.1, ((v_book_Ins a (9 : Int)).2.2.2.1, ((v_book_Ins a (9 : Int)).2.2.2.2.1, ((v_book_Ins a (9 : Int)).2.2.2.2.2.1, []))))))) then
                              bif (! (v_ins_Locked ((v_book_Ins a (9 : Int)).1, ((v_book_Ins a (9 : Int)).2.1, ((v_book_Ins a (9 : Int)).2.2.1, ((v_book_Ins a (9 : Int)).2.2.2.1, ((v_book_Ins a (9 : Int)).2.2.2.2.1, ((v_book_Ins a (9 : Int)).2.2.2.2.2.1, [])))))))) then
                                bif k_law7_alive then
                                  v_law7_alive
                                else false
                              else bif (v_ins_Reads ((v_book_Ins a (9 : Int)).1, ((v_book_Ins a (9 : Int)).2.1, ((v_book_Ins a (9 : Int)).2.2.1, ((v_book_Ins a (9 : Int)).2.2.2.1, ((v_book_Ins a (9 : Int)).2.2.2.2.1, ((v_book_Ins a (9 : Int)).2.2.2.2.2.1, []))))))).2 then
                                bif k_law7_alive then
                                  v_law7_alive
                                else false
                              else false
                            else false
                          else bif ((v_book_Ins a (9 : Int)).1 == (14 : Int)) then
                            bif (k_ins_Locked ((v_book_Ins a (9 : Int)).1, ((v_book_Ins a (9 : Int)).2.1, ((v_book_Ins a (9 : Int)).2.2.1, ((v_book_Ins a (9 : Int)).2.2.2.1, ((v_book_Ins a (9 : Int)).2.2.2.2.1, ((v_book_Ins a (9 : Int)).2.2.2.2.2.1, []))))))) then
                              bif (! (v_ins_Locked ((v_book_Ins a (9 : Int)).1, ((v_book_Ins a (9 : Int)).2.1, ((v_book_Ins a (9 : Int)).2.2.1, ((v_book_Ins a (9 : Int)).2.2.2.1, ((v_book_Ins a (9 : Int)).2.2.2.2.1, ((v_book_Ins a (9 : Int)).2.2.2.2.2.1, [])))))))) then
                                bif k_law7_alive then
                                  v_law7_alive
                                else false
                              else bif (v_ins_Reads ((v_book_Ins a (9 : Int)).1, ((v_book_Ins a (9 : Int)).2.1, ((v_book_Ins a (9 : Int)).2.2.1, ((v_book_Ins a (9 : Int)).2.2.2.1, ((v_book_Ins a (9 : Int)).2.2.2.2.1, ((v_book_Ins a (9 : Int)).2.2.2.2.2.1, []))))))).2 then
                                bif k_law7_alive then
                                  v_law7_alive
                                else false
                              else false
                            else false
                          else false
                        else false
                      else false
                    else false
                  else false
                else false
              else bif (((v_ins_Parts ((v_book_Ins a (9 : Int)).1, ((v_book_Ins a (9 : Int)).2.1, ((v_book_Ins a (9 : Int)).2.2.1, ((v_book_Ins a (9 : Int)).2.2.2.1, ((v_book_Ins a (9 : Int)).2.2.2.2.1, ((v_book_Ins a (9 : Int)).2.2.2.2.2.1, []))))))) == (2 : Int)) == false) then
                bif (k_ins_Fence ((v_book_Ins a (9 : Int)).1, ((v_book_Ins a (9 : Int)).2.1, ((v_book_Ins a (9 : Int)).2.2.1, ((v_book_Ins a (9 : Int)).2.2.2.1, ((v_book_Ins a (9 : Int)).2.2.2.2.1, ((v_book_Ins a (9 : Int)).2.2.2.2.2.1, []))))))) then
                  bif (k_ins_Locked ((v_book_Ins a (9 : Int)).1, ((v_book_Ins a (9 : Int)).2.1, ((v_book_Ins a (9 : Int)).2.2.1, ((v_book_Ins a (9 : Int)).2.2.2.1, ((v_book_Ins a (9 : Int)).2.2.2.2.1, ((v_book_Ins a (9 : Int)).2.2.2.2.2.1, []))))))) then
                    bif (v_ins_Locked ((v_book_Ins a (9 : Int)).1, ((v_book_Ins a (9 : Int)).2.1, ((v_book_Ins a (9 : Int)).2.2.1, ((v_book_Ins a (9 : Int)).2.2.2.1, ((v_book_Ins a (9 : Int)).2.2.2.2.1, ((v_book_Ins a (9 : Int)).2.2.2.2.2.1, []))))))) then
                      bif ((v_ins_Fence ((v_book_Ins a (9 : Int)).1, ((v_book_Ins a (9 : Int)).2.1, ((v_book_Ins a (9 : Int)).2.2.1, ((v_book_Ins a (9 : Int)).2.2.2.1, ((v_book_Ins a (9 : Int)).2.2.2.2.1, ((v_book_Ins a (9 : Int)).2.2.2.2.2.1, []))))))) == true) then
                        bif (v_ins_Leads ((v_book_Ins a (9 : Int)).1, ((v_book_Ins a (9 : Int)).2.1, ((v_book_Ins a (9 : Int)).2.2.1, ((v_book_Ins a (9 : Int)).2.2.2.1, ((v_book_Ins a (9 : Int)).2.2.2.2.1, ((v_book_Ins a (9 : Int)).2.2.2.2.2.1, []))))))).2 then
                          bif (v_ins_Reads ((v_book_Ins a (9 : Int)).1, ((v_book_Ins a (9 : Int)).2.1, ((v_book_Ins a (9 : Int)).2.2.1, ((v_book_Ins a (9 : Int)).2.2.2.1, ((v_book_Ins a (9 : Int)).2.2.2.2.1, ((v_book_Ins a (9 : Int)).2.2.2.2.2.1, []))))))).2 then
                            false
                          else bif (! (v_ins_Writes ((v_book_Ins a (9 : Int)).1, ((v_book_Ins a (9 : Int)).2.1, ((v_book_Ins a (9 : Int)).2.2.1, ((v_book_Ins a (9 : Int)).2.2.2.1, ((v_book_Ins a (9 : Int)).2.2.2.2.1, ((v_book_Ins a (9 : Int)).2.2.2.2.2.1, []))))))).2) then
                            bif (v_ins_Leads ((v_book_Ins a (9 : Int)).1, ((v_book_Ins a (9 : Int)).2.1, ((v_book_Ins a (9 : Int)).2.2.1, ((v_book_Ins a (9 : Int)).2.2.2.1, ((v_book_Ins a (9 : Int)).2.2.2.2.1, ((v_book_Ins a (9 : Int)).2.2.2.2.2.1, []))))))).1 then
                              bif (k_ins_Locked ((v_book_Ins a (9 : Int)).1, ((v_book_Ins a (9 : Int)).2.1, ((v_book_Ins a (9 : Int)).2.2.1, ((v_book_Ins a (9 : Int)).2.2.2.1, ((v_book_Ins a (9 : Int)).2.2.2.2.1, ((v_book_Ins a (9 : Int)).2.2.2.2.2.1, []))))))) then
                                bif (! (v_ins_Locked ((v_book_Ins a (9 : Int)).1, ((v_book_Ins a (9 : Int)).2.1, ((v_book_Ins a (9 : Int)).2.2.1, ((v_book_Ins a (9 : Int)).2.2.2.1, ((v_book_Ins a (9 : Int)).2.2.2.2.1, ((v_book_Ins a (9 : Int)).2.2.2.2.2.1, [])))))))) then
                                  bif k_law7_alive then
                                    v_law7_alive
                                  else false
                                else bif (v_ins_Reads ((v_book_Ins a (9 : Int)).1, ((v_book_Ins a (9 : Int)).2.1, ((v_book_Ins a (9 : Int)).2.2.1, ((v_book_Ins a (9 : Int)).2.2.2.1, ((v_book_Ins a (9 : Int)).2.2.2.2.1, ((v_book_Ins a (9 : Int)).2.2.2.2.2.1, []))))))).2 then
                                  bif k_law7_alive then
                                    v_law7_alive
                                  else false
                                else false
                              else false
                            else bif ((v_book_Ins a (9 : Int)).1 == (10 : Int)) then
                              bif (k_ins_Locked ((v_book_Ins a (9 : Int)).1, ((v_book_Ins a (9 : Int)).2.1, ((v_book_Ins a (9 : Int)).2.2.1, ((v_book_Ins a (9 : Int)).2.2.2.1, ((v_book_Ins a (9 : Int)).2.2.2.2.1, ((v_book_Ins a (9 : Int)).2.2.2.2.2.1, []))))))) then
                                bif (! (v_ins_Locked ((v_book_Ins a (9 : Int)).1, ((v_book_Ins a (9 : Int)).2.1, ((v_book_Ins a (9 : Int)).2.2.1, ((v_book_Ins a (9 : Int)).2.2.2.1, ((v_book_Ins a (9 : Int)).2.2.2.2.1, ((v_book_Ins a (9 : Int)).2.2.2.2.2.1, [])))))))) then
                                  bif k_law7_alive then
                                    v_law7_alive
                                  else false
                                else bif (v_ins_Reads ((v_book_Ins a (9 : Int)).1, ((v_book_Ins a (9 : Int)).2.1, ((v_book_Ins a (9 : Int)).2.2.1, ((v_book_Ins a (9 : Int)).2.2.2.1, ((v_book_Ins a (9 : Int)).2.2.2.2.1, ((v_book_Ins a (9 : Int)).2.2.2.2.2.1, []))))))).2 then
                                  bif k_law7_alive then
                                    v_law7_alive
                                  else false
                                else false
                              else false
                            else bif ((v_book_Ins a (9 : Int)).1 == (14 : Int)) then
                              bif (k_ins_Locked ((v_book_Ins a (9 : Int)).1, ((v_book_Ins a (9 : Int)).2.1, ((v_book_Ins a (9 : Int)).2.2.1, ((v_book_Ins a (9 : Int)).2.2.2.1, ((v_book_Ins a (9 : Int)).2.2.2.2.1, ((v_book_Ins a (9 : Int)).2.2.2.2.2.1, []))))))) then
                                bif (! (v_ins_Locked ((v_book_Ins a (9 : Int)).1, ((v_book_Ins a (9 : Int)).2.1, ((v_book_Ins a (9 : Int)).2.2.1, ((v_book_Ins a (9 : Int)).2.2.2.1, ((v_book_Ins a (9 : Int)).2.2.2.2.1, ((v_book_Ins a (9 : Int)).2.2.2.2.2.1, [])))))))) then
                                  bif k_law7_alive then
                                    v_law7_alive
                                  else false
                                else bif (v_ins_Reads ((v_book_Ins a (9 : Int)).1, ((v_book_Ins a (9 : Int)).2.1, ((v_book_Ins a (9 : Int)).2.2.1, ((v_book_Ins a (9 : Int)).2.2.2.1, ((v_book_Ins a (9 : Int)).2.2.2.2.1, ((v_book_Ins a (9 : Int)).2.2.2.2.2.1, []))))))).2 then
                                  bif k_law7_alive then
                                    v_law7_alive
                                  else false
                                else false
                              else false
                            else false
                          else false
                        else bif (v_ins_Leads ((v_book_Ins a (9 : Int)).1, ((v_book_Ins a (9 : Int)).2.1, ((v_book_Ins a (9 : Int)).2.2.1, ((v_book_Ins a (9 : Int)).2.2.2.1, ((v_book_Ins a (9 : Int)).2.2.2.2.1, ((v_book_Ins a (9 : Int)).2.2.2.2.2.1, []))))))).1 then
                          bif (k_ins_Locked ((v_book_Ins a (9 : Int)).1, ((v_book_Ins a (9 : Int)).2.1, ((v_book_Ins a (9 : Int)).2.2.1, ((v_book_Ins a (9 : Int)).2.2.2.1, ((v_book_Ins a (9 : Int)).2.2.2.2.1, ((v_book_Ins a (9 : Int)).2.2.2.2.2.1, []))))))) then
                            bif (! (v_ins_Locked ((v_book_Ins a (9 : Int)).1, ((v_book_Ins a (9 : Int)).2.1, ((v_book_Ins a (9 : Int)).2.2.1, ((v_book_Ins a (9 : Int)).2.2.2.1, ((v_book_Ins a (9 : Int)).2.2.2.2.1, ((v_book_Ins a (9 : Int)).2.2.2.2.2.1, [])))))))) then
                              bif k_law7_alive then
                                v_law7_alive
                              else false
                            else bif (v_ins_Reads ((v_book_Ins a (9 : Int)).1, ((v_book_Ins a (9 : Int)).2.1, ((v_book_Ins a (9 : Int)).2.2.1, ((v_book_Ins a (9 : Int)).2.2.2.1, ((v_book_Ins a (9 : Int)).2.2.2.2.1, ((v_book_Ins a (9 : Int)).2.2.2.2.2.1, []))))))).2 then
                              bif k_law7_alive then
                                v_law7_alive
                              else false
                            else false
                          else false
                        else bif ((v_book_Ins a (9 : Int)).1 == (10 : Int)) then
                          bif (k_ins_Locked ((v_book_Ins a (9 : Int)).1, ((v_book_Ins a (9 : Int)).2.1, ((v_book_Ins a (9 : Int)).2.2.1, ((v_book_Ins a (9 : Int)).2.2.2.1, ((v_book_Ins a (9 : Int)).2.2.2.2.1, ((v_book_Ins a (9 : Int)).2.2.2.2.2.1, []))))))) then
                            bif (! (v_ins_Locked ((v_book_Ins a (9 : Int)).1, ((v_book_Ins a (9 : Int)).2.1, ((v_book_Ins a (9 : Int)).2.2.1, ((v_book_Ins a (9 : Int)).2.2.2.1, ((v_book_Ins a (9 : Int)).2.2.2.2.1, ((v_book_Ins a (9 : Int)).2.2.2.2.2.1, [])))))))) then
                              bif k_law7_alive then
                                v_law7_alive
                              else false
                            else bif (v_ins_Reads ((v_book_Ins a (9 : Int)).1, ((v_book_Ins a (9 : Int)).2.1, ((v_book_Ins a (9 : Int)).2.2.1, ((v_book_Ins a (9 : Int)).2.2.2.1, ((v_book_Ins a (9 : Int)).2.2.2.2.1, ((v_book_Ins a (9 : Int)).2.2.2.2.2.1, []))))))).2 then
                              bif k_law7_alive then
                                v_law7_alive
                              else false
                            else false
                          else false
                        else bif ((v_book_Ins a (9 : Int)).1 == (14 : Int)) then
                          bif (k_ins_Locked ((v_book_Ins a (9 : Int)).1, ((v_book_Ins a (9 : Int)).2.1, ((v_book_Ins a (9 : Int)).2.2.1, ((v_book_Ins a (9 : Int)).2.2.2.1, ((v_book_Ins a (9 : Int)).2.2.2.2.1, ((v_book_Ins a (9 : Int)).2.2.2.2.2.1, []))))))) then
                            bif (! (v_ins_Locked ((v_book_Ins a (9 : Int)).1, ((v_book_Ins a (9 : Int)).2.1, ((v_book_Ins a (9 : Int)).2.2.1, ((v_book_Ins a (9 : Int)).2.2.2.1, ((v_book_Ins a (9 : Int)).2.2.2.2.1, ((v_book_Ins a (9 : Int)).2.2.2.2.2.1, [])))))))) then
                              bif k_law7_alive then
                                v_law7_alive
                              else false
                            else bif (v_ins_Reads ((v_book_Ins a (9 : Int)).1, ((v_book_Ins a (9 : Int)).2.1, ((v_book_Ins a (9 : Int)).2.2.1, ((v_book_Ins a (9 : Int)).2.2.2.1, ((v_book_Ins a (9 : Int)).2.2.2.2.1, ((v_book_Ins a (9 : Int)).2.2.2.2.2.1, []))))))).2 then
                              bif k_law7_alive then
                                v_law7_alive
                              else false
                            else false
                          else false
                        else false
                      else false
                    else bif ((v_ins_Fence ((v_book_Ins a (9 : Int)).1, ((v_book_Ins a (9 : Int)).2.1, ((v_book_Ins a (9 : Int)).2.2.1, ((v_book_Ins a (9 : Int)).2.2.2.1, ((v_book_Ins a (9 : Int)).2.2.2.2.1, ((v_book_Ins a (9 : Int)).2.2.2.2.2.1, []))))))) == ((v_book_Ins a (9 : Int)).1 == (12 : Int))) then
                      bif (v_ins_Leads ((v_book_Ins a (9 : Int)).1, ((v_book_Ins a (9 : Int)).2.1, ((v_book_Ins a (9 : Int)).2.2.1, ((v_book_Ins a (9 : Int)).2.2.2.1, ((v_book_Ins a (9 : Int)).2.2.2.2.1, ((v_book_Ins a (9 : Int)).2.2.2.2.2.1, []))))))).2 then
                        bif (v_ins_Reads ((v_book_Ins a (9 : Int)).1, ((v_book_Ins a (9 : Int)).2.1, ((v_book_Ins a (9 : Int)).2.2.1, ((v_book_Ins a (9 : Int)).2.2.2.1, ((v_book_Ins a (9 : Int)).2.2.2.2.1, ((v_book_Ins a (9 : Int)).2.2.2.2.2.1, []))))))).2 then
                          false
                        else bif (! (v_ins_Writes ((v_book_Ins a (9 : Int)).1, ((v_book_Ins a (9 : Int)).2.1, ((v_book_Ins a (9 : Int)).2.2.1, ((v_book_Ins a (9 : Int)).2.2.2.1, ((v_book_Ins a (9 : Int)).2.2.2.2.1, ((v_book_Ins a (9 : Int)).2.2.2.2.2.1, []))))))).2) then
                          bif (v_ins_Leads ((v_book_Ins a (9 : Int)).1, ((v_book_Ins a (9 : Int)).2.1, ((v_book_Ins a (9 : Int)).2.2.1, ((v_book_Ins a (9 : Int)).2.2.2.1, ((v_book_Ins a (9 : Int)).2.2.2.2.1, ((v_book_Ins a (9 : Int)).2.2.2.2.2.1, []))))))).1 then
                            bif (k_ins_Locked ((v_book_Ins a (9 : Int)).1, ((v_book_Ins a (9 : Int)).2.1, ((v_book_Ins a (9 : Int)).2.2.1, ((v_book_Ins a (9 : Int)).2.2.2.1, ((v_book_Ins a (9 : Int)).2.2.2.2.1, ((v_book_Ins a (9 : Int)).2.2.2.2.2.1, []))))))) then
                              bif (! (v_ins_Locked ((v_book_Ins a (9 : Int)).1, ((v_book_Ins a (9 : Int)).2.1, ((v_book_Ins a (9 : Int)).2.2.1, ((v_book_Ins a (9 : Int)).2.2.2.1, ((v_book_Ins a (9 : Int)).2.2.2.2.1, ((v_book_Ins a (9 : Int)).2.2.2.2.2.1, [])))))))) then
                                bif k_law7_alive then
                                  v_law7_alive
                                else false
                              else bif (v_ins_Reads ((v_book_Ins a (9 : Int)).1, ((v_book_Ins a (9 : Int)).2.1, ((v_book_Ins a (9 : Int)).2.2.1, ((v_book_Ins a (9 : Int)).2.2.2.1, ((v_book_Ins a (9 : Int)).2.2.2.2.1, ((v_book_Ins a (9 : Int)).2.2.2.2.2.1, []))))))).2 then
                                bif k_law7_alive then
                                  v_law7_alive
                                else false
                              else false
                            else false
                          else bif ((v_book_Ins a (9 : Int)).1 == (10 : Int)) then
                            bif (k_ins_Locked ((v_book_Ins a (9 : Int)).1, ((v_book_Ins a (9 : Int)).2.1, ((v_book_Ins a (9 : Int)).2.2.1, ((v_book_Ins a (9 : Int)).2.2.2.1, ((v_book_Ins a (9 : Int)).2.2.2.2.1, ((v_book_Ins a (9 : Int)).2.2.2.2.2.1, []))))))) then
                              bif (! (v_ins_Locked ((v_book_Ins a (9 : Int)).1, ((v_book_Ins a (9 : Int)).2.1, ((v_book_Ins a (9 : Int)).2.2.1, ((v_book_Ins a (9 : Int)).2.2.2.1, ((v_book_Ins a (9 : Int)).2.2.2.2.1, ((v_book_Ins a (9 : Int)).2.2.2.2.2.1, [])))))))) then
                                bif k_law7_alive then
                                  v_law7_alive
                                else false
                              else bif (v_ins_Reads ((v_book_Ins a (9 : Int)).1, ((v_book_Ins a (9 : Int)).2.1, ((v_book_Ins a (9 : Int)).2.2.1, ((v_book_Ins a (9 : Int)).2.2.2.1, ((v_book_Ins a (9 : Int)).2.2.2.2.1, ((v_book_Ins a (9 : Int)).2.2.2.2.2.1, []))))))).2 then
                                bif k_law7_alive then
                                  v_law7_alive
                                else false
                              else false
                            else false
                          else bif ((v_book_Ins a (9 : Int)).1 == (14 : Int)) then
                            bif (k_ins_Locked ((v_book_Ins a (9 : Int)).1, ((v_book_Ins a (9 : Int)).2.1, ((v_book_Ins a (9 : Int)).2.2.1, ((v_book_Ins a (9 : Int)).2.2.2.1, ((v_book_Ins a (9 : Int)).2.2.2.2.1, ((v_book_Ins a (9 : Int)).2.2.2.2.2.1, []))))))) then
                              bif (! (v_ins_Locked ((v_book_Ins a (9 : Int)).1, ((v_book_Ins a (9 : Int)).2.1, ((v_book_Ins a (9 : Int)).2.2.1, ((v_book_Ins a (9 : Int)).2.2.2.1, ((v_book_Ins a (9 : Int)).2.2.2.2.1, ((v_book_Ins a (9 : Int)).2.2.2.2.2.1, [])))))))) then
                                bif k_law7_alive then
                                  v_law7_alive
                                else false
                              else bif (v_ins_Reads ((v_book_Ins a (9 : Int)).1, ((v_book_Ins a (9 : Int)).2.1, ((v_book_Ins a (9 : Int)).2.2.1, ((v_book_Ins a (9 : Int)).2.2.2.1, ((v_book_Ins a (9 : Int)).2.2.2.2.1, ((v_book_Ins a (9 : Int)).2.2.2.2.2.1, []))))))).2 then
                                bif k_law7_alive then
                                  v_law7_alive
                                else false
                              else false
                            else false
                          else false
                        else false
                      else bif (v_ins_Leads ((v_book_Ins a (9 : Int)).1, ((v_book_Ins a (9 : Int)).2.1, ((v_book_Ins a (9 : Int)).2.2.1, ((v_book_Ins a (9 : Int)).2.2.2.1, ((v_book_Ins a (9 : Int)).2.2.2.2.1, ((v_book_Ins a (9 : Int)).2.2.2.2.2.1, []))))))).1 then
                        bif (k_ins_Locked ((v_book_Ins a (9 : Int)).1, ((v_book_Ins a (9 : Int)).2.1, ((v_book_Ins a (9 : Int)).2.2.1, ((v_book_Ins a (9 : Int)).2.2.2.1, ((v_book_Ins a (9 : Int)).2.2.2.2.1, ((v_book_Ins a (9 : Int)).2.2.2.2.2.1, []))))))) then
                          bif (! (v_ins_Locked ((v_book_Ins a (9 : Int)).1, ((v_book_Ins a (9 : Int)).2.1, ((v_book_Ins a (9 : Int)).2.2.1, ((v_book_Ins a (9 : Int)).2.2.2.1, ((v_book_Ins a (9 : Int)).2.2.2.2.1, ((v_book_Ins a (9 : Int)).2.2.2.2.2.1, [])))))))) then
                            bif k_law7_alive then
                              v_law7_alive
                            else false
                          else bif (v_ins_Reads ((v_book_Ins a (9 : Int)).1, ((v_book_Ins a (9 : Int)).2.1, ((v_book_Ins a (9 : Int)).2.2.1, ((v_book_Ins a (9 : Int)).2.2.2.1, ((v_book_Ins a (9 : Int)).2.2.2.2.1, ((v_book_Ins a (9 : Int)).2.2.2.2.2.1, []))))))).2 then
                            bif k_law7_alive then
                              v_law7_alive
                            else false
                          else false
                        else false
                      else bif ((v_book_Ins a (9 : Int)).1 == (10 : Int)) then
                        bif (k_ins_Locked ((v_book_Ins a (9 : Int)).1, ((v_book_Ins a (9 : Int)).2.1, ((v_book_Ins a (9 : Int)).2.2.1, ((v_book_Ins a (9 : Int)).2.2.2.1, ((v_book_Ins a (9 : Int)).2.2.2.2.1, ((v_book_Ins a (9 : Int)).2.2.2.2.2.1, []))))))) then
                          bif (! (v_ins_Locked ((v_book_Ins a (9 : Int)).1, ((v_book_Ins a (9 : Int)).2.1, ((v_book_Ins a (9 : Int)).2.2.1, ((v_book_Ins a (9 : Int)).2.2.2.1, ((v_book_Ins a (9 : Int)).2.2.2.2.1, ((v_book_Ins a (9 : Int)).2.2.2.2.2.1, [])))))))) then
                            bif k_law7_alive then
                              v_law7_alive
                            else false
                          else bif (v_ins_Reads ((v_book_Ins a (9 : Int)).1, ((v_book_Ins a (9 : Int)).2.1, ((v_book_Ins a (9 : Int)).2.2.1, ((v_book_Ins a (9 : Int)).2.2.2.1, ((v_book_Ins a (9 : Int)).2.2.2.2.1, ((v_book_Ins a (9 : Int)).2.2.2.2.2.1, []))))))).2 then
                            bif k_law7_alive then
                              v_law7_alive
                            else false
                          else false
                        else false
                      else bif ((v_book_Ins a (9 : Int)).1 == (14 : Int)) then
                        bif (k_ins_Locked ((v_book_Ins a (9 : Int)).1, ((v_book_Ins a (9 : Int)).2.1, ((v_book_Ins a (9 : Int)).2.2.1, ((v_book_Ins a (9 : Int)).2.2.2.1, ((v_book_Ins a (9 : Int)).2.2.2.2.1, ((v_book_Ins a (9 : Int)).2.2.2.2.2.1, []))))))) then
                          bif (! (v_ins_Locked ((v_book_Ins a (9 : Int)).1, ((v_book_Ins a (9 : Int)).2.1, ((v_book_Ins a (9 : Int)).2.2.1, ((v_book_Ins a (9 : Int)).2.2.2.1, ((v_book_Ins a (9 : Int)).2.2.2.2.1, ((v_book_Ins a (9 : Int)).2.2.2.2.2.1, [])))))))) then
                            bif k_law7_alive then
                              v_law7_alive
                            else false
                          else bif (v_ins_Reads ((v_book_Ins a (9 : Int)).1, ((v_book_Ins a (9 : Int)).2.1, ((v_book_Ins a (9 : Int)).2.2.1, ((v_book_Ins a (9 : Int)).2.2.2.1, ((v_book_Ins a (9 : Int)).2.2.2.2.1, ((v_book_Ins a (9 : Int)).2.2.2.2.2.1, []))))))).2 then
                            bif k_law7_alive then
                              v_law7_alive
                            else false
                          else false
                        else false
                      else false
                    else false
                  else false
                else false
              else false
            else bif (((v_ins_Parts ((v_book_Ins a (9 : Int)).1, ((v_book_Ins a (9 : Int)).2.1, ((v_book_Ins a (9 : Int)).2.2.1, ((v_book_Ins a (9 : Int)).2.2.2.1, ((v_book_Ins a (9 : Int)).2.2.2.2.1, ((v_book_Ins a (9 : Int)).2.2.2.2.2.1, []))))))) == (2 : Int)) == false) then
              bif (k_ins_Fence ((v_book_Ins a (9 : Int)).1, ((v_book_Ins a (9 : Int)).2.1, ((v_book_Ins a (9 : Int)).2.2.1, ((v_book_Ins a (9 : Int)).2.2.2.1, ((v_book_Ins a (9 : Int)).2.2.2.2.1, ((v_book_Ins a (9 : Int)).2.2.2.2.2.1, []))))))) then
                bif (k_ins_Locked ((v_book_Ins a (9 : Int)).1, ((v_book_Ins a (9 : Int)).2.1, ((v_book_Ins a (9 : Int)).2.2.1, ((v_book_Ins a (9 : Int)).2.2.2.1, ((v_book_Ins a (9 : Int)).2.2.2.2.1, ((v_book_Ins a (9 : Int)).2.2.2.2.2.1, []))))))) then
                  bif (v_ins_Locked ((v_book_Ins a (9 : Int)).1, ((v_book_Ins a (9 : Int)).2.1, ((v_book_Ins a (9 : Int)).2.2.1, ((v_book_Ins a (9 : Int)).2.2.2.1, ((v_book_Ins a (9 : Int)).2.2.2.2.1, ((v_book_Ins a (9 : Int)).2.2.2.2.2.1, []))))))) then
                    bif ((v_ins_Fence ((v_book_Ins a (9 : Int)).1, ((v_book_Ins a (9 : Int)).2.1, ((v_book_Ins a (9 : Int)).2.2.1, ((v_book_Ins a (9 : Int)).2.2.2.1, ((v_book_Ins a (9 : Int)).2.2.2.2.1, ((v_book_Ins a (9 : Int)).2.2.2.2.2.1, []))))))) == true) then
                      bif (v_ins_Leads ((v_book_Ins a (9 : Int)).1, ((v_book_Ins a (9 : Int)).2.1, ((v_book_Ins a (9 : Int)).2.2.1, ((v_book_Ins a (9 : Int)).2.2.2.1, ((v_book_Ins a (9 : Int)).2.2.2.2.1, ((v_book_Ins a (9 : Int)).2.2.2.2.2.1, []))))))).2 then
                        bif (v_ins_Reads ((v_book_Ins a (9 : Int)).1, ((v_book_Ins a (9 : Int)).2.1, ((v_book_Ins a (9 : Int)).2.2.1, ((v_book_Ins a (9 : Int)).2.2.2.1, ((v_book_Ins a (9 : Int)).2.2.2.2.1, ((v_book_Ins a (9 : Int)).2.2.2.2.2.1, []))))))).2 then
                          false
                        else bif (! (v_ins_Writes ((v_book_Ins a (9 : Int)).1, ((v_book_Ins a (9 : Int)).2.1, ((v_book_Ins a (9 : Int)).2.2.1, ((v_book_Ins a (9 : Int)).2.2.2.1, ((v_book_Ins a (9 : Int)).2.2.2.2.1, ((v_book_Ins a (9 : Int)).2.2.2.2.2.1, []))))))).2) then
                          bif (v_ins_Leads ((v_book_Ins a (9 : Int)).1, ((v_book_Ins a (9 : Int)).2.1, ((v_book_Ins a (9 : Int)).2.2.1, ((v_book_Ins a (9 : Int)).2.2.2.1, ((v_book_Ins a (9 : Int)).2.2.2.2.1, ((v_book_Ins a (9 : Int)).2.2.2.2.2.1, []))))))).1 then
                            bif (k_ins_Locked ((v_book_Ins a (9 : Int)).1, ((v_book_Ins a (9 : Int)).2.1, ((v_book_Ins a (9 : Int)).2.2.1, ((v_book_Ins a (9 : Int)).2.2.2.1, ((v_book_Ins a (9 : Int)).2.2.2.2.1, ((v_book_Ins a (9 : Int)).2.2.2.2.2.1, []))))))) then
                              bif (! (v_ins_Locked ((v_book_Ins a (9 : Int)).1, ((v_book_Ins a (9 : Int)).2.1, ((v_book_Ins a (9 : Int)).2.2.1, ((v_book_Ins a (9 : Int)).2.2.2.1, ((v_book_Ins a (9 : Int)).2.2.2.2.1, ((v_book_Ins a (9 : Int)).2.2.2.2.2.1, [])))))))) then
                                bif k_law7_alive then
                                  v_law7_alive
                                else false
                              else bif (v_ins_Reads ((v_book_Ins a (9 : Int)).1, ((v_book_Ins a (9 : Int)).2.1, ((v_book_Ins a (9 : Int)).2.2.1, ((v_book_Ins a (9 : Int)).2.2.2.1, ((v_book_Ins a (9 : Int)).2.2.2.2.1, ((v_book_Ins a (9 : Int)).2.2.2.2.2.1, []))))))).2 then
                                bif k_law7_alive then
                                  v_law7_alive
                                else false
                              else false
                            else false
                          else bif ((v_book_Ins a (9 : Int)).1 == (10 : Int)) then
                            bif (k_ins_Locked ((v_book_Ins a (9 : Int)).1, ((v_book_Ins a (9 : Int)).2.1, ((v_book_Ins a (9 : Int)).2.2.1, ((v_book_Ins a (9 : Int)).2.2.2.1, ((v_book_Ins a (9 : Int)).2.2.2.2.1, ((v_book_Ins a (9 : Int)).2.2.2.2.2.1, []))))))) then
                              bif (! (v_ins_Locked ((v_book_Ins a (9 : Int)).1, ((v_book_Ins a (9 : Int)).2.1, ((v_book_Ins a (9 : Int)).2.2.1, ((v_book_Ins a (9 : Int)).2.2.2.1, ((v_book_Ins a (9 : Int)).2.2.2.2.1, ((v_book_Ins a (9 : Int)).2.2.2.2.2.1, [])))))))) then
                                bif k_law7_alive then
                                  v_law7_alive
                                else false
                              else bif (v_ins_Reads ((v_book_Ins a (9 : Int)).1, ((v_book_Ins a (9 : Int)).2.1, ((v_book_Ins a (9 : Int)).2.2.1, ((v_book_Ins a (9 : Int)).2.2.2.1, ((v_book_Ins a (9 : Int)).2.2.2.2.1, ((v_book_Ins a (9 : Int)).2.2.2.2.2.1, []))))))).2 then
                                bif k_law7_alive then
                                  v_law7_alive
                                else false
                              else false
                            else false
                          else bif ((v_book_Ins a (9 : Int)).1 == (14 : Int)) then
                            bif (k_ins_Locked ((v_book_Ins a (9 : Int)).1, ((v_book_Ins a (9 : Int)).2.1, ((v_book_Ins a (9 : Int)).2.2.1, ((v_book_Ins a (9 : Int)).2.2.2.1, ((v_book_Ins a (9 : Int)).2.2.2.2.1, ((v_book_Ins a (9 : Int)).2.2.2.2.2.1, []))))))) then
                              bif (! (v_ins_Locked ((v_book_Ins a (9 : Int)).1, ((v_book_Ins a (9 : Int)).2.1, ((v_book_Ins a (9 : Int)).2.2.1, ((v_book_Ins a (9 : Int)).2.2.2.1, ((v_book_Ins a (9 : Int)).2.2.2.2.1, ((v_book_Ins a (9 : Int)).2.2.2.2.2.1, [])))))))) then
                                bif k_law7_alive then
                                  v_law7_alive
                                else false
                              else bif (v_ins_Reads ((v_book_Ins a (9 : Int)).1, ((v_book_Ins a (9 : Int)).2.1, ((v_book_Ins a (9 : Int)).2.2.1, ((v_book_Ins a (9 : Int)).2.2.2.1, ((v_book_Ins a (9 : Int)).2.2.2.2.1, ((v_book_Ins a (9 : Int)).2.2.2.2.2.1, []))))))).2 then
                                bif k_law7_alive then
                                  v_law7_alive
                                else false
                              else false
                            else false
                          else false
                        else false
                      else bif (v_ins_Leads ((v_book_Ins a (9 : Int)).1, ((v_book_Ins a (9 : Int)).2.1, ((v_book_Ins a (9 : Int)).2.2.1, ((v_book_Ins a (9 : Int)).2.2.2.1, ((v_book_Ins a (9 : Int)).2.2.2.2.1, ((v_book_Ins a (9 : Int)).2.2.2.2.2.1, []))))))).1 then
                        bif (k_ins_Locked ((v_book_Ins a (9 : Int)).1, ((v_book_Ins a (9 : Int)).2.1, ((v_book_Ins a (9 : Int)).2.2.1, ((v_book_Ins a (9 : Int)).2.2.2.1, ((v_book_Ins a (9 : Int)).2.2.2.2.1, ((v_book_Ins a (9 : Int)).2.2.2.2.2.1, []))))))) then
                          bif (! (v_ins_Locked ((v_book_Ins a (9 : Int)).1, ((v_book_Ins a (9 : Int)).2.1, ((v_book_Ins a (9 : Int)).2.2.1, ((v_book_Ins a (9 : Int)).2.2.2.1, ((v_book_Ins a (9 : Int)).2.2.2.2.1, ((v_book_Ins a (9 : Int)).2.2.2.2.2.1, [])))))))) then
                            bif k_law7_alive then
                              v_law7_alive
                            else false
                          else bif (v_ins_Reads ((v_book_Ins a (9 : Int)).1, ((v_book_Ins a (9 : Int)).2.1, ((v_book_Ins a (9 : Int)).2.2.1, ((v_book_Ins a (9 : Int)).2.2.2.1, ((v_book_Ins a (9 : Int)).2.2.2.2.1, ((v_book_Ins a (9 : Int)).2.2.2.2.2.1, []))))))).2 then
                            bif k_law7_alive then
                              v_law7_alive
                            else false
                          else false
                        else false
                      else bif ((v_book_Ins a (9 : Int)).1 == (10 : Int)) then
                        bif (k_ins_Locked ((v_book_Ins a (9 : Int)).1, ((v_book_Ins a (9 : Int)).2.1, ((v_book_Ins a (9 : Int)).2.2.1, ((v_book_Ins a (9 : Int)).2.2.2.1, ((v_book_Ins a (9 : Int)).2.2.2.2.1, ((v_book_Ins a (9 : Int)).2.2.2.2.2.1, []))))))) then
                          bif (! (v_ins_Locked ((v_book_Ins a (9 : Int)).1, ((v_book_Ins a (9 : Int)).2.1, ((v_book_Ins a (9 : Int)).2.2.1, ((v_book_Ins a (9 : Int)).2.2.2.1, ((v_book_Ins a (9 : Int)).2.2.2.2.1, ((v_book_Ins a (9 : Int)).2.2.2.2.2.1, [])))))))) then
                            bif k_law7_alive then
                              v_law7_alive
                            else false
                          else bif (v_ins_Reads ((v_book_Ins a (9 : Int)).1, ((v_book_Ins a (9 : Int)).2.1, ((v_book_Ins a (9 : Int)).2.2.1, ((v_book_Ins a (9 : Int)).2.2.2.1, ((v_book_Ins a (9 : Int)).2.2.2.2.1, ((v_book_Ins a (9 : Int)).2.2.2.2.2.1, []))))))).2 then
                            bif k_law7_alive then
                              v_law7_alive
                            else false
                          else false
                        else false
                      else bif ((v_book_Ins a (9 : Int)).1 == (14 : Int)) then
                        bif (k_ins_Locked ((v_book_Ins a (9 : Int)).1, ((v_book_Ins a (9 : Int)).2.1, ((v_book_Ins a (9 : Int)).2.2.1, ((v_book_Ins a (9 : Int)).2.2.2.1, ((v_book_Ins a (9 : Int)).2.2.2.2.1, ((v_book_Ins a (9 : Int)).2.2.2.2.2.1, []))))))) then
                          bif (! (v_ins_Locked ((v_book_Ins a (9 : Int)).1, ((v_book_Ins a (9 : Int)).2.1, ((v_book_Ins a (9 : Int)).2.2.1, ((v_book_Ins a (9 : Int)).2.2.2.1, ((v_book_Ins a (9 : Int)).2.2.2.2.1, ((v_book_Ins a (9 : Int)).2.2.2.2.2.1, [])))))))) then
                            bif k_law7_alive then
                              v_law7_alive
                            else false
                          else bif (v_ins_Reads ((v_book_Ins a (9 : Int)).1, ((v_book_Ins a (9 : Int)).2.1, ((v_book_Ins a (9 : Int)).2.2.1, ((v_book_Ins a (9 : Int)).2.2.2.1, ((v_book_Ins a (9 : Int)).2.2.2.2.1, ((v_book_Ins a (9 : Int)).2.2.2.2.2.1, []))))))).2 then
                            bif k_law7_alive then
                              v_law7_alive
                            else false
                          else false
                        else false
                      else false
                    else false
                  else bif ((v_ins_Fence ((v_book_Ins a (9 : Int)).1, ((v_book_Ins a (9 : Int)).2.1, ((v_book_Ins a (9 : Int)).2.2.1, ((v_book_Ins a (9 : Int)).2.2.2.1, ((v_book_Ins a (9 : Int)).2.2.2.2.1, ((v_book_Ins a (9 : Int)).2.2.2.2.2.1, []))))))) == ((v_book_Ins a (9 : Int)).1 == (12 : Int))) then
                    bif (v_ins_Leads ((v_book_Ins a (9 : Int)).1, ((v_book_Ins a (9 : Int)).2.1, ((v_book_Ins a (9 : Int)).2.2.1, ((v_book_Ins a (9 : Int)).2.2.2.1, ((v_book_Ins a (9 : Int)).2.2.2.2.1, ((v_book_Ins a (9 : Int)).2.2.2.2.2.1, []))))))).2 then
                      bif (v_ins_Reads ((v_book_Ins a (9 : Int)).1, ((v_book_Ins a (9 : Int)).2.1, ((v_book_Ins a (9 : Int)).2.2.1, ((v_book_Ins a (9 : Int)).2.2.2.1, ((v_book_Ins a (9 : Int)).2.2.2.2.1, ((v_book_Ins a (9 : Int)).2.2.2.2.2.1, []))))))).2 then
                        false
                      else bif (! (v_ins_Writes ((v_book_Ins a (9 : Int)).1, ((v_book_Ins a (9 : Int)).2.1, ((v_book_Ins a (9 : Int)).2.2.1, ((v_book_Ins a (9 : Int)).2.2.2.1, ((v_book_Ins a (9 : Int)).2.2.2.2.1, ((v_book_Ins a (9 : Int)).2.2.2.2.2.1, []))))))).2) then
                        bif (v_ins_Leads ((v_book_Ins a (9 : Int)).1, ((v_book_Ins a (9 : Int)).2.1, ((v_book_Ins a (9 : Int)).2.2.1, ((v_book_Ins a (9 : Int)).2.2.2.1, ((v_book_Ins a (9 : Int)).2.2.2.2.1, ((v_book_Ins a (9 : Int)).2.2.2.2.2.1, []))))))).1 then
                          bif (k_ins_Locked ((v_book_Ins a (9 : Int)).1, ((v_book_Ins a (9 : Int)).2.1, ((v_book_Ins a (9 : Int)).2.2.1, ((v_book_Ins a (9 : Int)).2.2.2.1, ((v_book_Ins a (9 : Int)).2.2.2.2.1, ((v_book_Ins a (9 : Int)).2.2.2.2.2.1, []))))))) then
                            bif (! (v_ins_Locked ((v_book_Ins a (9 : Int)).1, ((v_book_Ins a (9 : Int)).2.1, ((v_book_Ins a (9 : Int)).2.2.1, ((v_book_Ins a (9 : Int)).2.2.2.1, ((v_book_Ins a (9 : Int)).2.2.2.2.1, ((v_book_Ins a (9 : Int)).2.2.2.2.2.1, [])))))))) then
                              bif k_law7_alive then
                                v_law7_alive
                              else false
                            else bif (v_ins_Reads ((v_book_Ins a (9 : Int)).1, ((v_book_Ins a (9 : Int)).2.1, ((v_book_Ins a (9 : Int)).2.2.1, ((v_book_Ins a (9 : Int)).2.2.2.1, ((v_book_Ins a (9 : Int)).2.2.2.2.1, ((v_book_Ins a (9 : Int)).2.2.2.2.2.1, []))))))).2 then
                              bif k_law7_alive then
                                v_law7_alive
                              else false
                            else false
                          else false
                        else bif ((v_book_Ins a (9 : Int)).1 == (10 : Int)) then
                          bif (k_ins_Locked ((v_book_Ins a (9 : Int)).1, ((v_book_Ins a (9 : Int)).2.1, ((v_book_Ins a (9 : Int)).2.2.1, ((v_book_Ins a (9 : Int)).2.2.2.1, ((v_book_Ins a (9 : Int)).2.2.2.2.1, ((v_book_Ins a (9 : Int)).2.2.2.2.2.1, []))))))) then
                            bif (! (v_ins_Locked ((v_book_Ins a (9 : Int)).1, ((v_book_Ins a (9 : Int)).2.1, ((v_book_Ins a (9 : Int)).2.2.1, ((v_book_Ins a (9 : Int)).2.2.2.1, ((v_book_Ins a (9 : Int)).2.2.2.2.1, ((v_book_Ins a (9 : Int)).2.2.2.2.2.1, [])))))))) then
                              bif k_law7_alive then
                                v_law7_alive
                              else false
                            else bif (v_ins_Reads ((v_book_Ins a (9 : Int)).1, ((v_book_Ins a (9 : Int)).2.1, ((v_book_Ins a (9 : Int)).2.2.1, ((v_book_Ins a (9 : Int)).2.2.2.1, ((v_book_Ins a (9 : Int)).2.2.2.2.1, ((v_book_Ins a (9 : Int)).2.2.2.2.2.1, []))))))).2 then
                              bif k_law7_alive then
                                v_law7_alive
                              else false
                            else false
                          else false
                        else bif ((v_book_Ins a (9 : Int)).1 == (14 : Int)) then
                          bif (k_ins_Locked ((v_book_Ins a (9 : Int)).1, ((v_book_Ins a (9 : Int)).2.1, ((v_book_Ins a (9 : Int)).2.2.1, ((v_book_Ins a (9 : Int)).2.2.2.1, ((v_book_Ins a (9 : Int)).2.2.2.2.1, ((v_book_Ins a (9 : Int)).2.2.2.2.2.1, []))))))) then
                            bif (! (v_ins_Locked ((v_book_Ins a (9 : Int)).1, ((v_book_Ins a (9 : Int)).2.1, ((v_book_Ins a (9 : Int)).2.2.1, ((v_book_Ins a (9 : Int)).2.2.2.1, ((v_book_Ins a (9 : Int)).2.2.2.2.1, ((v_book_Ins a (9 : Int)).2.2.2.2.2.1, [])))))))) then
                              bif k_law7_alive then
                                v_law7_alive
                              else false
                            else bif (v_ins_Reads ((v_book_Ins a (9 : Int)).1, ((v_book_Ins a (9 : Int)).2.1, ((v_book_Ins a (9 : Int)).2.2.1, ((v_book_Ins a (9 : Int)).2.2.2.1, ((v_book_Ins a (9 : Int)).2.2.2.2.1, ((v_book_Ins a (9 : Int)).2.2.2.2.2.1, []))))))).2 then
                              bif k_law7_alive then
                                v_law7_alive
                              else false
                            else false
                          else false
                        else false
                      else false
                    else bif (v_ins_Leads ((v_book_Ins a (9 : Int)).1, ((v_book_Ins a (9 : Int)).2.1, ((v_book_Ins a (9 : Int)).2.2.1, ((v_book_Ins a (9 : Int)).2.2.2.1, ((v_book_Ins a (9 : Int)).2.2.2.2.1, ((v_book_Ins a (9 : Int)).2.2.2.2.2.1, []))))))).1 then
                      bif (k_ins_Locked ((v_book_Ins a (9 : Int)).1, ((v_book_Ins a (9 : Int)).2.1, ((v_book_Ins a (9 : Int)).2.2.1, ((v_book_Ins a (9 : Int)).2.2.2.1, ((v_book_Ins a (9 : Int)).2.2.2.2.1, ((v_book_Ins a (9 : Int)).2.2.2.2.2.1, []))))))) then
                        bif (! (v_ins_Locked ((v_book_Ins a (9 : Int)).1, ((v_book_Ins a (9 : Int)).2.1, ((v_book_Ins a (9 : Int)).2.2.1, ((v_book_Ins a (9 : Int)).2.2.2.1, ((v_book_Ins a (9 : Int)).2.2.2.2.1, ((v_book_Ins a (9 : Int)).2.2.2.2.2.1, [])))))))) then
                          bif k_law7_alive then
                            v_law7_alive
                          else false
                        else bif (v_ins_Reads ((v_book_Ins a (9 : Int)).1, ((v_book_Ins a (9 : Int)).2.1, ((v_book_Ins a (9 : Int)).2.2.1, ((v_book_Ins a (9 : Int)).2.2.2.1, ((v_book_Ins a (9 : Int)).2.2.2.2.1, ((v_book_Ins a (9 : Int)).2.2.2.2.2.1, []))))))).2 then
                          bif k_law7_alive then
                            v_law7_alive
                          else false
                        else false
                      else false
                    else bif ((v_book_Ins a (9 : Int)).1 == (10 : Int)) then
                      bif (k_ins_Locked ((v_book_Ins a (9 : Int)).1, ((v_book_Ins a (9 : Int)).2.1, ((v_book_Ins a (9 : Int)).2.2.1, ((v_book_Ins a (9 : Int)).2.2.2.1, ((v_book_Ins a (9 : Int)).2.2.2.2.1, ((v_book_Ins a (9 : Int)).2.2.2.2.2.1, []))))))) then
                        bif (! (v_ins_Locked ((v_book_Ins a (9 : Int)).1, ((v_book_Ins a (9 : Int)).2.1, ((v_book_Ins a (9 : Int)).2.2.1, ((v_book_Ins a (9 : Int)).2.2.2.1, ((v_book_Ins a (9 : Int)).2.2.2.2.1, ((v_book_Ins a (9 : Int)).2.2.2.2.2.1, [])))))))) then
                          bif k_law7_alive then
                            v_law7_alive
                          else false
                        else bif (v_ins_Reads ((v_book_Ins a (9 : Int)).1, ((v_book_Ins a (9 : Int)).2.1, ((v_book_Ins a (9 : Int)).2.2.1, ((v_book_Ins a (9 : Int)).2.2.2.1, ((v_book_Ins a (9 : Int)).2.2.2.2.1, ((v_book_Ins a (9 : Int)).2.2.2.2.2.1, []))))))).2 then
                          bif k_law7_alive then
                            v_law7_alive
                          else false
                        else false
                      else false
                    else bif ((v_book_Ins a (9 : Int)).1 == (14 : Int)) then
                      bif (k_ins_Locked ((v_book_Ins a (9 : Int)).1, ((v_book_Ins a (9 : Int)).2.1, ((v_book_Ins a (9 : Int)).2.2.1, ((v_book_Ins a (9 : Int)).2.2.2.1, ((v_book_Ins a (9 : Int)).2.2.2.2.1, ((v_book_Ins a (9 : Int)).2.2.2.2.2.1, []))))))) then
                        bif (! (v_ins_Locked ((v_book_Ins a (9 : Int)).1, ((v_book_Ins a (9 : Int)).2.1, ((v_book_Ins a (9 : Int)).2.2.1, ((v_book_Ins a (9 : Int)).2.2.2.1, ((v_book_Ins a (9 : Int)).2.2.2.2.1, ((v_book_Ins a (9 : Int)).2.2.2.2.2.1, [])))))))) then
                          bif k_law7_alive then
                            v_law7_alive
                          else false
                        else bif (v_ins_Reads ((v_book_Ins a (9 : Int)).1, ((v_book_Ins a (9 : Int)).2.1, ((v_book_Ins a (9 : Int)).2.2.1, ((v_book_Ins a (9 : Int)).2.2.2.1, ((v_book_Ins a (9 : Int)).2.2.2.2.1, ((v_book_Ins a (9 : Int)).2.2.2.2.2.1, []))))))).2 then
                          bif k_law7_alive then
                            v_law7_alive
                          else false
                        else false
                      else false
                    else false
                  else false
                else false
              else false
            else false
          else false
        else false
      else false
    else false
  else false
def k_law7_InsReckons (a : El T_book_Act) : Bool :=
  bif (k_book_Ins a (9 : Int)) then
    bif (k_ins_Reads ((v_book_Ins a (9 : Int)).1, ((v_book_Ins a (9 : Int)).2.1, ((v_book_Ins a (9 : Int)).2.2.1, ((v_book_Ins a (9 : Int)).2.2.2.1, ((v_book_Ins a (9 : Int)).2.2.2.2.1, ((v_book_Ins a (9 : Int)).2.2.2.2.2.1, []))))))) then
      bif (k_ins_Writes ((v_book_Ins a (9 : Int)).1, ((v_book_Ins a (9 : Int)).2.1, ((v_book_Ins a (9 : Int)).2.2.1, ((v_book_Ins a (9 : Int)).2.2.2.1, ((v_book_Ins a (9 : Int)).2.2.2.2.1, ((v_book_Ins a (9 : Int)).2.2.2.2.2.1, []))))))) then
        bif (k_ins_Leads ((v_book_Ins a (9 : Int)).1, ((v_book_Ins a (9 : Int)).2.1, ((v_book_Ins a (9 : Int)).2.2.1, ((v_book_Ins a (9 : Int)).2.2.2.1, ((v_book_Ins a (9 : Int)).2.2.2.2.1, ((v_book_Ins a (9 : Int)).2.2.2.2.2.1, []))))))) then
          bif (k_ins_Parts ((v_book_Ins a (9 : Int)).1, ((v_book_Ins a (9 : Int)).2.1, ((v_book_Ins a (9 : Int)).2.2.1, ((v_book_Ins a (9 : Int)).2.2.2.1, ((v_book_Ins a (9 : Int)).2.2.2.2.1, ((v_book_Ins a (9 : Int)).2.2.2.2.2.1, []))))))) then
            bif (v_ins_Reads ((v_book_Ins a (9 : Int)).1, ((v_book_Ins a (9 : Int)).2.1, ((v_book_Ins a (9 : Int)).2.2.1, ((v_book_Ins a (9 : Int)).2.2.2.1, ((v_book_Ins a (9 : Int)).2.2.2.2.1, ((v_book_Ins a (9 : Int)).2.2.2.2.2.1, []))))))).2 then
              bif (v_ins_Writes ((v_book_Ins a (9 : Int)).1, ((v_book_Ins a (9 : Int)).2.1, ((v_book_Ins a (9 : Int)).2.2.1, ((v_book_Ins a (9 : Int)).2.2.2.1, ((v_book_Ins a (9 : Int)).2.2.2.2.1, ((v_book_Ins a (9 : Int)).2.2.2.2.2.1, []))))))).2 then
                bif (k_ins_Locked ((v_book_Ins a (9 : Int)).1, ((v_book_Ins a (9 : Int)).2.1, ((v_book_Ins a (9 : Int)).2.2.1, ((v_book_Ins a (9 : Int)).2.2.2.1, ((v_book_Ins a (9 : Int)).2.2.2.2.1, ((v_book_Ins a (9 : Int)).2.2.2.2.2.1, []))))))) then
                  bif (((v_ins_Parts ((v_book_Ins a (9 : Int)).1, ((v_book_Ins a (9 : Int)).2.1, ((v_book_Ins a (9 : Int)).2.2.1, ((v_book_Ins a (9 : Int)).2.2.2.1, ((v_book_Ins a (9 : Int)).2.2.2.2.1, ((v_book_Ins a (9 : Int)).2.2.2.2.2.1, []))))))) == (2 : Int)) == (! (v_ins_Locked ((v_book_Ins a (9 : Int)).1, ((v_book_Ins a (9 : Int)).2.1, ((v_book_Ins a (9 : Int)).2.2.1, ((v_book_Ins a (9 : Int)).2.2.2.1, ((v_book_Ins a (9 : Int)).2.2.2.2.1, ((v_book_Ins a (9 : Int)).2.2.2.2.2.1, []))))))))) then
                    bif (k_ins_Fence ((v_book_Ins a (9 : Int)).1, ((v_book_Ins a (9 : Int)).2.1, ((v_book_Ins a (9 : Int)).2.2.1, ((v_book_Ins a (9 : Int)).2.2.2.1, ((v_book_Ins a (9 : Int)).2.2.2.2.1, ((v_book_Ins a (9 : Int)).2.2.2.2.2.1, []))))))) then
                      bif (k_ins_Locked ((v_book_Ins a (9 : Int)).1, ((v_book_Ins a (9 : Int)).2.1, ((v_book_Ins a (9 : Int)).2.2.1, ((v_book_Ins a (9 : Int)).2.2.2.1, ((v_book_Ins a (9 : Int)).2.2.2.2.1, ((v_book_Ins a (9 : Int)).2.2.2.2.2.1, []))))))) then
                        bif (v_ins_Locked ((v_book_Ins a (9 : Int)).1, ((v_book_Ins a (9 : Int)).2.1, ((v_book_Ins a (9 : Int)).2.2.1, ((v_book_Ins a (9 : Int)).2.2.2.1, ((v_book_Ins a (9 : Int)).2.2.2.2.1, ((v_book_Ins a (9 : Int)).2.2.2.2.2.1, []))))))) then
                          bif ((v_ins_Fence ((v_book_Ins a (9 : Int)).1, ((v_book_Ins a (9 : Int)).2.1, ((v_book_Ins a (9 : Int)).2.2.1, ((v_book_Ins a (9 : Int)).2.2.2.1, ((v_book_Ins a (9 : Int)).2.2.2.2.1, ((v_book_Ins a (9 : Int)).2.2.2.2.2.1, []))))))) == true) then
                            bif (v_ins_Leads ((v_book_Ins a (9 : Int)).1, ((v_book_Ins a (9 : Int)).2.1, ((v_book_Ins a (9 : Int)).2.2.1, ((v_book_Ins a (9 : Int)).2.2.2.1, ((v_book_Ins a (9 : Int)).2.2.2.2.1, ((v_book_Ins a (9 : Int)).2.2.2.2.2.1, []))))))).2 then
                              bif (v_ins_Reads ((v_book_Ins a (9 : Int)).1, ((v_book_Ins a (9 : Int)).2.1, ((v_book_Ins a (9 : Int)).2.2.1, ((v_book_Ins a (9 : Int)).2.2.2.1, ((v_book_Ins a (9 : Int)).2.2.2.2.1, ((v_book_Ins a (9 : Int)).2.2.2.2.2.1, []))))))).2 then
                                true
                              else bif (! (v_ins_Writes ((v_book_Ins a (9 : Int)).1, ((v_book_Ins a (9 : Int)).2.1, ((v_book_Ins a (9 : Int)).2.2.1, ((v_book_Ins a (9 : Int)).2.2.2.1, ((v_book_Ins a (9 : Int)).2.2.2.2.1, ((v_book_Ins a (9 : Int)).2.2.2.2.2.1, []))))))).2) then
                                bif (v_ins_Leads ((v_book_Ins a (9 : Int)).1, ((v_book_Ins a (9 : Int)).2.1, ((v_book_Ins a (9 : Int)).2.2.1, ((v_book_Ins a (9 : Int)).2.2.2.1, ((v_book_Ins a (9 : Int)).2.2.2.2.1, ((v_book_Ins a (9 : Int)).2.2.2.2.2.1, []))))))).1 then
                                  bif (k_ins_Locked ((v_book_Ins a (9 : Int)).1, ((v_book_Ins a (9 : Int)).2.1, ((v_book_Ins a (9 : Int)).2.2.1, ((v_book_Ins a (9 : Int)).2.2.2.1, ((v_book_Ins a (9 : Int)).2.2.2.2.1, ((v_book_Ins a (9 : Int)).2.2.2.2.2.1, []))))))) then
                                    bif (! (v_ins_Locked ((v_book_Ins a (9 : Int)).1, ((v_book_Ins a (9 : Int)).2.1, ((v_book_Ins a (9 : Int)).2.2.1, ((v_book_Ins a (9 : Int)).2.2.2.1, ((v_book_Ins a (9 : Int)).2.2.2.2.1, ((v_book_Ins a (9 : Int)).2.2.2.2.2.1, [])))))))) then
                                      bif k_law7_alive then
                                        true
                                      else false
                                    else bif (v_ins_Reads ((v_book_Ins a (9 : Int)).1, ((v_book_Ins a (9 : Int)).2.1, ((v_book_Ins a (9 : Int)).2.2.1, ((v_book_Ins a (9 : Int)).2.2.2.1, ((v_book_Ins a (9 : Int)).2.2.2.2.1, ((v_book_Ins a (9 : Int)).2.2.2.2.2.1, []))))))).2 then
                                      bif k_law7_alive then
                                        true
                                      else false
                                    else true
                                  else false
                                else bif ((v_book_Ins a (9 : Int)).1 == (10 : Int)) then
                                  bif (k_ins_Locked ((v_book_Ins a (9 : Int)).1, ((v_book_Ins a (9 : Int)).2.1, ((v_book_Ins a (9 : Int)).2.2.1, ((v_book_Ins a (9 : Int)).2.2.2.1, ((v_book_Ins a (9 : Int)).2.2.2.2.1, ((v_book_Ins a (9 : Int)).2.2.2.2.2.1, []))))))) then
                                    bif (! (v_ins_Locked ((v_book_Ins a (9 : Int)).1, ((v_book_Ins a (9 : Int)).2.1, ((v_book_Ins a (9 : Int)).2.2.1, ((v_book_Ins a (9 : Int)).2.2.2.1, ((v_book_Ins a (9 : Int)).2.2.2.2.1, ((v_book_Ins a (9 : Int)).2.2.2.2.2.1, [])))))))) then
                                      bif k_law7_alive then
                                        true
                                      else false
                                    else bif (v_ins_Reads ((v_book_Ins a (9 : Int)).1, ((v_book_Ins a (9 : Int)).2.1, ((v_book_Ins a (9 : Int)).2.2.1, ((v_book_Ins a (9 : Int)).2.2.2.1, ((v_book_Ins a (9 : Int)).2.2.2.2.1, ((v_book_Ins a (9 : Int)).2.2.2.2.2.1, []))))))).2 then
                                      bif k_law7_alive then
                                        true
                                      else false
                                    else true
                                  else false
                                else bif ((v_book_Ins a (9 : Int)).1 == (14 : Int)) then
                                  bif (k_ins_Locked ((v_book_Ins a (9 : Int)).1, ((v_book_Ins a (9 : Int)).2.1, ((v_book_Ins a (9 : Int)).2.2.1, ((v_book_Ins a (9 : Int)).2.2.2.1, ((v_book_Ins a (9 : Int)).2.2.2.2.1, ((v_book_Ins a (9 : Int)).2.2.2.2.2.1, []))))))) then
                                    bif (! (v_ins_Locked ((v_book_Ins a (9 : Int)).1, ((v_book_Ins a (9 : Int)).2.1, ((v_book_Ins a (9 : Int)).2.2.1, ((v_book_Ins a (9 : Int)).2.2.2.1, ((v_book_Ins a (9 : Int)).2.2.2.2.1, ((v_book_Ins a (9 : Int)).2.2.2.2.2.1, [])))))))) then
                                      bif k_law7_alive then
                                        true
                                      else false
                                    else bif (v_ins_Reads ((v_book_Ins a (9 : Int)).1, ((v_book_Ins a (9 : Int)).2.1, ((v_book_Ins a (9 : Int)).2.2.1, ((v_book_Ins a (9 : Int)).2.2.2.1, ((v_book_Ins a (9 : Int)).2.2.2.2.1, ((v_book_Ins a (9 : Int)).2.2.2.2.2.1, []))))))).2 then
                                      bif k_law7_alive then
                                        true
                                      else false
                                    else true
                                  else false
                                else true
                              else true
                            else bif (v_ins_Leads ((v_book_Ins a (9 : Int)).1, ((v_book_Ins a (9 : Int)).2.1, ((v_book_Ins a (9 : Int)).2.2.1, ((v_book_Ins a (9 : Int)).2.2.2.1, ((v_book_Ins a (9 : Int)).2.2.2.2.1, ((v_book_Ins a (9 : Int)).2.2.2.2.2.1, []))))))).1 then
                              bif (k_ins_Locked ((v_book_Ins a (9 : Int)).1, ((v_book_Ins a (9 : Int)).2.1, ((v_book_Ins a (9 : Int)).2.2.1, ((v_book_Ins a (9 : Int)).2.2.2.1, ((v_book_Ins a (9 : Int)).2.2.2.2.1, ((v_book_Ins a (9 : Int)).2.2.2.2.2.1, []))))))) then
                                bif (! (v_ins_Locked ((v_book_Ins a (9 : Int)).1, ((v_book_Ins a (9 : Int)).2.1, ((v_book_Ins a (9 : Int)).2.2.1, ((v_book_Ins a (9 : Int)).2.2.2.1, ((v_book_Ins a (9 : Int)).2.2.2.2.1, ((v_book_Ins a (9 : Int)).2.2.2.2.2.1, [])))))))) then
                                  bif k_law7_alive then
                                    true
                                  else false
                                else bif (v_ins_Reads ((v_book_Ins a (9 : Int)).1, ((v_book_Ins a (9 : Int)).2.1, ((v_book_Ins a (9 : Int)).2.2.1, ((v_book_Ins a (9 : Int)).2.2.2.1, ((v_book_Ins a (9 : Int)).2.2.2.2.1, ((v_book_Ins a (9 : Int)).2.2.2.2.2.1, []))))))).2 then
                                  bif k_law7_alive then
                                    true
                                  else false
                                else true
                              else false
                            else bif ((v_book_Ins a (9 : Int)).1 == (10 : Int)) then
                              bif (k_ins_Locked ((v_book_Ins a (9 : Int)).1, ((v_book_Ins a (9 : Int)).2.1, ((v_book_Ins a (9 : Int)).2.2.1, ((v_book_Ins a (9 : Int)).2.2.2.1, ((v_book_Ins a (9 : Int)).2.2.2.2.1, ((v_book_Ins a (9 : Int)).2.2.2.2.2.1, []))))))) then
                                bif (! (v_ins_Locked ((v_book_Ins a (9 : Int)).1, ((v_book_Ins a (9 : Int)).2.1, ((v_book_Ins a (9 : Int)).2.2.1, ((v_book_Ins a (9 : Int)).2.2.2.1, ((v_book_Ins a (9 : Int)).2.2.2.2.1, ((v_book_Ins a (9 : Int)).2.2.2.2.2.1, [])))))))) then
                                  bif k_law7_alive then
                                    true
                                  else false
                                else bif (v_ins_Reads ((v_book_Ins a (9 : Int)).1, ((v_book_Ins a (9 : Int)).2.1, ((v_book_Ins a (9 : Int)).2.2.1, ((v_book_Ins a (9 : Int)).2.2.2.1, ((v_book_Ins a (9 : Int)).2.2.2.2.1, ((v_book_Ins a (9 : Int)).2.2.2.2.2.1, []))))))).2 then
                                  bif k_law7_alive then
                                    true
                                  else false
                                else true
                              else false
                            else bif ((v_book_Ins a (9 : Int)).1 == (14 : Int)) then
                              bif (k_ins_Locked ((v_book_Ins a (9 : Int)).1, ((v_book_Ins a (9 : Int)).2.1, ((v_book_Ins a (9 : Int)).2.2.1, ((v_book_Ins a (9 : Int)).2.2.2.1, ((v_book_Ins a (9 : Int)).2.2.2.2.1, ((v_book_Ins a (9 : Int)).2.2.2.2.2.1, []))))))) then
                                bif (! (v_ins_Locked ((v_book_Ins a (9 : Int)).1, ((v_book_Ins a (9 : Int)).2.1, ((v_book_Ins a (9 : Int)).2.2.1, ((v_book_Ins a (9 : Int)).2.2.2.1, ((v_book_Ins a (9 : Int)).2.2.2.2.1, ((v_book_Ins a (9 : Int)).2.2.2.2.2.1, [])))))))) then
                                  bif k_law7_alive then
                                    true
                                  else false
                                else bif (v_ins_Reads ((v_book_Ins a (9 : Int)).1, ((v_book_Ins a (9 : Int)).2.1, ((v_book_Ins a (9 : Int)).2.2.1, ((v_book_Ins a (9 : Int)).2.2.2.1, ((v_book_Ins a (9 : Int)).2.2.2.2.1, ((v_book_Ins a (9 : Int)).2.2.2.2.2.1, []))))))).2 then
                                  bif k_law7_alive then
                                    true
                                  else false
                                else true
                              else false
                            else true
                          else true
                        else bif ((v_ins_Fence ((v_book_Ins a (9 : Int)).1, ((v_book_Ins a (9 : Int)).2.1, ((v_book_Ins a (9 : Int)).2.2.1, ((v_book_Ins a (9 : Int)).2.2.2.1, ((v_book_Ins a (9 : Int)).2.2.2.2.1, ((v_book_Ins a (9 : Int)).2.2.2.2.2.1, []))))))) == ((v_book_Ins a (9 : Int)).1 == (12 : Int))) then
                          bif (v_ins_Leads ((v_book_Ins a (9 : Int)).1, ((v_book_Ins a (9 : Int)).2.1, ((v_book_Ins a (9 : Int)).2.2.1, ((v_book_Ins a (9 : Int)).2.2.2.1, ((v_book_Ins a (9 : Int)).2.2.2.2.1, ((v_book_Ins a (9 : Int)).2.2.2.2.2.1, []))))))).2 then
                            bif (v_ins_Reads ((v_book_Ins a (9 : Int)).1, ((v_book_Ins a (9 : Int)).2.1, ((v_book_Ins a (9 : Int)).2.2.1, ((v_book_Ins a (9 : Int)).2.2.2.1, ((v_book_Ins a (9 : Int)).2.2.2.2.1, ((v_book_Ins a (9 : Int)).2.2.2.2.2.1, []))))))).2 then
                              true
                            else bif (! (v_ins_Writes ((v_book_Ins a (9 : Int)).1, ((v_book_Ins a (9 : Int)).2.1, ((v_book_Ins a (9 : Int)).2.2.1, ((v_book_Ins a (9 : Int)).2.2.2.1, ((v_book_Ins a (9 : Int)).2.2.2.2.1, ((v_book_Ins a (9 : Int)).2.2.2.2.2.1, []))))))).2) then
                              bif (v_ins_Leads ((v_book_Ins a (9 : Int)).1, ((v_book_Ins a (9 : Int)).2.1, ((v_book_Ins a (9 : Int)).2.2.1, ((v_book_Ins a (9 : Int)).2.2.2.1, ((v_book_Ins a (9 : Int)).2.2.2.2.1, ((v_book_Ins a (9 : Int)).2.2.2.2.2.1, []))))))).1 then
                                bif (k_ins_Locked ((v_book_Ins a (9 : Int)).1, ((v_book_Ins a (9 : Int)).2.1, ((v_book_Ins a (9 : Int)).2.2.1, ((v_book_Ins a (9 : Int)).2.2.2.1, ((v_book_Ins a (9 : Int)).2.2.2.2.1, ((v_book_Ins a (9 : Int)).2.2.2.2.2.1, []))))))) then
                                  bif (! (v_ins_Locked ((v_book_Ins a (9 : Int)).1, ((v_book_Ins a (9 : Int)).2.1, ((v_book_Ins a (9 : Int)).2.2.1, ((v_book_Ins a (9 : Int)).2.2.2.1, ((v_book_Ins a (9 : Int)).2.2.2.2.1, ((v_book_Ins a (9 : Int)).2.2.2.2.2.1, [])))))))) then
                                    bif k_law7_alive then
                                      true
                                    else false
                                  else bif (v_ins_Reads ((v_book_Ins a (9 : Int)).1, ((v_book_Ins a (9 : Int)).2.1, ((v_book_Ins a (9 : Int)).2.2.1, ((v_book_Ins a (9 : Int)).2.2.2.1, ((v_book_Ins a (9 : Int)).2.2.2.2.1, ((v_book_Ins a (9 : Int)).2.2.2.2.2.1, []))))))).2 then
                                    bif k_law7_alive then
                                      true
                                    else false
                                  else true
                                else false
                              else bif ((v_book_Ins a (9 : Int)).1 == (10 : Int)) then
                                bif (k_ins_Locked ((v_book_Ins a (9 : Int)).1, ((v_book_Ins a (9 : Int)).2.1, ((v_book_Ins a (9 : Int)).2.2.1, ((v_book_Ins a (9 : Int)).2.2.2.1, ((v_book_Ins a (9 : Int)).2.2.2.2.1, ((v_book_Ins a (9 : Int)).2.2.2.2.2.1, []))))))) then
                                  bif (! (v_ins_Locked ((v_book_Ins a (9 : Int)).1, ((v_book_Ins a (9 : Int)).2.1, ((v_book_Ins a (9 : Int)).2.2.1, ((v_book_Ins a (9 : Int)).2.2.2.1, ((v_book_Ins a (9 : Int)).2.2.2.2.1, ((v_book_Ins a (9 : Int)).2.2.2.2.2.1, [])))))))) then
                                    bif k_law7_alive then
                                      true
                                    else false
                                  else bif (v_ins_Reads ((v_book_Ins a (9 : Int)).1, ((v_book_Ins a (9 : Int)).2.1, ((v_book_Ins a (9 : Int)).2.2.1, ((v_book_Ins a (9 : Int)).2.2.2.1, ((v_book_Ins a (9 : Int)).2.2.2.2.1, ((v_book_Ins a (9 : Int)).2.2.2.2.2.1, []))))))).2 then
                                    bif k_law7_alive then
                                      true
                                    else false
                                  else true
                                else false
                              else bif ((v_book_Ins a (9 : Int)).1 == (14 : Int)) then
                                bif (k_ins_Locked ((v_book_Ins a (9 : Int)).1, ((v_book_Ins a (9 : Int)).2.1, ((v_book_Ins a (9 : Int)).2.2.1, ((v_book_Ins a (9 : Int)).2.2.2.1, ((v_book_Ins a (9 : Int)).2.2.2.2.1, ((v_book_Ins a (9 : Int)).2.2.2.2.2.1, []))))))) then
                                  bif (! (v_ins_Locked ((v_book_Ins a (9 : Int)).1, ((v_book_Ins a (9 : Int)).2.1, ((v_book_Ins a (9 : Int)).2.2.1, ((v_book_Ins a (9 : Int)).2.2.2.1, ((v_book_Ins a (9 : Int)).2.2.2.2.1, ((v_book_Ins a (9 : Int)).2.2.2.2.2.1, [])))))))) then
                                    bif k_law7_alive then
                                      true
                                    else false
                                  else bif (v_ins_Reads ((v_book_Ins a (9 : Int)).1, ((v_book_Ins a (9 : Int)).2.1, ((v_book_Ins a (9 : Int)).2.2.1, ((v_book_Ins a (9 : Int)).2.2.2.1, ((v_book_Ins a (9 : Int)).2.2.2.2.1, ((v_book_Ins a (9 : Int)).2.2.2.2.2.1, []))))))).2 then
                                    bif k_law7_alive then
                                      true
                                    else false
                                  else true
                                else false
                              else true
                            else true
                          else bif (v_ins_Leads ((v_book_Ins a (9 : Int)).1, ((v_book_Ins a (9 : Int)).2.1, ((v_book_Ins a (9 : Int)).2.2.1, ((v_book_Ins a (9 : Int)).2.2.2.1, ((v_book_Ins a (9 : Int)).2.2.2.2.1, ((v_book_Ins a (9 : Int)).2.2.2.2.2.1, []))))))).1 then
                            bif (k_ins_Locked ((v_book_Ins a (9 : Int)).1, ((v_book_Ins a (9 : Int)).2.1, ((v_book_Ins a (9 : Int)).2.2.1, ((v_book_Ins a (9 : Int)).2.2.2.1, ((v_book_Ins a (9 : Int)).2.2.2.2.1, ((v_book_Ins a (9 : Int)).2.2.2.2.2.1, []))))))) then
                              bif (! (v_ins_Locked ((v_book_Ins a (9 : Int)).1, ((v_book_Ins a (9 : Int)).2.1, ((v_book_Ins a (9 : Int)).2.2.1, ((v_book_Ins a (9 : Int)).2.2.2.1, ((v_book_Ins a (9 : Int)).2.2.2.2.1, ((v_book_Ins a (9 : Int)).2.2.2.2.2.1, [])))))))) then
                                bif k_law7_alive then
                                  true
                                else false
                              else bif (v_ins_Reads ((v_book_Ins a (9 : Int)).1, ((v_book_Ins a (9 : Int)).2.1, ((v_book_Ins a (9 : Int)).2.2.1, ((v_book_Ins a (9 : Int)).2.2.2.1, ((v_book_Ins a (9 : Int)).2.2.2.2.1, ((v_book_Ins a (9 : Int)).2.2.2.2.2.1, []))))))).2 then
                                bif k_law7_alive then
                                  true
                                else false
                              else true
                            else false
                          else bif ((v_book_Ins a (9 : Int)).1 == (10 : Int)) then
                            bif (k_ins_Locked ((v_book_Ins a (9 : Int)).1, ((v_book_Ins a (9 : Int)).2.1, ((v_book_Ins a (9 : Int)).2.2.1, ((v_book_Ins a (9 : Int)).2.2.2.1, ((v_book_Ins a (9 : Int)).2.2.2.2.1, ((v_book_Ins a (9 : Int)).2.2.2.2.2.1, []))))))) then
                              bif (! (v_ins_Locked ((v_book_Ins a (9 : Int)).1, ((v_book_Ins a (9 : Int)).2.1, ((v_book_Ins a (9 : Int)).2.2.1, ((v_book_Ins a (9 : Int)).2.2.2.1, ((v_book_Ins a (9 : Int)).2.2.2.2.1, ((v_book_Ins a (9 : Int)).2.2.2.2.2.1, [])))))))) then
                                bif k_law7_alive then
                                  true
                                else false
                              else bif (v_ins_Reads ((v_book_Ins a (9 : Int)).1, ((v_book_Ins a (9 : Int)).2.1, ((v_book_Ins a (9 : Int)).2.2.1, ((v_book_Ins a (9 : Int)).2.2.2.1, ((v_book_Ins a (9 : Int)).2.2.2.2.1, ((v_book_Ins a (9 : Int)).2.2.2.2.2.1, []))))))).2 then
                                bif k_law7_alive then
                                  true
                                else false
                              else true
                            else false
                          else bif ((v_book_Ins a (9 : Int)).1 == (14 : Int)) then
                            bif (k_ins_Locked ((v_book_Ins a (9 : Int)).1, ((v_book_Ins a (9 : Int)).2.1, ((v_book_Ins a (9 : Int)).2.2.1, ((v_book_Ins a (9 : Int)).2.2.2.1, ((v_book_Ins a (9 : Int)).2.2.2.2.1, ((v_book_Ins a (9 : Int)).2.2.2.2.2.1, []))))))) then
                              bif (! (v_ins_Locked ((v_book_Ins a (9 : Int)).1, ((v_book_Ins a (9 : Int)).2.1, ((v_book_Ins a (9 : Int)).2.2.1, ((v_book_Ins a (9 : Int)).2.2.2.1, ((v_book_Ins a (9 : Int)).2.2.2.2.1, ((v_book_Ins a (9 : Int)).2.2.2.2.2.1, [])))))))) then
                                bif k_law7_alive then
                                  true
                                else false
                              else bif (v_ins_Reads ((v_book_Ins a (9 : Int)).1, ((v_book_Ins a (9 : Int)).2.1, ((v_book_Ins a (9 : Int)).2.2.1, ((v_book_Ins a (9 : Int)).2.2.2.1, ((v_book_Ins a (9 : Int)).2.2.2.2.1, ((v_book_Ins a (9 : Int)).2.2.2.2.2.1, []))))))).2 then
                                bif k_law7_alive then
                                  true
                                else false
                              else true
                            else false
                          else true
                        else true
                      else false
                    else false
                  else true
                else false
              else bif (((v_ins_Parts ((v_book_Ins a (9 : Int)).1, ((v_book_Ins a (9 : Int)).2.1, ((v_book_Ins a (9 : Int)).2.2.1, ((v_book_Ins a (9 : Int)).2.2.2.1, ((v_book_Ins a (9 : Int)).2.2.2.2.1, ((v_book_Ins a (9 : Int)).2.2.2.2.2.1, []))))))) == (2 : Int)) == false) then
                bif (k_ins_Fence ((v_book_Ins a (9 : Int)).1, ((v_book_Ins a (9 : Int)).2.1, ((v_book_Ins a (9 : Int)).2.2.1, ((v_book_Ins a (9 : Int)).2.2.2.1, ((v_book_Ins a (9 : Int)).2.2.2.2.1, ((v_book_Ins a (9 : Int)).2.2.2.2.2.1, []))))))) then
                  bif (k_ins_Locked ((v_book_Ins a (9 : Int)).1, ((v_book_Ins a (9 : Int)).2.1, ((v_book_Ins a (9 : Int)).2.2.1, ((v_book_Ins a (9 : Int)).2.2.2.1, ((v_book_Ins a (9 : Int)).2.2.2.2.1, ((v_book_Ins a (9 : Int)).2.2.2.2.2.1, []))))))) then
                    bif (v_ins_Locked ((v_book_Ins a (9 : Int)).1, ((v_book_Ins a (9 : Int)).2.1, ((v_book_Ins a (9 : Int)).2.2.1, ((v_book_Ins a (9 : Int)).2.2.2.1, ((v_book_Ins a (9 : Int)).2.2.2.2.1, ((v_book_Ins a (9 : Int)).2.2.2.2.2.1, []))))))) then
                      bif ((v_ins_Fence ((v_book_Ins a (9 : Int)).1, ((v_book_Ins a (9 : Int)).2.1, ((v_book_Ins a (9 : Int)).2.2.1, ((v_book_Ins a (9 : Int)).2.2.2.1, ((v_book_Ins a (9 : Int)).2.2.2.2.1, ((v_book_Ins a (9 : Int)).2.2.2.2.2.1, []))))))) == true) then
                        bif (v_ins_Leads ((v_book_Ins a (9 : Int)).1, ((v_book_Ins a (9 : Int)).2.1, ((v_book_Ins a (9 : Int)).2.2.1, ((v_book_Ins a (9 : Int)).2.2.2.1, ((v_book_Ins a (9 : Int)).2.2.2.2.1, ((v_book_Ins a (9 : Int)).2.2.2.2.2.1, []))))))).2 then
                          bif (v_ins_Reads ((v_book_Ins a (9 : Int)).1, ((v_book_Ins a (9 : Int)).2.1, ((v_book_Ins a (9 : Int)).2.2.1, ((v_book_Ins a (9 : Int)).2.2.2.1, ((v_book_Ins a (9 : Int)).2.2.2.2.1, ((v_book_Ins a (9 : Int)).2.2.2.2.2.1, []))))))).2 then
                            true
                          else bif (! (v_ins_Writes ((v_book_Ins a (9 : Int)).1, ((v_book_Ins a (9 : Int)).2.1, ((v_book_Ins a (9 : Int)).2.2.1, ((v_book_Ins a (9 : Int)).2.2.2.1, ((v_book_Ins a (9 : Int)).2.2.2.2.1, ((v_book_Ins a (9 : Int)).2.2.2.2.2.1, []))))))).2) then
                            bif (v_ins_Leads ((v_book_Ins a (9 : Int)).1, ((v_book_Ins a (9 : Int)).2.1, ((v_book_Ins a (9 : Int)).2.2.1, ((v_book_Ins a (9 : Int)).2.2.2.1, ((v_book_Ins a (9 : Int)).2.2.2.2.1, ((v_book_Ins a (9 : Int)).2.2.2.2.2.1, []))))))).1 then
                              bif (k_ins_Locked ((v_book_Ins a (9 : Int)).1, ((v_book_Ins a (9 : Int)).2.1, ((v_book_Ins a (9 : Int)).2.2.1, ((v_book_Ins a (9 : Int)).2.2.2.1, ((v_book_Ins a (9 : Int)).2.2.2.2.1, ((v_book_Ins a (9 : Int)).2.2.2.2.2.1, []))))))) then
                                bif (! (v_ins_Locked ((v_book_Ins a (9 : Int)).1, ((v_book_Ins a (9 : Int)).2.1, ((v_book_Ins a (9 : Int)).2.2.1, ((v_book_Ins a (9 : Int)).2.2.2.1, ((v_book_Ins a (9 : Int)).2.2.2.2.1, ((v_book_Ins a (9 : Int)).2.2.2.2.2.1, [])))))))) then
                                  bif k_law7_alive then
                                    true
                                  else false
                                else bif (v_ins_Reads ((v_book_Ins a (9 : Int)).1, ((v_book_Ins a (9 : Int)).2.1, ((v_book_Ins a (9 : Int)).2.2.1, ((v_book_Ins a (9 : Int)).2.2.2.1, ((v_book_Ins a (9 : Int)).2.2.2.2.1, ((v_book_Ins a (9 : Int)).2.2.2.2.2.1, []))))))).2 then
                                  bif k_law7_alive then
                                    true
                                  else false
                                else true
                              else false
                            else bif ((v_book_Ins a (9 : Int)).1 == (10 : Int)) then
                              bif (k_ins_Locked ((v_book_Ins a (9 : Int)).1, ((v_book_Ins a (9 : Int)).2.1, ((v_book_Ins a (9 : Int)).2.2.1, ((v_book_Ins a (9 : Int)).2.2.2.1, ((v_book_Ins a (9 : Int)).2.2.2.2.1, ((v_book_Ins a (9 : Int)).2.2.2.2.2.1, []))))))) then
                                bif (! (v_ins_Locked ((v_book_Ins a (9 : Int)).1, ((v_book_Ins a (9 : Int)).2.1, ((v_book_Ins a (9 : Int)).2.2.1, ((v_book_Ins a (9 : Int)).2.2.2.1, ((v_book_Ins a (9 : Int)).2.2.2.2.1, ((v_book_Ins a (9 : Int)).2.2.2.2.2.1, [])))))))) then
                                  bif k_law7_alive then
                                    true
                                  else false
                                else bif (v_ins_Reads ((v_book_Ins a (9 : Int)).1, ((v_book_Ins a (9 : Int)).2.1, ((v_book_Ins a (9 : Int)).2.2.1, ((v_book_Ins a (9 : Int)).2.2.2.1, ((v_book_Ins a (9 : Int)).2.2.2.2.1, ((v_book_Ins a (9 : Int)).2.2.2.2.2.1, []))))))).2 then
                                  bif k_law7_alive then
                                    true
                                  else false
                                else true
                              else false
                            else bif ((v_book_Ins a (9 : Int)).1 == (14 : Int)) then
                              bif (k_ins_Locked ((v_book_Ins a (9 : Int)).1, ((v_book_Ins a (9 : Int)).2.1, ((v_book_Ins a (9 : Int)).2.2.1, ((v_book_Ins a (9 : Int)).2.2.2.1, ((v_book_Ins a (9 : Int)).2.2.2.2.1, ((v_book_Ins a (9 : Int)).2.2.2.2.2.1, []))))))) then
                                bif (! (v_ins_Locked ((v_book_Ins a (9 : Int)).1, ((v_book_Ins a (9 : Int)).2.1, ((v_book_Ins a (9 : Int)).2.2.1, ((v_book_Ins a (9 : Int)).2.2.2.1, ((v_book_Ins a (9 : Int)).2.2.2.2.1, ((v_book_Ins a (9 : Int)).2.2.2.2.2.1, [])))))))) then
                                  bif k_law7_alive then
                                    true
                                  else false
                                else bif (v_ins_Reads ((v_book_Ins a (9 : Int)).1, ((v_book_Ins a (9 : Int)).2.1, ((v_book_Ins a (9 : Int)).2.2.1, ((v_book_Ins a (9 : Int)).2.2.2.1, ((v_book_Ins a (9 : Int)).2.2.2.2.1, ((v_book_Ins a (9 : Int)).2.2.2.2.2.1, []))))))).2 then
                                  bif k_law7_alive then
                                    true
                                  else false
                                else true
                              else false
                            else true
                          else true
                        else bif (v_ins_Leads ((v_book_Ins a (9 : Int)).1, ((v_book_Ins a (9 : Int)).2.1, ((v_book_Ins a (9 : Int)).2.2.1, ((v_book_Ins a (9 : Int)).2.2.2.1, ((v_book_Ins a (9 : Int)).2.2.2.2.1, ((v_book_Ins a (9 : Int)).2.2.2.2.2.1, []))))))).1 then
                          bif (k_ins_Locked ((v_book_Ins a (9 : Int)).1, ((v_book_Ins a (9 : Int)).2.1, ((v_book_Ins a (9 : Int)).2.2.1, ((v_book_Ins a (9 : Int)).2.2.2.1, ((v_book_Ins a (9 : Int)).2.2.2.2.1, ((v_book_Ins a (9 : Int)).2.2.2.2.2.1, []))))))) then
                            bif (! (v_ins_Locked ((v_book_Ins a (9 : Int)).1, ((v_book_Ins a (9 : Int)).2.1, ((v_book_Ins a (9 : Int)).2.2.1, ((v_book_Ins a (9 : Int)).2.2.2.1, ((v_book_Ins a (9 : Int)).2.2.2.2.1, ((v_book_Ins a (9 : Int)).2.2.2.2.2.1, [])))))))) then
                              bif k_law7_alive then
                                true
                              else false
                            else bif (v_ins_Reads ((v_book_Ins a (9 : Int)).1, ((v_book_Ins a (9 : Int)).2.1, ((v_book_Ins a (9 : Int)).2.2.1, ((v_book_Ins a (9 : Int)).2.2.2.1, ((v_book_Ins a (9 : Int)).2.2.2.2.1, ((v_book_Ins a (9 : Int)).2.2.2.2.2.1, []))))))).2 then
                              bif k_law7_alive then
                                true
                              else false
                            else true
                          else false
                        else bif ((v_book_Ins a (9 : Int)).1 == (10 : Int)) then
                          bif (k_ins_Locked ((v_book_Ins a (9 : Int)).1, ((v_book_Ins a (9 : Int)).2.1, ((v_book_Ins a (9 : Int)).2.2.1, ((v_book_Ins a (9 : Int)).2.2.2.1, ((v_book_Ins a (9 : Int)).2.2.2.2.1, ((v_book_Ins a (9 : Int)).2.2.2.2.2.1, []))))))) then
                            bif (! (v_ins_Locked ((v_book_Ins a (9 : Int)).1, ((v_book_Ins a (9 : Int)).2.1, ((v_book_Ins a (9 : Int)).2.2.1, ((v_book_Ins a (9 : Int)).2.2.2.1, ((v_book_Ins a (9 : Int)).2.2.2.2.1, ((v_book_Ins a (9 : Int)).2.2.2.2.2.1, [])))))))) then
                              bif k_law7_alive then
                                true
                              else false
                            else bif (v_ins_Reads ((v_book_Ins a (9 : Int)).1, ((v_book_Ins a (9 : Int)).2.1, ((v_book_Ins a (9 : Int)).2.2.1, ((v_book_Ins a (9 : Int)).2.2.2.1, ((v_book_Ins a (9 : Int)).2.2.2.2.1, ((v_book_Ins a (9 : Int)).2.2.2.2.2.1, []))))))).2 then
                              bif k_law7_alive then
                                true
                              else false
                            else true
                          else false
                        else bif ((v_book_Ins a (9 : Int)).1 == (14 : Int)) then
                          bif (k_ins_Locked ((v_book_Ins a (9 : Int)).1, ((v_book_Ins a (9 : Int)).2.1, ((v_book_Ins a (9 : Int)).2.2.1, ((v_book_Ins a (9 : Int)).2.2.2.1, ((v_book_Ins a (9 : Int)).2.2.2.2.1, ((v_book_Ins a (9 : Int)).2.2.2.2.2.1, []))))))) then
                            bif (! (v_ins_Locked ((v_book_Ins a (9 : Int)).1, ((v_book_Ins a (9 : Int)).2.1, ((v_book_Ins a (9 : Int)).2.2.1, ((v_book_Ins a (9 : Int)).2.2.2.1, ((v_book_Ins a (9 : Int)).2.2.2.2.1, ((v_book_Ins a (9 : Int)).2.2.2.2.2.1, [])))))))) then
                              bif k_law7_alive then
                                true
                              else false
                            else bif (v_ins_Reads ((v_book_Ins a (9 : Int)).1, ((v_book_Ins a (9 : Int)).2.1, ((v_book_Ins a (9 : Int)).2.2.1, ((v_book_Ins a (9 : Int)).2.2.2.1, ((v_book_Ins a (9 : Int)).2.2.2.2.1, ((v_book_Ins a (9 : Int)).2.2.2.2.2.1, []))))))).2 then
                              bif k_law7_alive then
                                true
                              else false
                            else true
                          else false
                        else true
                      else true
                    else bif ((v_ins_Fence ((v_book_Ins a (9 : Int)).1, ((v_book_Ins a (9 : Int)).2.1, ((v_book_Ins a (9 : Int)).2.2.1, ((v_book_Ins a (9 : Int)).2.2.2.1, ((v_book_Ins a (9 : Int)).2.2.2.2.1, ((v_book_Ins a (9 : Int)).2.2.2.2.2.1, []))))))) == ((v_book_Ins a (9 : Int)).1 == (12 : Int))) then
                      bif (v_ins_Leads ((v_book_Ins a (9 : Int)).1, ((v_book_Ins a (9 : Int)).2.1, ((v_book_Ins a (9 : Int)).2.2.1, ((v_book_Ins a (9 : Int)).2.2.2.1, ((v_book_Ins a (9 : Int)).2.2.2.2.1, ((v_book_Ins a (9 : Int)).2.2.2.2.2.1, []))))))).2 then
                        bif (v_ins_Reads ((v_book_Ins a (9 : Int)).1, ((v_book_Ins a (9 : Int)).2.1, ((v_book_Ins a (9 : Int)).2.2.1, ((v_book_Ins a (9 : Int)).2.2.2.1, ((v_book_Ins a (9 : Int)).2.2.2.2.1, ((v_book_Ins a (9 : Int)).2.2.2.2.2.1, []))))))).2 then
                          true
                        else bif (! (v_ins_Writes ((v_book_Ins a (9 : Int)).1, ((v_book_Ins a (9 : Int)).2.1, ((v_book_Ins a (9 : Int)).2.2.1, ((v_book_Ins a (9 : Int)).2.2.2.1, ((v_book_Ins a (9 : Int)).2.2.2.2.1, ((v_book_Ins a (9 : Int)).2.2.2.2.2.1, []))))))).2) then
                          bif (v_ins_Leads ((v_book_Ins a (9 : Int)).1, ((v_book_Ins a (9 : Int)).2.1, ((v_book_Ins a (9 : Int)).2.2.1, ((v_book_Ins a (9 : Int)).2.2.2.1, ((v_book_Ins a (9 : Int)).2.2.2.2.1, ((v_book_Ins a (9 : Int)).2.2.2.2.2.1, []))))))).1 then
                            bif (k_ins_Locked ((v_book_Ins a (9 : Int)).1, ((v_book_Ins a (9 : Int)).2.1, ((v_book_Ins a (9 : Int)).2.2.1, ((v_book_Ins a (9 : Int)).2.2.2.1, ((v_book_Ins a (9 : Int)).2.2.2.2.1, ((v_book_Ins a (9 : Int)).2.2.2.2.2.1, []))))))) then
                              bif (! (v_ins_Locked ((v_book_Ins a (9 : Int)).1, ((v_book_Ins a (9 : Int)).2.1, ((v_book_Ins a (9 : Int)).2.2.1, ((v_book_Ins a (9 : Int)).2.2.2.1, ((v_book_Ins a (9 : Int)).2.2.2.2.1, ((v_book_Ins a (9 : Int)).2.2.2.2.2.1, [])))))))) then
                                bif k_law7_alive then
                                  true
                                else false
                              else bif (v_ins_Reads ((v_book_Ins a (9 : Int)).1, ((v_book_Ins a (9 : Int)).2.1, ((v_book_Ins a (9 : Int)).2.2.1, ((v_book_Ins a (9 : Int)).2.2.2.1, ((v_book_Ins a (9 : Int)).2.2.2.2.1, ((v_book_Ins a (9 : Int)).2.2.2.2.2.1, []))))))).2 then
                                bif k_law7_alive then
                                  true
                                else false
                              else true
                            else false
                          else bif ((v_book_Ins a (9 : Int)).1 == (10 : Int)) then
                            bif (k_ins_Locked ((v_book_Ins a (9 : Int)).1, ((v_book_Ins a (9 : Int)).2.1, ((v_book_Ins a (9 : Int)).2.2.1, ((v_book_Ins a (9 : Int)).2.2.2.1, ((v_book_Ins a (9 : Int)).2.2.2.2.1, ((v_book_Ins a (9 : Int)).2.2.2.2.2.1, []))))))) then
                              bif (! (v_ins_Locked ((v_book_Ins a (9 : Int)).1, ((v_book_Ins a (9 : Int)).2.1, ((v_book_Ins a (9 : Int)).2.2.1, ((v_book_Ins a (9 : Int)).2.2.2.1, ((v_book_Ins a (9 : Int)).2.2.2.2.1, ((v_book_Ins a (9 : Int)).2.2.2.2.2.1, [])))))))) then
                                bif k_law7_alive then
                                  true
                                else false
                              else bif (v_ins_Reads ((v_book_Ins a (9 : Int)).1, ((v_book_Ins a (9 : Int)).2.1, ((v_book_Ins a (9 : Int)).2.2.1, ((v_book_Ins a (9 : Int)).2.2.2.1, ((v_book_Ins a (9 : Int)).2.2.2.2.1, ((v_book_Ins a (9 : Int)).2.2.2.2.2.1, []))))))).2 then
                                bif k_law7_alive then
                                  true
                                else false
                              else true
                            else false
                          else bif ((v_book_Ins a (9 : Int)).1 == (14 : Int)) then
                            bif (k_ins_Locked ((v_book_Ins a (9 : Int)).1, ((v_book_Ins a (9 : Int)).2.1, ((v_book_Ins a (9 : Int)).2.2.1, ((v_book_Ins a (9 : Int)).2.2.2.1, ((v_book_Ins a (9 : Int)).2.2.2.2.1, ((v_book_Ins a (9 : Int)).2.2.2.2.2.1, []))))))) then
                              bif (! (v_ins_Locked ((v_book_Ins a (9 : Int)).1, ((v_book_Ins a (9 : Int)).2.1, ((v_book_Ins a (9 : Int)).2.2.1, ((v_book_Ins a (9 : Int)).2.2.2.1, ((v_book_Ins a (9 : Int)).2.2.2.2.1, ((v_book_Ins a (9 : Int)).2.2.2.2.2.1, [])))))))) then
                                bif k_law7_alive then
                                  true
                                else false
                              else bif (v_ins_Reads ((v_book_Ins a (9 : Int)).1, ((v_book_Ins a (9 : Int)).2.1, ((v_book_Ins a (9 : Int)).2.2.1, ((v_book_Ins a (9 : Int)).2.2.2.1, ((v_book_Ins a (9 : Int)).2.2.2.2.1, ((v_book_Ins a (9 : Int)).2.2.2.2.2.1, []))))))).2 then
                                bif k_law7_alive then
                                  true
                                else false
                              else true
                            else false
                          else true
                        else true
                      else bif (v_ins_Leads ((v_book_Ins a (9 : Int)).1, ((v_book_Ins a (9 : Int)).2.1, ((v_book_Ins a (9 : Int)).2.2.1, ((v_book_Ins a (9 : Int)).2.2.2.1, ((v_book_Ins a (9 : Int)).2.2.2.2.1, ((v_book_Ins a (9 : Int)).2.2.2.2.2.1, []))))))).1 then
                        bif (k_ins_Locked ((v_book_Ins a (9 : Int)).1, ((v_book_Ins a (9 : Int)).2.1, ((v_book_Ins a (9 : Int)).2.2.1, ((v_book_Ins a (9 : Int)).2.2.2.1, ((v_book_Ins a (9 : Int)).2.2.2.2.1, ((v_book_Ins a (9 : Int)).2.2.2.2.2.1, []))))))) then
                          bif (! (v_ins_Locked ((v_book_Ins a (9 : Int)).1, ((v_book_Ins a (9 : Int)).2.1, ((v_book_Ins a (9 : Int)).2.2.1, ((v_book_Ins a (9 : Int)).2.2.2.1, ((v_book_Ins a (9 : Int)).2.2.2.2.1, ((v_book_Ins a (9 : Int)).2.2.2.2.2.1, [])))))))) then
                            bif k_law7_alive then
                              true
                            else false
                          else bif (v_ins_Reads ((v_book_Ins a (9 : Int)).1, ((v_book_Ins a (9 : Int)).2.1, ((v_book_Ins a (9 : Int)).2.2.1, ((v_book_Ins a (9 : Int)).2.2.2.1, ((v_book_Ins a (9 : Int)).2.2.2.2.1, ((v_book_Ins a (9 : Int)).2.2.2.2.2.1, []))))))).2 then
                            bif k_law7_alive then
                              true
                            else false
                          else true
                        else false
                      else bif ((v_book_Ins a (9 : Int)).1 == (10 : Int)) then
                        bif (k_ins_Locked ((v_book_Ins a (9 : Int)).1, ((v_book_Ins a (9 : Int)).2.1, ((v_book_Ins a (9 : Int)).2.2.1, ((v_book_Ins a (9 : Int)).2.2.2.1, ((v_book_Ins a (9 : Int)).2.2.2.2.1, ((v_book_Ins a (9 : Int)).2.2.2.2.2.1, []))))))) then
                          bif (! (v_ins_Locked ((v_book_Ins a (9 : Int)).1, ((v_book_Ins a (9 : Int)).2.1, ((v_book_Ins a (9 : Int)).2.2.1, ((v_book_Ins a (9 : Int)).2.2.2.1, ((v_book_Ins a (9 : Int)).2.2.2.2.1, ((v_book_Ins a (9 : Int)).2.2.2.2.2.1, [])))))))) then
                            bif k_law7_alive then
                              true
                            else false
                          else bif (v_ins_Reads ((v_book_Ins a (9 : Int)).1, ((v_book_Ins a (9 : Int)).2.1, ((v_book_Ins a (9 : Int)).2.2.1, ((v_book_Ins a (9 : Int)).2.2.2.1, ((v_book_Ins a (9 : Int)).2.2.2.2.1, ((v_book_Ins a (9 : Int)).2.2.2.2.2.1, []))))))).2 then
                            bif k_law7_alive then
                              true
                            else false
                          else true
                        else false
                      else bif ((v_book_Ins a (9 : Int)).1 == (14 : Int)) then
                        bif (k_ins_Locked ((v_book_Ins a (9 : Int)).1, ((v_book_Ins a (9 : Int)).2.1, ((v_book_Ins a (9 : Int)).2.2.1, ((v_book_Ins a (9 : Int)).2.2.2.1, ((v_book_Ins a (9 : Int)).2.2.2.2.1, ((v_book_Ins a (9 : Int)).2.2.2.2.2.1, []))))))) then
                          bif (! (v_ins_Locked ((v_book_Ins a (9 : Int)).1, ((v_book_Ins a (9 : Int)).2.1, ((v_book_Ins a (9 : Int)).2.2.1, ((v_book_Ins a (9 : Int)).2.2.2.1, ((v_book_Ins a (9 : Int)).2.2.2.2.1, ((v_book_Ins a (9 : Int)).2.2.2.2.2.1, [])))))))) then
                            bif k_law7_alive then
                              true
                            else false
                          else bif (v_ins_Reads ((v_book_Ins a (9 : Int)).1, ((v_book_Ins a (9 : Int)).2.1, ((v_book_Ins a (9 : Int)).2.2.1, ((v_book_Ins a (9 : Int)).2.2.2.1, ((v_book_Ins a (9 : Int)).2.2.2.2.1, ((v_book_Ins a (9 : Int)).2.2.2.2.2.1, []))))))).2 then
                            bif k_law7_alive then
                              true
                            else false
                          else true
                        else false
                      else true
                    else true
                  else false
                else false
              else true
            else bif (((v_ins_Parts ((v_book_Ins a (9 : Int)).1, ((v_book_Ins a (9 : Int)).2.1, ((v_book_Ins a (9 : Int)).2.2.1, ((v_book_Ins a (9 : Int)).2.2.2.1, ((v_book_Ins a (9 : Int)).2.2.2.2.1, ((v_book_Ins a (9 : Int)).2.2.2.2.2.1, []))))))) == (2 : Int)) == false) then
              bif (k_ins_Fence ((v_book_Ins a (9 : Int)).1, ((v_book_Ins a (9 : Int)).2.1, ((v_book_Ins a (9 : Int)).2.2.1, ((v_book_Ins a (9 : Int)).2.2.2.1, ((v_book_Ins a (9 : Int)).2.2.2.2.1, ((v_book_Ins a (9 : Int)).2.2.2.2.2.1, []))))))) then
                bif (k_ins_Locked ((v_book_Ins a (9 : Int)).1, ((v_book_Ins a (9 : Int)).2.1, ((v_book_Ins a (9 : Int)).2.2.1, ((v_book_Ins a (9 : Int)).2.2.2.1, ((v_book_Ins a (9 : Int)).2.2.2.2.1, ((v_book_Ins a (9 : Int)).2.2.2.2.2.1, []))))))) then
                  bif (v_ins_Locked ((v_book_Ins a (9 : Int)).1, ((v_book_Ins a (9 : Int)).2.1, ((v_book_Ins a (9 : Int)).2.2.1, ((v_book_Ins a (9 : Int)).2.2.2.1, ((v_book_Ins a (9 : Int)).2.2.2.2.1, ((v_book_Ins a (9 : Int)).2.2.2.2.2.1, []))))))) then
                    bif ((v_ins_Fence ((v_book_Ins a (9 : Int)).1, ((v_book_Ins a (9 : Int)).2.1, ((v_book_Ins a (9 : Int)).2.2.1, ((v_book_Ins a (9 : Int)).2.2.2.1, ((v_book_Ins a (9 : Int)).2.2.2.2.1, ((v_book_Ins a (9 : Int)).2.2.2.2.2.1, []))))))) == true) then
                      bif (v_ins_Leads ((v_book_Ins a (9 : Int)).1, ((v_book_Ins a (9 : Int)).2.1, ((v_book_Ins a (9 : Int)).2.2.1, ((v_book_Ins a (9 : Int)).2.2.2.1, ((v_book_Ins a (9 : Int)).2.2.2.2.1, ((v_book_Ins a (9 : Int)).2.2.2.2.2.1, []))))))).2 then
                        bif (v_ins_Reads ((v_book_Ins a (9 : Int)).1, ((v_book_Ins a (9 : Int)).2.1, ((v_book_Ins a (9 : Int)).2.2.1, ((v_book_Ins a (9 : Int)).2.2.2.1, ((v_book_Ins a (9 : Int)).2.2.2.2.1, ((v_book_Ins a (9 : Int)).2.2.2.2.2.1, []))))))).2 then
                          true
                        else bif (! (v_ins_Writes ((v_book_Ins a (9 : Int)).1, ((v_book_Ins a (9 : Int)).2.1, ((v_book_Ins a (9 : Int)).2.2.1, ((v_book_Ins a (9 : Int)).2.2.2.1, ((v_book_Ins a (9 : Int)).2.2.2.2.1, ((v_book_Ins a (9 : Int)).2.2.2.2.2.1, []))))))).2) then
                          bif (v_ins_Leads ((v_book_Ins a (9 : Int)).1, ((v_book_Ins a (9 : Int)).2.1, ((v_book_Ins a (9 : Int)).2.2.1, ((v_book_Ins a (9 : Int)).2.2.2.1, ((v_book_Ins a (9 : Int)).2.2.2.2.1, ((v_book_Ins a (9 : Int)).2.2.2.2.2.1, []))))))).1 then
                            bif (k_ins_Locked ((v_book_Ins a (9 : Int)).1, ((v_book_Ins a (9 : Int)).2.1, ((v_book_Ins a (9 : Int)).2.2.1, ((v_book_Ins a (9 : Int)).2.2.2.1, ((v_book_Ins a (9 : Int)).2.2.2.2.1, ((v_book_Ins a (9 : Int)).2.2.2.2.2.1, []))))))) then
                              bif (! (v_ins_Locked ((v_book_Ins a (9 : Int)).1, ((v_book_Ins a (9 : Int)).2.1, ((v_book_Ins a (9 : Int)).2.2.1, ((v_book_Ins a (9 : Int)).2.2.2.1, ((v_book_Ins a (9 : Int)).2.2.2.2.1, ((v_book_Ins a (9 : Int)).2.2.2.2.2.1, [])))))))) then
                                bif k_law7_alive then
                                  true
                                else false
                              else bif (v_ins_Reads ((v_book_Ins a (9 : Int)).1, ((v_book_Ins a (9 : Int)).2.1, ((v_book_Ins a (9 : Int)).2.2.1, ((v_book_Ins a (9 : Int)).2.2.2.1, ((v_book_Ins a (9 : Int)).2.2.2.2.1, ((v_book_Ins a (9 : Int)).2.2.2.2.2.1, []))))))).2 then
                                bif k_law7_alive then
                                  true
                                else false
                              else true
                            else false
                          else bif ((v_book_Ins a (9 : Int)).1 == (10 : Int)) then
                            bif (k_ins_Locked ((v_book_Ins a (9 : Int)).1, ((v_book_Ins a (9 : Int)).2.1, ((v_book_Ins a (9 : Int)).2.2.1, ((v_book_Ins a (9 : Int)).2.2.2.1, ((v_book_Ins a (9 : Int)).2.2.2.2.1, ((v_book_Ins a (9 : Int)).2.2.2.2.2.1, []))))))) then
                              bif (! (v_ins_Locked ((v_book_Ins a (9 : Int)).1, ((v_book_Ins a (9 : Int)).2.1, ((v_book_Ins a (9 : Int)).2.2.1, ((v_book_Ins a (9 : Int)).2.2.2.1, ((v_book_Ins a (9 : Int)).2.2.2.2.1, ((v_book_Ins a (9 : Int)).2.2.2.2.2.1, [])))))))) then
                                bif k_law7_alive then
                                  true
                                else false
                              else bif (v_ins_Reads ((v_book_Ins a (9 : Int)).1, ((v_book_Ins a (9 : Int)).2.1, ((v_book_Ins a (9 : Int)).2.2.1, ((v_book_Ins a (9 : Int)).2.2.2.1, ((v_book_Ins a (9 : Int)).2.2.2.2.1, ((v_book_Ins a (9 : Int)).2.2.2.2.2.1, []))))))).2 then
                                bif k_law7_alive then
                                  true
                                else false
                              else true
                            else false
                          else bif ((v_book_Ins a (9 : Int)).1 == (14 : Int)) then
                            bif (k_ins_Locked ((v_book_Ins a (9 : Int)).1, ((v_book_Ins a (9 : Int)).2.1, ((v_book_Ins a (9 : Int)).2.2.1, ((v_book_Ins a (9 : Int)).2.2.2.1, ((v_book_Ins a (9 : Int)).2.2.2.2.1, ((v_book_Ins a (9 : Int)).2.2.2.2.2.1, []))))))) then
                              bif (! (v_ins_Locked ((v_book_Ins a (9 : Int)).1, ((v_book_Ins a (9 : Int)).2.1, ((v_book_Ins a (9 : Int)).2.2.1, ((v_book_Ins a (9 : Int)).2.2.2.1, ((v_book_Ins a (9 : Int)).2.2.2.2.1, ((v_book_Ins a (9 : Int)).2.2.2.2.2.1, [])))))))) then
                                bif k_law7_alive then
                                  true
                                else false
                              else bif (v_ins_Reads ((v_book_Ins a (9 : Int)).1, ((v_book_Ins a (9 : Int)).2.1, ((v_book_Ins a (9 : Int)).2.2.1, ((v_book_Ins a (9 : Int)).2.2.2.1, ((v_book_Ins a (9 : Int)).2.2.2.2.1, ((v_book_Ins a (9 : Int)).2.2.2.2.2.1, []))))))).2 then
                                bif k_law7_alive then
                                  true
                                else false
                              else true
                            else false
                          else true
                        else true
                      else bif (v_ins_Leads ((v_book_Ins a (9 : Int)).1, ((v_book_Ins a (9 : Int)).2.1, ((v_book_Ins a (9 : Int)).2.2.1, ((v_book_Ins a (9 : Int)).2.2.2.1, ((v_book_Ins a (9 : Int)).2.2.2.2.1, ((v_book_Ins a (9 : Int)).2.2.2.2.2.1, []))))))).1 then
                        bif (k_ins_Locked ((v_book_Ins a (9 : Int)).1, ((v_book_Ins a (9 : Int)).2.1, ((v_book_Ins a (9 : Int)).2.2.1, ((v_book_Ins a (9 : Int)).2.2.2.1, ((v_book_Ins a (9 : Int)).2.2.2.2.1, ((v_book_Ins a (9 : Int)).2.2.2.2.2.1, []))))))) then
                          bif (! (v_ins_Locked ((v_book_Ins a (9 : Int)).1, ((v_book_Ins a (9 : Int)).2.1, ((v_book_Ins a (9 : Int)).2.2.1, ((v_book_Ins a (9 : Int)).2.2.2.1, ((v_book_Ins a (9 : Int)).2.2.2.2.1, ((v_book_Ins a (9 : Int)).2.2.2.2.2.1, [])))))))) then
                            bif k_law7_alive then
                              true
                            else false
                          else bif (v_ins_Reads ((v_book_Ins a (9 : Int)).1, ((v_book_Ins a (9 : Int)).2.1, ((v_book_Ins a (9 : Int)).2.2.1, ((v_book_Ins a (9 : Int)).2.2.2.1, ((v_book_Ins a (9 : Int)).2.2.2.2.1, ((v_book_Ins a (9 : Int)).2.2.2.2.2.1, []))))))).2 then
                            bif k_law7_alive then
                              true
                            else false
                          else true
                        else false
                      else bif ((v_book_Ins a (9 : Int)).1 == (10 : Int)) then
                        bif (k_ins_Locked ((v_book_Ins a (9 : Int)).1, ((v_book_Ins a (9 : Int)).2.1, ((v_book_Ins a (9 : Int)).2.2.1, ((v_book_Ins a (9 : Int)).2.2.2.1, ((v_book_Ins a (9 : Int)).2.2.2.2.1, ((v_book_Ins a (9 : Int)).2.2.2.2.2.1, []))))))) then
                          bif (! (v_ins_Locked ((v_book_Ins a (9 : Int)).1, ((v_book_Ins a (9 : Int)).2.1, ((v_book_Ins a (9 : Int)).2.2.1, ((v_book_Ins a (9 : Int)).2.2.2.1, ((v_book_Ins a (9 : Int)).2.2.2.2.1, ((v_book_Ins a (9 : Int)).2.2.2.2.2.1, [])))))))) then
                            bif k_law7_alive then
                              true
                            else false
                          else bif (v_ins_Reads ((v_book_Ins a (9 : Int)).1, ((v_book_Ins a (9 : Int)).2.1, ((v_book_Ins a (9 : Int)).2.2.1, ((v_book_Ins a (9 : Int)).2.2.2.1, ((v_book_Ins a (9 : Int)).2.2.2.2.1, ((v_book_Ins a (9 : Int)).2.2.2.2.2.1, []))))))).2 then
                            bif k_law7_alive then
                              true
                            else false
                          else true
                        else false
                      else bif ((v_book_Ins a (9 : Int)).1 == (14 : Int)) then
                        bif (k_ins_Locked ((v_book_Ins a (9 : Int)).1, ((v_book_Ins a (9 : Int)).2.1, ((v_book_Ins a (9 : Int)).2.2.1, ((v_book_Ins a (9 : Int)).2.2.2.1, ((v_book_Ins a (9 : Int)).2.2.2.2.1, ((v_book_Ins a (9 : Int)).2.2.2.2.2.1, []))))))) then
                          bif (! (v_ins_Locked ((v_book_Ins a (9 : Int)).1, ((v_book_Ins a (9 : Int)).2.1, ((v_book_Ins a (9 : Int)).2.2.1, ((v_book_Ins a (9 : Int)).2.2.2.1, ((v_book_Ins a (9 : Int)).2.2.2.2.1, ((v_book_Ins a (9 : Int)).2.2.2.2.2.1, [])))))))) then
                            bif k_law7_alive then
                              true
                            else false
                          else bif (v_ins_Reads ((v_book_Ins a (9 : Int)).1, ((v_book_Ins a (9 : Int)).2.1, ((v_book_Ins a (9 : Int)).2.2.1, ((v_book_Ins a (9 : Int)).2.2.2.1, ((v_book_Ins a (9 : Int)).2.2.2.2.1, ((v_book_Ins a (9 : Int)).2.2.2.2.2.1, []))))))).2 then
                            bif k_law7_alive then
                              true
                            else false
                          else true
                        else false
                      else true
                    else true
                  else bif ((v_ins_Fence ((v_book_Ins a (9 : Int)).1, ((v_book_Ins a (9 : Int)).2.1, ((v_book_Ins a (9 : Int)).2.2.1, ((v_book_Ins a (9 : Int)).2.2.2.1, ((v_book_Ins a (9 : Int)).2.2.2.2.1, ((v_book_Ins a (9 : Int)).2.2.2.2.2.1, []))))))) == ((v_book_Ins a (9 : Int)).1 == (12 : Int))) then
                    bif (v_ins_Leads ((v_book_Ins a (9 : Int)).1, ((v_book_Ins a (9 : Int)).2.1, ((v_book_Ins a (9 : Int)).2.2.1, ((v_book_Ins a (9 : Int)).2.2.2.1, ((v_book_Ins a (9 : Int)).2.2.2.2.1, ((v_book_Ins a (9 : Int)).2.2.2.2.2.1, []))))))).2 then
                      bif (v_ins_Reads ((v_book_Ins a (9 : Int)).1, ((v_book_Ins a (9 : Int)).2.1, ((v_book_Ins a (9 : Int)).2.2.1, ((v_book_Ins a (9 : Int)).2.2.2.1, ((v_book_Ins a (9 : Int)).2.2.2.2.1, ((v_book_Ins a (9 : Int)).2.2.2.2.2.1, []))))))).2 then
                        true
                      else bif (! (v_ins_Writes ((v_book_Ins a (9 : Int)).1, ((v_book_Ins a (9 : Int)).2.1, ((v_book_Ins a (9 : Int)).2.2.1, ((v_book_Ins a (9 : Int)).2.2.2.1, ((v_book_Ins a (9 : Int)).2.2.2.2.1, ((v_book_Ins a (9 : Int)).2.2.2.2.2.1, []))))))).2) then
                        bif (v_ins_Leads ((v_book_Ins a (9 : Int)).1, ((v_book_Ins a (9 : Int)).2.1, ((v_book_Ins a (9 : Int)).2.2.1, ((v_book_Ins a (9 : Int)).2.2.2.1, ((v_book_Ins a (9 : Int)).2.2.2.2.1, ((v_book_Ins a (9 : Int)).2.2.2.2.2.1, []))))))).1 then
                          bif (k_ins_Locked ((v_book_Ins a (9 : Int)).1, ((v_book_Ins a (9 : Int)).2.1, ((v_book_Ins a (9 : Int)).2.2.1, ((v_book_Ins a (9 : Int)).2.2.2.1, ((v_book_Ins a (9 : Int)).2.2.2.2.1, ((v_book_Ins a (9 : Int)).2.2.2.2.2.1, []))))))) then
                            bif (! (v_ins_Locked ((v_book_Ins a (9 : Int)).1, ((v_book_Ins a (9 : Int)).2.1, ((v_book_Ins a (9 : Int)).2.2.1, ((v_book_Ins a (9 : Int)).2.2.2.1, ((v_book_Ins a (9 : Int)).2.2.2.2.1, ((v_book_Ins a (9 : Int)).2.2.2.2.2.1, [])))))))) then
                              bif k_law7_alive then
                                true
                              else false
                            else bif (v_ins_Reads ((v_book_Ins a (9 : Int)).1, ((v_book_Ins a (9 : Int)).2.1, ((v_book_Ins a (9 : Int)).2.2.1, ((v_book_Ins a (9 : Int)).2.2.2.1, ((v_book_Ins a (9 : Int)).2.2.2.2.1, ((v_book_Ins a (9 : Int)).2.2.2.2.2.1, []))))))).2 then
                              bif k_law7_alive then
                                true
                              else false
                            else true
                          else false
                        else bif ((v_book_Ins a (9 : Int)).1 == (10 : Int)) then
                          bif (k_ins_Locked ((v_book_Ins a (9 : Int)).1, ((v_book_Ins a (9 : Int)).2.1, ((v_book_Ins a (9 : Int)).2.2.1, ((v_book_Ins a (9 : Int)).2.2.2.1, ((v_book_Ins a (9 : Int)).2.2.2.2.1, ((v_book_Ins a (9 : Int)).2.2.2.2.2.1, []))))))) then
                            bif (! (v_ins_Locked ((v_book_Ins a (9 : Int)).1, ((v_book_Ins a (9 : Int)).2.1, ((v_book_Ins a (9 : Int)).2.2.1, ((v_book_Ins a (9 : Int)).2.2.2.1, ((v_book_Ins a (9 : Int)).2.2.2.2.1, ((v_book_Ins a (9 : Int)).2.2.2.2.2.1, [])))))))) then
                              bif k_law7_alive then
                                true
                              else false
                            else bif (v_ins_Reads ((v_book_Ins a (9 : Int)).1, ((v_book_Ins a (9 : Int)).2.1, ((v_book_Ins a (9 : Int)).2.2.1, ((v_book_Ins a (9 : Int)).2.2.2.1, ((v_book_Ins a (9 : Int)).2.2.2.2.1, ((v_book_Ins a (9 : Int)).2.2.2.2.2.1, []))))))).2 then
                              bif k_law7_alive then
                                true
                              else false
                            else true
                          else false
                        else bif ((v_book_Ins a (9 : Int)).1 == (14 : Int)) then
                          bif (k_ins_Locked ((v_book_Ins a (9 : Int)).1, ((v_book_Ins a (9 : Int)).2.1, ((v_book_Ins a (9 : Int)).2.2.1, ((v_book_Ins a (9 : Int)).2.2.2.1, ((v_book_Ins a (9 : Int)).2.2.2.2.1, ((v_book_Ins a (9 : Int)).2.2.2.2.2.1, []))))))) then
                            bif (! (v_ins_Locked ((v_book_Ins a (9 : Int)).1, ((v_book_Ins a (9 : Int)).2.1, ((v_book_Ins a (9 : Int)).2.2.1, ((v_book_Ins a (9 : Int)).2.2.2.1, ((v_book_Ins a (9 : Int)).2.2.2.2.1, ((v_book_Ins a (9 : Int)).2.2.2.2.2.1, [])))))))) then
                              bif k_law7_alive then
                                true
                              else false
                            else bif (v_ins_Reads ((v_book_Ins a (9 : Int)).1, ((v_book_Ins a (9 : Int)).2.1, ((v_book_Ins a (9 : Int)).2.2.1, ((v_book_Ins a (9 : Int)).2.2.2.1, ((v_book_Ins a (9 : Int)).2.2.2.2.1, ((v_book_Ins a (9 : Int)).2.2.2.2.2.1, []))))))).2 then
                              bif k_law7_alive then
                                true
                              else false
                            else true
                          else false
                        else true
                      else true
                    else bif (v_ins_Leads ((v_book_Ins a (9 : Int)).1, ((v_book_Ins a (9 : Int)).2.1, ((v_book_Ins a (9 : Int)).2.2.1, ((v_book_Ins a (9 : Int)).2.2.2.1, ((v_book_Ins a (9 : Int)).2.2.2.2.1, ((v_book_Ins a (9 : Int)).2.2.2.2.2.1, []))))))).1 then
                      bif (k_ins_Locked ((v_book_Ins a (9 : Int)).1, ((v_book_Ins a (9 : Int)).2.1, ((v_book_Ins a (9 : Int)).2.2.1, ((v_book_Ins a (9 : Int)).2.2.2.1, ((v_book_Ins a (9 : Int)).2.2.2.2.1, ((v_book_Ins a (9 : Int)).2.2.2.2.2.1, []))))))) then
                        bif (! (v_ins_Locked ((v_book_Ins a (9 : Int)).1, ((v_book_Ins a (9 : Int)).2.1, ((v_book_Ins a (9 : Int)).2.2.1, ((v_book_Ins a (9 : Int)).2.2.2.1, ((v_book_Ins a (9 : Int)).2.2.2.2.1, ((v_book_Ins a (9 : Int)).2.2.2.2.2.1, [])))))))) then
                          bif k_law7_alive then
                            true
                          else false
                        else bif (v_ins_Reads ((v_book_Ins a (9 : Int)).1, ((v_book_Ins a (9 : Int)).2.1, ((v_book_Ins a (9 : Int)).2.2.1, ((v_book_Ins a (9 : Int)).2.2.2.1, ((v_book_Ins a (9 : Int)).2.2.2.2.1, ((v_book_Ins a (9 : Int)).2.2.2.2.2.1, []))))))).2 then
                          bif k_law7_alive then
                            true
                          else false
                        else true
                      else false
                    else bif ((v_book_Ins a (9 : Int)).1 == (10 : Int)) then
                      bif (k_ins_Locked ((v_book_Ins a (9 : Int)).1, ((v_book_Ins a (9 : Int)).2.1, ((v_book_Ins a (9 : Int)).2.2.1, ((v_book_Ins a (9 : Int)).2.2.2.1, ((v_book_Ins a (9 : Int)).2.2.2.2.1, ((v_book_Ins a (9 : Int)).2.2.2.2.2.1, []))))))) then
                        bif (! (v_ins_Locked ((v_book_Ins a (9 : Int)).1, ((v_book_Ins a (9 : Int)).2.1, ((v_book_Ins a (9 : Int)).2.2.1, ((v_book_Ins a (9 : Int)).2.2.2.1, ((v_book_Ins a (9 : Int)).2.2.2.2.1, ((v_book_Ins a (9 : Int)).2.2.2.2.2.1, [])))))))) then
                          bif k_law7_alive then
                            true
                          else false
                        else bif (v_ins_Reads ((v_book_Ins a (9 : Int)).1, ((v_book_Ins a (9 : Int)).2.1, ((v_book_Ins a (9 : Int)).2.2.1, ((v_book_Ins a (9 : Int)).2.2.2.1, ((v_book_Ins a (9 : Int)).2.2.2.2.1, ((v_book_Ins a (9 : Int)).2.2.2.2.2.1, []))))))).2 then
                          bif k_law7_alive then
                            true
                          else false
                        else true
                      else false
                    else bif ((v_book_Ins a (9 : Int)).1 == (14 : Int)) then
                      bif (k_ins_Locked ((v_book_Ins a (9 : Int)).1, ((v_book_Ins a (9 : Int)).2.1, ((v_book_Ins a (9 : Int)).2.2.1, ((v_book_Ins a (9 : Int)).2.2.2.1, ((v_book_Ins a (9 : Int)).2.2.2.2.1, ((v_book_Ins a (9 : Int)).2.2.2.2.2.1, []))))))) then
                        bif (! (v_ins_Locked ((v_book_Ins a (9 : Int)).1, ((v_book_Ins a (9 : Int)).2.1, ((v_book_Ins a (9 : Int)).2.2.1, ((v_book_Ins a (9 : Int)).2.2.2.1, ((v_book_Ins a (9 : Int)).2.2.2.2.1, ((v_book_Ins a (9 : Int)).2.2.2.2.2.1, [])))))))) then
                          bif k_law7_alive then
                            true
                          else false
                        else bif (v_ins_Reads ((v_book_Ins a (9 : Int)).1, ((v_book_Ins a (9 : Int)).2.1, ((v_book_Ins a (9 : Int)).2.2.1, ((v_book_Ins a (9 : Int)).2.2.2.1, ((v_book_Ins a (9 : Int)).2.2.2.2.1, ((v_book_Ins a (9 : Int)).2.2.2.2.2.1, []))))))).2 then
                          bif k_law7_alive then
                            true
                          else false
                        else true
                      else false
                    else true
                  else true
                else false
              else false
            else true
          else false
        else false
      else false
    else false
  else false
theorem g_law7_InsReckons (a : El T_book_Act) (hk : k_law7_InsReckons a = true) : Goes (T_law7_InsReckons a) (T0_law7_InsReckons a) (v_law7_InsReckons a) :=
  Goes.brk hk (fun hk =>
    Goes.brk hk (fun hk =>
      Goes.brk hk (fun hk =>
        Goes.brk hk (fun hk =>
          Goes.brk hk (fun hk =>
            Goes.brk hk (fun hk =>
              Goes.brk hk (fun hk =>
                Goes.brk hk (fun hk =>
                  Goes.brk hk (fun hk =>
                    Goes.brk hk (fun hk =>
                      Goes.brk hk (fun hk =>
                        Goes.brk hk (fun hk =>
                          Goes.brk hk (fun hk =>
                            Goes.brk hk (fun hk =>
                              Goes.brk hk (fun hk =>
                                Goes.leaf) (fun hk =>
                                Goes.brk hk (fun hk =>
                                  Goes.brk hk (fun hk =>
                                    Goes.brk hk (fun hk =>
                                      Goes.brk hk (fun hk =>
                                        Goes.brk hk (fun hk =>
                                          Goes.leaf) (fun hk =>
                                          Goes.nok hk)) (fun hk =>
                                        Goes.brk hk (fun hk =>
                                          Goes.brk hk (fun hk =>
                                            Goes.leaf) (fun hk =>
                                            Goes.nok hk)) (fun hk =>
                                          Goes.leaf))) (fun hk =>
                                      Goes.nok hk)) (fun hk =>
                                    Goes.brk hk (fun hk =>
                                      Goes.brk hk (fun hk =>
                                        Goes.brk hk (fun hk =>
                                          Goes.brk hk (fun hk =>
                                            Goes.leaf) (fun hk =>
                                            Goes.nok hk)) (fun hk =>
                                          Goes.brk hk (fun hk =>
                                            Goes.brk hk (fun hk =>
                                              Goes.leaf) (fun hk =>
                                              Goes.nok hk)) (fun hk =>
                                            Goes.leaf))) (fun hk =>
                                        Goes.nok hk)) (fun hk =>
                                      Goes.brk hk (fun hk =>
                                        Goes.brk hk (fun hk =>
                                          Goes.brk hk (fun hk =>
                                            Goes.brk hk (fun hk =>
                                              Goes.leaf) (fun hk =>
                                              Goes.nok hk)) (fun hk =>
                                            Goes.brk hk (fun hk =>
                                              Goes.brk hk (fun hk =>
                                                Goes.leaf) (fun hk =>
                                                Goes.nok hk)) (fun hk =>
                                              Goes.leaf))) (fun hk =>
                                          Goes.nok hk)) (fun hk =>
                                        Goes.leaf)))) (fun hk =>
                                  Goes.leaf))) (fun hk =>
                              Goes.brk hk (fun hk =>
                                Goes.brk hk (fun hk =>
                                  Goes.brk hk (fun hk =>
                                    Goes.brk hk (fun hk =>
                                      Goes.leaf) (fun hk =>
                                      Goes.nok hk)) (fun hk =>
                                    Goes.brk hk (fun hk =>
                                      Goes.brk hk (fun hk =>
                                        Goes.leaf) (fun hk =>
                                        Goes.nok hk)) (fun hk =>
                                      Goes.leaf))) (fun hk =>
                                  Goes.nok hk)) (fun hk =>
                                Goes.brk hk (fun hk =>
                                  Goes.brk hk (fun hk =>
                                    Goes.brk hk (fun hk =>
                                      Goes.brk hk (fun hk =>
                                        Goes.leaf) (fun hk =>
                                        Goes.nok hk)) (fun hk =>
                                      Goes.brk hk (fun hk =>
                                        Goes.brk hk (fun hk =>
                                          Goes.leaf) (fun hk =>
                                          Goes.nok hk)) (fun hk =>
                                        Goes.leaf))) (fun hk =>
                                    Goes.nok hk)) (fun hk =>
                                  Goes.brk hk (fun hk =>
                                    Goes.brk hk (fun hk =>
                                      Goes.brk hk (fun hk =>
                                        Goes.brk hk (fun hk =>
                                          Goes.leaf) (fun hk =>
                                          Goes.nok hk)) (fun hk =>
                                        Goes.brk hk (fun hk =>
                                          Goes.brk hk (fun hk =>
                                            Goes.leaf) (fun hk =>
                                            Goes.nok hk)) (fun hk =>
                                          Goes.leaf))) (fun hk =>
                                      Goes.nok hk)) (fun hk =>
                                    Goes.leaf))))) (fun hk =>
                            Goes.leaf)) (fun hk =>
                          Goes.brk hk (fun hk =>
                            Goes.brk hk (fun hk =>
                              Goes.brk hk (fun hk =>
                                Goes.leaf) (fun hk =>
                                Goes.brk hk (fun hk =>
                                  Goes.brk hk (fun hk =>
                                    Goes.brk hk (fun hk =>
                                      Goes.brk hk (fun hk =>
                                        Goes.brk hk (fun hk =>
                                          Goes.leaf) (fun hk =>
                                          Goes.nok hk)) (fun hk =>
                                        Goes.brk hk (fun hk =>
                                          Goes.brk hk (fun hk =>
                                            Goes.leaf) (fun hk =>
                                            Goes.nok hk)) (fun hk =>
                                          Goes.leaf))) (fun hk =>
                                      Goes.nok hk)) (fun hk =>
                                    Goes.brk hk (fun hk =>
                                      Goes.brk hk (fun hk =>
                                        Goes.brk hk (fun hk =>
                                          Goes.brk hk (fun hk =>
                                            Goes.leaf) (fun hk =>
                                            Goes.nok hk)) (fun hk =>
                                          Goes.brk hk (fun hk =>
                                            Goes.brk hk (fun hk =>
                                              Goes.leaf) (fun hk =>
                                              Goes.nok hk)) (fun hk =>
                                            Goes.leaf))) (fun hk =>
                                        Goes.nok hk)) (fun hk =>
                                      Goes.brk hk (fun hk =>
                                        Goes.brk hk (fun hk =>
                                          Goes.brk hk (fun hk =>
                                            Goes.brk hk (fun hk =>
                                              Goes.leaf) (fun hk =>
                                              Goes.nok hk)) (fun hk =>
                                            Goes.brk hk (fun hk =>
                                              Goes.brk hk (fun hk =>
                                                Goes.leaf) (fun hk =>
                                                Goes.nok hk)) (fun hk =>
                                              Goes.leaf))) (fun hk =>
                                          Goes.nok hk)) (fun hk =>
                                        Goes.leaf)))) (fun hk =>
                                  Goes.leaf))) (fun hk =>
                              Goes.brk hk (fun hk =>
                                Goes.brk hk (fun hk =>
                                  Goes.brk hk (fun hk =>
                                    Goes.brk hk (fun hk =>
                                      Goes.leaf) (fun hk =>
                                      Goes.nok hk)) (fun hk =>
                                    Goes.brk hk (fun hk =>
                                      Goes.brk hk (fun hk =>
                                        Goes.leaf) (fun hk =>
                                        Goes.nok hk)) (fun hk =>
                                      Goes.leaf))) (fun hk =>
                                  Goes.nok hk)) (fun hk =>
                                Goes.brk hk (fun hk =>
                                  Goes.brk hk (fun hk =>
                                    Goes.brk hk (fun hk =>
                                      Goes.brk hk (fun hk =>
                                        Goes.leaf) (fun hk =>
                                        Goes.nok hk)) (fun hk =>
                                      Goes.brk hk (fun hk =>
                                        Goes.brk hk (fun hk =>
                                          Goes.leaf) (fun hk =>
                                          Goes.nok hk)) (fun hk =>
                                        Goes.leaf))) (fun hk =>
                                    Goes.nok hk)) (fun hk =>
                                  Goes.brk hk (fun hk =>
                                    Goes.brk hk (fun hk =>
                                      Goes.brk hk (fun hk =>
                                        Goes.brk hk (fun hk =>
                                          Goes.leaf) (fun hk =>
                                          Goes.nok hk)) (fun hk =>
                                        Goes.brk hk (fun hk =>
                                          Goes.brk hk (fun hk =>
                                            Goes.leaf) (fun hk =>
                                            Goes.nok hk)) (fun hk =>
                                          Goes.leaf))) (fun hk =>
                                      Goes.nok hk)) (fun hk =>
                                    Goes.leaf))))) (fun hk =>
                            Goes.leaf))) (fun hk =>
                        Goes.nok hk)) (fun hk =>
                      Goes.nok hk)) (fun hk =>
                    Goes.leaf)) (fun hk =>
                  Goes.nok hk)) (fun hk =>
                Goes.brk hk (fun hk =>
                  Goes.brk hk (fun hk =>
                    Goes.brk hk (fun hk =>
                      Goes.brk hk (fun hk =>
                        Goes.brk hk (fun hk =>
                          Goes.brk hk (fun hk =>
                            Goes.brk hk (fun hk =>
                              Goes.leaf) (fun hk =>
                              Goes.brk hk (fun hk =>
                                Goes.brk hk (fun hk =>
                                  Goes.brk hk (fun hk =>
                                    Goes.brk hk (fun hk =>
                                      Goes.brk hk (fun hk =>
                                        Goes.leaf) (fun hk =>
                                        Goes.nok hk)) (fun hk =>
                                      Goes.brk hk (fun hk =>
                                        Goes.brk hk (fun hk =>
                                          Goes.leaf) (fun hk =>
                                          Goes.nok hk)) (fun hk =>
                                        Goes.leaf))) (fun hk =>
                                    Goes.nok hk)) (fun hk =>
                                  Goes.brk hk (fun hk =>
                                    Goes.brk hk (fun hk =>
                                      Goes.brk hk (fun hk =>
                                        Goes.brk hk (fun hk =>
                                          Goes.leaf) (fun hk =>
                                          Goes.nok hk)) (fun hk =>
                                        Goes.brk hk (fun hk =>
                                          Goes.brk hk (fun hk =>
                                            Goes.leaf) (fun hk =>
                                            Goes.nok hk)) (fun hk =>
                                          Goes.leaf))) (fun hk =>
                                      Goes.nok hk)) (fun hk =>
                                    Goes.brk hk (fun hk =>
                                      Goes.brk hk (fun hk =>
                                        Goes.brk hk (fun hk =>
                                          Goes.brk hk (fun hk =>
                                            Goes.leaf) (fun hk =>
                                            Goes.nok hk)) (fun hk =>
                                          Goes.brk hk (fun hk =>
                                            Goes.brk hk (fun hk =>
                                              Goes.leaf) (fun hk =>
                                              Goes.nok hk)) (fun hk =>
                                            Goes.leaf))) (fun hk =>
                                        Goes.nok hk)) (fun hk =>
                                      Goes.leaf)))) (fun hk =>
                                Goes.leaf))) (fun hk =>
                            Goes.brk hk (fun hk =>
                              Goes.brk hk (fun hk =>
                                Goes.brk hk (fun hk =>
                                  Goes.brk hk (fun hk =>
                                    Goes.leaf) (fun hk =>
                                    Goes.nok hk)) (fun hk =>
                                  Goes.brk hk (fun hk =>
                                    Goes.brk hk (fun hk =>
                                      Goes.leaf) (fun hk =>
                                      Goes.nok hk)) (fun hk =>
                                    Goes.leaf))) (fun hk =>
                                Goes.nok hk)) (fun hk =>
                              Goes.brk hk (fun hk =>
                                Goes.brk hk (fun hk =>
                                  Goes.brk hk (fun hk =>
                                    Goes.brk hk (fun hk =>
                                      Goes.leaf) (fun hk =>
                                      Goes.nok hk)) (fun hk =>
                                    Goes.brk hk (fun hk =>
                                      Goes.brk hk (fun hk =>
                                        Goes.leaf) (fun hk =>
                                        Goes.nok hk)) (fun hk =>
                                      Goes.leaf))) (fun hk =>
                                  Goes.nok hk)) (fun hk =>
                                Goes.brk hk (fun hk =>
                                  Goes.brk hk (fun hk =>
                                    Goes.brk hk (fun hk =>
                                      Goes.brk hk (fun hk =>
                                        Goes.leaf) (fun hk =>
                                        Goes.nok hk)) (fun hk =>
                                      Goes.brk hk (fun hk =>
                                        Goes.brk hk (fun hk =>
                                          Goes.leaf) (fun hk =>
                                          Goes.nok hk)) (fun hk =>
                                        Goes.leaf))) (fun hk =>
                                    Goes.nok hk)) (fun hk =>
                                  Goes.leaf))))) (fun hk =>
                          Goes.leaf)) (fun hk =>
                        Goes.brk hk (fun hk =>
                          Goes.brk hk (fun hk =>
                            Goes.brk hk (fun hk =>
                              Goes.leaf) (fun hk =>
                              Goes.brk hk (fun hk =>
                                Goes.brk hk (fun hk =>
                                  Goes.brk hk (fun hk =>
                                    Goes.brk hk (fun hk =>
                                      Goes.brk hk (fun hk =>
                                        Goes.leaf) (fun hk =>
                                        Goes.nok hk)) (fun hk =>
                                      Goes.brk hk (fun hk =>
                                        Goes.brk hk (fun hk =>
                                          Goes.leaf) (fun hk =>
                                          Goes.nok hk)) (fun hk =>
                                        Goes.leaf))) (fun hk =>
                                    Goes.nok hk)) (fun hk =>
                                  Goes.brk hk (fun hk =>
                                    Goes.brk hk (fun hk =>
                                      Goes.brk hk (fun hk =>
                                        Goes.brk hk (fun hk =>
                                          Goes.leaf) (fun hk =>
                                          Goes.nok hk)) (fun hk =>
                                        Goes.brk hk (fun hk =>
                                          Goes.brk hk (fun hk =>
                                            Goes.leaf) (fun hk =>
                                            Goes.nok hk)) (fun hk =>
                                          Goes.leaf))) (fun hk =>
                                      Goes.nok hk)) (fun hk =>
                                    Goes.brk hk (fun hk =>
                                      Goes.brk hk (fun hk =>
                                        Goes.brk hk (fun hk =>
                                          Goes.brk hk (fun hk =>
                                            Goes.leaf) (fun hk =>
                                            Goes.nok hk)) (fun hk =>
                                          Goes.brk hk (fun hk =>
                                            Goes.brk hk (fun hk =>
                                              Goes.leaf) (fun hk =>
                                              Goes.nok hk)) (fun hk =>
                                            Goes.leaf))) (fun hk =>
                                        Goes.nok hk)) (fun hk =>
                                      Goes.leaf)))) (fun hk =>
                                Goes.leaf))) (fun hk =>
                            Goes.brk hk (fun hk =>
                              Goes.brk hk (fun hk =>
                                Goes.brk hk (fun hk =>
                                  Goes.brk hk (fun hk =>
                                    Goes.leaf) (fun hk =>
                                    Goes.nok hk)) (fun hk =>
                                  Goes.brk hk (fun hk =>
                                    Goes.brk hk (fun hk =>
                                      Goes.leaf) (fun hk =>
                                      Goes.nok hk)) (fun hk =>
                                    Goes.leaf))) (fun hk =>
                                Goes.nok hk)) (fun hk =>
                              Goes.brk hk (fun hk =>
                                Goes.brk hk (fun hk =>
                                  Goes.brk hk (fun hk =>
                                    Goes.brk hk (fun hk =>
                                      Goes.leaf) (fun hk =>
                                      Goes.nok hk)) (fun hk =>
                                    Goes.brk hk (fun hk =>
                                      Goes.brk hk (fun hk =>
                                        Goes.leaf) (fun hk =>
                                        Goes.nok hk)) (fun hk =>
                                      Goes.leaf))) (fun hk =>
                                  Goes.nok hk)) (fun hk =>
                                Goes.brk hk (fun hk =>
                                  Goes.brk hk (fun hk =>
                                    Goes.brk hk (fun hk =>
                                      Goes.brk hk (fun hk =>
                                        Goes.leaf) (fun hk =>
                                        Goes.nok hk)) (fun hk =>
                                      Goes.brk hk (fun hk =>
                                        Goes.brk hk (fun hk =>
                                          Goes.leaf) (fun hk =>
                                          Goes.nok hk)) (fun hk =>
                                        Goes.leaf))) (fun hk =>
                                    Goes.nok hk)) (fun hk =>
                                  Goes.leaf))))) (fun hk =>
                          Goes.leaf))) (fun hk =>
                      Goes.nok hk)) (fun hk =>
                    Goes.nok hk)) (fun hk =>
                  Goes.leaf))) (fun hk =>
              Goes.brk hk (fun hk =>
                Goes.brk hk (fun hk =>
                  Goes.brk hk (fun hk =>
                    Goes.brk hk (fun hk =>
                      Goes.brk hk (fun hk =>
                        Goes.brk hk (fun hk =>
                          Goes.brk hk (fun hk =>
                            Goes.leaf) (fun hk =>
                            Goes.brk hk (fun hk =>
                              Goes.brk hk (fun hk =>
                                Goes.brk hk (fun hk =>
                                  Goes.brk hk (fun hk =>
                                    Goes.brk hk (fun hk =>
                                      Goes.leaf) (fun hk =>
                                      Goes.nok hk)) (fun hk =>
                                    Goes.brk hk (fun hk =>
                                      Goes.brk hk (fun hk =>
                                        Goes.leaf) (fun hk =>
                                        Goes.nok hk)) (fun hk =>
                                      Goes.leaf))) (fun hk =>
                                  Goes.nok hk)) (fun hk =>
                                Goes.brk hk (fun hk =>
                                  Goes.brk hk (fun hk =>
                                    Goes.brk hk (fun hk =>
                                      Goes.brk hk (fun hk =>
                                        Goes.leaf) (fun hk =>
                                        Goes.nok hk)) (fun hk =>
                                      Goes.brk hk (fun hk =>
                                        Goes.brk hk (fun hk =>
                                          Goes.leaf) (fun hk =>
                                          Goes.nok hk)) (fun hk =>
                                        Goes.leaf))) (fun hk =>
                                    Goes.nok hk)) (fun hk =>
                                  Goes.brk hk (fun hk =>
                                    Goes.brk hk (fun hk =>
                                      Goes.brk hk (fun hk =>
                                        Goes.brk hk (fun hk =>
                                          Goes.leaf) (fun hk =>
                                          Goes.nok hk)) (fun hk =>
                                        Goes.brk hk (fun hk =>
                                          Goes.brk hk (fun hk =>
                                            Goes.leaf) (fun hk =>
                                            Goes.nok hk)) (fun hk =>
                                          Goes.leaf))) (fun hk =>
                                      Goes.nok hk)) (fun hk =>
                                    Goes.leaf)))) (fun hk =>
                              Goes.leaf))) (fun hk =>
                          Goes.brk hk (fun hk =>
                            Goes.brk hk (fun hk =>
                              Goes.brk hk (fun hk =>
                                Goes.brk hk (fun hk =>
                                  Goes.leaf) (fun hk =>
                                  Goes.nok hk)) (fun hk =>
                                Goes.brk hk (fun hk =>
                                  Goes.brk hk (fun hk =>
                                    Goes.leaf) (fun hk =>
                                    Goes.nok hk)) (fun hk =>
                                  Goes.leaf))) (fun hk =>
                              Goes.nok hk)) (fun hk =>
                            Goes.brk hk (fun hk =>
                              Goes.brk hk (fun hk =>
                                Goes.brk hk (fun hk =>
                                  Goes.brk hk (fun hk =>
                                    Goes.leaf) (fun hk =>
                                    Goes.nok hk)) (fun hk =>
                                  Goes.brk hk (fun hk =>
                                    Goes.brk hk (fun hk =>
                                      Goes.leaf) (fun hk =>
                                      Goes.nok hk)) (fun hk =>
                                    Goes.leaf))) (fun hk =>
                                Goes.nok hk)) (fun hk =>
                              Goes.brk hk (fun hk =>
                                Goes.brk hk (fun hk =>
                                  Goes.brk hk (fun hk =>
                                    Goes.brk hk (fun hk =>
                                      Goes.leaf) (fun hk =>
                                      Goes.nok hk)) (fun hk =>
                                    Goes.brk hk (fun hk =>
                                      Goes.brk hk (fun hk =>
                                        Goes.leaf) (fun hk =>
                                        Goes.nok hk)) (fun hk =>
                                      Goes.leaf))) (fun hk =>
                                  Goes.nok hk)) (fun hk =>
                                Goes.leaf))))) (fun hk =>
                        Goes.leaf)) (fun hk =>
                      Goes.brk hk (fun hk =>
                        Goes.brk hk (fun hk =>
                          Goes.brk hk (fun hk =>
                            Goes.leaf) (fun hk =>
                            Goes.brk hk (fun hk =>
                              Goes.brk hk (fun hk =>
                                Goes.brk hk (fun hk =>
                                  Goes.brk hk (fun hk =>
                                    Goes.brk hk (fun hk =>
                                      Goes.leaf) (fun hk =>
                                      Goes.nok hk)) (fun hk =>
                                    Goes.brk hk (fun hk =>
                                      Goes.brk hk (fun hk =>
                                        Goes.leaf) (fun hk =>
                                        Goes.nok hk)) (fun hk =>
                                      Goes.leaf))) (fun hk =>
                                  Goes.nok hk)) (fun hk =>
                                Goes.brk hk (fun hk =>
                                  Goes.brk hk (fun hk =>
                                    Goes.brk hk (fun hk =>
                                      Goes.brk hk (fun hk =>
                                        Goes.leaf) (fun hk =>
                                        Goes.nok hk)) (fun hk =>
                                      Goes.brk hk (fun hk =>
                                        Goes.brk hk (fun hk =>
                                          Goes.leaf) (fun hk =>
                                          Goes.nok hk)) (fun hk =>
                                        Goes.leaf))) (fun hk =>
                                    Goes.nok hk)) (fun hk =>
                                  Goes.brk hk (fun hk =>
                                    Goes.brk hk (fun hk =>
                                      Goes.brk hk (fun hk =>
                                        Goes.brk hk (fun hk =>
                                          Goes.leaf) (fun hk =>
                                          Goes.nok hk)) (fun hk =>
                                        Goes.brk hk (fun hk =>
                                          Goes.brk hk (fun hk =>
                                            Goes.leaf) (fun hk =>
                                            Goes.nok hk)) (fun hk =>
                                          Goes.leaf))) (fun hk =>
                                      Goes.nok hk)) (fun hk =>
                                    Goes.leaf)))) (fun hk =>
                              Goes.leaf))) (fun hk =>
                          Goes.brk hk (fun hk =>
                            Goes.brk hk (fun hk =>
                              Goes.brk hk (fun hk =>
                                Goes.brk hk (fun hk =>
                                  Goes.leaf) (fun hk =>
                                  Goes.nok hk)) (fun hk =>
                                Goes.brk hk (fun hk =>
                                  Goes.brk hk (fun hk =>
                                    Goes.leaf) (fun hk =>
                                    Goes.nok hk)) (fun hk =>
                                  Goes.leaf))) (fun hk =>
                              Goes.nok hk)) (fun hk =>
                            Goes.brk hk (fun hk =>
                              Goes.brk hk (fun hk =>
                                Goes.brk hk (fun hk =>
                                  Goes.brk hk (fun hk =>
                                    Goes.leaf) (fun hk =>
                                    Goes.nok hk)) (fun hk =>
                                  Goes.brk hk (fun hk =>
                                    Goes.brk hk (fun hk =>
                                      Goes.leaf) (fun hk =>
                                      Goes.nok hk)) (fun hk =>
                                    Goes.leaf))) (fun hk =>
                                Goes.nok hk)) (fun hk =>
                              Goes.brk hk (fun hk =>
                                Goes.brk hk (fun hk =>
                                  Goes.brk hk (fun hk =>
                                    Goes.brk hk (fun hk =>
                                      Goes.leaf) (fun hk =>
                                      Goes.nok hk)) (fun hk =>
                                    Goes.brk hk (fun hk =>
                                      Goes.brk hk (fun hk =>
                                        Goes.leaf) (fun hk =>
                                        Goes.nok hk)) (fun hk =>
                                      Goes.leaf))) (fun hk =>
                                  Goes.nok hk)) (fun hk =>
                                Goes.leaf))))) (fun hk =>
                        Goes.leaf))) (fun hk =>
                    Goes.nok hk)) (fun hk =>
                  Goes.nok hk)) (fun hk =>
                Goes.leaf))) (fun hk =>
            Goes.nok hk)) (fun hk =>
          Goes.nok hk)) (fun hk =>
        Goes.nok hk)) (fun hk =>
      Goes.nok hk)) (fun hk =>
    Goes.nok hk)
def R_law7_InsReckons : Bool → AV := fun (r : Bool) => .d .bool r
def S_law7_InsReckons (a : El T_book_Act) : Empty → Nat × St := fun j => nomatch j
theorem en_law7_InsReckons (a : El T_book_Act) (L : Lt) : entryA Go.Proofs.Tryd.prog (clOf t_law7_InsReckons) tb_law7_InsReckons Go.Proofs.Tryd.f6 c_law7_InsReckons L (toForms sg_law7_InsReckons (a, ())) = (T0_law7_InsReckons a).run (fun v => some (R_law7_InsReckons v, tps (toForms sg_law7_InsReckons (a, ())))) fun j => L (S_law7_InsReckons a j).1 (S_law7_InsReckons a j).2 := by kernel_rfl
theorem lp_law7_InsReckons (a : El T_book_Act) : ∀ (L : Lt) (j : Empty), procOf (procsF Go.Proofs.Tryd.prog (clOf t_law7_InsReckons) tb_law7_InsReckons Go.Proofs.Tryd.f6 c_law7_InsReckons (toForms sg_law7_InsReckons (a, ()))) (S_law7_InsReckons a j).1 L (S_law7_InsReckons a j).2 = (T_law7_InsReckons a j).run (fun v => some (R_law7_InsReckons v, tps (toForms sg_law7_InsReckons (a, ())))) fun j => L (S_law7_InsReckons a j).1 (S_law7_InsReckons a j).2 := fun L j => nomatch j
noncomputable def e_law7_InsReckons : Run := entG sg_law7_InsReckons R_law7_InsReckons (fun a => k_law7_InsReckons a.1) (fun a => v_law7_InsReckons a.1)
theorem ok_law7_InsReckons : EntOK Go.Proofs.Tryd.prog 6 e_law7_InsReckons := entG_ok (tb := tb_law7_InsReckons) (c := c_law7_InsReckons) tk_law7_InsReckons (by kernel_rfl) (by kernel_rfl) (by kernel_rfl) (fun a => by kernel_rfl) fun ⟨a, _⟩ hk => evF_goes (c := c_law7_InsReckons) (K := fun v => (R_law7_InsReckons v, tps (toForms sg_law7_InsReckons (a, ())))) (S := S_law7_InsReckons a) (by kernel_rfl) (en_law7_InsReckons a) (lp_law7_InsReckons a) (g_law7_InsReckons a hk)
theorem co_law7_InsReckons (a : El T_book_Act) (hk : k_law7_InsReckons a = true) : CallOK Go.Proofs.Tryd.prog 6 (toForms sg_law7_InsReckons (a, ())) (R_law7_InsReckons (v_law7_InsReckons a), tps (toForms sg_law7_InsReckons (a, ()))) := by
  obtain ⟨h1, h2⟩ := clOf_ok tk_law7_InsReckons
  obtain ⟨n, hn⟩ := evF_goes (c := c_law7_InsReckons) (K := fun v => (R_law7_InsReckons v, tps (toForms sg_law7_InsReckons (a, ())))) (S := S_law7_InsReckons a) (by kernel_rfl) (en_law7_InsReckons a) (lp_law7_InsReckons a) (g_law7_InsReckons a hk)
  exact evF_sound (f := 6) (c := c_law7_InsReckons) h1 h2 (by kernel_rfl) (by kernel_rfl) (by kernel_rfl) hn
end Go.Ev
end

section
set_option linter.unusedSectionVars false
set_option linter.unusedVariables false
set_option linter.unusedSimpArgs false
set_option maxRecDepth 100000
set_option linter.unusedVariables false
namespace Go.Ev
open Go
theorem parts_is {i : El T_api_Ins} (h : smallText i.2.2.2.2.2.1 = true) (hr : v_ins_Right i = 0) : v_ins_Parts i = bif (v_ins_Reads i).2 then (bif (v_ins_Writes i).2 then (bif ! v_ins_Locked i then 2 else 1) else 1) else 1 := by
  have h0 : k_ins_Right i = true := h
  obtain ⟨a1, a2, a3, a4⟩ := k_reads h
  unfold v_ins_Parts
  simp only [h0, a1, a2, a4, hr, bne_self_eq_false, cond_true, cond_false]
theorem fence_is {i : El T_api_Ins} (h : smallText i.2.2.2.2.2.1 = true) (hr : v_ins_Right i = 0) : v_ins_Fence i = bif i.1 == (12 : Int) then true else v_ins_Locked i := by
  have h0 : k_ins_Right i = true := h
  obtain ⟨a1, a2, a3, a4⟩ := k_reads h
  unfold v_ins_Fence
  simp only [h0, a4, hr, beq_self_eq_true, cond_true]
theorem leads_is {i : El T_api_Ins} (h : smallText i.2.2.2.2.2.1 = true) (hr : v_ins_Right i = 0) : v_ins_Leads i = (! (i.1 == (10 : Int)) && ! (i.1 == (14 : Int)), (i.1 == (10 : Int)) || (i.1 == (11 : Int))) := by
  have h0 : k_ins_Right i = true := h
  unfold v_ins_Leads
  simp only [h0, hr, bne_self_eq_false, cond_true, cond_false]
  unfold bne
  cases (i.1 == (10 : Int)) <;> simp
theorem reads_is {i : El T_api_Ins} (h : smallText i.2.2.2.2.2.1 = true) (hr : v_ins_Right i = 0) : (v_ins_Reads i).2 = (v_ins_memory i.2.2.2.2.1 || (v_ins_memory i.2.2.2.1 && ! (i.1 == (1 : Int)))) := by
  have h0 : k_ins_Right i = true := h
  unfold v_ins_Reads
  simp only [h0, hr, bne_self_eq_false, cond_true, cond_false]
  unfold bne
  cases v_ins_memory i.2.2.2.2.1 <;> cases v_ins_memory i.2.2.2.1 <;> cases (i.1 == (1 : Int)) <;> rfl
theorem writes_is {i : El T_api_Ins} (h : smallText i.2.2.2.2.2.1 = true) (hr : v_ins_Right i = 0) : (v_ins_Writes i).2 = (v_ins_memory i.2.2.2.1 && ! (i.1 == (7 : Int))) := by
  have h0 : k_ins_Right i = true := h
  unfold v_ins_Writes
  simp only [h0, hr, bne_self_eq_false, cond_true, cond_false]
  cases v_ins_memory i.2.2.2.1 <;> cases (i.1 == (7 : Int)) <;> rfl
theorem locked_is {i : El T_api_Ins} (h : smallText i.2.2.2.2.2.1 = true) (hr : v_ins_Right i = 0) : v_ins_Locked i = bif i.1 == (8 : Int) then true else i.2.1 := by
  have h0 : k_ins_Right i = true := h
  unfold v_ins_Locked
  simp only [h0, hr, beq_self_eq_true, cond_true]
theorem jumps_no {i : El T_api_Ins} (hr : v_ins_Right i = 0) (hj : ((i.1 == (10 : Int)) || (i.1 == (11 : Int))) = true) : v_ins_memory i.2.2.2.1 = false ∧ v_ins_memory i.2.2.2.2.1 = false := by
  refine mem_high hr ?_
  simp only [Bool.or_eq_true, beq_iff_eq] at hj
  have : ∀ k : Int, (k = 10 ∨ k = 11) → 9 < k := fun k h => by omega
  exact this _ hj
theorem row_locked {i : El T_api_Ins} (h : v_ref1_row i = true) (h1 : (1 : Int) ≤ i.1) (hl : (bif i.1 == (8 : Int) then true else i.2.1) = true) : (v_ref1_Memory i.2.2.2.1 = true ∧ (i.1 == (1 : Int)) = false) := by
  obtain ⟨op, lock, cond, A, B, to, ls⟩ := i
  unfold v_ref1_row at h
  dsimp only at h h1 hl ⊢
  change (1 : Int) ≤ op at h1
  have e1 : decide ((op : Int) < 1) = false := by rw [decide_eq_false_iff_not]; exact Int.not_lt.2 h1
  simp only [e1, cond_false] at h
  rcases nine op with ⟨h9, e2⟩ | ⟨h9, e2⟩
  · rw [e2] at h
    have hpos : ∀ k : Int, (k == 8) = true → (k == 1) = false := fun k h => by simp at h ⊢; omega
    have hpos9 : ∀ k : Int, (k == 9) = true → (k == 1) = false := fun k h => by simp at h ⊢; omega
    have hrk : v_ref1_Reckons op = true → (op == (1 : Int)) = false := fun h => by
      rw [refReckons_eq] at h
      have : ∀ k : Int, (decide (2 ≤ k) && decide (k ≤ 6)) = true → (k == 1) = false := fun k h => by simp at h ⊢; omega
      exact this _ h
    cases h8 : (op == (8 : Int)) <;> cases h99 : (op == (9 : Int)) <;> cases lock <;> cases hm : v_ref1_Memory A <;> simp_all
    all_goals (first | (exact hrk (by revert h; cases (A.1 == (1 : Int)) <;> cases v_ref1_plain B <;> cases v_ref1_Reckons op <;> simp)) | (revert h; cases (A.1 == (1 : Int)) <;> simp))
  · rw [e2] at h
    have e8 : (op == (8 : Int)) = false := by
      have : ∀ k : Int, 9 < k → (k == 8) = false := fun k h => by simp; omega
      exact this _ h9
    rw [e8] at hl
    simp only [cond_false] at hl
    rw [hl] at h
    simp at h
theorem reckons_ok {i : El T_api_Ins} (h : smallText i.2.2.2.2.2.1 = true) (hr : v_ins_Right i = 0) (hl : v_ins_Locked i = true) : (v_ins_Reads i).2 = true := by
  rw [locked_is h hr] at hl
  obtain ⟨h1, h14, hrow⟩ := right0_row hr
  obtain ⟨hm, hne⟩ := row_locked hrow h1 hl
  rcases nine i.1 with ⟨h9, _⟩ | ⟨h9, _⟩
  · rw [reads_is h hr, (mem_low hr h9).1, hm, hne]; simp
  · exfalso
    have := (row_high hrow h9).1
    rw [refMemory_eq, this] at hm
    exact absurd hm (by decide)
theorem true_law7_InsReckons (a : El T_book_Act) : k_law7_InsReckons a = true ∧ v_law7_InsReckons a = true := by
  have hb := book_ok a (many := 9) (by omega) (by omega)
  have hs := hb.small (by omega)
  have kb := k_book a (many := 9) (by omega) (by omega)
  unfold k_law7_InsReckons v_law7_InsReckons
  rw [kb]
  have hr := hb.right
  have hlab := hb.labels
  revert hs hr hlab
  generalize v_book_Ins a 9 = i
  obtain ⟨op, lock, cond, A, B, to, ls⟩ := i
  intro hs hr hlab
  dsimp only at hlab hs
  subst hlab
  obtain ⟨a1, a2, a3, a4⟩ := k_reads (i := (op, (lock, (cond, (A, (B, (to, []))))))) hs
  obtain ⟨c1, c2, c3, c4⟩ := k_parts (i := (op, (lock, (cond, (A, (B, (to, []))))))) hs
  have hj := jumps_no hr
  have hlk := reckons_ok (i := (op, (lock, (cond, (A, (B, (to, []))))))) hs hr
  have hrd := reads_is (i := (op, (lock, (cond, (A, (B, (to, []))))))) hs hr
  have hwr := writes_is (i := (op, (lock, (cond, (A, (B, (to, []))))))) hs hr
  simp only [a1, a2, a3, a4, c1, c2, cond_true, k_alive7, v_alive7, parts_is (i := (op, (lock, (cond, (A, (B, (to, []))))))) hs hr, fence_is (i := (op, (lock, (cond, (A, (B, (to, []))))))) hs hr, leads_is (i := (op, (lock, (cond, (A, (B, (to, []))))))) hs hr]
  have hjr : ((op == (10 : Int)) || (op == (11 : Int))) = true → (v_ins_Reads (op, (lock, (cond, (A, (B, (to, []))))))).2 = false ∧ (v_ins_Writes (op, (lock, (cond, (A, (B, (to, []))))))).2 = false := fun h => by
    obtain ⟨m1, m2⟩ := hj h
    rw [hrd, hwr]
    dsimp only at m1 m2 ⊢
    rw [m1, m2]; exact ⟨rfl, rfl⟩
  revert hlk hjr
  clear hj hrd hwr a1 a2 a3 a4 c1 c2 c3 c4 hb kb hs
  generalize v_ins_Locked (op, (lock, (cond, (A, (B, (to, [])))))) = L
  generalize (v_ins_Reads (op, (lock, (cond, (A, (B, (to, []))))))).2 = R
  generalize (v_ins_Writes (op, (lock, (cond, (A, (B, (to, []))))))).2 = W
  generalize ((show Int from op) == (10 : Int)) = b10
  generalize ((show Int from op) == (11 : Int)) = b11
  generalize ((show Int from op) == (12 : Int)) = b12
  generalize ((show Int from op) == (14 : Int)) = b14
  intro hlk hjr
  cases L <;> cases R <;> cases W <;> (try simp at hlk) <;> cases b10 <;> cases b11 <;> (try simp at hjr) <;> cases b12 <;> cases b14 <;> decide
theorem call_law7_InsReckons (a : Args sg_law7_InsReckons) (ha : smallArgs sg_law7_InsReckons a) : CallOK Go.Proofs.Tryd.prog 6 (toForms sg_law7_InsReckons a) (.d .bool true, tps (toForms sg_law7_InsReckons a)) := by
  obtain ⟨x, _⟩ := a
  obtain ⟨hk, hv⟩ := true_law7_InsReckons x
  have := co_law7_InsReckons x hk
  rw [hv] at this
  exact this
end Go.Ev
end

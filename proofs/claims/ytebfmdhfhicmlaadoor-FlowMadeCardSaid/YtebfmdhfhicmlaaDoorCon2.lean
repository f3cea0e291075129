/- Part of the proof of: For every acts: where the threads that the book makes lead is what the document says. -/
import Derived.Test.YtebfmdhfhicmlaaDoorCon1
section
set_option linter.unusedSectionVars false
set_option linter.unusedVariables false
set_option linter.unusedSimpArgs false
set_option maxRecDepth 100000
set_option linter.unusedVariables false
open Go Go.Ev
namespace Go.Ev
noncomputable section
/-! ### paling/palinglaw20.alive -/
def sg_law20_alive : Sig := []
noncomputable def t_law20_alive : Tbl := [(16, e_flow_Next), (18, e_book_SameInts), (17, e_flow_From), (20, e_flow_Dead)]
theorem tk_law20_alive : ∀ p ∈ t_law20_alive, EntOK Go.Proofs.Tryd.prog p.1 p.2 := tbl_cons ok_flow_Next (tbl_cons ok_book_SameInts (tbl_cons ok_flow_From (tbl_cons ok_flow_Dead (tbl_nil))))
noncomputable def c_law20_alive : Code := Go.Proofs.Tryd.f12.body.getD .skip
def tb_law20_alive : Tb := []
def T_law20_alive : Empty → JT Empty (Bool) := fun j => nomatch j
def T0_law20_alive : JT Empty (Bool) :=
  .br (k_flow_Next [((13 : Int), (false, ((0 : Int), (((0 : Int), ((0 : Int), ((0 : Int), (0 : Int)))), (((0 : Int), ((0 : Int), ((0 : Int), (0 : Int)))), ((bs []), [(bs [97])])))))), ((10 : Int), (false, ((0 : Int), (((0 : Int), ((0 : Int), ((0 : Int), (0 : Int)))), (((0 : Int), ((0 : Int), ((0 : Int), (0 : Int)))), ((bs [97]), [])))))), ((14 : Int), (false, ((0 : Int), (((0 : Int), ((0 : Int), ((0 : Int), (0 : Int)))), (((0 : Int), ((0 : Int), ((0 : Int), (0 : Int)))), ((bs []), []))))))] (1 : Int))
    (.br (k_book_SameInts (v_flow_Next [((13 : Int), (false, ((0 : Int), (((0 : Int), ((0 : Int), ((0 : Int), (0 : Int)))), (((0 : Int), ((0 : Int), ((0 : Int), (0 : Int)))), ((bs []), [(bs [97])])))))), ((10 : Int), (false, ((0 : Int), (((0 : Int), ((0 : Int), ((0 : Int), (0 : Int)))), (((0 : Int), ((0 : Int), ((0 : Int), (0 : Int)))), ((bs [97]), [])))))), ((14 : Int), (false, ((0 : Int), (((0 : Int), ((0 : Int), ((0 : Int), (0 : Int)))), (((0 : Int), ((0 : Int), ((0 : Int), (0 : Int)))), ((bs []), []))))))] (1 : Int)) [(0 : Int)])
      (.br (v_book_SameInts (v_flow_Next [((13 : Int), (false, ((0 : Int), (((0 : Int), ((0 : Int), ((0 : Int), (0 : Int)))), (((0 : Int), ((0 : Int), ((0 : Int), (0 : Int)))), ((bs []), [(bs [97])])))))), ((10 : Int), (false, ((0 : Int), (((0 : Int), ((0 : Int), ((0 : Int), (0 : Int)))), (((0 : Int), ((0 : Int), ((0 : Int), (0 : Int)))), ((bs [97]), [])))))), ((14 : Int), (false, ((0 : Int), (((0 : Int), ((0 : Int), ((0 : Int), (0 : Int)))), (((0 : Int), ((0 : Int), ((0 : Int), (0 : Int)))), ((bs []), []))))))] (1 : Int)) [(0 : Int)])
        (.br (k_flow_From [((13 : Int), (false, ((0 : Int), (((0 : Int), ((0 : Int), ((0 : Int), (0 : Int)))), (((0 : Int), ((0 : Int), ((0 : Int), (0 : Int)))), ((bs []), [(bs [97])])))))), ((10 : Int), (false, ((0 : Int), (((0 : Int), ((0 : Int), ((0 : Int), (0 : Int)))), (((0 : Int), ((0 : Int), ((0 : Int), (0 : Int)))), ((bs [97]), [])))))), ((14 : Int), (false, ((0 : Int), (((0 : Int), ((0 : Int), ((0 : Int), (0 : Int)))), (((0 : Int), ((0 : Int), ((0 : Int), (0 : Int)))), ((bs []), []))))))] (0 : Int))
          (.br (k_book_SameInts (v_flow_From [((13 : Int), (false, ((0 : Int), (((0 : Int), ((0 : Int), ((0 : Int), (0 : Int)))), (((0 : Int), ((0 : Int), ((0 : Int), (0 : Int)))), ((bs []), [(bs [97])])))))), ((10 : Int), (false, ((0 : Int), (((0 : Int), ((0 : Int), ((0 : Int), (0 : Int)))), (((0 : Int), ((0 : Int), ((0 : Int), (0 : Int)))), ((bs [97]), [])))))), ((14 : Int), (false, ((0 : Int), (((0 : Int), ((0 : Int), ((0 : Int), (0 : Int)))), (((0 : Int), ((0 : Int), ((0 : Int), (0 : Int)))), ((bs []), []))))))] (0 : Int)) [(0 : Int), (1 : Int)])
            (.br (v_book_SameInts (v_flow_From [((13 : Int), (false, ((0 : Int), (((0 : Int), ((0 : Int), ((0 : Int), (0 : Int)))), (((0 : Int), ((0 : Int), ((0 : Int), (0 : Int)))), ((bs []), [(bs [97])])))))), ((10 : Int), (false, ((0 : Int), (((0 : Int), ((0 : Int), ((0 : Int), (0 : Int)))), (((0 : Int), ((0 : Int), ((0 : Int), (0 : Int)))), ((bs [97]), [])))))), ((14 : Int), (false, ((0 : Int), (((0 : Int), ((0 : Int), ((0 : Int), (0 : Int)))), (((0 : Int), ((0 : Int), ((0 : Int), (0 : Int)))), ((bs []), []))))))] (0 : Int)) [(0 : Int), (1 : Int)])
              (.br (k_flow_Dead [((13 : Int), (false, ((0 : Int), (((0 : Int), ((0 : Int), ((0 : Int), (0 : Int)))), (((0 : Int), ((0 : Int), ((0 : Int), (0 : Int)))), ((bs []), [(bs [97])])))))), ((10 : Int), (false, ((0 : Int), (((0 : Int), ((0 : Int), ((0 : Int), (0 : Int)))), (((0 : Int), ((0 : Int), ((0 : Int), (0 : Int)))), ((bs [97]), [])))))), ((14 : Int), (false, ((0 : Int), (((0 : Int), ((0 : Int), ((0 : Int), (0 : Int)))), (((0 : Int), ((0 : Int), ((0 : Int), (0 : Int)))), ((bs []), []))))))])
                (.br (k_book_SameInts (v_flow_Dead [((13 : Int), (false, ((0 : Int), (((0 : Int), ((0 : Int), ((0 : Int), (0 : Int)))), (((0 : Int), ((0 : Int), ((0 : Int), (0 : Int)))), ((bs []), [(bs [97])])))))), ((10 : Int), (false, ((0 : Int), (((0 : Int), ((0 : Int), ((0 : Int), (0 : Int)))), (((0 : Int), ((0 : Int), ((0 : Int), (0 : Int)))), ((bs [97]), [])))))), ((14 : Int), (false, ((0 : Int), (((0 : Int), ((0 : Int), ((0 : Int), (0 : Int)))), (((0 : Int), ((0 : Int), ((0 : Int), (0 : Int)))), ((bs []), []))))))]) [(2 : Int)])
                  (.br (v_book_SameInts (v_flow_Dead [((13 : Int), (false, ((0 : Int), (((0 : Int), ((0 : Int), ((0 : Int), (0 : Int)))), (((0 : Int), ((0 : Int), ((0 : Int), (0 : Int)))), ((bs []), [(bs [97])])))))), ((10 : Int), (false, ((0 : Int), (((0 : Int), ((0 : Int), ((0 : Int), (0 : Int)))), (((0 : Int), ((0 : Int), ((0 : Int), (0 : Int)))), ((bs [97]), [])))))), ((14 : Int), (false, ((0 : Int), (((0 : Int), ((0 : Int), ((0 : Int), (0 : Int)))), (((0 : Int), ((0 : Int), ((0 : Int), (0 : Int)))), ((bs []), []))))))]) [(2 : Int)])
                    (.br (k_flow_Next [((13 : Int), (false, ((0 : Int), (((0 : Int), ((0 : Int), ((0 : Int), (0 : Int)))), (((0 : Int), ((0 : Int), ((0 : Int), (0 : Int)))), ((bs []), [(bs [97])])))))), ((10 : Int), (false, ((0 : Int), (((0 : Int), ((0 : Int), ((0 : Int), (0 : Int)))), (((0 : Int), ((0 : Int), ((0 : Int), (0 : Int)))), ((bs [97]), [])))))), ((14 : Int), (false, ((0 : Int), (((0 : Int), ((0 : Int), ((0 : Int), (0 : Int)))), (((0 : Int), ((0 : Int), ((0 : Int), (0 : Int)))), ((bs []), []))))))] (3 : Int))
                      (.leaf ((Int.ofNat (List.length (v_flow_Next [((13 : Int), (false, ((0 : Int), (((0 : Int), ((0 : Int), ((0 : Int), (0 : Int)))), (((0 : Int), ((0 : Int), ((0 : Int), (0 : Int)))), ((bs []), [(bs [97])])))))), ((10 : Int), (false, ((0 : Int), (((0 : Int), ((0 : Int), ((0 : Int), (0 : Int)))), (((0 : Int), ((0 : Int), ((0 : Int), (0 : Int)))), ((bs [97]), [])))))), ((14 : Int), (false, ((0 : Int), (((0 : Int), ((0 : Int), ((0 : Int), (0 : Int)))), (((0 : Int), ((0 : Int), ((0 : Int), (0 : Int)))), ((bs []), []))))))] (3 : Int)))) == (0 : Int)))
                    (.no))
                  (.leaf false))
                (.no))
              (.no))
            (.leaf false))
          (.no))
        (.no))
      (.leaf false))
    (.no))
  (.no)
def v_law20_alive : Bool :=
  bif (k_flow_Next [((13 : Int), (false, ((0 : Int), (((0 : Int), ((0 : Int), ((0 : Int), (0 : Int)))), (((0 : Int), ((0 : Int), ((0 : Int), (0 : Int)))), ((bs []), [(bs [97])])))))), ((10 : Int), (false, ((0 : Int), (((0 : Int), ((0 : Int), ((0 : Int), (0 : Int)))), (((0 : Int), ((0 : Int), ((0 : Int), (0 : Int)))), ((bs [97]), [])))))), ((14 : Int), (false, ((0 : Int), (((0 : Int), ((0 : Int), ((0 : Int), (0 : Int)))), (((0 : Int), ((0 : Int), ((0 : Int), (0 : Int)))), ((bs []), []))))))] (1 : Int)) then
    bif (k_book_SameInts (v_flow_Next [((13 : Int), (false, ((0 : Int), (((0 : Int), ((0 : Int), ((0 : Int), (0 : Int)))), (((0 : Int), ((0 : Int), ((0 : Int), (0 : Int)))), ((bs []), [(bs [97])])))))), ((10 : Int), (false, ((0 : Int), (((0 : Int), ((0 : Int), ((0 : Int), (0 : Int)))), (((0 : Int), ((0 : Int), ((0 : Int), (0 : Int)))), ((bs [97]), [])))))), ((14 : Int), (false, ((0 : Int), (((0 : Int), ((0 : Int), ((0 : Int), (0 : Int)))), (((0 : Int), ((0 : Int), ((0 : Int), (0 : Int)))), ((bs []), []))))))] (1 : Int)) [(0 : Int)]) then
      bif (v_book_SameInts (v_flow_Next [((13 : Int), (false, ((0 : Int), (((0 : Int), ((0 : Int), ((0 : Int), (0 : Int)))), (((0 : Int), ((0 : Int), ((0 : Int), (0 : Int)))), ((bs []), [(bs [97])])))))), ((10 : Int), (false, ((0 : Int), (((0 : Int), ((0 : Int), ((0 : Int), (0 : Int)))), (((0 : Int), ((0 : Int), ((0 : Int), (0 : Int)))), ((bs [97]), [])))))), ((14 : Int), (false, ((0 : Int), (((0 : Int), ((0 : Int), ((0 : Int), (0 : Int)))), (((0 : Int), ((0 : Int), ((0 : Int), (0 : Int)))), ((bs []), []))))))] (1 : Int)) [(0 : Int)]) then
        bif (k_flow_From [((13 : Int), (false, ((0 : Int), (((0 : Int), ((0 : Int), ((0 : Int), (0 : Int)))), (((0 : Int), ((0 : Int), ((0 : Int), (0 : Int)))), ((bs []), [(bs [97])])))))), ((10 : Int), (false, ((0 : Int), (((0 : Int), ((0 : Int), ((0 : Int), (0 : Int)))), (((0 : Int), ((0 : Int), ((0 : Int), (0 : Int)))), ((bs [97]), [])))))), ((14 : Int), (false, ((0 : Int), (((0 : Int), ((0 : Int), ((0 : Int), (0 : Int)))), (((0 : Int), ((0 : Int), ((0 : Int), (0 : Int)))), ((bs []), []))))))] (0 : Int)) then
          bif (k_book_SameInts (v_flow_From [((13 : Int), (false, ((0 : Int), (((0 : Int), ((0 : Int), ((0 : Int), (0 : Int)))), (((0 : Int), ((0 : Int), ((0 : Int), (0 : Int)))), ((bs []), [(bs [97])])))))), ((10 : Int), (false, ((0 : Int), (((0 : Int), ((0 : Int), ((0 : Int), (0 : Int)))), (((0 : Int), ((0 : Int), ((0 : Int), (0 : Int)))), ((bs [97]), [])))))), ((14 : Int), (false, ((0 : Int), (((0 : Int), ((0 : Int), ((0 : Int), (0 : Int)))), (((0 : Int), ((0 : Int), ((0 : Int), (0 : Int)))), ((bs []), []))))))] (0 : Int)) [(0 : Int), (1 : Int)]) then
            bif (v_book_SameInts (v_flow_From [((13 : Int), (false, ((0 : Int), (((0 : Int), ((0 : Int), ((0 : Int), (0 : Int)))), (((0 : Int), ((0 : Int), ((0 : Int), (0 : Int)))), ((bs []), [(bs [97])])))))), ((10 : Int), (false, ((0 : Int), (((0 : Int), ((0 : Int), ((0 : Int), (0 : Int)))), (((0 : Int), ((0 : Int), ((0 : Int), (0 : Int)))), ((bs [97]), [])))))), ((14 : Int), (false, ((0 : Int), (((0 : Int), ((0 : Int), ((0 : Int), (0 : Int)))), (((0 : Int), ((0 : Int), ((0 : Int), (0 : Int)))), ((bs []), []))))))] (0 : Int)) [(0 : Int), (1 : Int)]) then
              bif (k_flow_Dead [((13 : Int), (false, ((0 : Int), (((0 : Int), ((0 : Int), ((0 : Int), (0 : Int)))), (((0 : Int), ((0 : Int), ((0 : Int), (0 : Int)))), ((bs []), [(bs [97])])))))), ((10 : Int), (false, ((0 : Int), (((0 : Int), ((0 : Int), ((0 : Int), (0 : Int)))), (((0 : Int), ((0 : Int), ((0 : Int), (0 : Int)))), ((bs [97]), [])))))), ((14 : Int), (false, ((0 : Int), (((0 : Int), ((0 : Int), ((0 : Int), (0 : Int)))), (((0 : Int), ((0 : Int), ((0 : Int), (0 : Int)))), ((bs []), []))))))]) then
                bif (k_book_SameInts (v_flow_Dead [((13 : Int), (false, ((0 : Int), (((0 : Int), ((0 : Int), ((0 : Int), (0 : Int)))), (((0 : Int), ((0 : Int), ((0 : Int), (0 : Int)))), ((bs []), [(bs [97])])))))), ((10 : Int), (false, ((0 : Int), (((0 : Int), ((0 : Int), ((0 : Int), (0 : Int)))), (((0 : Int), ((0 : Int), ((0 : Int), (0 : Int)))), ((bs [97]), [])))))), ((14 : Int), (false, ((0 : Int), (((0 : Int), ((0 : Int), ((0 : Int), (0 : Int)))), (((0 : Int), ((0 : Int), ((0 : Int), (0 : Int)))), ((bs []), []))))))]) [(2 : Int)]) then
                  bif (v_book_SameInts (v_flow_Dead [((13 : Int), (false, ((0 : Int), (((0 : Int), ((0 : Int), ((0 : Int), (0 : Int)))), (((0 : Int), ((0 : Int), ((0 : Int), (0 : Int)))), ((bs []), [(bs [97])])))))), ((10 : Int), (false, ((0 : Int), (((0 : Int), ((0 : Int), ((0 : Int), (0 : Int)))), (((0 : Int), ((0 : Int), ((0 : Int), (0 : Int)))), ((bs [97]), [])))))), ((14 : Int), (false, ((0 : Int), (((0 : Int), ((0 : Int), ((0 : Int), (0 : Int)))), (((0 : Int), ((0 : Int), ((0 : Int), (0 : Int)))), ((bs []), []))))))]) [(2 : Int)]) then
                    bif (k_flow_Next [((13 : Int), (false, ((0 : Int), (((0 : Int), ((0 : Int), ((0 : Int), (0 : Int)))), (((0 : Int), ((0 : Int), ((0 : Int), (0 : Int)))), ((bs []), [(bs [97])])))))), ((10 : Int), (false, ((0 : Int), (((0 : Int), ((0 : Int), ((0 : Int), (0 : Int)))), (((0 : Int), ((0 : Int), ((0 : Int), (0 : Int)))), ((bs [97]), [])))))), ((14 : Int), (false, ((0 : Int), (((0 : Int), ((0 : Int), ((0 : Int), (0 : Int)))), (((0 : Int), ((0 : Int), ((0 : Int), (0 : Int)))), ((bs []), []))))))] (3 : Int)) then
                      ((Int.ofNat (List.length (v_flow_Next [((13 : Int), (false, ((0 : Int), (((0 : Int), ((0 : Int), ((0 : Int), (0 : Int)))), (((0 : Int), ((0 : Int), ((0 : Int), (0 : Int)))), ((bs []), [(bs [97])])))))), ((10 : Int), (false, ((0 : Int), (((0 : Int), ((0 : Int), ((0 : Int), (0 : Int)))), (((0 : Int), ((0 : Int), ((0 : Int), (0 : Int)))), ((bs [97]), [])))))), ((14 : Int), (false, ((0 : Int), (((0 : Int), ((0 : Int), ((0 : Int), (0 : Int)))), (((0 : Int), ((0 : Int), ((0 : Int), (0 : Int)))), ((bs []), []))))))] (3 : Int)))) == (0 : Int))
                    else false
                  else false
                else false
              else false
            else false
          else false
        else false
      else false
    else false
  else false
def k_law20_alive : Bool :=
  bif (k_flow_Next [((13 : Int), (false, ((0 : Int), (((0 : Int), ((0 : Int), ((0 : Int), (0 : Int)))), (((0 : Int), ((0 : Int), ((0 : Int), (0 : Int)))), ((bs []), [(bs [97])])))))), ((10 : Int), (false, ((0 : Int), (((0 : Int), ((0 : Int), ((0 : Int), (0 : Int)))), (((0 : Int), ((0 : Int), ((0 : Int), (0 : Int)))), ((bs [97]), [])))))), ((14 : Int), (false, ((0 : Int), (((0 : Int), ((0 : Int), ((0 : Int), (0 : Int)))), (((0 : Int), ((0 : Int), ((0 : Int), (0 : Int)))), ((bs []), []))))))] (1 : Int)) then
    bif (k_book_SameInts (v_flow_Next [((13 : Int), (false, ((0 : Int), (((0 : Int), ((0 : Int), ((0 : Int), (0 : Int)))), (((0 : Int), ((0 : Int), ((0 : Int), (0 : Int)))), ((bs []), [(bs [97])])))))), ((10 : Int), (false, ((0 : Int), (((0 : Int), ((0 : Int), ((0 : Int), (0 : Int)))), (((0 : Int), ((0 : Int), ((0 : Int), (0 : Int)))), ((bs [97]), [])))))), ((14 : Int), (false, ((0 : Int), (((0 : Int), ((0 : Int), ((0 : Int), (0 : Int)))), (((0 : Int), ((0 : Int), ((0 : Int), (0 : Int)))), ((bs []), []))))))] (1 : Int)) [(0 : Int)]) then
      bif (v_book_SameInts (v_flow_Next [((13 : Int), (false, ((0 : Int), (((0 : Int), ((0 : Int), ((0 : Int), (0 : Int)))), (((0 : Int), ((0 : Int), ((0 : Int), (0 : Int)))), ((bs []), [(bs [97])])))))), ((10 : Int), (false, ((0 : Int), (((0 : Int), ((0 : Int), ((0 : Int), (0 : Int)))), (((0 : Int), ((0 : Int), ((0 : Int), (0 : Int)))), ((bs [97]), [])))))), ((14 : Int), (false, ((0 : Int), (((0 : Int), ((0 : Int), ((0 : Int), (0 : Int)))), (((0 : Int), ((0 : Int), ((0 : Int), (0 : Int)))), ((bs []), []))))))] (1 : Int)) [(0 : Int)]) then
        bif (k_flow_From [((13 : Int), (false, ((0 : Int), (((0 : Int), ((0 : Int), ((0 : Int), (0 : Int)))), (((0 : Int), ((0 : Int), ((0 : Int), (0 : Int)))), ((bs []), [(bs [97])])))))), ((10 : Int), (false, ((0 : Int), (((0 : Int), ((0 : Int), ((0 : Int), (0 : Int)))), (((0 : Int), ((0 : Int), ((0 : Int), (0 : Int)))), ((bs [97]), [])))))), ((14 : Int), (false, ((0 : Int), (((0 : Int), ((0 : Int), ((0 : Int), (0 : Int)))), (((0 : Int), ((0 : Int), ((0 : Int), (0 : Int)))), ((bs []), []))))))] (0 : Int)) then
          bif (k_book_SameInts (v_flow_From [((13 : Int), (false, ((0 : Int), (((0 : Int), ((0 : Int), ((0 : Int), (0 : Int)))), (((0 : Int), ((0 : Int), ((0 : Int), (0 : Int)))), ((bs []), [(bs [97])])))))), ((10 : Int), (false, ((0 : Int), (((0 : Int), ((0 : Int), ((0 : Int), (0 : Int)))), (((0 : Int), ((0 : Int), ((0 : Int), (0 : Int)))), ((bs [97]), [])))))), ((14 : Int), (false, ((0 : Int), (((0 : Int), ((0 : Int), ((0 : Int), (0 : Int)))), (((0 : Int), ((0 : Int), ((0 : Int), (0 : Int)))), ((bs []), []))))))] (0 : Int)) [(0 : Int), (1 : Int)]) then
            bif (v_book_SameInts (v_flow_From [((13 : Int), (false, ((0 : Int), (((0 : Int), ((0 : Int), ((0 : Int), (0 : Int)))), (((0 : Int), ((0 : Int), ((0 : Int), (0 : Int)))), ((bs []), [(bs [97])])))))), ((10 : Int), (false, ((0 : Int), (((0 : Int), ((0 : Int), ((0 : Int), (0 : Int)))), (((0 : Int), ((0 : Int), ((0 : Int), (0 : Int)))), ((bs [97]), [])))))), ((14 : Int), (false, ((0 : Int), (((0 : Int), ((0 : Int), ((0 : Int), (0 : Int)))), (((0 : Int), ((0 : Int), ((0 : Int), (0 : Int)))), ((bs []), []))))))] (0 : Int)) [(0 : Int), (1 : Int)]) then
              bif (k_flow_Dead [((13 : Int), (false, ((0 : Int), (((0 : Int), ((0 : Int), ((0 : Int), (0 : Int)))), (((0 : Int), ((0 : Int), ((0 : Int), (0 : Int)))), ((bs []), [(bs [97])])))))), ((10 : Int), (false, ((0 : Int), (((0 : Int), ((0 : Int), ((0 : Int), (0 : Int)))), (((0 : Int), ((0 : Int), ((0 : Int), (0 : Int)))), ((bs [97]), [])))))), ((14 : Int), (false, ((0 : Int), (((0 : Int), ((0 : Int), ((0 : Int), (0 : Int)))), (((0 : Int), ((0 : Int), ((0 : Int), (0 : Int)))), ((bs []), []))))))]) then
                bif (k_book_SameInts (v_flow_Dead [((13 : Int), (false, ((0 : Int), (((0 : Int), ((0 : Int), ((0 : Int), (0 : Int)))), (((0 : Int), ((0 : Int), ((0 : Int), (0 : Int)))), ((bs []), [(bs [97])])))))), ((10 : Int), (false, ((0 : Int), (((0 : Int), ((0 : Int), ((0 : Int), (0 : Int)))), (((0 : Int), ((0 : Int), ((0 : Int), (0 : Int)))), ((bs [97]), [])))))), ((14 : Int), (false, ((0 : Int), (((0 : Int), ((0 : Int), ((0 : Int), (0 : Int)))), (((0 : Int), ((0 : Int), ((0 : Int), (0 : Int)))), ((bs []), []))))))]) [(2 : Int)]) then
                  bif (v_book_SameInts (v_flow_Dead [((13 : Int), (false, ((0 : Int), (((0 : Int), ((0 : Int), ((0 : Int), (0 : Int)))), (((0 : Int), ((0 : Int), ((0 : Int), (0 : Int)))), ((bs []), [(bs [97])])))))), ((10 : Int), (false, ((0 : Int), (((0 : Int), ((0 : Int), ((0 : Int), (0 : Int)))), (((0 : Int), ((0 : Int), ((0 : Int), (0 : Int)))), ((bs [97]), [])))))), ((14 : Int), (false, ((0 : Int), (((0 : Int), ((0 : Int), ((0 : Int), (0 : Int)))), (((0 : Int), ((0 : Int), ((0 : Int), (0 : Int)))), ((bs []), []))))))]) [(2 : Int)]) then
                    bif (k_flow_Next [((13 : Int), (false, ((0 : Int), (((0 : Int), ((0 : Int), ((0 : Int), (0 : Int)))), (((0 : Int), ((0 : Int), ((0 : Int), (0 : Int)))), ((bs []), [(bs [97])])))))), ((10 : Int), (false, ((0 : Int), (((0 : Int), ((0 : Int), ((0 : Int), (0 : Int)))), (((0 : Int), ((0 : Int), ((0 : Int), (0 : Int)))), ((bs [97]), [])))))), ((14 : Int), (false, ((0 : Int), (((0 : Int), ((0 : Int), ((0 : Int), (0 : Int)))), (((0 : Int), ((0 : Int), ((0 : Int), (0 : Int)))), ((bs []), []))))))] (3 : Int)) then
                      true
                    else false
                  else true
                else false
              else false
            else true
          else false
        else false
      else true
    else false
  else false
theorem g_law20_alive (hk : k_law20_alive = true) : Goes (T_law20_alive) (T0_law20_alive) (v_law20_alive) :=
  Goes.brk hk (fun hk =>
    Goes.brk hk (fun hk =>
      Goes.brk hk (fun hk =>
        Goes.brk hk (fun hk =>
          Goes.brk hk (fun hk =>
            Goes.brk hk (fun hk =>
              Goes.brk hk (fun hk =>
                Goes.brk hk (fun hk =>
                  Goes.brk hk (fun hk =>
                    Goes.brk hk (fun hk =>
                      Goes.leaf) (fun hk =>
                      Goes.nok hk)) (fun hk =>
                    Goes.leaf)) (fun hk =>
                  Goes.nok hk)) (fun hk =>
                Goes.nok hk)) (fun hk =>
              Goes.leaf)) (fun hk =>
            Goes.nok hk)) (fun hk =>
          Goes.nok hk)) (fun hk =>
        Goes.leaf)) (fun hk =>
      Goes.nok hk)) (fun hk =>
    Goes.nok hk)
def R_law20_alive : Bool → AV := fun (r : Bool) => .d .bool r
def S_law20_alive : Empty → Nat × St := fun j => nomatch j
theorem en_law20_alive (L : Lt) : entryA Go.Proofs.Tryd.prog (clOf t_law20_alive) tb_law20_alive Go.Proofs.Tryd.f12 c_law20_alive L (toForms sg_law20_alive (())) = (T0_law20_alive).run (fun v => some (R_law20_alive v, tps (toForms sg_law20_alive (())))) fun j => L (S_law20_alive j).1 (S_law20_alive j).2 := by kernel_rfl
theorem lp_law20_alive : ∀ (L : Lt) (j : Empty), procOf (procsF Go.Proofs.Tryd.prog (clOf t_law20_alive) tb_law20_alive Go.Proofs.Tryd.f12 c_law20_alive (toForms sg_law20_alive (()))) (S_law20_alive j).1 L (S_law20_alive j).2 = (T_law20_alive j).run (fun v => some (R_law20_alive v, tps (toForms sg_law20_alive (())))) fun j => L (S_law20_alive j).1 (S_law20_alive j).2 := fun L j => nomatch j
noncomputable def e_law20_alive : Run := entG sg_law20_alive R_law20_alive (fun a => k_law20_alive) (fun a => v_law20_alive)
theorem ok_law20_alive : EntOK Go.Proofs.Tryd.prog 12 e_law20_alive := entG_ok (tb := tb_law20_alive) (c := c_law20_alive) tk_law20_alive (by kernel_rfl) (by kernel_rfl) (by kernel_rfl) (fun a => by kernel_rfl) fun _ hk => evF_goes (c := c_law20_alive) (K := fun v => (R_law20_alive v, tps (toForms sg_law20_alive (())))) (S := S_law20_alive) (by kernel_rfl) (en_law20_alive) (lp_law20_alive) (g_law20_alive hk)
theorem co_law20_alive (hk : k_law20_alive = true) : CallOK Go.Proofs.Tryd.prog 12 (toForms sg_law20_alive (())) (R_law20_alive (v_law20_alive), tps (toForms sg_law20_alive (()))) := by
  obtain ⟨h1, h2⟩ := clOf_ok tk_law20_alive
  obtain ⟨n, hn⟩ := evF_goes (c := c_law20_alive) (K := fun v => (R_law20_alive v, tps (toForms sg_law20_alive (())))) (S := S_law20_alive) (by kernel_rfl) (en_law20_alive) (lp_law20_alive) (g_law20_alive hk)
  exact evF_sound (f := 12) (c := c_law20_alive) h1 h2 (by kernel_rfl) (by kernel_rfl) (by kernel_rfl) hn
end
end Go.Ev
end

section
set_option linter.unusedSectionVars false
set_option linter.unusedVariables false
set_option linter.unusedSimpArgs false
set_option maxRecDepth 100000
set_option linter.unusedVariables false
open Go Go.Ev
namespace Go.Ev
noncomputable section
/-! ### paling/palinglaw20.FlowMade -/
def sg_law20_FlowMade : Sig := [(false, (.sl (.sl T_book_Act)))]
noncomputable def t_law20_FlowMade : Tbl := [(14, e_book_Prog), (13, e_law20_tells), (12, e_law20_alive)]
theorem tk_law20_FlowMade : ∀ p ∈ t_law20_FlowMade, EntOK Go.Proofs.Tryd.prog p.1 p.2 := tbl_cons ok_book_Prog (tbl_cons ok_law20_tells (tbl_cons ok_law20_alive (tbl_nil)))
noncomputable def c_law20_FlowMade : Code := Go.Proofs.Tryd.f4.body.getD .skip
def tb_law20_FlowMade : Tb := [(4, ⟨[3, 4], []⟩), (9, ⟨[3, 4, 5], []⟩)]
inductive J_law20_FlowMade where
  | l4 (t : Int)
  | l9 (i : Int) (t : Int)
def T_law20_FlowMade (l : List (List (El T_book_Act))) : J_law20_FlowMade → JT J_law20_FlowMade (Bool)
  | .l4 t =>
    .br (decide (t < (Int.ofNat (List.length (v_book_Prog l (3 : Int) (10 : Int)).2))))
      (.jmp (.l9 (0 : Int) t))
    (.br k_law20_alive
      (.leaf v_law20_alive)
    (.no))
  | .l9 i t =>
    .br ((decide ((0 : Int) ≤ t)) && (decide (t < (Int.ofNat (List.length (v_book_Prog l (3 : Int) (10 : Int)).2)))))
      (.br (decide (i < (Int.ofNat (List.length (List.getD (v_book_Prog l (3 : Int) (10 : Int)).2 (Int.toNat t) (dflt (.sl T_api_Ins)))))))
        (.br ((decide ((0 : Int) ≤ t)) && (decide (t < (Int.ofNat (List.length (v_book_Prog l (3 : Int) (10 : Int)).2)))))
          (.br (k_law20_tells (List.getD (v_book_Prog l (3 : Int) (10 : Int)).2 (Int.toNat t) (dflt (.sl T_api_Ins))) i)
            (.br (! (v_law20_tells (List.getD (v_book_Prog l (3 : Int) (10 : Int)).2 (Int.toNat t) (dflt (.sl T_api_Ins))) i))
              (.leaf false)
            (.jmp (.l9 (IntKind.i64.wrap (i + (1 : Int))) t)))
          (.no))
        (.no))
      (.jmp (.l4 (IntKind.i64.wrap (t + (1 : Int))))))
    (.no)
def T0_law20_FlowMade (l : List (List (El T_book_Act))) : JT J_law20_FlowMade (Bool) :=
  .br (k_book_Prog l (3 : Int) (10 : Int))
    (.jmp (.l4 (0 : Int)))
  (.no)
def R_law20_FlowMade : Bool → AV := fun (r : Bool) => .d .bool r
def S_law20_FlowMade (l : List (List (El T_book_Act))) : J_law20_FlowMade → Nat × St
  | .l4 t => (4, ⟨mkTm 35 [(3, .pt 4 0 0), (4, .d (.int .i64) t)], [(4, 0, .box 32 [.own 4097 0 none, .own 4098 0 none] none), (4097, 0, .row 59 T_api_Sym (v_book_Prog l (3 : Int) (10 : Int)).1 false), (4098, 0, .row 24 (.sl T_api_Ins) (v_book_Prog l (3 : Int) (10 : Int)).2 false)]⟩)
  | .l9 i t => (9, ⟨mkTm 35 [(3, .pt 4 0 0), (4, .d (.int .i64) t), (5, .d (.int .i64) i)], [(4, 0, .box 32 [.own 4097 0 none, .own 4098 0 none] none), (4097, 0, .row 59 T_api_Sym (v_book_Prog l (3 : Int) (10 : Int)).1 false), (4098, 0, .row 24 (.sl T_api_Ins) (v_book_Prog l (3 : Int) (10 : Int)).2 false)]⟩)
theorem en_law20_FlowMade (l : List (List (El T_book_Act))) (L : Lt) : entryA Go.Proofs.Tryd.prog (clOf t_law20_FlowMade) tb_law20_FlowMade Go.Proofs.Tryd.f4 c_law20_FlowMade L (toForms sg_law20_FlowMade (l, ())) = (T0_law20_FlowMade l).run (fun v => some (R_law20_FlowMade v, tps (toForms sg_law20_FlowMade (l, ())))) fun j => L (S_law20_FlowMade l j).1 (S_law20_FlowMade l j).2 := by kernel_rfl
theorem lp_law20_FlowMade (l : List (List (El T_book_Act))) : ∀ (L : Lt) (j : J_law20_FlowMade), procOf (procsF Go.Proofs.Tryd.prog (clOf t_law20_FlowMade) tb_law20_FlowMade Go.Proofs.Tryd.f4 c_law20_FlowMade (toForms sg_law20_FlowMade (l, ()))) (S_law20_FlowMade l j).1 L (S_law20_FlowMade l j).2 = (T_law20_FlowMade l j).run (fun v => some (R_law20_FlowMade v, tps (toForms sg_law20_FlowMade (l, ())))) fun j => L (S_law20_FlowMade l j).1 (S_law20_FlowMade l j).2
  | L, .l4 t => by kernel_rfl
  | L, .l9 i t => by kernel_rfl
end
end Go.Ev
end

section
set_option linter.unusedSectionVars false
set_option linter.unusedVariables false
set_option linter.unusedSimpArgs false
/- The first call's text of law20_alive. -/
set_option maxRecDepth 100000
open Go
namespace Go.Ev
noncomputable section
def lit_law20_alive : List (El T_api_Ins) := [((13 : Int), (false, ((0 : Int), (((0 : Int), ((0 : Int), ((0 : Int), (0 : Int)))), (((0 : Int), ((0 : Int), ((0 : Int), (0 : Int)))), ((bs []), [(bs [97])])))))), ((10 : Int), (false, ((0 : Int), (((0 : Int), ((0 : Int), ((0 : Int), (0 : Int)))), (((0 : Int), ((0 : Int), ((0 : Int), (0 : Int)))), ((bs [97]), [])))))), ((14 : Int), (false, ((0 : Int), (((0 : Int), ((0 : Int), ((0 : Int), (0 : Int)))), (((0 : Int), ((0 : Int), ((0 : Int), (0 : Int)))), ((bs []), []))))))]
def ka_law20_alive (t : List (El T_api_Ins)) : Bool :=
  bif (k_flow_Next t (1 : Int)) then
    bif (k_book_SameInts (v_flow_Next t (1 : Int)) [(0 : Int)]) then
      bif (v_book_SameInts (v_flow_Next t (1 : Int)) [(0 : Int)]) then
        bif (k_flow_From t (0 : Int)) then
          bif (k_book_SameInts (v_flow_From t (0 : Int)) [(0 : Int), (1 : Int)]) then
            bif (v_book_SameInts (v_flow_From t (0 : Int)) [(0 : Int), (1 : Int)]) then
              bif (k_flow_Dead t) then
                bif (k_book_SameInts (v_flow_Dead t) [(2 : Int)]) then
                  bif (v_book_SameInts (v_flow_Dead t) [(2 : Int)]) then
                    bif (k_flow_Next t (3 : Int)) then
                      true
                    else false
                  else true
                else false
              else false
            else true
          else false
        else false
      else true
    else false
  else false
def va_law20_alive (t : List (El T_api_Ins)) : Bool :=
  bif (k_flow_Next t (1 : Int)) then
    bif (k_book_SameInts (v_flow_Next t (1 : Int)) [(0 : Int)]) then
      bif (v_book_SameInts (v_flow_Next t (1 : Int)) [(0 : Int)]) then
        bif (k_flow_From t (0 : Int)) then
          bif (k_book_SameInts (v_flow_From t (0 : Int)) [(0 : Int), (1 : Int)]) then
            bif (v_book_SameInts (v_flow_From t (0 : Int)) [(0 : Int), (1 : Int)]) then
              bif (k_flow_Dead t) then
                bif (k_book_SameInts (v_flow_Dead t) [(2 : Int)]) then
                  bif (v_book_SameInts (v_flow_Dead t) [(2 : Int)]) then
                    bif (k_flow_Next t (3 : Int)) then
                      ((Int.ofNat (List.length (v_flow_Next t (3 : Int)))) == (0 : Int))
                    else false
                  else false
                else false
              else false
            else false
          else false
        else false
      else false
    else false
  else false
theorem ka_law20_alive_eq : k_law20_alive = ka_law20_alive lit_law20_alive := rfl
theorem va_law20_alive_eq : v_law20_alive = va_law20_alive lit_law20_alive := rfl
end
end Go.Ev
end

section
set_option linter.unusedSectionVars false
set_option linter.unusedVariables false
set_option linter.unusedSimpArgs false
/- Chapter 20: both texts tell the same. -/
set_option maxRecDepth 100000
set_option linter.unusedVariables false
set_option linter.unusedSimpArgs false
open Go
namespace Go.Ev
theorem small_flow {t : List (El T_api_Ins)} (h : smallThread t = true) : flowOK t = true := by
  unfold smallThread at h
  simp only [Bool.and_eq_true, List.all_eq_true, decide_eq_true_eq] at h
  unfold flowOK
  simp only [Bool.and_eq_true, List.all_eq_true, decide_eq_true_eq]
  refine ⟨h.1, fun i hi => ⟨(h.2.2 i hi).1, ?_⟩⟩
  have := labels_mem hi
  omega
theorem refNext_eq {t : List (El T_api_Ins)} (h : flowOK t = true) (i : Int) : k_ref3_Next t i = true ∧ v_ref3_Next t i = v_flow_Next t i := by
  have k1 : k_ref3_next t i = true := h
  have k2 : k_ref3_List (v_ref3_next t i) = true := decide_eq_true (by unfold v_ref3_next; rw [rowOf_length]; exact flowOK_len h)
  unfold k_ref3_Next v_ref3_Next
  rw [k1, k2]
  exact ⟨rfl, list_row⟩
theorem refFrom_eq {t : List (El T_api_Ins)} (h : flowOK t = true) (i : Int) : k_ref3_From t i = true ∧ v_ref3_From t i = v_flow_From t i := by
  have k1 : k_ref3_from t i = true := h
  have k2 : k_ref3_List (v_ref3_from t i) = true := decide_eq_true (by unfold v_ref3_from; rw [rowOf_length]; exact flowOK_len h)
  unfold k_ref3_From v_ref3_From
  rw [k1, k2]
  exact ⟨rfl, list_row⟩
theorem same_ints {l : List Int} (h : l.length < 4611686018427387904) : k_book_SameInts l l = true ∧ v_book_SameInts l l = true := ⟨decide_eq_true h, decide_eq_true rfl⟩
theorem listOf_short {n : Nat} {M : Nat → Bool} : (listOf n M).length ≤ n := by rw [listOf_length]; exact card_le
theorem tells20 {t : List (El T_api_Ins)} (h : flowOK t = true) (i : Int) : k_law20_tells t i = true ∧ v_law20_tells t i = true := by
  have hl := flowOK_len h
  have a1 : k_flow_Next t i = true := h
  have a2 : k_flow_From t i = true := h
  have a3 : k_flow_Dead t = true := h
  have a4 : k_ref3_Dead t = true := h
  obtain ⟨b1, b2⟩ := refNext_eq h i
  obtain ⟨c1, c2⟩ := refFrom_eq h i
  have d : v_ref3_Dead t = v_flow_Dead t := rfl
  obtain ⟨e1, e2⟩ := @same_ints (v_flow_Next t i) (by have := @listOf_short t.length (nextB t i); unfold v_flow_Next; omega)
  obtain ⟨f1, f2⟩ := @same_ints (v_flow_From t i) (by have := @listOf_short t.length (fromB t i); unfold v_flow_From; omega)
  obtain ⟨g1, g2⟩ := @same_ints (v_flow_Dead t) (by have := @listOf_short t.length (deadB t); unfold v_flow_Dead; omega)
  unfold k_law20_tells v_law20_tells
  simp only [a1, a2, a3, a4, b1, b2, c1, c2, d, e1, e2, f1, f2, g1, g2, cond_true, and_self]
theorem alive20 : k_law20_alive = true ∧ v_law20_alive = true := by
  rw [ka_law20_alive_eq, va_law20_alive_eq]
  have hk : flowOK lit_law20_alive = true := by decide +kernel
  have a1 : k_flow_Next lit_law20_alive 1 = true := hk
  have a2 : k_flow_From lit_law20_alive 0 = true := hk
  have a3 : k_flow_Dead lit_law20_alive = true := hk
  have a4 : k_flow_Next lit_law20_alive 3 = true := hk
  have e1 : v_flow_Next lit_law20_alive 1 = [0] := by decide +kernel
  have e4 : v_flow_Next lit_law20_alive 3 = [] := by decide +kernel
  have n0 : ∀ j, j < 3 → nextB lit_law20_alive ((0 : Nat) : Int) j = decide (j = 1) := by decide +kernel
  have n1 : ∀ j, j < 3 → nextB lit_law20_alive ((1 : Nat) : Int) j = decide (j = 0) := by decide +kernel
  have n2 : ∀ j, j < 3 → nextB lit_law20_alive ((2 : Nat) : Int) j = false := by decide +kernel
  have hl3 : lit_law20_alive.length = 3 := rfl
  have hlt : ∀ (k j : Nat), nextB lit_law20_alive (k : Int) j = true → j < 3 ∧ k < 3 := fun k j h => by
    refine ⟨nextB_lt h, ?_⟩
    unfold nextB at h
    rw [Bool.and_eq_true] at h
    have := (of_decide_eq_true h.1).2.1
    rw [hl3] at this
    omega
  have hf : ∀ j, fromB lit_law20_alive 0 j = decide (j < 2) := fun j => by
    refine (comeB_eq (M := fun j => decide (j < 2)) (fun j hj => ?_) (fun k j hk hj => ?_) (fun j hj => ?_) j).symm
    · have h3 := (hlt 0 j hj).1
      have := n0 j h3
      rw [show nextB lit_law20_alive ((0 : Nat) : Int) j = true from hj] at this
      have : j = 1 := by simpa using this.symm
      subst this; rfl
    · have h3 := hlt k j hj
      have hk2 : k < 2 := of_decide_eq_true hk
      have : k = 0 ∨ k = 1 := by omega
      rcases this with rfl | rfl
      · rw [n0 j h3.1] at hj; have : j = 1 := of_decide_eq_true hj; subst this; rfl
      · rw [n1 j h3.1] at hj; have : j = 0 := of_decide_eq_true hj; subst this; rfl
    · have h2 : j < 2 := of_decide_eq_true hj
      have s1 : Come (fun k j => nextB lit_law20_alive (k : Int) j) (nextB lit_law20_alive 0) 1 := .start (n0 1 (by omega))
      have : j = 0 ∨ j = 1 := by omega
      rcases this with rfl | rfl
      · exact .step s1 (n1 0 (by omega))
      · exact s1
  have e2 : v_flow_From lit_law20_alive 0 = [0, 1] := by
    unfold v_flow_From
    rw [show fromB lit_law20_alive 0 = fun j => decide (j < 2) from funext hf, hl3]
    rfl
  have e3 : v_flow_Dead lit_law20_alive = [2] := by
    unfold v_flow_Dead
    rw [show deadB lit_law20_alive = fun j => decide (0 < j) && !decide (j < 2) from funext fun j => by unfold deadB; rw [hf j], hl3]
    rfl
  unfold ka_law20_alive va_law20_alive
  rw [a1, a2, a3, a4, e1, e2, e3, e4]
  exact ⟨by decide +kernel, by decide +kernel⟩
end Go.Ev
end

section
set_option linter.unusedSectionVars false
set_option linter.unusedVariables false
set_option linter.unusedSimpArgs false
/- The programs that the book makes may be. -/
set_option maxRecDepth 100000
set_option linter.unusedVariables false
set_option linter.unusedSimpArgs false
namespace Go.Ev
open Go
theorem setL_right (i : El T_api_Ins) (ls : List ByteArray) : v_ins_Right (setL i ls) = v_ins_Right i := rfl
theorem setL_to (i : El T_api_Ins) (ls : List ByteArray) : (setL i ls).2.2.2.2.2.1 = i.2.2.2.2.2.1 := rfl
theorem place_book {th : List (List (El T_api_Ins))} {k r s n : Int} (h : k = 3 ∨ k = 4 → placeOK k s n = true) : placeC (symsB, th) (k, (r, (s, n))) = 0 := by
  show placeN 3 _ k s n = 0
  unfold placeN
  by_cases hk : k = 3 ∨ k = 4
  · rw [if_pos hk]
    have := h hk
    unfold placeOK at this
    simp only [Bool.and_eq_true, decide_eq_true_eq, Bool.or_eq_true, beq_iff_eq] at this
    obtain ⟨h0, h3, hn⟩ := this
    rw [if_neg (by omega)]
    have hs : s = 0 ∨ s = 1 ∨ s = 2 := by omega
    rcases hs with rfl | rfl | rfl
    · rw [if_neg]
      rintro ⟨h1, h2⟩
      have h2 : (1 : Int) ≤ n := h2
      rcases hn with hn | hn
      · omega
      · have hn : n < (1 : Int) := hn
        omega
    · rw [if_neg]
      rintro ⟨h1, h2⟩
      have h2 : (2 : Int) ≤ n := h2
      rcases hn with hn | hn
      · omega
      · have hn : n < (2 : Int) := hn
        omega
    · rw [if_neg]
      rintro ⟨h1, h2⟩
      have h2 : (1 : Int) ≤ n := h2
      rcases hn with hn | hn
      · omega
      · have hn : n < (1 : Int) := hn
        omega
  · rw [if_neg hk]
theorem insC_book {th : List (List (El T_api_Ins))} {many : Int} {i : El T_api_Ins} (h : BookOK many i) (ls : List ByteArray) : insC (symsB, th) (setL i ls) = 0 := by
  have hA : placeC (symsB, th) i.2.2.2.1 = 0 := place_book (k := i.2.2.2.1.1) (r := i.2.2.2.1.2.1) (s := i.2.2.2.1.2.2.1) (n := i.2.2.2.1.2.2.2) h.placeA
  have hB : placeC (symsB, th) i.2.2.2.2.1 = 0 := place_book (k := i.2.2.2.2.1.1) (r := i.2.2.2.2.1.2.1) (s := i.2.2.2.2.1.2.2.1) (n := i.2.2.2.2.1.2.2.2) h.placeB
  unfold insC
  rw [setL_right, h.right]
  show (if (0 : Int) ≠ 0 then _ else if placeC (symsB, th) i.2.2.2.1 ≠ 0 then _ else placeC (symsB, th) i.2.2.2.2.1) = 0
  rw [hA, hB]
  rfl
theorem scanI_lab {p : El T_api_Prog} {K : List ByteArray → Int} : ∀ (x : List (El T_api_Ins)) (k : Nat) (seen : List ByteArray),
    (∀ (j : Nat) (i : El T_api_Ins), x[j]? = some i → (i.2.2.2.2.2.2 = [] ∨ i.2.2.2.2.2.2 = [v_book_label ((k + j : Nat) : Int)]) ∧ insC p i = 0) → (∀ l ∈ seen, ∃ k', k' < k ∧ l = v_book_label (k' : Int)) → k + x.length ≤ 100 → scanI p K seen x = K (seen ++ labels x)
  | [], k, seen, _, _, _ => by simp [scanI, labels]
  | i :: r, k, seen, h, hs, hk => by
    obtain ⟨hl, hi⟩ := h 0 i rfl
    rw [List.length_cons] at hk
    have hr := fun seen' hs' => scanI_lab (K := K) r (k + 1) seen' (fun j y hy => by
      have := h (j + 1) y (by simpa using hy)
      rwa [show k + (j + 1) = k + 1 + j by omega] at this) hs' (by omega)
    unfold scanI
    rcases hl with hl | hl
    · rw [hl]
      unfold scanL
      rw [hi]
      simp only [ne_eq, not_true_eq_false, if_false]
      rw [hr seen fun l hl => by obtain ⟨k', h1, h2⟩ := hs l hl; exact ⟨k', by omega, h2⟩]
      unfold labels
      rw [List.flatMap_cons, hl, List.nil_append]
    · rw [hl, Nat.add_zero]
      unfold scanL
      rw [if_neg (by rw [(label_right (k := (k : Int)) (by omega) (by omega)).1]; decide)]
      have hns : seen.contains (v_book_label (k : Int)) = false := by
        rw [Bool.eq_false_iff]
        intro hc
        rw [List.contains_iff_mem] at hc
        obtain ⟨k', h1, h2⟩ := hs _ hc
        have := label_inj (by omega) (by omega) h2
        omega
      rw [if_neg (by rw [hns]; decide)]
      unfold scanL
      rw [hi]
      simp only [ne_eq, not_true_eq_false, if_false]
      rw [hr _ fun l hl => by
        rcases List.mem_append.1 hl with hl | hl
        · obtain ⟨k', h1, h2⟩ := hs l hl; exact ⟨k', by omega, h2⟩
        · rw [List.mem_singleton] at hl; exact ⟨k, by omega, hl⟩]
      unfold labels
      rw [List.flatMap_cons, hl, Nat.add_zero, List.append_assoc]
theorem jumpC_lab {seen : List ByteArray} : ∀ {x : List (El T_api_Ins)}, (∀ i ∈ x, ((i.1 == (10 : Int)) || (i.1 == (11 : Int))) = true → seen.contains i.2.2.2.2.2.1 = true) → jumpC seen x = 0
  | [], _ => rfl
  | i :: r, h => by
    unfold jumpC
    have ih := jumpC_lab fun j hj => h j (List.mem_cons_of_mem _ hj)
    by_cases hj : ((i.1 == (10 : Int)) || (i.1 == (11 : Int))) = true
    · rw [if_pos hj, if_pos (h i (List.mem_cons_self ..) hj)]; exact ih
    · rw [if_neg hj]; exact ih
/-- What stands in a thread of the book. -/
theorem threadB_get {a : List (El T_book_Act)} {n : Nat} (hn : n ≤ 90) (ha : n ≤ a.length) {k : Nat} {i : El T_api_Ins} (h : (threadB a n)[k]? = some i) :
    (k < n ∧ ∃ x, (baseT a n)[k]? = some x ∧ BookOK ((n + 1 : Nat) : Int) x ∧ i = setL x (if sAt (baseT a n) n k then [v_book_label (k : Int)] else [])) ∨ (k = n ∧ i = setL (bare 14) (if sAt (baseT a n) n k then [v_book_label (k : Int)] else [])) := by
  have hl := baseT_len a n ha
  obtain ⟨hk, he⟩ := List.getElem?_eq_some_iff.1 h
  unfold threadB at hk he
  rw [withL_get hk] at he
  rw [withL_len, hl] at hk
  by_cases hkn : k < n
  · obtain ⟨x, h1, h2⟩ := baseT_book hn hkn ha
    obtain ⟨h3, h4⟩ := List.getElem?_eq_some_iff.1 h1
    rw [h4] at he
    exact .inl ⟨hkn, _, h1, h2, he.symm⟩
  · have hkn : k = n := by omega
    subst hkn
    have : (baseT a k)[k]'(by omega) = bare 14 := by
      unfold baseT
      rw [List.getElem_append_right (by simp; omega)]
      simp
    rw [this] at he
    exact .inr ⟨rfl, he.symm⟩
theorem bare14_book (many : Int) (ls : List ByteArray) {th : List (List (El T_api_Ins))} : insC (symsB, th) (setL (bare 14) ls) = 0 := by
  unfold insC
  rw [setL_right, bare_right (.inr (.inr rfl))]
  rfl
theorem labels_get {x : List (El T_api_Ins)} {k : Nat} {i : El T_api_Ins} {l : ByteArray} (h : x[k]? = some i) (hl : l ∈ i.2.2.2.2.2.2) : (labels x).contains l = true := by
  rw [List.contains_iff_mem]
  unfold labels
  exact List.mem_flatMap.2 ⟨i, List.mem_of_getElem? h, hl⟩
theorem threadC_book {a : List (El T_book_Act)} {n : Nat} (hn : n ≤ 90) (ha : n ≤ a.length) {th : List (List (El T_api_Ins))} : threadC (symsB, th) (threadB a n) = 0 := by
  have hlen : (threadB a n).length = n + 1 := by unfold threadB; rw [withL_len, baseT_len a n ha]
  unfold threadC
  have hc := countM_le (threadB a n)
  rw [if_neg (by omega), scanI_lab (threadB a n) 0 [] (fun j i h => by
    rw [Nat.zero_add]
    rcases threadB_get hn ha h with ⟨_, x, _, hx, rfl⟩ | ⟨_, rfl⟩
    · refine ⟨?_, insC_book hx _⟩
      show (if _ then [v_book_label (j : Int)] else []) = [] ∨ (if _ then [v_book_label (j : Int)] else []) = [v_book_label (j : Int)]
      split
      · exact .inr rfl
      · exact .inl rfl
    · refine ⟨?_, bare14_book 0 _⟩
      show (if _ then [v_book_label (j : Int)] else []) = [] ∨ (if _ then [v_book_label (j : Int)] else []) = [v_book_label (j : Int)]
      split
      · exact .inr rfl
      · exact .inl rfl) (fun l hl => by cases hl) (by omega)]
  rw [List.nil_append, endC_eq (by omega)]
  have hlast : (threadB a n)[(threadB a n).length - 1]? = some ((threadB a n)[(threadB a n).length - 1]'(by omega)) := List.getElem?_eq_getElem (by omega)
  have h14 : (((threadB a n)[(threadB a n).length - 1]'(by omega)).1 == (10 : Int) || ((threadB a n)[(threadB a n).length - 1]'(by omega)).1 == (14 : Int)) = true := by
    rcases threadB_get hn ha hlast with ⟨h1, _⟩ | ⟨_, h2⟩
    · omega
    · rw [h2]; rfl
  rw [if_pos h14]
  refine jumpC_lab fun i hi hj => ?_
  obtain ⟨k, hk⟩ := List.getElem?_of_mem hi
  rcases threadB_get hn ha hk with ⟨hkn, x, hx, hb, rfl⟩ | ⟨_, rfl⟩
  · rw [setL_to]
    rcases hb.to with ⟨h1, h2, _⟩ | ⟨_, m, m0, m1, e⟩
    · exfalso
      have hj : ((x.1 == (10 : Int)) || (x.1 == (11 : Int))) = true := hj
      simp only [Bool.or_eq_true, beq_iff_eq] at hj
      rcases hj with hj | hj
      · exact h1 hj
      · exact h2 hj
    · rw [e]
      obtain ⟨q, rfl⟩ : ∃ q : Nat, m = (q : Int) := ⟨m.toNat, by omega⟩
      have hqn : q < n + 1 := by omega
      have hq : (threadB a n)[q]? = some ((threadB a n)[q]'(by omega)) := List.getElem?_eq_getElem (by omega)
      have hs : sAt (baseT a n) n q = true := by
        unfold sAt
        rw [List.any_eq_true]
        exact ⟨x, List.mem_of_getElem? (i := k) (by rw [List.getElem?_take, if_pos hkn]; exact hx), decide_eq_true e⟩
      refine labels_get hq ?_
      rcases threadB_get hn ha hq with ⟨_, y, _, _, h2⟩ | ⟨_, h2⟩
      · rw [h2, hs]; exact List.mem_singleton.2 rfl
      · rw [h2, hs]; exact List.mem_singleton.2 rfl
  · cases hj
theorem small_book {a : List (El T_book_Act)} {n : Nat} (hn : n ≤ 90) (ha : n ≤ a.length) : smallThread (threadB a n) = true := by
  have hlen : (threadB a n).length = n + 1 := by unfold threadB; rw [withL_len, baseT_len a n ha]
  have hlab : ∀ i ∈ threadB a n, smallText i.2.2.2.2.2.1 = true ∧ i.2.2.2.2.2.2.length ≤ 1 ∧ ∀ l ∈ i.2.2.2.2.2.2, smallText l = true := fun i hi => by
    obtain ⟨k, hk⟩ := List.getElem?_of_mem hi
    have hkl := (List.getElem?_eq_some_iff.1 hk).1
    have hls : ∀ b : Bool, (if b = true then [v_book_label (k : Int)] else []).length ≤ 1 ∧ ∀ l ∈ (if b = true then [v_book_label (k : Int)] else []), smallText l = true := fun b => by
      cases b with
      | false => exact ⟨by simp, fun l hl => by simp at hl⟩
      | true => exact ⟨by simp, fun l hl => by
          rw [if_pos rfl, List.mem_singleton] at hl
          rw [hl]; exact (label_right (by omega) (by omega)).2⟩
    rcases threadB_get hn ha hk with ⟨hkn, x, hx, hb, rfl⟩ | ⟨_, rfl⟩
    · exact ⟨hb.small (by omega), hls _⟩
    · exact ⟨(by decide : smallText (bs []) = true), hls _⟩
  have := labels_le (t := threadB a n) (n := 1) fun i hi => (hlab i hi).2.1
  unfold smallThread
  simp only [Bool.and_eq_true, decide_eq_true_eq, List.all_eq_true]
  exact ⟨by omega, by omega, fun i hi => ⟨(hlab i hi).1, (hlab i hi).2.2⟩⟩
theorem symsC_book (K : Int) : symsC K [] symsB = K := by kernel_rfl
theorem thsC_zero {p : El T_api_Prog} : ∀ {th : List (List (El T_api_Ins))}, (∀ t ∈ th, threadC p t = 0) → thsC p th = 0
  | [], _ => rfl
  | t :: r, h => by
    unfold thsC
    rw [h t (List.mem_cons_self ..)]
    simp only [ne_eq, not_true_eq_false, if_false]
    exact thsC_zero fun x hx => h x (List.mem_cons_of_mem _ hx)
theorem book_valid (l : List (List (El T_book_Act))) {threads many : Int} (h0 : 0 ≤ threads) (h1 : threads ≤ 64) (m0 : 0 ≤ many) (m1 : many ≤ 90) : checkC (v_book_Prog l threads many) = 0 ∧ smallProg (v_book_Prog l threads many) = true ∧ k_book_Prog l threads many = true := by
  refine ⟨?_, ?_, ?_⟩
  · unfold checkC v_book_Prog
    show (if 64 < symsB.length ∨ 64 < ((l.take threads.toNat).map fun a => threadB a (min a.length many.toNat)).length then (10 : Int) else symsC (thsC _ ((l.take threads.toNat).map fun a => threadB a (min a.length many.toNat))) [] symsB) = 0
    rw [if_neg, symsC_book]
    · exact thsC_zero fun t ht => by
        obtain ⟨a, _, rfl⟩ := List.mem_map.1 ht
        exact threadC_book (by omega) (by omega)
    · rw [List.length_map, List.length_take]
      have : symsB.length = 3 := rfl
      omega
  · unfold smallProg v_book_Prog
    simp only [Bool.and_eq_true, List.all_eq_true]
    refine ⟨?_, fun t ht => ?_⟩
    · have : symsB.all (fun s => smallText s.1) = true := by decide +kernel
      rw [List.all_eq_true] at this
      exact this
    · obtain ⟨a, _, rfl⟩ := List.mem_map.1 ht
      exact small_book (by omega) (by omega)
  · unfold k_book_Prog
    simp only [Bool.and_eq_true, decide_eq_true_eq]
    omega
end Go.Ev
end

section
set_option linter.unusedSectionVars false
set_option linter.unusedVariables false
set_option linter.unusedSimpArgs false
set_option maxRecDepth 100000
set_option linter.unusedVariables false
set_option linter.unusedSimpArgs false
open Go
namespace Go.Ev
theorem book_flow (l : List (List (El T_book_Act))) {threads many : Int} (h0 : 0 ≤ threads) (h1 : threads ≤ 64) (m0 : 0 ≤ many) (m1 : many ≤ 90) : k_book_Prog l threads many = true ∧ (v_book_Prog l threads many).2.length ≤ 64 ∧ ∀ t ∈ (v_book_Prog l threads many).2, flowOK t = true := by
  obtain ⟨hc, hs, hk⟩ := book_valid l h0 h1 m0 m1
  refine ⟨hk, ?_, fun t ht => small_flow ?_⟩
  · unfold v_book_Prog
    simp
    omega
  · unfold smallProg at hs
    rw [Bool.and_eq_true] at hs
    exact List.all_eq_true.1 hs.2 t ht
def v_law20_FlowMade (l : List (List (El T_book_Act))) : Bool := true
def k_law20_FlowMade (l : List (List (El T_book_Act))) : Bool := true
theorem g_law20_FlowMade (l : List (List (El T_book_Act))) (hk : k_law20_FlowMade l = true) : Goes (T_law20_FlowMade l) (T0_law20_FlowMade l) (v_law20_FlowMade l) := by
  obtain ⟨ka, va⟩ := alive20
  obtain ⟨kp, hth, hall⟩ := book_flow l (threads := 3) (many := 10) (by omega) (by omega) (by omega) (by omega)
  unfold T0_law20_FlowMade v_law20_FlowMade
  rw [goes_br, if_pos kp]
  generalize hP : (v_book_Prog l (3 : Int) (10 : Int)).2 = ts at hth hall
  have loop : ∀ k, k ≤ ts.length → Goes (T_law20_FlowMade l) (.jmp (.l4 (k : Int))) true := by
    refine down ?_ fun k hk ih => ?_
    · rw [goes_jmp, T_law20_FlowMade, goes_br, hP, if_neg (by rw [lt_len_not (Nat.lt_irrefl _)]; decide), goes_br, if_pos ka, va]
      exact .leaf
    · rw [goes_jmp, T_law20_FlowMade, goes_br, hP, if_pos (lt_len hk)]
      have hd : List.getD ts k (dflt (.sl T_api_Ins)) = ts[k] := getD_lt hk
      have hf := hall ts[k] (List.getElem_mem hk)
      have hl := flowOK_len hf
      have inner : ∀ j, j ≤ ts[k].length → Goes (T_law20_FlowMade l) (.jmp (.l9 (j : Int) (k : Int))) true := by
        refine down ?_ fun j hj ih2 => ?_
        · rw [goes_jmp, T_law20_FlowMade, goes_br, hP, if_pos (bound_len hk), goes_br, Int.toNat_natCast, hd, if_neg (by rw [lt_len_not (Nat.lt_irrefl _)]; decide), wrap_succ (by omega)]
          exact ih
        · obtain ⟨k1, v1⟩ := tells20 hf (j : Int)
          rw [goes_jmp, T_law20_FlowMade, goes_br, hP, if_pos (bound_len hk), goes_br, Int.toNat_natCast, hd, if_pos (lt_len hj), goes_br, if_pos (bound_len hk), goes_br, if_pos k1, goes_br, if_neg (by rw [v1]; decide), wrap_succ (by omega)]
          exact ih2
      exact inner 0 (Nat.zero_le _)
  exact loop 0 (Nat.zero_le _)
end Go.Ev
end

section
set_option linter.unusedSectionVars false
set_option linter.unusedVariables false
set_option linter.unusedSimpArgs false
set_option maxRecDepth 100000
set_option linter.unusedVariables false
open Go Go.Ev
namespace Go.Ev
noncomputable section
noncomputable def e_law20_FlowMade : Run := entG sg_law20_FlowMade R_law20_FlowMade (fun a => k_law20_FlowMade a.1) (fun a => v_law20_FlowMade a.1)
theorem ok_law20_FlowMade : EntOK Go.Proofs.Tryd.prog 4 e_law20_FlowMade := entG_ok (tb := tb_law20_FlowMade) (c := c_law20_FlowMade) tk_law20_FlowMade (by kernel_rfl) (by kernel_rfl) (by kernel_rfl) (fun a => by kernel_rfl) fun ⟨l, _⟩ hk => evF_goes (c := c_law20_FlowMade) (K := fun v => (R_law20_FlowMade v, tps (toForms sg_law20_FlowMade (l, ())))) (S := S_law20_FlowMade l) (by kernel_rfl) (en_law20_FlowMade l) (lp_law20_FlowMade l) (g_law20_FlowMade l hk)
theorem co_law20_FlowMade (l : List (List (El T_book_Act))) (hk : k_law20_FlowMade l = true) : CallOK Go.Proofs.Tryd.prog 4 (toForms sg_law20_FlowMade (l, ())) (R_law20_FlowMade (v_law20_FlowMade l), tps (toForms sg_law20_FlowMade (l, ()))) := by
  obtain ⟨h1, h2⟩ := clOf_ok tk_law20_FlowMade
  obtain ⟨n, hn⟩ := evF_goes (c := c_law20_FlowMade) (K := fun v => (R_law20_FlowMade v, tps (toForms sg_law20_FlowMade (l, ())))) (S := S_law20_FlowMade l) (by kernel_rfl) (en_law20_FlowMade l) (lp_law20_FlowMade l) (g_law20_FlowMade l hk)
  exact evF_sound (f := 4) (c := c_law20_FlowMade) h1 h2 (by kernel_rfl) (by kernel_rfl) (by kernel_rfl) hn
end
end Go.Ev
end

section
set_option linter.unusedSectionVars false
set_option linter.unusedVariables false
set_option linter.unusedSimpArgs false
set_option maxRecDepth 100000
set_option linter.unusedVariables false
namespace Go.Ev
open Go
theorem call_law20_FlowMade (a : Args sg_law20_FlowMade) (ha : smallArgs sg_law20_FlowMade a) : CallOK Go.Proofs.Tryd.prog fid_law20_FlowMade (toForms sg_law20_FlowMade a) (.d .bool true, tps (toForms sg_law20_FlowMade a)) := by
  obtain ⟨l, _⟩ := a
  exact co_law20_FlowMade l rfl
end Go.Ev
end

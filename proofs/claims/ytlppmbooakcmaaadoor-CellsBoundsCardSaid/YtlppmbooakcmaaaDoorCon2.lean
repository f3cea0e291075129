/- Part of the proof of: A register tells a cell of a symbol just if its number, without a sign, is below the Size: the law answers true for every input. -/
import Derived.Test.YtlppmbooakcmaaaDoorCon1
section
set_option linter.unusedSectionVars false
set_option linter.unusedVariables false
set_option linter.unusedSimpArgs false
set_option maxRecDepth 100000
set_option linter.unusedVariables false
open Go Go.Ev
namespace Go.Ev
/-! ### paling/palinglaw11.CellsBounds -/
def sg_law11_CellsBounds : Sig := [(false, (.int .i64)), (false, (.int .i64)), (false, (.int .i64))]
noncomputable def t_law11_CellsBounds : Tbl := [(28, e_book_Pick), (31, e_cells_Addr), (26, e_law11_alive)]
theorem tk_law11_CellsBounds : ∀ p ∈ t_law11_CellsBounds, EntOK Go.Proofs.Tryd.prog p.1 p.2 := tbl_cons ok_book_Pick (tbl_cons ok_cells_Addr (tbl_cons ok_law11_alive (tbl_nil)))
noncomputable def c_law11_CellsBounds : Code := Go.Proofs.Tryd.f10.body.getD .skip
def tb_law11_CellsBounds : Tb := []
def T_law11_CellsBounds (size : Int) (n : Int) (reg : Int) : Empty → JT Empty (Bool) := fun j => nomatch j
def T0_law11_CellsBounds (size : Int) (n : Int) (reg : Int) : JT Empty (Bool) :=
  .br (k_book_Pick size (64 : Int))
    (.br (k_book_Pick reg (8 : Int))
      (.br ((v_book_Pick reg (8 : Int)) == (7 : Int))
        (.br (k_cells_Addr ([((bs [97]), ((2 : Int), [])), ((bs [98]), ((IntKind.i64.wrap ((1 : Int) + (v_book_Pick size (64 : Int)))), []))], []) ((4 : Int), ((v_book_Pick reg (8 : Int)), ((1 : Int), (0 : Int)))) ((0 : Int), ((0 : Int), ((0 : Int), ((0 : Int), ((0 : Int), ((0 : Int), ((0 : Int), n))))))))
          (.br ((v_cells_Addr ([((bs [97]), ((2 : Int), [])), ((bs [98]), ((IntKind.i64.wrap ((1 : Int) + (v_book_Pick size (64 : Int)))), []))], []) ((4 : Int), ((v_book_Pick reg (8 : Int)), ((1 : Int), (0 : Int)))) ((0 : Int), ((0 : Int), ((0 : Int), ((0 : Int), ((0 : Int), ((0 : Int), ((0 : Int), n)))))))).2 == (decide ((IntKind.u64.wrap n) < (IntKind.u64.wrap (IntKind.i64.wrap ((1 : Int) + (v_book_Pick size (64 : Int))))))))
            (.br (! (v_cells_Addr ([((bs [97]), ((2 : Int), [])), ((bs [98]), ((IntKind.i64.wrap ((1 : Int) + (v_book_Pick size (64 : Int)))), []))], []) ((4 : Int), ((v_book_Pick reg (8 : Int)), ((1 : Int), (0 : Int)))) ((0 : Int), ((0 : Int), ((0 : Int), ((0 : Int), ((0 : Int), ((0 : Int), ((0 : Int), n)))))))).2)
              (.br ((v_cells_Addr ([((bs [97]), ((2 : Int), [])), ((bs [98]), ((IntKind.i64.wrap ((1 : Int) + (v_book_Pick size (64 : Int)))), []))], []) ((4 : Int), ((v_book_Pick reg (8 : Int)), ((1 : Int), (0 : Int)))) ((0 : Int), ((0 : Int), ((0 : Int), ((0 : Int), ((0 : Int), ((0 : Int), ((0 : Int), n)))))))).1 == (0 : Int))
                (.br k_law11_alive
                  (.leaf v_law11_alive)
                (.no))
              (.br (v_cells_Addr ([((bs [97]), ((2 : Int), [])), ((bs [98]), ((IntKind.i64.wrap ((1 : Int) + (v_book_Pick size (64 : Int)))), []))], []) ((4 : Int), ((v_book_Pick reg (8 : Int)), ((1 : Int), (0 : Int)))) ((0 : Int), ((0 : Int), ((0 : Int), ((0 : Int), ((0 : Int), ((0 : Int), ((0 : Int), n)))))))).2
                (.br ((v_cells_Addr ([((bs [97]), ((2 : Int), [])), ((bs [98]), ((IntKind.i64.wrap ((1 : Int) + (v_book_Pick size (64 : Int)))), []))], []) ((4 : Int), ((v_book_Pick reg (8 : Int)), ((1 : Int), (0 : Int)))) ((0 : Int), ((0 : Int), ((0 : Int), ((0 : Int), ((0 : Int), ((0 : Int), ((0 : Int), n)))))))).1 == (IntKind.i64.wrap ((2 : Int) + n)))
                  (.br k_law11_alive
                    (.leaf v_law11_alive)
                  (.no))
                (.leaf false))
              (.leaf false)))
            (.br (v_cells_Addr ([((bs [97]), ((2 : Int), [])), ((bs [98]), ((IntKind.i64.wrap ((1 : Int) + (v_book_Pick size (64 : Int)))), []))], []) ((4 : Int), ((v_book_Pick reg (8 : Int)), ((1 : Int), (0 : Int)))) ((0 : Int), ((0 : Int), ((0 : Int), ((0 : Int), ((0 : Int), ((0 : Int), ((0 : Int), n)))))))).2
              (.br ((v_cells_Addr ([((bs [97]), ((2 : Int), [])), ((bs [98]), ((IntKind.i64.wrap ((1 : Int) + (v_book_Pick size (64 : Int)))), []))], []) ((4 : Int), ((v_book_Pick reg (8 : Int)), ((1 : Int), (0 : Int)))) ((0 : Int), ((0 : Int), ((0 : Int), ((0 : Int), ((0 : Int), ((0 : Int), ((0 : Int), n)))))))).1 == (IntKind.i64.wrap ((2 : Int) + n)))
                (.br k_law11_alive
                  (.leaf v_law11_alive)
                (.no))
              (.leaf false))
            (.leaf false)))
          (.leaf false))
        (.no))
      (.br ((v_book_Pick reg (8 : Int)) == (6 : Int))
        (.br (k_cells_Addr ([((bs [97]), ((2 : Int), [])), ((bs [98]), ((IntKind.i64.wrap ((1 : Int) + (v_book_Pick size (64 : Int)))), []))], []) ((4 : Int), ((v_book_Pick reg (8 : Int)), ((1 : Int), (0 : Int)))) ((0 : Int), ((0 : Int), ((0 : Int), ((0 : Int), ((0 : Int), ((0 : Int), (n, (0 : Int)))))))))
          (.br ((v_cells_Addr ([((bs [97]), ((2 : Int), [])), ((bs [98]), ((IntKind.i64.wrap ((1 : Int) + (v_book_Pick size (64 : Int)))), []))], []) ((4 : Int), ((v_book_Pick reg (8 : Int)), ((1 : Int), (0 : Int)))) ((0 : Int), ((0 : Int), ((0 : Int), ((0 : Int), ((0 : Int), ((0 : Int), (n, (0 : Int))))))))).2 == (decide ((IntKind.u64.wrap n) < (IntKind.u64.wrap (IntKind.i64.wrap ((1 : Int) + (v_book_Pick size (64 : Int))))))))
            (.br (! (v_cells_Addr ([((bs [97]), ((2 : Int), [])), ((bs [98]), ((IntKind.i64.wrap ((1 : Int) + (v_book_Pick size (64 : Int)))), []))], []) ((4 : Int), ((v_book_Pick reg (8 : Int)), ((1 : Int), (0 : Int)))) ((0 : Int), ((0 : Int), ((0 : Int), ((0 : Int), ((0 : Int), ((0 : Int), (n, (0 : Int))))))))).2)
              (.br ((v_cells_Addr ([((bs [97]), ((2 : Int), [])), ((bs [98]), ((IntKind.i64.wrap ((1 : Int) + (v_book_Pick size (64 : Int)))), []))], []) ((4 : Int), ((v_book_Pick reg (8 : Int)), ((1 : Int), (0 : Int)))) ((0 : Int), ((0 : Int), ((0 : Int), ((0 : Int), ((0 : Int), ((0 : Int), (n, (0 : Int))))))))).1 == (0 : Int))
                (.br k_law11_alive
                  (.leaf v_law11_alive)
                (.no))
              (.br (v_cells_Addr ([((bs [97]), ((2 : Int), [])), ((bs [98]), ((IntKind.i64.wrap ((1 : Int) + (v_book_Pick size (64 : Int)))), []))], []) ((4 : Int), ((v_book_Pick reg (8 : Int)), ((1 : Int), (0 : Int)))) ((0 : Int), ((0 : Int), ((0 : Int), ((0 : Int), ((0 : Int), ((0 : Int), (n, (0 : Int))))))))).2
                (.br ((v_cells_Addr ([((bs [97]), ((2 : Int), [])), ((bs [98]), ((IntKind.i64.wrap ((1 : Int) + (v_book_Pick size (64 : Int)))), []))], []) ((4 : Int), ((v_book_Pick reg (8 : Int)), ((1 : Int), (0 : Int)))) ((0 : Int), ((0 : Int), ((0 : Int), ((0 : Int), ((0 : Int), ((0 : Int), (n, (0 : Int))))))))).1 == (IntKind.i64.wrap ((2 : Int) + n)))
                  (.br k_law11_alive
                    (.leaf v_law11_alive)
                  (.no))
                (.leaf false))
              (.leaf false)))
            (.br (v_cells_Addr ([((bs [97]), ((2 : Int), [])), ((bs [98]), ((IntKind.i64.wrap ((1 : Int) + (v_book_Pick size (64 : Int)))), []))], []) ((4 : Int), ((v_book_Pick reg (8 : Int)), ((1 : Int), (0 : Int)))) ((0 : Int), ((0 : Int), ((0 : Int), ((0 : Int), ((0 : Int), ((0 : Int), (n, (0 : Int))))))))).2
              (.br ((v_cells_Addr ([((bs [97]), ((2 : Int), [])), ((bs [98]), ((IntKind.i64.wrap ((1 : Int) + (v_book_Pick size (64 : Int)))), []))], []) ((4 : Int), ((v_book_Pick reg (8 : Int)), ((1 : Int), (0 : Int)))) ((0 : Int), ((0 : Int), ((0 : Int), ((0 : Int), ((0 : Int), ((0 : Int), (n, (0 : Int))))))))).1 == (IntKind.i64.wrap ((2 : Int) + n)))
                (.br k_law11_alive
                  (.leaf v_law11_alive)
                (.no))
              (.leaf false))
            (.leaf false)))
          (.leaf false))
        (.no))
      (.br ((v_book_Pick reg (8 : Int)) == (5 : Int))
        (.br (k_cells_Addr ([((bs [97]), ((2 : Int), [])), ((bs [98]), ((IntKind.i64.wrap ((1 : Int) + (v_book_Pick size (64 : Int)))), []))], []) ((4 : Int), ((v_book_Pick reg (8 : Int)), ((1 : Int), (0 : Int)))) ((0 : Int), ((0 : Int), ((0 : Int), ((0 : Int), ((0 : Int), (n, ((0 : Int), (0 : Int)))))))))
          (.br ((v_cells_Addr ([((bs [97]), ((2 : Int), [])), ((bs [98]), ((IntKind.i64.wrap ((1 : Int) + (v_book_Pick size (64 : Int)))), []))], []) ((4 : Int), ((v_book_Pick reg (8 : Int)), ((1 : Int), (0 : Int)))) ((0 : Int), ((0 : Int), ((0 : Int), ((0 : Int), ((0 : Int), (n, ((0 : Int), (0 : Int))))))))).2 == (decide ((IntKind.u64.wrap n) < (IntKind.u64.wrap (IntKind.i64.wrap ((1 : Int) + (v_book_Pick size (64 : Int))))))))
            (.br (! (v_cells_Addr ([((bs [97]), ((2 : Int), [])), ((bs [98]), ((IntKind.i64.wrap ((1 : Int) + (v_book_Pick size (64 : Int)))), []))], []) ((4 : Int), ((v_book_Pick reg (8 : Int)), ((1 : Int), (0 : Int)))) ((0 : Int), ((0 : Int), ((0 : Int), ((0 : Int), ((0 : Int), (n, ((0 : Int), (0 : Int))))))))).2)
              (.br ((v_cells_Addr ([((bs [97]), ((2 : Int), [])), ((bs [98]), ((IntKind.i64.wrap ((1 : Int) + (v_book_Pick size (64 : Int)))), []))], []) ((4 : Int), ((v_book_Pick reg (8 : Int)), ((1 : Int), (0 : Int)))) ((0 : Int), ((0 : Int), ((0 : Int), ((0 : Int), ((0 : Int), (n, ((0 : Int), (0 : Int))))))))).1 == (0 : Int))
                (.br k_law11_alive
                  (.leaf v_law11_alive)
                (.no))
              (.br (v_cells_Addr ([((bs [97]), ((2 : Int), [])), ((bs [98]), ((IntKind.i64.wrap ((1 : Int) + (v_book_Pick size (64 : Int)))), []))], []) ((4 : Int), ((v_book_Pick reg (8 : Int)), ((1 : Int), (0 : Int)))) ((0 : Int), ((0 : Int), ((0 : Int), ((0 : Int), ((0 : Int), (n, ((0 : Int), (0 : Int))))))))).2
                (.br ((v_cells_Addr ([((bs [97]), ((2 : Int), [])), ((bs [98]), ((IntKind.i64.wrap ((1 : Int) + (v_book_Pick size (64 : Int)))), []))], []) ((4 : Int), ((v_book_Pick reg (8 : Int)), ((1 : Int), (0 : Int)))) ((0 : Int), ((0 : Int), ((0 : Int), ((0 : Int), ((0 : Int), (n, ((0 : Int), (0 : Int))))))))).1 == (IntKind.i64.wrap ((2 : Int) + n)))
                  (.br k_law11_alive
                    (.leaf v_law11_alive)
                  (.no))
                (.leaf false))
              (.leaf false)))
            (.br (v_cells_Addr ([((bs [97]), ((2 : Int), [])), ((bs [98]), ((IntKind.i64.wrap ((1 : Int) + (v_book_Pick size (64 : Int)))), []))], []) ((4 : Int), ((v_book_Pick reg (8 : Int)), ((1 : Int), (0 : Int)))) ((0 : Int), ((0 : Int), ((0 : Int), ((0 : Int), ((0 : Int), (n, ((0 : Int), (0 : Int))))))))).2
              (.br ((v_cells_Addr ([((bs [97]), ((2 : Int), [])), ((bs [98]), ((IntKind.i64.wrap ((1 : Int) + (v_book_Pick size (64 : Int)))), []))], []) ((4 : Int), ((v_book_Pick reg (8 : Int)), ((1 : Int), (0 : Int)))) ((0 : Int), ((0 : Int), ((0 : Int), ((0 : Int), ((0 : Int), (n, ((0 : Int), (0 : Int))))))))).1 == (IntKind.i64.wrap ((2 : Int) + n)))
                (.br k_law11_alive
                  (.leaf v_law11_alive)
                (.no))
              (.leaf false))
            (.leaf false)))
          (.leaf false))
        (.no))
      (.br ((v_book_Pick reg (8 : Int)) == (4 : Int))
        (.br (k_cells_Addr ([((bs [97]), ((2 : Int), [])), ((bs [98]), ((IntKind.i64.wrap ((1 : Int) + (v_book_Pick size (64 : Int)))), []))], []) ((4 : Int), ((v_book_Pick reg (8 : Int)), ((1 : Int), (0 : Int)))) ((0 : Int), ((0 : Int), ((0 : Int), ((0 : Int), (n, ((0 : Int), ((0 : Int), (0 : Int)))))))))
          (.br ((v_cells_Addr ([((bs [97]), ((2 : Int), [])), ((bs [98]), ((IntKind.i64.wrap ((1 : Int) + (v_book_Pick size (64 : Int)))), []))], []) ((4 : Int), ((v_book_Pick reg (8 : Int)), ((1 : Int), (0 : Int)))) ((0 : Int), ((0 : Int), ((0 : Int), ((0 : Int), (n, ((0 : Int), ((0 : Int), (0 : Int))))))))).2 == (decide ((IntKind.u64.wrap n) < (IntKind.u64.wrap (IntKind.i64.wrap ((1 : Int) + (v_book_Pick size (64 : Int))))))))
            (.br (! (v_cells_Addr ([((bs [97]), ((2 : Int), [])), ((bs [98]), ((IntKind.i64.wrap ((1 : Int) + (v_book_Pick size (64 : Int)))), []))], []) ((4 : Int), ((v_book_Pick reg (8 : Int)), ((1 : Int), (0 : Int)))) ((0 : Int), ((0 : Int), ((0 : Int), ((0 : Int), (n, ((0 : Int), ((0 : Int), (0 : Int))))))))).2)
              (.br ((v_cells_Addr ([((bs [97]), ((2 : Int), [])), ((bs [98]), ((IntKind.i64.wrap ((1 : Int) + (v_book_Pick size (64 : Int)))), []))], []) ((4 : Int), ((v_book_Pick reg (8 : Int)), ((1 : Int), (0 : Int)))) ((0 : Int), ((0 : Int), ((0 : Int), ((0 : Int), (n, ((0 : Int), ((0 : Int), (0 : Int))))))))).1 == (0 : Int))
                (.br k_law11_alive
                  (.leaf v_law11_alive)
                (.no))
              (.br (v_cells_Addr ([((bs [97]), ((2 : Int), [])), ((bs [98]), ((IntKind.i64.wrap ((1 : Int) + (v_book_Pick size (64 : Int)))), []))], []) ((4 : Int), ((v_book_Pick reg (8 : Int)), ((1 : Int), (0 : Int)))) ((0 : Int), ((0 : Int), ((0 : Int), ((0 : Int), (n, ((0 : Int), ((0 : Int), (0 : Int))))))))).2
                (.br ((v_cells_Addr ([((bs [97]), ((2 : Int), [])), ((bs [98]), ((IntKind.i64.wrap ((1 : Int) + (v_book_Pick size (64 : Int)))), []))], []) ((4 : Int), ((v_book_Pick reg (8 : Int)), ((1 : Int), (0 : Int)))) ((0 : Int), ((0 : Int), ((0 : Int), ((0 : Int), (n, ((0 : Int), ((0 : Int), (0 : Int))))))))).1 == (IntKind.i64.wrap ((2 : Int) + n)))
                  (.br k_law11_alive
                    (.leaf v_law11_alive)
                  (.no))
                (.leaf false))
              (.leaf false)))
            (.br (v_cells_Addr ([((bs [97]), ((2 : Int), [])), ((bs [98]), ((IntKind.i64.wrap ((1 : Int) + (v_book_Pick size (64 : Int)))), []))], []) ((4 : Int), ((v_book_Pick reg (8 : Int)), ((1 : Int), (0 : Int)))) ((0 : Int), ((0 : Int), ((0 : Int), ((0 : Int), (n, ((0 : Int), ((0 : Int), (0 : Int))))))))).2
              (.br ((v_cells_Addr ([((bs [97]), ((2 : Int), [])), ((bs [98]), ((IntKind.i64.wrap ((1 : Int) + (v_book_Pick size (64 : Int)))), []))], []) ((4 : Int), ((v_book_Pick reg (8 : Int)), ((1 : Int), (0 : Int)))) ((0 : Int), ((0 : Int), ((0 : Int), ((0 : Int), (n, ((0 : Int), ((0 : Int), (0 : Int))))))))).1 == (IntKind.i64.wrap ((2 : Int) + n)))
                (.br k_law11_alive
                  (.leaf v_law11_alive)
                (.no))
              (.leaf false))
            (.leaf false)))
          (.leaf false))
        (.no))
      (.br ((v_book_Pick reg (8 : Int)) == (3 : Int))
        (.br (k_cells_Addr ([((bs [97]), ((2 : Int), [])), ((bs [98]), ((IntKind.i64.wrap ((1 : Int) + (v_book_Pick size (64 : Int)))), []))], []) ((4 : Int), ((v_book_Pick reg (8 : Int)), ((1 : Int), (0 : Int)))) ((0 : Int), ((0 : Int), ((0 : Int), (n, ((0 : Int), ((0 : Int), ((0 : Int), (0 : Int)))))))))
          (.br ((v_cells_Addr ([((bs [97]), ((2 : Int), [])), ((bs [98]), ((IntKind.i64.wrap ((1 : Int) + (v_book_Pick size (64 : Int)))), []))], []) ((4 : Int), ((v_book_Pick reg (8 : Int)), ((1 : Int), (0 : Int)))) ((0 : Int), ((0 : Int), ((0 : Int), (n, ((0 : Int), ((0 : Int), ((0 : Int), (0 : Int))))))))).2 == (decide ((IntKind.u64.wrap n) < (IntKind.u64.wrap (IntKind.i64.wrap ((1 : Int) + (v_book_Pick size (64 : Int))))))))
            (.br (! (v_cells_Addr ([((bs [97]), ((2 : Int), [])), ((bs [98]), ((IntKind.i64.wrap ((1 : Int) + (v_book_Pick size (64 : Int)))), []))], []) ((4 : Int), ((v_book_Pick reg (8 : Int)), ((1 : Int), (0 : Int)))) ((0 : Int), ((0 : Int), ((0 : Int), (n, ((0 : Int), ((0 : Int), ((0 : Int), (0 : Int))))))))).2)
              (.br ((v_cells_Addr ([((bs [97]), ((2 : Int), [])), ((bs [98]), ((IntKind.i64.wrap ((1 : Int) + (v_book_Pick size (64 : Int)))), []))], []) ((4 : Int), ((v_book_Pick reg (8 : Int)), ((1 : Int), (0 : Int)))) ((0 : Int), ((0 : Int), ((0 : Int), (n, ((0 : Int), ((0 : Int), ((0 : Int), (0 : Int))))))))).1 == (0 : Int))
                (.br k_law11_alive
                  (.leaf v_law11_alive)
                (.no))
              (.br (v_cells_Addr ([((bs [97]), ((2 : Int), [])), ((bs [98]), ((IntKind.i64.wrap ((1 : Int) + (v_book_Pick size (64 : Int)))), []))], []) ((4 : Int), ((v_book_Pick reg (8 : Int)), ((1 : Int), (0 : Int)))) ((0 : Int), ((0 : Int), ((0 : Int), (n, ((0 : Int), ((0 : Int), ((0 : Int), (0 : Int))))))))).2
                (.br ((v_cells_Addr ([((bs [97]), ((2 : Int), [])), ((bs [98]), ((IntKind.i64.wrap ((1 : Int) + (v_book_Pick size (64 : Int)))), []))], []) ((4 : Int), ((v_book_Pick reg (8 : Int)), ((1 : Int), (0 : Int)))) ((0 : Int), ((0 : Int), ((0 : Int), (n, ((0 : Int), ((0 : Int), ((0 : Int), (0 : Int))))))))).1 == (IntKind.i64.wrap ((2 : Int) + n)))
                  (.br k_law11_alive
                    (.leaf v_law11_alive)
                  (.no))
                (.leaf false))
              (.leaf false)))
            (.br (v_cells_Addr ([((bs [97]), ((2 : Int), [])), ((bs [98]), ((IntKind.i64.wrap ((1 : Int) + (v_book_Pick size (64 : Int)))), []))], []) ((4 : Int), ((v_book_Pick reg (8 : Int)), ((1 : Int), (0 : Int)))) ((0 : Int), ((0 : Int), ((0 : Int), (n, ((0 : Int), ((0 : Int), ((0 : Int), (0 : Int))))))))).2
              (.br ((v_cells_Addr ([((bs [97]), ((2 : Int), [])), ((bs [98]), ((IntKind.i64.wrap ((1 : Int) + (v_book_Pick size (64 : Int)))), []))], []) ((4 : Int), ((v_book_Pick reg (8 : Int)), ((1 : Int), (0 : Int)))) ((0 : Int), ((0 : Int), ((0 : Int), (n, ((0 : Int), ((0 : Int), ((0 : Int), (0 : Int))))))))).1 == (IntKind.i64.wrap ((2 : Int) + n)))
                (.br k_law11_alive
                  (.leaf v_law11_alive)
                (.no))
              (.leaf false))
            (.leaf false)))
          (.leaf false))
        (.no))
      (.br ((v_book_Pick reg (8 : Int)) == (2 : Int))
        (.br (k_cells_Addr ([((bs [97]), ((2 : Int), [])), ((bs [98]), ((IntKind.i64.wrap ((1 : Int) + (v_book_Pick size (64 : Int)))), []))], []) ((4 : Int), ((v_book_Pick reg (8 : Int)), ((1 : Int), (0 : Int)))) ((0 : Int), ((0 : Int), (n, ((0 : Int), ((0 : Int), ((0 : Int), ((0 : Int), (0 : Int)))))))))
          (.br ((v_cells_Addr ([((bs [97]), ((2 : Int), [])), ((bs [98]), ((IntKind.i64.wrap ((1 : Int) + (v_book_Pick size (64 : Int)))), []))], []) ((4 : Int), ((v_book_Pick reg (8 : Int)), ((1 : Int), (0 : Int)))) ((0 : Int), ((0 : Int), (n, ((0 : Int), ((0 : Int), ((0 : Int), ((0 : Int), (0 : Int))))))))).2 == (decide ((IntKind.u64.wrap n) < (IntKind.u64.wrap (IntKind.i64.wrap ((1 : Int) + (v_book_Pick size (64 : Int))))))))
            (.br (! (v_cells_Addr ([((bs [97]), ((2 : Int), [])), ((bs [98]), ((IntKind.i64.wrap ((1 : Int) + (v_book_Pick size (64 : Int)))), []))], []) ((4 : Int), ((v_book_Pick reg (8 : Int)), ((1 : Int), (0 : Int)))) ((0 : Int), ((0 : Int), (n, ((0 : Int), ((0 : Int), ((0 : Int), ((0 : Int), (0 : Int))))))))).2)
              (.br ((v_cells_Addr ([((bs [97]), ((2 : Int), [])), ((bs [98]), ((IntKind.i64.wrap ((1 : Int) + (v_book_Pick size (64 : Int)))), []))], []) ((4 : Int), ((v_book_Pick reg (8 : Int)), ((1 : Int), (0 : Int)))) ((0 : Int), ((0 : Int), (n, ((0 : Int), ((0 : Int), ((0 : Int), ((0 : Int), (0 : Int))))))))).1 == (0 : Int))
                (.br k_law11_alive
                  (.leaf v_law11_alive)
                (.no))
              (.br (v_cells_Addr ([((bs [97]), ((2 : Int), [])), ((bs [98]), ((IntKind.i64.wrap ((1 : Int) + (v_book_Pick size (64 : Int)))), []))], []) ((4 : Int), ((v_book_Pick reg (8 : Int)), ((1 : Int), (0 : Int)))) ((0 : Int), ((0 : Int), (n, ((0 : Int), ((0 : Int), ((0 : Int), ((0 : Int), (0 : Int))))))))).2
                (.br ((v_cells_Addr ([((bs [97]), ((2 : Int), [])), ((bs [98]), ((IntKind.i64.wrap ((1 : Int) + (v_book_Pick size (64 : Int)))), []))], []) ((4 : Int), ((v_book_Pick reg (8 : Int)), ((1 : Int), (0 : Int)))) ((0 : Int), ((0 : Int), (n, ((0 : Int), ((0 : Int), ((0 : Int), ((0 : Int), (0 : Int))))))))).1 == (IntKind.i64.wrap ((2 : Int) + n)))
                  (.br k_law11_alive
                    (.leaf v_law11_alive)
                  (.no))
                (.leaf false))
              (.leaf false)))
            (.br (v_cells_Addr ([((bs [97]), ((2 : Int), [])), ((bs [98]), ((IntKind.i64.wrap ((1 : Int) + (v_book_Pick size (64 : Int)))), []))], []) ((4 : Int), ((v_book_Pick reg (8 : Int)), ((1 : Int), (0 : Int)))) ((0 : Int), ((0 : Int), (n, ((0 : Int), ((0 : Int), ((0 : Int), ((0 : Int), (0 : Int))))))))).2
              (.br ((v_cells_Addr ([((bs [97]), ((2 : Int), [])), ((bs [98]), ((IntKind.i64.wrap ((1 : Int) + (v_book_Pick size (64 : Int)))), []))], []) ((4 : Int), ((v_book_Pick reg (8 : Int)), ((1 : Int), (0 : Int)))) ((0 : Int), ((0 : Int), (n, ((0 : Int), ((0 : Int), ((0 : Int), ((0 : Int), (0 : Int))))))))).1 == (IntKind.i64.wrap ((2 : Int) + n)))
                (.br k_law11_alive
                  (.leaf v_law11_alive)
                (.no))
              (.leaf false))
            (.leaf false)))
          (.leaf false))
        (.no))
      (.br ((v_book_Pick reg (8 : Int)) == (1 : Int))
        (.br (k_cells_Addr ([((bs [97]), ((2 : Int), [])), ((bs [98]), ((IntKind.i64.wrap ((1 : Int) + (v_book_Pick size (64 : Int)))), []))], []) ((4 : Int), ((v_book_Pick reg (8 : Int)), ((1 : Int), (0 : Int)))) ((0 : Int), (n, ((0 : Int), ((0 : Int), ((0 : Int), ((0 : Int), ((0 : Int), (0 : Int)))))))))
          (.br ((v_cells_Addr ([((bs [97]), ((2 : Int), [])), ((bs [98]), ((IntKind.i64.wrap ((1 : Int) + (v_book_Pick size (64 : Int)))), []))], []) ((4 : Int), ((v_book_Pick reg (8 : Int)), ((1 : Int), (0 : Int)))) ((0 : Int), (n, ((0 : Int), ((0 : Int), ((0 : Int), ((0 : Int), ((0 : Int), (0 : Int))))))))).2 == (decide ((IntKind.u64.wrap n) < (IntKind.u64.wrap (IntKind.i64.wrap ((1 : Int) + (v_book_Pick size (64 : Int))))))))
            (.br (! (v_cells_Addr ([((bs [97]), ((2 : Int), [])), ((bs [98]), ((IntKind.i64.wrap ((1 : Int) + (v_book_Pick size (64 : Int)))), []))], []) ((4 : Int), ((v_book_Pick reg (8 : Int)), ((1 : Int), (0 : Int)))) ((0 : Int), (n, ((0 : Int), ((0 : Int), ((0 : Int), ((0 : Int), ((0 : Int), (0 : Int))))))))).2)
              (.br ((v_cells_Addr ([((bs [97]), ((2 : Int), [])), ((bs [98]), ((IntKind.i64.wrap ((1 : Int) + (v_book_Pick size (64 : Int)))), []))], []) ((4 : Int), ((v_book_Pick reg (8 : Int)), ((1 : Int), (0 : Int)))) ((0 : Int), (n, ((0 : Int), ((0 : Int), ((0 : Int), ((0 : Int), ((0 : Int), (0 : Int))))))))).1 == (0 : Int))
                (.br k_law11_alive
                  (.leaf v_law11_alive)
                (.no))
              (.br (v_cells_Addr ([((bs [97]), ((2 : Int), [])), ((bs [98]), ((IntKind.i64.wrap ((1 : Int) + (v_book_Pick size (64 : Int)))), []))], []) ((4 : Int), ((v_book_Pick reg (8 : Int)), ((1 : Int), (0 : Int)))) ((0 : Int), (n, ((0 : Int), ((0 : Int), ((0 : Int), ((0 : Int), ((0 : Int), (0 : Int))))))))).2
                (.br ((v_cells_Addr ([((bs [97]), ((2 : Int), [])), ((bs [98]), ((IntKind.i64.wrap ((1 : Int) + (v_book_Pick size (64 : Int)))), []))], []) ((4 : Int), ((v_book_Pick reg (8 : Int)), ((1 : Int), (0 : Int)))) ((0 : Int), (n, ((0 : Int), ((0 : Int), ((0 : Int), ((0 : Int), ((0 : Int), (0 : Int))))))))).1 == (IntKind.i64.wrap ((2 : Int) + n)))
                  (.br k_law11_alive
                    (.leaf v_law11_alive)
                  (.no))
                (.leaf false))
              (.leaf false)))
            (.br (v_cells_Addr ([((bs [97]), ((2 : Int), [])), ((bs [98]), ((IntKind.i64.wrap ((1 : Int) + (v_book_Pick size (64 : Int)))), []))], []) ((4 : Int), ((v_book_Pick reg (8 : Int)), ((1 : Int), (0 : Int)))) ((0 : Int), (n, ((0 : Int), ((0 : Int), ((0 : Int), ((0 : Int), ((0 : Int), (0 : Int))))))))).2
              (.br ((v_cells_Addr ([((bs [97]), ((2 : Int), [])), ((bs [98]), ((IntKind.i64.wrap ((1 : Int) + (v_book_Pick size (64 : Int)))), []))], []) ((4 : Int), ((v_book_Pick reg (8 : Int)), ((1 : Int), (0 : Int)))) ((0 : Int), (n, ((0 : Int), ((0 : Int), ((0 : Int), ((0 : Int), ((0 : Int), (0 : Int))))))))).1 == (IntKind.i64.wrap ((2 : Int) + n)))
                (.br k_law11_alive
                  (.leaf v_law11_alive)
                (.no))
              (.leaf false))
            (.leaf false)))
          (.leaf false))
        (.no))
      (.br ((v_book_Pick reg (8 : Int)) == (0 : Int))
        (.br (k_cells_Addr ([((bs [97]), ((2 : Int), [])), ((bs [98]), ((IntKind.i64.wrap ((1 : Int) + (v_book_Pick size (64 : Int)))), []))], []) ((4 : Int), ((v_book_Pick reg (8 : Int)), ((1 : Int), (0 : Int)))) (n, ((0 : Int), ((0 : Int), ((0 : Int), ((0 : Int), ((0 : Int), ((0 : Int), (0 : Int)))))))))
          (.br ((v_cells_Addr ([((bs [97]), ((2 : Int), [])), ((bs [98]), ((IntKind.i64.wrap ((1 : Int) + (v_book_Pick size (64 : Int)))), []))], []) ((4 : Int), ((v_book_Pick reg (8 : Int)), ((1 : Int), (0 : Int)))) (n, ((0 : Int), ((0 : Int), ((0 : Int), ((0 : Int), ((0 : Int), ((0 : Int), (0 : Int))))))))).2 == (decide ((IntKind.u64.wrap n) < (IntKind.u64.wrap (IntKind.i64.wrap ((1 : Int) + (v_book_Pick size (64 : Int))))))))
            (.br (! (v_cells_Addr ([((bs [97]), ((2 : Int), [])), ((bs [98]), ((IntKind.i64.wrap ((1 : Int) + (v_book_Pick size (64 : Int)))), []))], []) ((4 : Int), ((v_book_Pick reg (8 : Int)), ((1 : Int), (0 : Int)))) (n, ((0 : Int), ((0 : Int), ((0 : Int), ((0 : Int), ((0 : Int), ((0 : Int), (0 : Int))))))))).2)
              (.br ((v_cells_Addr ([((bs [97]), ((2 : Int), [])), ((bs [98]), ((IntKind.i64.wrap ((1 : Int) + (v_book_Pick size (64 : Int)))), []))], []) ((4 : Int), ((v_book_Pick reg (8 : Int)), ((1 : Int), (0 : Int)))) (n, ((0 : Int), ((0 : Int), ((0 : Int), ((0 : Int), ((0 : Int), ((0 : Int), (0 : Int))))))))).1 == (0 : Int))
                (.br k_law11_alive
                  (.leaf v_law11_alive)
                (.no))
              (.br (v_cells_Addr ([((bs [97]), ((2 : Int), [])), ((bs [98]), ((IntKind.i64.wrap ((1 : Int) + (v_book_Pick size (64 : Int)))), []))], []) ((4 : Int), ((v_book_Pick reg (8 : Int)), ((1 : Int), (0 : Int)))) (n, ((0 : Int), ((0 : Int), ((0 : Int), ((0 : Int), ((0 : Int), ((0 : Int), (0 : Int))))))))).2
                (.br ((v_cells_Addr ([((bs [97]), ((2 : Int), [])), ((bs [98]), ((IntKind.i64.wrap ((1 : Int) + (v_book_Pick size (64 : Int)))), []))], []) ((4 : Int), ((v_book_Pick reg (8 : Int)), ((1 : Int), (0 : Int)))) (n, ((0 : Int), ((0 : Int), ((0 : Int), ((0 : Int), ((0 : Int), ((0 : Int), (0 : Int))))))))).1 == (IntKind.i64.wrap ((2 : Int) + n)))
                  (.br k_law11_alive
                    (.leaf v_law11_alive)
                  (.no))
                (.leaf false))
              (.leaf false)))
            (.br (v_cells_Addr ([((bs [97]), ((2 : Int), [])), ((bs [98]), ((IntKind.i64.wrap ((1 : Int) + (v_book_Pick size (64 : Int)))), []))], []) ((4 : Int), ((v_book_Pick reg (8 : Int)), ((1 : Int), (0 : Int)))) (n, ((0 : Int), ((0 : Int), ((0 : Int), ((0 : Int), ((0 : Int), ((0 : Int), (0 : Int))))))))).2
              (.br ((v_cells_Addr ([((bs [97]), ((2 : Int), [])), ((bs [98]), ((IntKind.i64.wrap ((1 : Int) + (v_book_Pick size (64 : Int)))), []))], []) ((4 : Int), ((v_book_Pick reg (8 : Int)), ((1 : Int), (0 : Int)))) (n, ((0 : Int), ((0 : Int), ((0 : Int), ((0 : Int), ((0 : Int), ((0 : Int), (0 : Int))))))))).1 == (IntKind.i64.wrap ((2 : Int) + n)))
                (.br k_law11_alive
                  (.leaf v_law11_alive)
                (.no))
              (.leaf false))
            (.leaf false)))
          (.leaf false))
        (.no))
      (.no)))))))))
    (.no))
  (.no)
def v_law11_CellsBounds (size : Int) (n : Int) (reg : Int) : Bool :=
  bif (k_book_Pick size (64 : Int)) then
    bif (k_book_Pick reg (8 : Int)) then
      bif ((v_book_Pick reg (8 : Int)) == (7 : Int)) then
        bif (k_cells_Addr ([((bs [97]), ((2 : Int), [])), ((bs [98]), ((IntKind.i64.wrap ((1 : Int) + (v_book_Pick size (64 : Int)))), []))], []) ((4 : Int), ((v_book_Pick reg (8 : Int)), ((1 : Int), (0 : Int)))) ((0 : Int), ((0 : Int), ((0 : Int), ((0 : Int), ((0 : Int), ((0 : Int), ((0 : Int), n)))))))) then
          bif ((v_cells_Addr ([((bs [97]), ((2 : Int), [])), ((bs [98]), ((IntKind.i64.wrap ((1 : Int) + (v_book_Pick size (64 : Int)))), []))], []) ((4 : Int), ((v_book_Pick reg (8 : Int)), ((1 : Int), (0 : Int)))) ((0 : Int), ((0 : Int), ((0 : Int), ((0 : Int), ((0 : Int), ((0 : Int), ((0 : Int), n)))))))).2 == (decide ((IntKind.u64.wrap n) < (IntKind.u64.wrap (IntKind.i64.wrap ((1 : Int) + (v_book_Pick size (64 : Int)))))))) then
            bif (! (v_cells_Addr ([((bs [97]), ((2 : Int), [])), ((bs [98]), ((IntKind.i64.wrap ((1 : Int) + (v_book_Pick size (64 : Int)))), []))], []) ((4 : Int), ((v_book_Pick reg (8 : Int)), ((1 : Int), (0 : Int)))) ((0 : Int), ((0 : Int), ((0 : Int), ((0 : Int), ((0 : Int), ((0 : Int), ((0 : Int), n)))))))).2) then
              bif ((v_cells_Addr ([((bs [97]), ((2 : Int), [])), ((bs [98]), ((IntKind.i64.wrap ((1 : Int) + (v_book_Pick size (64 : Int)))), []))], []) ((4 : Int), ((v_book_Pick reg (8 : Int)), ((1 : Int), (0 : Int)))) ((0 : Int), ((0 : Int), ((0 : Int), ((0 : Int), ((0 : Int), ((0 : Int), ((0 : Int), n)))))))).1 == (0 : Int)) then
                bif k_law11_alive then
                  v_law11_alive
                else false
              else bif (v_cells_Addr ([((bs [97]), ((2 : Int), [])), ((bs [98]), ((IntKind.i64.wrap ((1 : Int) + (v_book_Pick size (64 : Int)))), []))], []) ((4 : Int), ((v_book_Pick reg (8 : Int)), ((1 : Int), (0 : Int)))) ((0 : Int), ((0 : Int), ((0 : Int), ((0 : Int), ((0 : Int), ((0 : Int), ((0 : Int), n)))))))).2 then
                bif ((v_cells_Addr ([((bs [97]), ((2 : Int), [])), ((bs [98]), ((IntKind.i64.wrap ((1 : Int) + (v_book_Pick size (64 : Int)))), []))], []) ((4 : Int), ((v_book_Pick reg (8 : Int)), ((1 : Int), (0 : Int)))) ((0 : Int), ((0 : Int), ((0 : Int), ((0 : Int), ((0 : Int), ((0 : Int), ((0 : Int), n)))))))).1 == (IntKind.i64.wrap ((2 : Int) + n))) then
                  bif k_law11_alive then
                    v_law11_alive
                  else false
                else false
              else false
            else bif (v_cells_Addr ([((bs [97]), ((2 : Int), [])), ((bs [98]), ((IntKind.i64.wrap ((1 : Int) + (v_book_Pick size (64 : Int)))), []))], []) ((4 : Int), ((v_book_Pick reg (8 : Int)), ((1 : Int), (0 : Int)))) ((0 : Int), ((0 : Int), ((0 : Int), ((0 : Int), ((0 : Int), ((0 : Int), ((0 : Int), n)))))))).2 then
              bif ((v_cells_Addr ([((bs [97]), ((2 : Int), [])), ((bs [98]), ((IntKind.i64.wrap ((1 : Int) + (v_book_Pick size (64 : Int)))), []))], []) ((4 : Int), ((v_book_Pick reg (8 : Int)), ((1 : Int), (0 : Int)))) ((0 : Int), ((0 : Int), ((0 : Int), ((0 : Int), ((0 : Int), ((0 : Int), ((0 : Int), n)))))))).1 == (IntKind.i64.wrap ((2 : Int) + n))) then
                bif k_law11_alive then
                  v_law11_alive
                else false
              else false
            else false
          else false
        else false
      else bif ((v_book_Pick reg (8 : Int)) == (6 : Int)) then
        bif (k_cells_Addr ([((bs [97]), ((2 : Int), [])), ((bs [98]), ((IntKind.i64.wrap ((1 : Int) + (v_book_Pick size (64 : Int)))), []))], []) ((4 : Int), ((v_book_Pick reg (8 : Int)), ((1 : Int), (0 : Int)))) ((0 : Int), ((0 : Int), ((0 : Int), ((0 : Int), ((0 : Int), ((0 : Int), (n, (0 : Int))))))))) then
          bif ((v_cells_Addr ([((bs [97]), ((2 : Int), [])), ((bs [98]), ((IntKind.i64.wrap ((1 : Int) + (v_book_Pick size (64 : Int)))), []))], []) ((4 : Int), ((v_book_Pick reg (8 : Int)), ((1 : Int), (0 : Int)))) ((0 : Int), ((0 : Int), ((0 : Int), ((0 : Int), ((0 : Int), ((0 : Int), (n, (0 : Int))))))))).2 == (decide ((IntKind.u64.wrap n) < (IntKind.u64.wrap (IntKind.i64.wrap ((1 : Int) + (v_book_Pick size (64 : Int)))))))) then
            bif (! (v_cells_Addr ([((bs [97]), ((2 : Int), [])), ((bs [98]), ((IntKind.i64.wrap ((1 : Int) + (v_book_Pick size (64 : Int)))), []))], []) ((4 : Int), ((v_book_Pick reg (8 : Int)), ((1 : Int), (0 : Int)))) ((0 : Int), ((0 : Int), ((0 : Int), ((0 : Int), ((0 : Int), ((0 : Int), (n, (0 : Int))))))))).2) then
              bif ((v_cells_Addr ([((bs [97]), ((2 : Int), [])), ((bs [98]), ((IntKind.i64.wrap ((1 : Int) + (v_book_Pick size (64 : Int)))), []))], []) ((4 : Int), ((v_book_Pick reg (8 : Int)), ((1 : Int), (0 : Int)))) ((0 : Int), ((0 : Int), ((0 : Int), ((0 : Int), ((0 : Int), ((0 : Int), (n, (0 : Int))))))))).1 == (0 : Int)) then
                bif k_law11_alive then
                  v_law11_alive
                else false
              else bif (v_cells_Addr ([((bs [97]), ((2 : Int), [])), ((bs [98]), ((IntKind.i64.wrap ((1 : Int) + (v_book_Pick size (64 : Int)))), []))], []) ((4 : Int), ((v_book_Pick reg (8 : Int)), ((1 : Int), (0 : Int)))) ((0 : Int), ((0 : Int), ((0 : Int), ((0 : Int), ((0 : Int), ((0 : Int), (n, (0 : Int))))))))).2 then
                bif ((v_cells_Addr ([((bs [97]), ((2 : Int), [])), ((bs [98]), ((IntKind.i64.wrap ((1 : Int) + (v_book_Pick size (64 : Int)))), []))], []) ((4 : Int), ((v_book_Pick reg (8 : Int)), ((1 : Int), (0 : Int)))) ((0 : Int), ((0 : Int), ((0 : Int), ((0 : Int), ((0 : Int), ((0 : Int), (n, (0 : Int))))))))).1 == (IntKind.i64.wrap ((2 : Int) + n))) then
                  bif k_law11_alive then
                    v_law11_alive
                  else false
                else false
              else false
            else bif (v_cells_Addr ([((bs [97]), ((2 : Int), [])), ((bs [98]), ((IntKind.i64.wrap ((1 : Int) + (v_book_Pick size (64 : Int)))), []))], []) ((4 : Int), ((v_book_Pick reg (8 : Int)), ((1 : Int), (0 : Int)))) ((0 : Int), ((0 : Int), ((0 : Int), ((0 : Int), ((0 : Int), ((0 : Int), (n, (0 : Int))))))))).2 then
              bif ((v_cells_Addr ([((bs [97]), ((2 : Int), [])), ((bs [98]), ((IntKind.i64.wrap ((1 : Int) + (v_book_Pick size (64 : Int)))), []))], []) ((4 : Int), ((v_book_Pick reg (8 : Int)), ((1 : Int), (0 : Int)))) ((0 : Int), ((0 : Int), ((0 : Int), ((0 : Int), ((0 : Int), ((0 : Int), (n, (0 : Int))))))))).1 == (IntKind.i64.wrap ((2 : Int) + n))) then
                bif k_law11_alive then
                  v_law11_alive
                else false
              else false
            else false
          else false
        else false
      else bif ((v_book_Pick reg (8 : Int)) == (5 : Int)) then
        bif (k_cells_Addr ([((bs [97]), ((2 : Int), [])), ((bs [98]), ((IntKind.i64.wrap ((1 : Int) + (v_book_Pick size (64 : Int)))), []))], []) ((4 : Int), ((v_book_Pick reg (8 : Int)), ((1 : Int), (0 : Int)))) ((0 : Int), ((0 : Int), ((0 : Int), ((0 : Int), ((0 : Int), (n, ((0 : Int), (0 : Int))))))))) then
          bif ((v_cells_Addr ([((bs [97]), ((2 : Int), [])), ((bs [98]), ((IntKind.i64.wrap ((1 : Int) + (v_book_Pick size (64 : Int)))), []))], []) ((4 : Int), ((v_book_Pick reg (8 : Int)), ((1 : Int), (0 : Int)))) ((0 : Int), ((0 : Int), ((0 : Int), ((0 : Int), ((0 : Int), (n, ((0 : Int), (0 : Int))))))))).2 == (decide ((IntKind.u64.wrap n) < (IntKind.u64.wrap (IntKind.i64.wrap ((1 : Int) + (v_book_Pick size (64 : Int)))))))) then
            bif (! (v_cells_Addr ([((bs [97]), ((2 : Int), [])), ((bs [98]), ((IntKind.i64.wrap ((1 : Int) + (v_book_Pick size (64 : Int)))), []))], []) ((4 : Int), ((v_book_Pick reg (8 : Int)), ((1 : Int), (0 : Int)))) ((0 : Int), ((0 : Int), ((0 : Int), ((0 : Int), ((0 : Int), (n, ((0 : Int), (0 : Int))))))))).2) then
              bif ((v_cells_Addr ([((bs [97]), ((2 : Int), [])), ((bs [98]), ((IntKind.i64.wrap ((1 : Int) + (v_book_Pick size (64 : Int)))), []))], []) ((4 : Int), ((v_book_Pick reg (8 : Int)), ((1 : Int), (0 : Int)))) ((0 : Int), ((0 : Int), ((0 : Int), ((0 : Int), ((0 : Int), (n, ((0 : Int), (0 : Int))))))))).1 == (0 : Int)) then
                bif k_law11_alive then
                  v_law11_alive
                else false
              else bif (v_cells_Addr ([((bs [97]), ((2 : Int), [])), ((bs [98]), ((IntKind.i64.wrap ((1 : Int) + (v_book_Pick size (64 : Int)))), []))], []) ((4 : Int), ((v_book_Pick reg (8 : Int)), ((1 : Int), (0 : Int)))) ((0 : Int), ((0 : Int), ((0 : Int), ((0 : Int), ((0 : Int), (n, ((0 : Int), (0 : Int))))))))).2 then
                bif ((v_cells_Addr ([((bs [97]), ((2 : Int), [])), ((bs [98]), ((IntKind.i64.wrap ((1 : Int) + (v_book_Pick size (64 : Int)))), []))], []) ((4 : Int), ((v_book_Pick reg (8 : Int)), ((1 : Int), (0 : Int)))) ((0 : Int), ((0 : Int), ((0 : Int), ((0 : Int), ((0 : Int), (n, ((0 : Int), (0 : Int))))))))).1 == (IntKind.i64.wrap ((2 : Int) + n))) then
                  bif k_law11_alive then
                    v_law11_alive
                  else false
                else false
              else false
            else bif (v_cells_Addr ([((bs [97]), ((2 : Int), [])), ((bs [98]), ((IntKind.i64.wrap ((1 : Int) + (v_book_Pick size (64 : Int)))), []))], []) ((4 : Int), ((v_book_Pick reg (8 : Int)), ((1 : Int), (0 : Int)))) ((0 : Int), ((0 : Int), ((0 : Int), ((0 : Int), ((0 : Int), (n, ((0 : Int), (0 : Int))))))))).2 then
              bif ((v_cells_Addr ([((bs [97]), ((2 : Int), [])), ((bs [98]), ((IntKind.i64.wrap ((1 : Int) + (v_book_Pick size (64 : Int)))), []))], []) ((4 : Int), ((v_book_Pick reg (8 : Int)), ((1 : Int), (0 : Int)))) ((0 : Int), ((0 : Int), ((0 : Int), ((0 : Int), ((0 : Int), (n, ((0 : Int), (0 : Int))))))))).1 == (IntKind.i64.wrap ((2 : Int) + n))) then
                bif k_law11_alive then
                  v_law11_alive
                else false
              else false
            else false
          else false
        else false
      else bif ((v_book_Pick reg (8 : Int)) == (4 : Int)) then
        bif (k_cells_Addr ([((bs [97]), ((2 : Int), [])), ((bs [98]), ((IntKind.i64.wrap ((1 : Int) + (v_book_Pick size (64 : Int)))), []))], []) ((4 : Int), ((v_book_Pick reg (8 : Int)), ((1 : Int), (0 : Int)))) ((0 : Int), ((0 : Int), ((0 : Int), ((0 : Int), (n, ((0 : Int), ((0 : Int), (0 : Int))))))))) then
          bif ((v_cells_Addr ([((bs [97]), ((2 : Int), [])), ((bs [98]), ((IntKind.i64.wrap ((1 : Int) + (v_book_Pick size (64 : Int)))), []))], []) ((4 : Int), ((v_book_Pick reg (8 : Int)), ((1 : Int), (0 : Int)))) ((0 : Int), ((0 : Int), ((0 : Int), ((0 : Int), (n, ((0 : Int), ((0 : Int), (0 : Int))))))))).2 == (decide ((IntKind.u64.wrap n) < (IntKind.u64.wrap (IntKind.i64.wrap ((1 : Int) + (v_book_Pick size (64 : Int)))))))) then
            bif (! (v_cells_Addr ([((bs [97]), ((2 : Int), [])), ((bs [98]), ((IntKind.i64.wrap ((1 : Int) + (v_book_Pick size (64 : Int)))), []))], []) ((4 : Int), ((v_book_Pick reg (8 : Int)), ((1 : Int), (0 : Int)))) ((0 : Int), ((0 : Int), ((0 : Int), ((0 : Int), (n, ((0 : Int), ((0 : Int), (0 : Int))))))))).2) then
              bif ((v_cells_Addr ([((bs [97]), ((2 : Int), [])), ((bs [98]), ((IntKind.i64.wrap ((1 : Int) + (v_book_Pick size (64 : Int)))), []))], []) ((4 : Int), ((v_book_Pick reg (8 : Int)), ((1 : Int), (0 : Int)))) ((0 : Int), ((0 : Int), ((0 : Int), ((0 : Int), (n, ((0 : Int), ((0 : Int), (0 : Int))))))))).1 == (0 : Int)) then
                bif k_law11_alive then
                  v_law11_alive
                else false
              else bif (v_cells_Addr ([((bs [97]), ((2 : Int), [])), ((bs [98]), ((IntKind.i64.wrap ((1 : Int) + (v_book_Pick size (64 : Int)))), []))], []) ((4 : Int), ((v_book_Pick reg (8 : Int)), ((1 : Int), (0 : Int)))) ((0 : Int), ((0 : Int), ((0 : Int), ((0 : Int), (n, ((0 : Int), ((0 : Int), (0 : Int))))))))).2 then
                bif ((v_cells_Addr ([((bs [97]), ((2 : Int), [])), ((bs [98]), ((IntKind.i64.wrap ((1 : Int) + (v_book_Pick size (64 : Int)))), []))], []) ((4 : Int), ((v_book_Pick reg (8 : Int)), ((1 : Int), (0 : Int)))) ((0 : Int), ((0 : Int), ((0 : Int), ((0 : Int), (n, ((0 : Int), ((0 : Int), (0 : Int))))))))).1 == (IntKind.i64.wrap ((2 : Int) + n))) then
                  bif k_law11_alive then
                    v_law11_alive
                  else false
                else false
              else false
            else bif (v_cells_Addr ([((bs [97]), ((2 : Int), [])), ((bs [98]), ((IntKind.i64.wrap ((1 : Int) + (v_book_Pick size (64 : Int)))), []))], []) ((4 : Int), ((v_book_Pick reg (8 : Int)), ((1 : Int), (0 : Int)))) ((0 : Int), ((0 : Int), ((0 : Int), ((0 : Int), (n, ((0 : Int), ((0 : Int), (0 : Int))))))))).2 then
              bif ((v_cells_Addr ([((bs [97]), ((2 : Int), [])), ((bs [98]), ((IntKind.i64.wrap ((1 : Int) + (v_book_Pick size (64 : Int)))), []))], []) ((4 : Int), ((v_book_Pick reg (8 : Int)), ((1 : Int), (0 : Int)))) ((0 : Int), ((0 : Int), ((0 : Int), ((0 : Int), (n, ((0 : Int), ((0 : Int), (0 : Int))))))))).1 == (IntKind.i64.wrap ((2 : Int) + n))) then
                bif k_law11_alive then
                  v_law11_alive
                else false
              else false
            else false
          else false
        else false
      else bif ((v_book_Pick reg (8 : Int)) == (3 : Int)) then
        bif (k_cells_Addr ([((bs [97]), ((2 : Int), [])), ((bs [98]), ((IntKind.i64.wrap ((1 : Int) + (v_book_Pick size (64 : Int)))), []))], []) ((4 : Int), ((v_book_Pick reg (8 : Int)), ((1 : Int), (0 : Int)))) ((0 : Int), ((0 : Int), ((0 : Int), (n, ((0 : Int), ((0 : Int), ((0 : Int), (0 : Int))))))))) then
          bif ((v_cells_Addr ([((bs [97]), ((2 : Int), [])), ((bs [98]), ((IntKind.i64.wrap ((1 : Int) + (v_book_Pick size (64 : Int)))), []))], []) ((4 : Int), ((v_book_Pick reg (8 : Int)), ((1 : Int), (0 : Int)))) ((0 : Int), ((0 : Int), ((0 : Int), (n, ((0 : Int), ((0 : Int), ((0 : Int), (0 : Int))))))))).2 == (decide ((IntKind.u64.wrap n) < (IntKind.u64.wrap (IntKind.i64.wrap ((1 : Int) + (v_book_Pick size (64 : Int)))))))) then
            bif (! (v_cells_Addr ([((bs [97]), ((2 : Int), [])), ((bs [98]), ((IntKind.i64.wrap ((1 : Int) + (v_book_Pick size (64 : Int)))), []))], []) ((4 : Int), ((v_book_Pick reg (8 : Int)), ((1 : Int), (0 : Int)))) ((0 : Int), ((0 : Int), ((0 : Int), (n, ((0 : Int), ((0 : Int), ((0 : Int), (0 : Int))))))))).2) then
              bif ((v_cells_Addr ([((bs [97]), ((2 : Int), [])), ((bs [98]), ((IntKind.i64.wrap ((1 : Int) + (v_book_Pick size (64 : Int)))), []))], []) ((4 : Int), ((v_book_Pick reg (8 : Int)), ((1 : Int), (0 : Int)))) ((0 : Int), ((0 : Int), ((0 : Int), (n, ((0 : Int), ((0 : Int), ((0 : Int), (0 : Int))))))))).1 == (0 : Int)) then
                bif k_law11_alive then
                  v_law11_alive
                else false
              else bif (v_cells_Addr ([((bs [97]), ((2 : Int), [])), ((bs [98]), ((IntKind.i64.wrap ((1 : Int) + (v_book_Pick size (64 : Int)))), []))], []) ((4 : Int), ((v_book_Pick reg (8 : Int)), ((1 : Int), (0 : Int)))) ((0 : Int), ((0 : Int), ((0 : Int), (n, ((0 : Int), ((0 : Int), ((0 : Int), (0 : Int))))))))).2 then
                bif ((v_cells_Addr ([((bs [97]), ((2 : Int), [])), ((bs [98]), ((IntKind.i64.wrap ((1 : Int) + (v_book_Pick size (64 : Int)))), []))], []) ((4 : Int), ((v_book_Pick reg (8 : Int)), ((1 : Int), (0 : Int)))) ((0 : Int), ((0 : Int), ((0 : Int), (n, ((0 : Int), ((0 : Int), ((0 : Int), (0 : Int))))))))).1 == (IntKind.i64.wrap ((2 : Int) + n))) then
                  bif k_law11_alive then
                    v_law11_alive
                  else false
                else false
              else false
            else bif (v_cells_Addr ([((bs [97]), ((2 : Int), [])), ((bs [98]), ((IntKind.i64.wrap ((1 : Int) + (v_book_Pick size (64 : Int)))), []))], []) ((4 : Int), ((v_book_Pick reg (8 : Int)), ((1 : Int), (0 : Int)))) ((0 : Int), ((0 : Int), ((0 : Int), (n, ((0 : Int), ((0 : Int), ((0 : Int), (0 : Int))))))))).2 then
              bif ((v_cells_Addr ([((bs [97]), ((2 : Int), [])), ((bs [98]), ((IntKind.i64.wrap ((1 : Int) + (v_book_Pick size (64 : Int)))), []))], []) ((4 : Int), ((v_book_Pick reg (8 : Int)), ((1 : Int), (0 : Int)))) ((0 : Int), ((0 : Int), ((0 : Int), (n, ((0 : Int), ((0 : Int), ((0 : Int), (0 : Int))))))))).1 == (IntKind.i64.wrap ((2 : Int) + n))) then
                bif k_law11_alive then
                  v_law11_alive
                else false
              else false
            else false
          else false
        else false
      else bif ((v_book_Pick reg (8 : Int)) == (2 : Int)) then
        bif (k_cells_Addr ([((bs [97]), ((2 : Int), [])), ((bs [98]), ((IntKind.i64.wrap ((1 : Int) + (v_book_Pick size (64 : Int)))), []))], []) ((4 : Int), ((v_book_Pick reg (8 : Int)), ((1 : Int), (0 : Int)))) ((0 : Int), ((0 : Int), (n, ((0 : Int), ((0 : Int), ((0 : Int), ((0 : Int), (0 : Int))))))))) then
          bif ((v_cells_Addr ([((bs [97]), ((2 : Int), [])), ((bs [98]), ((IntKind.i64.wrap ((1 : Int) + (v_book_Pick size (64 : Int)))), []))], []) ((4 : Int), ((v_book_Pick reg (8 : Int)), ((1 : Int), (0 : Int)))) ((0 : Int), ((0 : Int), (n, ((0 : Int), ((0 : Int), ((0 : Int), ((0 : Int), (0 : Int))))))))).2 == (decide ((IntKind.u64.wrap n) < (IntKind.u64.wrap (IntKind.i64.wrap ((1 : Int) + (v_book_Pick size (64 : Int)))))))) then
            bif (! (v_cells_Addr ([((bs [97]), ((2 : Int), [])), ((bs [98]), ((IntKind.i64.wrap ((1 : Int) + (v_book_Pick size (64 : Int)))), []))], []) ((4 : Int), ((v_book_Pick reg (8 : Int)), ((1 : Int), (0 : Int)))) ((0 : Int), ((0 : Int), (n, ((0 : Int), ((0 : Int), ((0 : Int), ((0 : Int), (0 : Int))))))))).2) then
              bif ((v_cells_Addr ([((bs [97]), ((2 : Int), [])), ((bs [98]), ((IntKind.i64.wrap ((1 : Int) + (v_book_Pick size (64 : Int)))), []))], []) ((4 : Int), ((v_book_Pick reg (8 : Int)), ((1 : Int), (0 : Int)))) ((0 : Int), ((0 : Int), (n, ((0 : Int), ((0 : Int), ((0 : Int), ((0 : Int), (0 : Int))))))))).1 == (0 : Int)) then
                bif k_law11_alive then
                  v_law11_alive
                else false
              else bif (v_cells_Addr ([((bs [97]), ((2 : Int), [])), ((bs [98]), ((IntKind.i64.wrap ((1 : Int) + (v_book_Pick size (64 : Int)))), []))], []) ((4 : Int), ((v_book_Pick reg (8 : Int)), ((1 : Int), (0 : Int)))) ((0 : Int), ((0 : Int), (n, ((0 : Int), ((0 : Int), ((0 : Int), ((0 : Int), (0 : Int))))))))).2 then
                bif ((v_cells_Addr ([((bs [97]), ((2 : Int), [])), ((bs [98]), ((IntKind.i64.wrap ((1 : Int) + (v_book_Pick size (64 : Int)))), []))], []) ((4 : Int), ((v_book_Pick reg (8 : Int)), ((1 : Int), (0 : Int)))) ((0 : Int), ((0 : Int), (n, ((0 : Int), ((0 : Int), ((0 : Int), ((0 : Int), (0 : Int))))))))).1 == (IntKind.i64.wrap ((2 : Int) + n))) then
                  bif k_law11_alive then
                    v_law11_alive
                  else false
                else false
              else false
            else bif (v_cells_Addr ([((bs [97]), ((2 : Int), [])), ((bs [98]), ((IntKind.i64.wrap ((1 : Int) + (v_book_Pick size (64 : Int)))), []))], []) ((4 : Int), ((v_book_Pick reg (8 : Int)), ((1 : Int), (0 : Int)))) ((0 : Int), ((0 : Int), (n, ((0 : Int), ((0 : Int), ((0 : Int), ((0 : Int), (0 : Int))))))))).2 then
              bif ((v_cells_Addr ([((bs [97]), ((2 : Int), [])), ((bs [98]), ((IntKind.i64.wrap ((1 : Int) + (v_book_Pick size (64 : Int)))), []))], []) ((4 : Int), ((v_book_Pick reg (8 : Int)), ((1 : Int), (0 : Int)))) ((0 : Int), ((0 : Int), (n, ((0 : Int), ((0 : Int), ((0 : Int), ((0 : Int), (0 : Int))))))))).1 == (IntKind.i64.wrap ((2 : Int) + n))) then
                bif k_law11_alive then
                  v_law11_alive
                else false
              else false
            else false
          else false
        else false
      else bif ((v_book_Pick reg (8 : Int)) == (1 : Int)) then
        bif (k_cells_Addr ([((bs [97]), ((2 : Int), [])), ((bs [98]), ((IntKind.i64.wrap ((1 : Int) + (v_book_Pick size (64 : Int)))), []))], []) ((4 : Int), ((v_book_Pick reg (8 : Int)), ((1 : Int), (0 : Int)))) ((0 : Int), (n, ((0 : Int), ((0 : Int), ((0 : Int), ((0 : Int), ((0 : Int), (0 : Int))))))))) then
          bif ((v_cells_Addr ([((bs [97]), ((2 : Int), [])), ((bs [98]), ((IntKind.i64.wrap ((1 : Int) + (v_book_Pick size (64 : Int)))), []))], []) ((4 : Int), ((v_book_Pick reg (8 : Int)), ((1 : Int), (0 : Int)))) ((0 : Int), (n, ((0 : Int), ((0 : Int), ((0 : Int), ((0 : Int), ((0 : Int), (0 : Int))))))))).2 == (decide ((IntKind.u64.wrap n) < (IntKind.u64.wrap (IntKind.i64.wrap ((1 : Int) + (v_book_Pick size (64 : Int)))))))) then
            bif (! (v_cells_Addr ([((bs [97]), ((2 : Int), [])), ((bs [98]), ((IntKind.i64.wrap ((1 : Int) + (v_book_Pick size (64 : Int)))), []))], []) ((4 : Int), ((v_book_Pick reg (8 : Int)), ((1 : Int), (0 : Int)))) ((0 : Int), (n, ((0 : Int), ((0 : Int), ((0 : Int), ((0 : Int), ((0 : Int), (0 : Int))))))))).2) then
              bif ((v_cells_Addr ([((bs [97]), ((2 : Int), [])), ((bs [98]), ((IntKind.i64.wrap ((1 : Int) + (v_book_Pick size (64 : Int)))), []))], []) ((4 : Int), ((v_book_Pick reg (8 : Int)), ((1 : Int), (0 : Int)))) ((0 : Int), (n, ((0 : Int), ((0 : Int), ((0 : Int), ((0 : Int), ((0 : Int), (0 : Int))))))))).1 == (0 : Int)) then
                bif k_law11_alive then
                  v_law11_alive
                else false
              else bif (v_cells_Addr ([((bs [97]), ((2 : Int), [])), ((bs [98]), ((IntKind.i64.wrap ((1 : Int) + (v_book_Pick size (64 : Int)))), []))], []) ((4 : Int), ((v_book_Pick reg (8 : Int)), ((1 : Int), (0 : Int)))) ((0 : Int), (n, ((0 : Int), ((0 : Int), ((0 : Int), ((0 : Int), ((0 : Int), (0 : Int))))))))).2 then
                bif ((v_cells_Addr ([((bs [97]), ((2 : Int), [])), ((bs [98]), ((IntKind.i64.wrap ((1 : Int) + (v_book_Pick size (64 : Int)))), []))], []) ((4 : Int), ((v_book_Pick reg (8 : Int)), ((1 : Int), (0 : Int)))) ((0 : Int), (n, ((0 : Int), ((0 : Int), ((0 : Int), ((0 : Int), ((0 : Int), (0 : Int))))))))).1 == (IntKind.i64.wrap ((2 : Int) + n))) then
                  bif k_law11_alive then
                    v_law11_alive
                  else false
                else false
              else false
            else bif (v_cells_Addr ([((bs [97]), ((2 : Int), [])), ((bs [98]), ((IntKind.i64.wrap ((1 : Int) + (v_book_Pick size (64 : Int)))), []))], []) ((4 : Int), ((v_book_Pick reg (8 : Int)), ((1 : Int), (0 : Int)))) ((0 : Int), (n, ((0 : Int), ((0 : Int), ((0 : Int), ((0 : Int), ((0 : Int), (0 : Int))))))))).2 then
              bif ((v_cells_Addr ([((bs [97]), ((2 : Int), [])), ((bs [98]), ((IntKind.i64.wrap ((1 : Int) + (v_book_Pick size (64 : Int)))), []))], []) ((4 : Int), ((v_book_Pick reg (8 : Int)), ((1 : Int), (0 : Int)))) ((0 : Int), (n, ((0 : Int), ((0 : Int), ((0 : Int), ((0 : Int), ((0 : Int), (0 : Int))))))))).1 == (IntKind.i64.wrap ((2 : Int) + n))) then
                bif k_law11_alive then
                  v_law11_alive
                else false
              else false
            else false
          else false
        else false
      else bif ((v_book_Pick reg (8 : Int)) == (0 : Int)) then
        bif (k_cells_Addr ([((bs [97]), ((2 : Int), [])), ((bs [98]), ((IntKind.i64.wrap ((1 : Int) + (v_book_Pick size (64 : Int)))), []))], []) ((4 : Int), ((v_book_Pick reg (8 : Int)), ((1 : Int), (0 : Int)))) (n, ((0 : Int), ((0 : Int), ((0 : Int), ((0 : Int), ((0 : Int), ((0 : Int), (0 : Int))))))))) then
          bif ((v_cells_Addr ([((bs [97]), ((2 : Int), [])), ((bs [98]), ((IntKind.i64.wrap ((1 : Int) + (v_book_Pick size (64 : Int)))), []))], []) ((4 : Int), ((v_book_Pick reg (8 : Int)), ((1 : Int), (0 : Int)))) (n, ((0 : Int), ((0 : Int), ((0 : Int), ((0 : Int), ((0 : Int), ((0 : Int), (0 : Int))))))))).2 == (decide ((IntKind.u64.wrap n) < (IntKind.u64.wrap (IntKind.i64.wrap ((1 : Int) + (v_book_Pick size (64 : Int)))))))) then
            bif (! (v_cells_Addr ([((bs [97]), ((2 : Int), [])), ((bs [98]), ((IntKind.i64.wrap ((1 : Int) + (v_book_Pick size (64 : Int)))), []))], []) ((4 : Int), ((v_book_Pick reg (8 : Int)), ((1 : Int), (0 : Int)))) (n, ((0 : Int), ((0 : Int), ((0 : Int), ((0 : Int), ((0 : Int), ((0 : Int), (0 : Int))))))))).2) then
              bif ((v_cells_Addr ([((bs [97]), ((2 : Int), [])), ((bs [98]), ((IntKind.i64.wrap ((1 : Int) + (v_book_Pick size (64 : Int)))), []))], []) ((4 : Int), ((v_book_Pick reg (8 : Int)), ((1 : Int), (0 : Int)))) (n, ((0 : Int), ((0 : Int), ((0 : Int), ((0 : Int), ((0 : Int), ((0 : Int), (0 : Int))))))))).1 == (0 : Int)) then
                bif k_law11_alive then
                  v_law11_alive
                else false
              else bif (v_cells_Addr ([((bs [97]), ((2 : Int), [])), ((bs [98]), ((IntKind.i64.wrap ((1 : Int) + (v_book_Pick size (64 : Int)))), []))], []) ((4 : Int), ((v_book_Pick reg (8 : Int)), ((1 : Int), (0 : Int)))) (n, ((0 : Int), ((0 : Int), ((0 : Int), ((0 : Int), ((0 : Int), ((0 : Int), (0 : Int))))))))).2 then
                bif ((v_cells_Addr ([((bs [97]), ((2 : Int), [])), ((bs [98]), ((IntKind.i64.wrap ((1 : Int) + (v_book_Pick size (64 : Int)))), []))], []) ((4 : Int), ((v_book_Pick reg (8 : Int)), ((1 : Int), (0 : Int)))) (n, ((0 : Int), ((0 : Int), ((0 : Int), ((0 : Int), ((0 : Int), ((0 : Int), (0 : Int))))))))).1 == (IntKind.i64.wrap ((2 : Int) + n))) then
                  bif k_law11_alive then
                    v_law11_alive
                  else false
                else false
              else false
            else bif (v_cells_Addr ([((bs [97]), ((2 : Int), [])), ((bs [98]), ((IntKind.i64.wrap ((1 : Int) + (v_book_Pick size (64 : Int)))), []))], []) ((4 : Int), ((v_book_Pick reg (8 : Int)), ((1 : Int), (0 : Int)))) (n, ((0 : Int), ((0 : Int), ((0 : Int), ((0 : Int), ((0 : Int), ((0 : Int), (0 : Int))))))))).2 then
              bif ((v_cells_Addr ([((bs [97]), ((2 : Int), [])), ((bs [98]), ((IntKind.i64.wrap ((1 : Int) + (v_book_Pick size (64 : Int)))), []))], []) ((4 : Int), ((v_book_Pick reg (8 : Int)), ((1 : Int), (0 : Int)))) (n, ((0 : Int), ((0 : Int), ((0 : Int), ((0 : Int), ((0 : Int), ((0 : Int), (0 : Int))))))))).1 == (IntKind.i64.wrap ((2 : Int) + n))) then
                bif k_law11_alive then
                  v_law11_alive
                else false
              else false
            else false
          else false
        else false
      else false
    else false
  else false
def k_law11_CellsBounds (size : Int) (n : Int) (reg : Int) : Bool :=
  bif (k_book_Pick size (64 : Int)) then
    bif (k_book_Pick reg (8 : Int)) then
      bif ((v_book_Pick reg (8 : Int)) == (7 : Int)) then
        bif (k_cells_Addr ([((bs [97]), ((2 : Int), [])), ((bs [98]), ((IntKind.i64.wrap ((1 : Int) + (v_book_Pick size (64 : Int)))), []))], []) ((4 : Int), ((v_book_Pick reg (8 : Int)), ((1 : Int), (0 : Int)))) ((0 : Int), ((0 : Int), ((0 : Int), ((0 : Int), ((0 : Int), ((0 : Int), ((0 : Int), n)))))))) then
          bif ((v_cells_Addr ([((bs [97]), ((2 : Int), [])), ((bs [98]), ((IntKind.i64.wrap ((1 : Int) + (v_book_Pick size (64 : Int)))), []))], []) ((4 : Int), ((v_book_Pick reg (8 : Int)), ((1 : Int), (0 : Int)))) ((0 : Int), ((0 : Int), ((0 : Int), ((0 : Int), ((0 : Int), ((0 : Int), ((0 : Int), n)))))))).2 == (decide ((IntKind.u64.wrap n) < (IntKind.u64.wrap (IntKind.i64.wrap ((1 : Int) + (v_book_Pick size (64 : Int)))))))) then
            bif (! (v_cells_Addr ([((bs [97]), ((2 : Int), [])), ((bs [98]), ((IntKind.i64.wrap ((1 : Int) + (v_book_Pick size (64 : Int)))), []))], []) ((4 : Int), ((v_book_Pick reg (8 : Int)), ((1 : Int), (0 : Int)))) ((0 : Int), ((0 : Int), ((0 : Int), ((0 : Int), ((0 : Int), ((0 : Int), ((0 : Int), n)))))))).2) then
              bif ((v_cells_Addr ([((bs [97]), ((2 : Int), [])), ((bs [98]), ((IntKind.i64.wrap ((1 : Int) + (v_book_Pick size (64 : Int)))), []))], []) ((4 : Int), ((v_book_Pick reg (8 : Int)), ((1 : Int), (0 : Int)))) ((0 : Int), ((0 : Int), ((0 : Int), ((0 : Int), ((0 : Int), ((0 : Int), ((0 : Int), n)))))))).1 == (0 : Int)) then
                bif k_law11_alive then
                  true
                else false
              else bif (v_cells_Addr ([((bs [97]), ((2 : Int), [])), ((bs [98]), ((IntKind.i64.wrap ((1 : Int) + (v_book_Pick size (64 : Int)))), []))], []) ((4 : Int), ((v_book_Pick reg (8 : Int)), ((1 : Int), (0 : Int)))) ((0 : Int), ((0 : Int), ((0 : Int), ((0 : Int), ((0 : Int), ((0 : Int), ((0 : Int), n)))))))).2 then
                bif ((v_cells_Addr ([((bs [97]), ((2 : Int), [])), ((bs [98]), ((IntKind.i64.wrap ((1 : Int) + (v_book_Pick size (64 : Int)))), []))], []) ((4 : Int), ((v_book_Pick reg (8 : Int)), ((1 : Int), (0 : Int)))) ((0 : Int), ((0 : Int), ((0 : Int), ((0 : Int), ((0 : Int), ((0 : Int), ((0 : Int), n)))))))).1 == (IntKind.i64.wrap ((2 : Int) + n))) then
                  bif k_law11_alive then
                    true
                  else false
                else true
              else true
            else bif (v_cells_Addr ([((bs [97]), ((2 : Int), [])), ((bs [98]), ((IntKind.i64.wrap ((1 : Int) + (v_book_Pick size (64 : Int)))), []))], []) ((4 : Int), ((v_book_Pick reg (8 : Int)), ((1 : Int), (0 : Int)))) ((0 : Int), ((0 : Int), ((0 : Int), ((0 : Int), ((0 : Int), ((0 : Int), ((0 : Int), n)))))))).2 then
              bif ((v_cells_Addr ([((bs [97]), ((2 : Int), [])), ((bs [98]), ((IntKind.i64.wrap ((1 : Int) + (v_book_Pick size (64 : Int)))), []))], []) ((4 : Int), ((v_book_Pick reg (8 : Int)), ((1 : Int), (0 : Int)))) ((0 : Int), ((0 : Int), ((0 : Int), ((0 : Int), ((0 : Int), ((0 : Int), ((0 : Int), n)))))))).1 == (IntKind.i64.wrap ((2 : Int) + n))) then
                bif k_law11_alive then
                  true
                else false
              else true
            else true
          else true
        else false
      else bif ((v_book_Pick reg (8 : Int)) == (6 : Int)) then
        bif (k_cells_Addr ([((bs [97]), ((2 : Int), [])), ((bs [98]), ((IntKind.i64.wrap ((1 : Int) + (v_book_Pick size (64 : Int)))), []))], []) ((4 : Int), ((v_book_Pick reg (8 : Int)), ((1 : Int), (0 : Int)))) ((0 : Int), ((0 : Int), ((0 : Int), ((0 : Int), ((0 : Int), ((0 : Int), (n, (0 : Int))))))))) then
          bif ((v_cells_Addr ([((bs [97]), ((2 : Int), [])), ((bs [98]), ((IntKind.i64.wrap ((1 : Int) + (v_book_Pick size (64 : Int)))), []))], []) ((4 : Int), ((v_book_Pick reg (8 : Int)), ((1 : Int), (0 : Int)))) ((0 : Int), ((0 : Int), ((0 : Int), ((0 : Int), ((0 : Int), ((0 : Int), (n, (0 : Int))))))))).2 == (decide ((IntKind.u64.wrap n) < (IntKind.u64.wrap (IntKind.i64.wrap ((1 : Int) + (v_book_Pick size (64 : Int)))))))) then
            bif (! (v_cells_Addr ([((bs [97]), ((2 : Int), [])), ((bs [98]), ((IntKind.i64.wrap ((1 : Int) + (v_book_Pick size (64 : Int)))), []))], []) ((4 : Int), ((v_book_Pick reg (8 : Int)), ((1 : Int), (0 : Int)))) ((0 : Int), ((0 : Int), ((0 : Int), ((0 : Int), ((0 : Int), ((0 : Int), (n, (0 : Int))))))))).2) then
              bif ((v_cells_Addr ([((bs [97]), ((2 : Int), [])), ((bs [98]), ((IntKind.i64.wrap ((1 : Int) + (v_book_Pick size (64 : Int)))), []))], []) ((4 : Int), ((v_book_Pick reg (8 : Int)), ((1 : Int), (0 : Int)))) ((0 : Int), ((0 : Int), ((0 : Int), ((0 : Int), ((0 : Int), ((0 : Int), (n, (0 : Int))))))))).1 == (0 : Int)) then
                bif k_law11_alive then
                  true
                else false
              else bif (v_cells_Addr ([((bs [97]), ((2 : Int), [])), ((bs [98]), ((IntKind.i64.wrap ((1 : Int) + (v_book_Pick size (64 : Int)))), []))], []) ((4 : Int), ((v_book_Pick reg (8 : Int)), ((1 : Int), (0 : Int)))) ((0 : Int), ((0 : Int), ((0 : Int), ((0 : Int), ((0 : Int), ((0 : Int), (n, (0 : Int))))))))).2 then
                bif ((v_cells_Addr ([((bs [97]), ((2 : Int), [])), ((bs [98]), ((IntKind.i64.wrap ((1 : Int) + (v_book_Pick size (64 : Int)))), []))], []) ((4 : Int), ((v_book_Pick reg (8 : Int)), ((1 : Int), (0 : Int)))) ((0 : Int), ((0 : Int), ((0 : Int), ((0 : Int), ((0 : Int), ((0 : Int), (n, (0 : Int))))))))).1 == (IntKind.i64.wrap ((2 : Int) + n))) then
                  bif k_law11_alive then
                    true
                  else false
                else true
              else true
            else bif (v_cells_Addr ([((bs [97]), ((2 : Int), [])), ((bs [98]), ((IntKind.i64.wrap ((1 : Int) + (v_book_Pick size (64 : Int)))), []))], []) ((4 : Int), ((v_book_Pick reg (8 : Int)), ((1 : Int), (0 : Int)))) ((0 : Int), ((0 : Int), ((0 : Int), ((0 : Int), ((0 : Int), ((0 : Int), (n, (0 : Int))))))))).2 then
              bif ((v_cells_Addr ([((bs [97]), ((2 : Int), [])), ((bs [98]), ((IntKind.i64.wrap ((1 : Int) + (v_book_Pick size (64 : Int)))), []))], []) ((4 : Int), ((v_book_Pick reg (8 : Int)), ((1 : Int), (0 : Int)))) ((0 : Int), ((0 : Int), ((0 : Int), ((0 : Int), ((0 : Int), ((0 : Int), (n, (0 : Int))))))))).1 == (IntKind.i64.wrap ((2 : Int) + n))) then
                bif k_law11_alive then
                  true
                else false
              else true
            else true
          else true
        else false
      else bif ((v_book_Pick reg (8 : Int)) == (5 : Int)) then
        bif (k_cells_Addr ([((bs [97]), ((2 : Int), [])), ((bs [98]), ((IntKind.i64.wrap ((1 : Int) + (v_book_Pick size (64 : Int)))), []))], []) ((4 : Int), ((v_book_Pick reg (8 : Int)), ((1 : Int), (0 : Int)))) ((0 : Int), ((0 : Int), ((0 : Int), ((0 : Int), ((0 : Int), (n, ((0 : Int), (0 : Int))))))))) then
          bif ((v_cells_Addr ([((bs [97]), ((2 : Int), [])), ((bs [98]), ((IntKind.i64.wrap ((1 : Int) + (v_book_Pick size (64 : Int)))), []))], []) ((4 : Int), ((v_book_Pick reg (8 : Int)), ((1 : Int), (0 : Int)))) ((0 : Int), ((0 : Int), ((0 : Int), ((0 : Int), ((0 : Int), (n, ((0 : Int), (0 : Int))))))))).2 == (decide ((IntKind.u64.wrap n) < (IntKind.u64.wrap (IntKind.i64.wrap ((1 : Int) + (v_book_Pick size (64 : Int)))))))) then
            bif (! (v_cells_Addr ([((bs [97]), ((2 : Int), [])), ((bs [98]), ((IntKind.i64.wrap ((1 : Int) + (v_book_Pick size (64 : Int)))), []))], []) ((4 : Int), ((v_book_Pick reg (8 : Int)), ((1 : Int), (0 : Int)))) ((0 : Int), ((0 : Int), ((0 : Int), ((0 : Int), ((0 : Int), (n, ((0 : Int), (0 : Int))))))))).2) then
              bif ((v_cells_Addr ([((bs [97]), ((2 : Int), [])), ((bs [98]), ((IntKind.i64.wrap ((1 : Int) + (v_book_Pick size (64 : Int)))), []))], []) ((4 : Int), ((v_book_Pick reg (8 : Int)), ((1 : Int), (0 : Int)))) ((0 : Int), ((0 : Int), ((0 : Int), ((0 : Int), ((0 : Int), (n, ((0 : Int), (0 : Int))))))))).1 == (0 : Int)) then
                bif k_law11_alive then
                  true
                else false
              else bif (v_cells_Addr ([((bs [97]), ((2 : Int), [])), ((bs [98]), ((IntKind.i64.wrap ((1 : Int) + (v_book_Pick size (64 : Int)))), []))], []) ((4 : Int), ((v_book_Pick reg (8 : Int)), ((1 : Int), (0 : Int)))) ((0 : Int), ((0 : Int), ((0 : Int), ((0 : Int), ((0 : Int), (n, ((0 : Int), (0 : Int))))))))).2 then
                bif ((v_cells_Addr ([((bs [97]), ((2 : Int), [])), ((bs [98]), ((IntKind.i64.wrap ((1 : Int) + (v_book_Pick size (64 : Int)))), []))], []) ((4 : Int), ((v_book_Pick reg (8 : Int)), ((1 : Int), (0 : Int)))) ((0 : Int), ((0 : Int), ((0 : Int), ((0 : Int), ((0 : Int), (n, ((0 : Int), (0 : Int))))))))).1 == (IntKind.i64.wrap ((2 : Int) + n))) then
                  bif k_law11_alive then
                    true
                  else false
                else true
              else true
            else bif (v_cells_Addr ([((bs [97]), ((2 : Int), [])), ((bs [98]), ((IntKind.i64.wrap ((1 : Int) + (v_book_Pick size (64 : Int)))), []))], []) ((4 : Int), ((v_book_Pick reg (8 : Int)), ((1 : Int), (0 : Int)))) ((0 : Int), ((0 : Int), ((0 : Int), ((0 : Int), ((0 : Int), (n, ((0 : Int), (0 : Int))))))))).2 then
              bif ((v_cells_Addr ([((bs [97]), ((2 : Int), [])), ((bs [98]), ((IntKind.i64.wrap ((1 : Int) + (v_book_Pick size (64 : Int)))), []))], []) ((4 : Int), ((v_book_Pick reg (8 : Int)), ((1 : Int), (0 : Int)))) ((0 : Int), ((0 : Int), ((0 : Int), ((0 : Int), ((0 : Int), (n, ((0 : Int), (0 : Int))))))))).1 == (IntKind.i64.wrap ((2 : Int) + n))) then
                bif k_law11_alive then
                  true
                else false
              else true
            else true
          else true
        else false
      else bif ((v_book_Pick reg (8 : Int)) == (4 : Int)) then
        bif (k_cells_Addr ([((bs [97]), ((2 : Int), [])), ((bs [98]), ((IntKind.i64.wrap ((1 : Int) + (v_book_Pick size (64 : Int)))), []))], []) ((4 : Int), ((v_book_Pick reg (8 : Int)), ((1 : Int), (0 : Int)))) ((0 : Int), ((0 : Int), ((0 : Int), ((0 : Int), (n, ((0 : Int), ((0 : Int), (0 : Int))))))))) then
          bif ((v_cells_Addr ([((bs [97]), ((2 : Int), [])), ((bs [98]), ((IntKind.i64.wrap ((1 : Int) + (v_book_Pick size (64 : Int)))), []))], []) ((4 : Int), ((v_book_Pick reg (8 : Int)), ((1 : Int), (0 : Int)))) ((0 : Int), ((0 : Int), ((0 : Int), ((0 : Int), (n, ((0 : Int), ((0 : Int), (0 : Int))))))))).2 == (decide ((IntKind.u64.wrap n) < (IntKind.u64.wrap (IntKind.i64.wrap ((1 : Int) + (v_book_Pick size (64 : Int)))))))) then
            bif (! (v_cells_Addr ([((bs [97]), ((2 : Int), [])), ((bs [98]), ((IntKind.i64.wrap ((1 : Int) + (v_book_Pick size (64 : Int)))), []))], []) ((4 : Int), ((v_book_Pick reg (8 : Int)), ((1 : Int), (0 : Int)))) ((0 : Int), ((0 : Int), ((0 : Int), ((0 : Int), (n, ((0 : Int), ((0 : Int), (0 : Int))))))))).2) then
              bif ((v_cells_Addr ([((bs [97]), ((2 : Int), [])), ((bs [98]), ((IntKind.i64.wrap ((1 : Int) + (v_book_Pick size (64 : Int)))), []))], []) ((4 : Int), ((v_book_Pick reg (8 : Int)), ((1 : Int), (0 : Int)))) ((0 : Int), ((0 : Int), ((0 : Int), ((0 : Int), (n, ((0 : Int), ((0 : Int), (0 : Int))))))))).1 == (0 : Int)) then
                bif k_law11_alive then
                  true
                else false
              else bif (v_cells_Addr ([((bs [97]), ((2 : Int), [])), ((bs [98]), ((IntKind.i64.wrap ((1 : Int) + (v_book_Pick size (64 : Int)))), []))], []) ((4 : Int), ((v_book_Pick reg (8 : Int)), ((1 : Int), (0 : Int)))) ((0 : Int), ((0 : Int), ((0 : Int), ((0 : Int), (n, ((0 : Int), ((0 : Int), (0 : Int))))))))).2 then
                bif ((v_cells_Addr ([((bs [97]), ((2 : Int), [])), ((bs [98]), ((IntKind.i64.wrap ((1 : Int) + (v_book_Pick size (64 : Int)))), []))], []) ((4 : Int), ((v_book_Pick reg (8 : Int)), ((1 : Int), (0 : Int)))) ((0 : Int), ((0 : Int), ((0 : Int), ((0 : Int), (n, ((0 : Int), ((0 : Int), (0 : Int))))))))).1 == (IntKind.i64.wrap ((2 : Int) + n))) then
                  bif k_law11_alive then
                    true
                  else false
                else true
              else true
            else bif (v_cells_Addr ([((bs [97]), ((2 : Int), [])), ((bs [98]), ((IntKind.i64.wrap ((1 : Int) + (v_book_Pick size (64 : Int)))), []))], []) ((4 : Int), ((v_book_Pick reg (8 : Int)), ((1 : Int), (0 : Int)))) ((0 : Int), ((0 : Int), ((0 : Int), ((0 : Int), (n, ((0 : Int), ((0 : Int), (0 : Int))))))))).2 then
              bif ((v_cells_Addr ([((bs [97]), ((2 : Int), [])), ((bs [98]), ((IntKind.i64.wrap ((1 : Int) + (v_book_Pick size (64 : Int)))), []))], []) ((4 : Int), ((v_book_Pick reg (8 : Int)), ((1 : Int), (0 : Int)))) ((0 : Int), ((0 : Int), ((0 : Int), ((0 : Int), (n, ((0 : Int), ((0 : Int), (0 : Int))))))))).1 == (IntKind.i64.wrap ((2 : Int) + n))) then
                bif k_law11_alive then
                  true
                else false
              else true
            else true
          else true
        else false
      else bif ((v_book_Pick reg (8 : Int)) == (3 : Int)) then
        bif (k_cells_Addr ([((bs [97]), ((2 : Int), [])), ((bs [98]), ((IntKind.i64.wrap ((1 : Int) + (v_book_Pick size (64 : Int)))), []))], []) ((4 : Int), ((v_book_Pick reg (8 : Int)), ((1 : Int), (0 : Int)))) ((0 : Int), ((0 : Int), ((0 : Int), (n, ((0 : Int), ((0 : Int), ((0 : Int), (0 : Int))))))))) then
          bif ((v_cells_Addr ([((bs [97]), ((2 : Int), [])), ((bs [98]), ((IntKind.i64.wrap ((1 : Int) + (v_book_Pick size (64 : Int)))), []))], []) ((4 : Int), ((v_book_Pick reg (8 : Int)), ((1 : Int), (0 : Int)))) ((0 : Int), ((0 : Int), ((0 : Int), (n, ((0 : Int), ((0 : Int), ((0 : Int), (0 : Int))))))))).2 == (decide ((IntKind.u64.wrap n) < (IntKind.u64.wrap (IntKind.i64.wrap ((1 : Int) + (v_book_Pick size (64 : Int)))))))) then
            bif (! (v_cells_Addr ([((bs [97]), ((2 : Int), [])), ((bs [98]), ((IntKind.i64.wrap ((1 : Int) + (v_book_Pick size (64 : Int)))), []))], []) ((4 : Int), ((v_book_Pick reg (8 : Int)), ((1 : Int), (0 : Int)))) ((0 : Int), ((0 : Int), ((0 : Int), (n, ((0 : Int), ((0 : Int), ((0 : Int), (0 : Int))))))))).2) then
              bif ((v_cells_Addr ([((bs [97]), ((2 : Int), [])), ((bs [98]), ((IntKind.i64.wrap ((1 : Int) + (v_book_Pick size (64 : Int)))), []))], []) ((4 : Int), ((v_book_Pick reg (8 : Int)), ((1 : Int), (0 : Int)))) ((0 : Int), ((0 : Int), ((0 : Int), (n, ((0 : Int), ((0 : Int), ((0 : Int), (0 : Int))))))))).1 == (0 : Int)) then
                bif k_law11_alive then
                  true
                else false
              else bif (v_cells_Addr ([((bs [97]), ((2 : Int), [])), ((bs [98]), ((IntKind.i64.wrap ((1 : Int) + (v_book_Pick size (64 : Int)))), []))], []) ((4 : Int), ((v_book_Pick reg (8 : Int)), ((1 : Int), (0 : Int)))) ((0 : Int), ((0 : Int), ((0 : Int), (n, ((0 : Int), ((0 : Int), ((0 : Int), (0 : Int))))))))).2 then
                bif ((v_cells_Addr ([((bs [97]), ((2 : Int), [])), ((bs [98]), ((IntKind.i64.wrap ((1 : Int) + (v_book_Pick size (64 : Int)))), []))], []) ((4 : Int), ((v_book_Pick reg (8 : Int)), ((1 : Int), (0 : Int)))) ((0 : Int), ((0 : Int), ((0 : Int), (n, ((0 : Int), ((0 : Int), ((0 : Int), (0 : Int))))))))).1 == (IntKind.i64.wrap ((2 : Int) + n))) then
                  bif k_law11_alive then
                    true
                  else false
                else true
              else true
            else bif (v_cells_Addr ([((bs [97]), ((2 : Int), [])), ((bs [98]), ((IntKind.i64.wrap ((1 : Int) + (v_book_Pick size (64 : Int)))), []))], []) ((4 : Int), ((v_book_Pick reg (8 : Int)), ((1 : Int), (0 : Int)))) ((0 : Int), ((0 : Int), ((0 : Int), (n, ((0 : Int), ((0 : Int), ((0 : Int), (0 : Int))))))))).2 then
              bif ((v_cells_Addr ([((bs [97]), ((2 : Int), [])), ((bs [98]), ((IntKind.i64.wrap ((1 : Int) + (v_book_Pick size (64 : Int)))), []))], []) ((4 : Int), ((v_book_Pick reg (8 : Int)), ((1 : Int), (0 : Int)))) ((0 : Int), ((0 : Int), ((0 : Int), (n, ((0 : Int), ((0 : Int), ((0 : Int), (0 : Int))))))))).1 == (IntKind.i64.wrap ((2 : Int) + n))) then
                bif k_law11_alive then
                  true
                else false
              else true
            else true
          else true
        else false
      else bif ((v_book_Pick reg (8 : Int)) == (2 : Int)) then
        bif (k_cells_Addr ([((bs [97]), ((2 : Int), [])), ((bs [98]), ((IntKind.i64.wrap ((1 : Int) + (v_book_Pick size (64 : Int)))), []))], []) ((4 : Int), ((v_book_Pick reg (8 : Int)), ((1 : Int), (0 : Int)))) ((0 : Int), ((0 : Int), (n, ((0 : Int), ((0 : Int), ((0 : Int), ((0 : Int), (0 : Int))))))))) then
          bif ((v_cells_Addr ([((bs [97]), ((2 : Int), [])), ((bs [98]), ((IntKind.i64.wrap ((1 : Int) + (v_book_Pick size (64 : Int)))), []))], []) ((4 : Int), ((v_book_Pick reg (8 : Int)), ((1 : Int), (0 : Int)))) ((0 : Int), ((0 : Int), (n, ((0 : Int), ((0 : Int), ((0 : Int), ((0 : Int), (0 : Int))))))))).2 == (decide ((IntKind.u64.wrap n) < (IntKind.u64.wrap (IntKind.i64.wrap ((1 : Int) + (v_book_Pick size (64 : Int)))))))) then
            bif (! (v_cells_Addr ([((bs [97]), ((2 : Int), [])), ((bs [98]), ((IntKind.i64.wrap ((1 : Int) + (v_book_Pick size (64 : Int)))), []))], []) ((4 : Int), ((v_book_Pick reg (8 : Int)), ((1 : Int), (0 : Int)))) ((0 : Int), ((0 : Int), (n, ((0 : Int), ((0 : Int), ((0 : Int), ((0 : Int), (0 : Int))))))))).2) then
              bif ((v_cells_Addr ([((bs [97]), ((2 : Int), [])), ((bs [98]), ((IntKind.i64.wrap ((1 : Int) + (v_book_Pick size (64 : Int)))), []))], []) ((4 : Int), ((v_book_Pick reg (8 : Int)), ((1 : Int), (0 : Int)))) ((0 : Int), ((0 : Int), (n, ((0 : Int), ((0 : Int), ((0 : Int), ((0 : Int), (0 : Int))))))))).1 == (0 : Int)) then
                bif k_law11_alive then
                  true
                else false
              else bif (v_cells_Addr ([((bs [97]), ((2 : Int), [])), ((bs [98]), ((IntKind.i64.wrap ((1 : Int) + (v_book_Pick size (64 : Int)))), []))], []) ((4 : Int), ((v_book_Pick reg (8 : Int)), ((1 : Int), (0 : Int)))) ((0 : Int), ((0 : Int), (n, ((0 : Int), ((0 : Int), ((0 : Int), ((0 : Int), (0 : Int))))))))).2 then
                bif ((v_cells_Addr ([((bs [97]), ((2 : Int), [])), ((bs [98]), ((IntKind.i64.wrap ((1 : Int) + (v_book_Pick size (64 : Int)))), []))], []) ((4 : Int), ((v_book_Pick reg (8 : Int)), ((1 : Int), (0 : Int)))) ((0 : Int), ((0 : Int), (n, ((0 : Int), ((0 : Int), ((0 : Int), ((0 : Int), (0 : Int))))))))).1 == (IntKind.i64.wrap ((2 : Int) + n))) then
                  bif k_law11_alive then
                    true
                  else false
                else true
              else true
            else bif (v_cells_Addr ([((bs [97]), ((2 : Int), [])), ((bs [98]), ((IntKind.i64.wrap ((1 : Int) + (v_book_Pick size (64 : Int)))), []))], []) ((4 : Int), ((v_book_Pick reg (8 : Int)), ((1 : Int), (0 : Int)))) ((0 : Int), ((0 : Int), (n, ((0 : Int), ((0 : Int), ((0 : Int), ((0 : Int), (0 : Int))))))))).2 then
              bif ((v_cells_Addr ([((bs [97]), ((2 : Int), [])), ((bs [98]), ((IntKind.i64.wrap ((1 : Int) + (v_book_Pick size (64 : Int)))), []))], []) ((4 : Int), ((v_book_Pick reg (8 : Int)), ((1 : Int), (0 : Int)))) ((0 : Int), ((0 : Int), (n, ((0 : Int), ((0 : Int), ((0 : Int), ((0 : Int), (0 : Int))))))))).1 == (IntKind.i64.wrap ((2 : Int) + n))) then
                bif k_law11_alive then
                  true
                else false
              else true
            else true
          else true
        else false
      else bif ((v_book_Pick reg (8 : Int)) == (1 : Int)) then
        bif (k_cells_Addr ([((bs [97]), ((2 : Int), [])), ((bs [98]), ((IntKind.i64.wrap ((1 : Int) + (v_book_Pick size (64 : Int)))), []))], []) ((4 : Int), ((v_book_Pick reg (8 : Int)), ((1 : Int), (0 : Int)))) ((0 : Int), (n, ((0 : Int), ((0 : Int), ((0 : Int), ((0 : Int), ((0 : Int), (0 : Int))))))))) then
          bif ((v_cells_Addr ([((bs [97]), ((2 : Int), [])), ((bs [98]), ((IntKind.i64.wrap ((1 : Int) + (v_book_Pick size (64 : Int)))), []))], []) ((4 : Int), ((v_book_Pick reg (8 : Int)), ((1 : Int), (0 : Int)))) ((0 : Int), (n, ((0 : Int), ((0 : Int), ((0 : Int), ((0 : Int), ((0 : Int), (0 : Int))))))))).2 == (decide ((IntKind.u64.wrap n) < (IntKind.u64.wrap (IntKind.i64.wrap ((1 : Int) + (v_book_Pick size (64 : Int)))))))) then
            bif (! (v_cells_Addr ([((bs [97]), ((2 : Int), [])), ((bs [98]), ((IntKind.i64.wrap ((1 : Int) + (v_book_Pick size (64 : Int)))), []))], []) ((4 : Int), ((v_book_Pick reg (8 : Int)), ((1 : Int), (0 : Int)))) ((0 : Int), (n, ((0 : Int), ((0 : Int), ((0 : Int), ((0 : Int), ((0 : Int), (0 : Int))))))))).2) then
              bif ((v_cells_Addr ([((bs [97]), ((2 : Int), [])), ((bs [98]), ((IntKind.i64.wrap ((1 : Int) + (v_book_Pick size (64 : Int)))), []))], []) ((4 : Int), ((v_book_Pick reg (8 : Int)), ((1 : Int), (0 : Int)))) ((0 : Int), (n, ((0 : Int), ((0 : Int), ((0 : Int), ((0 : Int), ((0 : Int), (0 : Int))))))))).1 == (0 : Int)) then
                bif k_law11_alive then
                  true
                else false
              else bif (v_cells_Addr ([((bs [97]), ((2 : Int), [])), ((bs [98]), ((IntKind.i64.wrap ((1 : Int) + (v_book_Pick size (64 : Int)))), []))], []) ((4 : Int), ((v_book_Pick reg (8 : Int)), ((1 : Int), (0 : Int)))) ((0 : Int), (n, ((0 : Int), ((0 : Int), ((0 : Int), ((0 : Int), ((0 : Int), (0 : Int))))))))).2 then
                bif ((v_cells_Addr ([((bs [97]), ((2 : Int), [])), ((bs [98]), ((IntKind.i64.wrap ((1 : Int) + (v_book_Pick size (64 : Int)))), []))], []) ((4 : Int), ((v_book_Pick reg (8 : Int)), ((1 : Int), (0 : Int)))) ((0 : Int), (n, ((0 : Int), ((0 : Int), ((0 : Int), ((0 : Int), ((0 : Int), (0 : Int))))))))).1 == (IntKind.i64.wrap ((2 : Int) + n))) then
                  bif k_law11_alive then
                    true
                  else false
                else true
              else true
            else bif (v_cells_Addr ([((bs [97]), ((2 : Int), [])), ((bs [98]), ((IntKind.i64.wrap ((1 : Int) + (v_book_Pick size (64 : Int)))), []))], []) ((4 : Int), ((v_book_Pick reg (8 : Int)), ((1 : Int), (0 : Int)))) ((0 : Int), (n, ((0 : Int), ((0 : Int), ((0 : Int), ((0 : Int), ((0 : Int), (0 : Int))))))))).2 then
              bif ((v_cells_Addr ([((bs [97]), ((2 : Int), [])), ((bs [98]), ((IntKind.i64.wrap ((1 : Int) + (v_book_Pick size (64 : Int)))), []))], []) ((4 : Int), ((v_book_Pick reg (8 : Int)), ((1 : Int), (0 : Int)))) ((0 : Int), (n, ((0 : Int), ((0 : Int), ((0 : Int), ((0 : Int), ((0 : Int), (0 : Int))))))))).1 == (IntKind.i64.wrap ((2 : Int) + n))) then
                bif k_law11_alive then
                  true
                else false
              else true
            else true
          else true
        else false
      else bif ((v_book_Pick reg (8 : Int)) == (0 : Int)) then
        bif (k_cells_Addr ([((bs [97]), ((2 : Int), [])), ((bs [98]), ((IntKind.i64.wrap ((1 : Int) + (v_book_Pick size (64 : Int)))), []))], []) ((4 : Int), ((v_book_Pick reg (8 : Int)), ((1 : Int), (0 : Int)))) (n, ((0 : Int), ((0 : Int), ((0 : Int), ((0 : Int), ((0 : Int), ((0 : Int), (0 : Int))))))))) then
          bif ((v_cells_Addr ([((bs [97]), ((2 : Int), [])), ((bs [98]), ((IntKind.i64.wrap ((1 : Int) + (v_book_Pick size (64 : Int)))), []))], []) ((4 : Int), ((v_book_Pick reg (8 : Int)), ((1 : Int), (0 : Int)))) (n, ((0 : Int), ((0 : Int), ((0 : Int), ((0 : Int), ((0 : Int), ((0 : Int), (0 : Int))))))))).2 == (decide ((IntKind.u64.wrap n) < (IntKind.u64.wrap (IntKind.i64.wrap ((1 : Int) + (v_book_Pick size (64 : Int)))))))) then
            bif (! (v_cells_Addr ([((bs [97]), ((2 : Int), [])), ((bs [98]), ((IntKind.i64.wrap ((1 : Int) + (v_book_Pick size (64 : Int)))), []))], []) ((4 : Int), ((v_book_Pick reg (8 : Int)), ((1 : Int), (0 : Int)))) (n, ((0 : Int), ((0 : Int), ((0 : Int), ((0 : Int), ((0 : Int), ((0 : Int), (0 : Int))))))))).2) then
              bif ((v_cells_Addr ([((bs [97]), ((2 : Int), [])), ((bs [98]), ((IntKind.i64.wrap ((1 : Int) + (v_book_Pick size (64 : Int)))), []))], []) ((4 : Int), ((v_book_Pick reg (8 : Int)), ((1 : Int), (0 : Int)))) (n, ((0 : Int), ((0 : Int), ((0 : Int), ((0 : Int), ((0 : Int), ((0 : Int), (0 : Int))))))))).1 == (0 : Int)) then
                bif k_law11_alive then
                  true
                else false
              else bif (v_cells_Addr ([((bs [97]), ((2 : Int), [])), ((bs [98]), ((IntKind.i64.wrap ((1 : Int) + (v_book_Pick size (64 : Int)))), []))], []) ((4 : Int), ((v_book_Pick reg (8 : Int)), ((1 : Int), (0 : Int)))) (n, ((0 : Int), ((0 : Int), ((0 : Int), ((0 : Int), ((0 : Int), ((0 : Int), (0 : Int))))))))).2 then
                bif ((v_cells_Addr ([((bs [97]), ((2 : Int), [])), ((bs [98]), ((IntKind.i64.wrap ((1 : Int) + (v_book_Pick size (64 : Int)))), []))], []) ((4 : Int), ((v_book_Pick reg (8 : Int)), ((1 : Int), (0 : Int)))) (n, ((0 : Int), ((0 : Int), ((0 : Int), ((0 : Int), ((0 : Int), ((0 : Int), (0 : Int))))))))).1 == (IntKind.i64.wrap ((2 : Int) + n))) then
                  bif k_law11_alive then
                    true
                  else false
                else true
              else true
            else bif (v_cells_Addr ([((bs [97]), ((2 : Int), [])), ((bs [98]), ((IntKind.i64.wrap ((1 : Int) + (v_book_Pick size (64 : Int)))), []))], []) ((4 : Int), ((v_book_Pick reg (8 : Int)), ((1 : Int), (0 : Int)))) (n, ((0 : Int), ((0 : Int), ((0 : Int), ((0 : Int), ((0 : Int), ((0 : Int), (0 : Int))))))))).2 then
              bif ((v_cells_Addr ([((bs [97]), ((2 : Int), [])), ((bs [98]), ((IntKind.i64.wrap ((1 : Int) + (v_book_Pick size (64 : Int)))), []))], []) ((4 : Int), ((v_book_Pick reg (8 : Int)), ((1 : Int), (0 : Int)))) (n, ((0 : Int), ((0 : Int), ((0 : Int), ((0 : Int), ((0 : Int), ((0 : Int), (0 : Int))))))))).1 == (IntKind.i64.wrap ((2 : Int) + n))) then
                bif k_law11_alive then
                  true
                else false
              else true
            else true
          else true
        else false
      else false
    else false
  else false
theorem g_law11_CellsBounds (size : Int) (n : Int) (reg : Int) (hk : k_law11_CellsBounds size n reg = true) : Goes (T_law11_CellsBounds size n reg) (T0_law11_CellsBounds size n reg) (v_law11_CellsBounds size n reg) :=
  Goes.brk hk (fun hk =>
    Goes.brk hk (fun hk =>
      Goes.brk hk (fun hk =>
        Goes.brk hk (fun hk =>
          Goes.brk hk (fun hk =>
            Goes.brk hk (fun hk =>
              Goes.brk hk (fun hk =>
                Goes.brk hk (fun hk =>
                  Goes.leaf) (fun hk =>
                  Goes.nok hk)) (fun hk =>
                Goes.brk hk (fun hk =>
                  Goes.brk hk (fun hk =>
                    Goes.brk hk (fun hk =>
                      Goes.leaf) (fun hk =>
                      Goes.nok hk)) (fun hk =>
                    Goes.leaf)) (fun hk =>
                  Goes.leaf))) (fun hk =>
              Goes.brk hk (fun hk =>
                Goes.brk hk (fun hk =>
                  Goes.brk hk (fun hk =>
                    Goes.leaf) (fun hk =>
                    Goes.nok hk)) (fun hk =>
                  Goes.leaf)) (fun hk =>
                Goes.leaf))) (fun hk =>
            Goes.leaf)) (fun hk =>
          Goes.nok hk)) (fun hk =>
        Goes.brk hk (fun hk =>
          Goes.brk hk (fun hk =>
            Goes.brk hk (fun hk =>
              Goes.brk hk (fun hk =>
                Goes.brk hk (fun hk =>
                  Goes.brk hk (fun hk =>
                    Goes.leaf) (fun hk =>
                    Goes.nok hk)) (fun hk =>
                  Goes.brk hk (fun hk =>
                    Goes.brk hk (fun hk =>
                      Goes.brk hk (fun hk =>
                        Goes.leaf) (fun hk =>
                        Goes.nok hk)) (fun hk =>
                      Goes.leaf)) (fun hk =>
                    Goes.leaf))) (fun hk =>
                Goes.brk hk (fun hk =>
                  Goes.brk hk (fun hk =>
                    Goes.brk hk (fun hk =>
                      Goes.leaf) (fun hk =>
                      Goes.nok hk)) (fun hk =>
                    Goes.leaf)) (fun hk =>
                  Goes.leaf))) (fun hk =>
              Goes.leaf)) (fun hk =>
            Goes.nok hk)) (fun hk =>
          Goes.brk hk (fun hk =>
            Goes.brk hk (fun hk =>
              Goes.brk hk (fun hk =>
                Goes.brk hk (fun hk =>
                  Goes.brk hk (fun hk =>
                    Goes.brk hk (fun hk =>
                      Goes.leaf) (fun hk =>
                      Goes.nok hk)) (fun hk =>
                    Goes.brk hk (fun hk =>
                      Goes.brk hk (fun hk =>
                        Goes.brk hk (fun hk =>
                          Goes.leaf) (fun hk =>
                          Goes.nok hk)) (fun hk =>
                        Goes.leaf)) (fun hk =>
                      Goes.leaf))) (fun hk =>
                  Goes.brk hk (fun hk =>
                    Goes.brk hk (fun hk =>
                      Goes.brk hk (fun hk =>
                        Goes.leaf) (fun hk =>
                        Goes.nok hk)) (fun hk =>
                      Goes.leaf)) (fun hk =>
                    Goes.leaf))) (fun hk =>
                Goes.leaf)) (fun hk =>
              Goes.nok hk)) (fun hk =>
            Goes.brk hk (fun hk =>
              Goes.brk hk (fun hk =>
                Goes.brk hk (fun hk =>
                  Goes.brk hk (fun hk =>
                    Goes.brk hk (fun hk =>
                      Goes.brk hk (fun hk =>
                        Goes.leaf) (fun hk =>
                        Goes.nok hk)) (fun hk =>
                      Goes.brk hk (fun hk =>
                        Goes.brk hk (fun hk =>
                          Goes.brk hk (fun hk =>
                            Goes.leaf) (fun hk =>
                            Goes.nok hk)) (fun hk =>
                          Goes.leaf)) (fun hk =>
                        Goes.leaf))) (fun hk =>
                    Goes.brk hk (fun hk =>
                      Goes.brk hk (fun hk =>
                        Goes.brk hk (fun hk =>
                          Goes.leaf) (fun hk =>
                          Goes.nok hk)) (fun hk =>
                        Goes.leaf)) (fun hk =>
                      Goes.leaf))) (fun hk =>
                  Goes.leaf)) (fun hk =>
                Goes.nok hk)) (fun hk =>
              Goes.brk hk (fun hk =>
                Goes.brk hk (fun hk =>
                  Goes.brk hk (fun hk =>
                    Goes.brk hk (fun hk =>
                      Goes.brk hk (fun hk =>
                        Goes.brk hk (fun hk =>
                          Goes.leaf) (fun hk =>
                          Goes.nok hk)) (fun hk =>
                        Goes.brk hk (fun hk =>
                          Goes.brk hk (fun hk =>
                            Goes.brk hk (fun hk =>
                              Goes.leaf) (fun hk =>
                              Goes.nok hk)) (fun hk =>
                            Goes.leaf)) (fun hk =>
                          Goes.leaf))) (fun hk =>
                      Goes.brk hk (fun hk =>
                        Goes.brk hk (fun hk =>
                          Goes.brk hk (fun hk =>
                            Goes.leaf) (fun hk =>
                            Goes.nok hk)) (fun hk =>
                          Goes.leaf)) (fun hk =>
                        Goes.leaf))) (fun hk =>
                    Goes.leaf)) (fun hk =>
                  Goes.nok hk)) (fun hk =>
                Goes.brk hk (fun hk =>
                  Goes.brk hk (fun hk =>
                    Goes.brk hk (fun hk =>
                      Goes.brk hk (fun hk =>
                        Goes.brk hk (fun hk =>
                          Goes.brk hk (fun hk =>
                            Goes.leaf) (fun hk =>
                            Goes.nok hk)) (fun hk =>
                          Goes.brk hk (fun hk =>
                            Goes.brk hk (fun hk =>
                              Goes.brk hk (fun hk =>
                                Goes.leaf) (fun hk =>
                                Goes.nok hk)) (fun hk =>
                              Goes.leaf)) (fun hk =>
                            Goes.leaf))) (fun hk =>
                        Goes.brk hk (fun hk =>
                          Goes.brk hk (fun hk =>
                            Goes.brk hk (fun hk =>
                              Goes.leaf) (fun hk =>
                              Goes.nok hk)) (fun hk =>
                            Goes.leaf)) (fun hk =>
                          Goes.leaf))) (fun hk =>
                      Goes.leaf)) (fun hk =>
                    Goes.nok hk)) (fun hk =>
                  Goes.brk hk (fun hk =>
                    Goes.brk hk (fun hk =>
                      Goes.brk hk (fun hk =>
                        Goes.brk hk (fun hk =>
                          Goes.brk hk (fun hk =>
                            Goes.brk hk (fun hk =>
                              Goes.leaf) (fun hk =>
                              Goes.nok hk)) (fun hk =>
                            Goes.brk hk (fun hk =>
                              Goes.brk hk (fun hk =>
                                Goes.brk hk (fun hk =>
                                  Goes.leaf) (fun hk =>
                                  Goes.nok hk)) (fun hk =>
                                Goes.leaf)) (fun hk =>
                              Goes.leaf))) (fun hk =>
                          Goes.brk hk (fun hk =>
                            Goes.brk hk (fun hk =>
                              Goes.brk hk (fun hk =>
                                Goes.leaf) (fun hk =>
                                Goes.nok hk)) (fun hk =>
                              Goes.leaf)) (fun hk =>
                            Goes.leaf))) (fun hk =>
                        Goes.leaf)) (fun hk =>
                      Goes.nok hk)) (fun hk =>
                    Goes.brk hk (fun hk =>
                      Goes.brk hk (fun hk =>
                        Goes.brk hk (fun hk =>
                          Goes.brk hk (fun hk =>
                            Goes.brk hk (fun hk =>
                              Goes.brk hk (fun hk =>
                                Goes.leaf) (fun hk =>
                                Goes.nok hk)) (fun hk =>
                              Goes.brk hk (fun hk =>
                                Goes.brk hk (fun hk =>
                                  Goes.brk hk (fun hk =>
                                    Goes.leaf) (fun hk =>
                                    Goes.nok hk)) (fun hk =>
                                  Goes.leaf)) (fun hk =>
                                Goes.leaf))) (fun hk =>
                            Goes.brk hk (fun hk =>
                              Goes.brk hk (fun hk =>
                                Goes.brk hk (fun hk =>
                                  Goes.leaf) (fun hk =>
                                  Goes.nok hk)) (fun hk =>
                                Goes.leaf)) (fun hk =>
                              Goes.leaf))) (fun hk =>
                          Goes.leaf)) (fun hk =>
                        Goes.nok hk)) (fun hk =>
                      Goes.nok hk))))))))) (fun hk =>
      Goes.nok hk)) (fun hk =>
    Goes.nok hk)
def R_law11_CellsBounds : Bool → AV := fun (r : Bool) => .d .bool r
def S_law11_CellsBounds (size : Int) (n : Int) (reg : Int) : Empty → Nat × St := fun j => nomatch j
theorem en_law11_CellsBounds (size : Int) (n : Int) (reg : Int) (L : Lt) : entryA Go.Proofs.Tryd.prog (clOf t_law11_CellsBounds) tb_law11_CellsBounds Go.Proofs.Tryd.f10 c_law11_CellsBounds L (toForms sg_law11_CellsBounds (size, n, reg, ())) = (T0_law11_CellsBounds size n reg).run (fun v => some (R_law11_CellsBounds v, tps (toForms sg_law11_CellsBounds (size, n, reg, ())))) fun j => L (S_law11_CellsBounds size n reg j).1 (S_law11_CellsBounds size n reg j).2 := by kernel_rfl
theorem lp_law11_CellsBounds (size : Int) (n : Int) (reg : Int) : ∀ (L : Lt) (j : Empty), procOf (procsF Go.Proofs.Tryd.prog (clOf t_law11_CellsBounds) tb_law11_CellsBounds Go.Proofs.Tryd.f10 c_law11_CellsBounds (toForms sg_law11_CellsBounds (size, n, reg, ()))) (S_law11_CellsBounds size n reg j).1 L (S_law11_CellsBounds size n reg j).2 = (T_law11_CellsBounds size n reg j).run (fun v => some (R_law11_CellsBounds v, tps (toForms sg_law11_CellsBounds (size, n, reg, ())))) fun j => L (S_law11_CellsBounds size n reg j).1 (S_law11_CellsBounds size n reg j).2 := fun L j => nomatch j
noncomputable def e_law11_CellsBounds : Run := entG sg_law11_CellsBounds R_law11_CellsBounds (fun a => k_law11_CellsBounds a.1 a.2.1 a.2.2.1) (fun a => v_law11_CellsBounds a.1 a.2.1 a.2.2.1)
theorem ok_law11_CellsBounds : EntOK Go.Proofs.Tryd.prog 10 e_law11_CellsBounds := entG_ok (tb := tb_law11_CellsBounds) (c := c_law11_CellsBounds) tk_law11_CellsBounds (by kernel_rfl) (by kernel_rfl) (by kernel_rfl) (fun a => by kernel_rfl) fun ⟨size, n, reg, _⟩ hk => evF_goes (c := c_law11_CellsBounds) (K := fun v => (R_law11_CellsBounds v, tps (toForms sg_law11_CellsBounds (size, n, reg, ())))) (S := S_law11_CellsBounds size n reg) (by kernel_rfl) (en_law11_CellsBounds size n reg) (lp_law11_CellsBounds size n reg) (g_law11_CellsBounds size n reg hk)
theorem co_law11_CellsBounds (size : Int) (n : Int) (reg : Int) (hk : k_law11_CellsBounds size n reg = true) : CallOK Go.Proofs.Tryd.prog 10 (toForms sg_law11_CellsBounds (size, n, reg, ())) (R_law11_CellsBounds (v_law11_CellsBounds size n reg), tps (toForms sg_law11_CellsBounds (size, n, reg, ()))) := by
  obtain ⟨h1, h2⟩ := clOf_ok tk_law11_CellsBounds
  obtain ⟨n, hn⟩ := evF_goes (c := c_law11_CellsBounds) (K := fun v => (R_law11_CellsBounds v, tps (toForms sg_law11_CellsBounds (size, n, reg, ())))) (S := S_law11_CellsBounds size n reg) (by kernel_rfl) (en_law11_CellsBounds size n reg) (lp_law11_CellsBounds size n reg) (g_law11_CellsBounds size n reg hk)
  exact evF_sound (f := 10) (c := c_law11_CellsBounds) h1 h2 (by kernel_rfl) (by kernel_rfl) (by kernel_rfl) hn
end Go.Ev
end

section
set_option linter.unusedSectionVars false
set_option linter.unusedVariables false
set_option linter.unusedSimpArgs false
set_option maxRecDepth 100000
set_option linter.unusedVariables false
set_option linter.unusedSimpArgs false
namespace Go.Ev
open Go
def bndP (z : Int) : El T_api_Prog := ([((bs [97]), ((2 : Int), [])), ((bs [98]), (z, []))], [])
theorem bnd_small (z : Int) : smallProg (bndP z) = true := by
  unfold smallProg bndP
  simp only [List.all_cons, List.all_nil, Bool.and_true]
  decide +kernel
theorem bnd_check {z : Int} (h1 : 1 ≤ z) (h2 : z ≤ 64) : checkC (bndP z) = 0 := by
  have e1 : nameRight (bs [97]) = true := by decide +kernel
  have e2 : nameRight (bs [98]) = true := by decide +kernel
  have e3 : ([bs [97]] : List ByteArray).contains (bs [98]) = false := by decide +kernel
  unfold checkC bndP
  rw [if_neg (by simp)]
  show symsC 0 [] _ = 0
  unfold symsC
  rw [if_neg (by rw [e1]; decide), if_neg (by simp), if_neg (by simp)]
  unfold symsC
  rw [if_neg (by rw [e2]; decide), if_neg (by rw [List.nil_append, e3]; decide), if_neg (by simp; omega)]
  rfl
theorem bnd_addr {z n : Int} (h1 : 1 ≤ z) (h2 : z ≤ 64) (hn : inI n) {g : Nat} (hg : g < 8) (r : Int × Int × Int × El T_book_Act) (hr : regOf r g = n) :
    v_cells_Addr (bndP z) (4, (g : Int), 1, 0) r = if 0 ≤ n ∧ n < z then (2 + n, true) else (0, false) := by
  have := addr_by (bnd_small z) (bnd_check h1 h2) (i := 1) (by simp [bndP]) hg r (by rw [hr]; exact hn)
  rw [hr] at this
  exact this
theorem u64_lt {n z : Int} (hn : inI n) (h1 : 1 ≤ z) (h2 : z ≤ 64) : decide (IntKind.u64.wrap n < IntKind.u64.wrap z) = decide (0 ≤ n ∧ n < z) := by
  obtain ⟨a, b⟩ := hn
  have e : ∀ x : Int, IntKind.u64.wrap x = x % 18446744073709551616 := fun x => by unfold IntKind.wrap; simp [IntKind.signed, IntKind.bits]
  rw [e, e]
  apply decide_eq_decide.2
  omega
theorem true_law11_CellsBounds (size n reg : Int) (hn : inI n) : k_law11_CellsBounds size n reg = true ∧ v_law11_CellsBounds size n reg = true := by
  obtain ⟨p1, p2, p3⟩ := pick_lt (n := size) (m := 64) (by omega) (by omega)
  obtain ⟨q1, q2, q3⟩ := pick_lt (n := reg) (m := 8) (by omega) (by omega)
  obtain ⟨z, hz, z1, z2⟩ : ∃ z : Int, IntKind.i64.wrap ((1 : Int) + v_book_Pick size 64) = z ∧ 1 ≤ z ∧ z ≤ 64 := ⟨_, rfl, by rw [wrap_i64 (by omega) (by omega)]; omega, by rw [wrap_i64 (by omega) (by omega)]; omega⟩
  have zero : inI 0 := ⟨by decide, by decide⟩
  have ka : ∀ o r, RegsIn o r → k_cells_Addr (bndP z) o r = true := fun o r h => (addr_eq (bnd_small z) o r h).2.1
  have u := u64_lt hn z1 z2
  have a0 := bnd_addr z1 z2 hn (g := 0) (by omega) (n, (0, (0, (0, (0, (0, (0, 0))))))) rfl
  have a1 := bnd_addr z1 z2 hn (g := 1) (by omega) (0, (n, (0, (0, (0, (0, (0, 0))))))) rfl
  have a2 := bnd_addr z1 z2 hn (g := 2) (by omega) (0, (0, (n, (0, (0, (0, (0, 0))))))) rfl
  have a3 := bnd_addr z1 z2 hn (g := 3) (by omega) (0, (0, (0, (n, (0, (0, (0, 0))))))) rfl
  have a4 := bnd_addr z1 z2 hn (g := 4) (by omega) (0, (0, (0, (0, (n, (0, (0, 0))))))) rfl
  have a5 := bnd_addr z1 z2 hn (g := 5) (by omega) (0, (0, (0, (0, (0, (n, (0, 0))))))) rfl
  have a6 := bnd_addr z1 z2 hn (g := 6) (by omega) (0, (0, (0, (0, (0, (0, (n, 0))))))) rfl
  have a7 := bnd_addr z1 z2 hn (g := 7) (by omega) (0, (0, (0, (0, (0, (0, (0, n))))))) rfl
  have k0 := ka (4, (0, (1, 0))) (n, (0, (0, (0, (0, (0, (0, 0))))))) ⟨zero, hn, zero, zero, zero, zero, zero, zero, zero⟩
  have k1 := ka (4, (1, (1, 0))) (0, (n, (0, (0, (0, (0, (0, 0))))))) ⟨zero, zero, hn, zero, zero, zero, zero, zero, zero⟩
  have k2 := ka (4, (2, (1, 0))) (0, (0, (n, (0, (0, (0, (0, 0))))))) ⟨zero, zero, zero, hn, zero, zero, zero, zero, zero⟩
  have k3 := ka (4, (3, (1, 0))) (0, (0, (0, (n, (0, (0, (0, 0))))))) ⟨zero, zero, zero, zero, hn, zero, zero, zero, zero⟩
  have k4 := ka (4, (4, (1, 0))) (0, (0, (0, (0, (n, (0, (0, 0))))))) ⟨zero, zero, zero, zero, zero, hn, zero, zero, zero⟩
  have k5 := ka (4, (5, (1, 0))) (0, (0, (0, (0, (0, (n, (0, 0))))))) ⟨zero, zero, zero, zero, zero, zero, hn, zero, zero⟩
  have k6 := ka (4, (6, (1, 0))) (0, (0, (0, (0, (0, (0, (n, 0))))))) ⟨zero, zero, zero, zero, zero, zero, zero, hn, zero⟩
  have k7 := ka (4, (7, (1, 0))) (0, (0, (0, (0, (0, (0, (0, n))))))) ⟨zero, zero, zero, zero, zero, zero, zero, zero, hn⟩
  have hr : v_book_Pick reg 8 = 0 ∨ v_book_Pick reg 8 = 1 ∨ v_book_Pick reg 8 = 2 ∨ v_book_Pick reg 8 = 3 ∨ v_book_Pick reg 8 = 4 ∨ v_book_Pick reg 8 = 5 ∨ v_book_Pick reg 8 = 6 ∨ v_book_Pick reg 8 = 7 := by omega
  have hbp : (([((bs [97]), ((2 : Int), [])), ((bs [98]), (z, []))], []) : El T_api_Prog) = bndP z := rfl
  have hw : 0 ≤ n ∧ n < z → IntKind.i64.wrap ((2 : Int) + n) = 2 + n := fun h => wrap_i64 (by omega) (by omega)
  unfold k_law11_CellsBounds v_law11_CellsBounds
  rw [p1, q1, hz, hbp]
  by_cases hc : 0 ≤ n ∧ n < z
  · rw [if_pos hc] at a0 a1 a2 a3 a4 a5 a6 a7
    rw [hw hc, u, decide_eq_true hc]
    rcases hr with hr | hr | hr | hr | hr | hr | hr | hr <;> rw [hr]
    · rw [k0, show v_cells_Addr (bndP z) (4, (0, (1, 0))) (n, (0, (0, (0, (0, (0, (0, 0))))))) = _ from a0]; simp [k_alive11, v_alive11]
    · rw [k1, show v_cells_Addr (bndP z) (4, (1, (1, 0))) (0, (n, (0, (0, (0, (0, (0, 0))))))) = _ from a1]; simp [k_alive11, v_alive11]
    · rw [k2, show v_cells_Addr (bndP z) (4, (2, (1, 0))) (0, (0, (n, (0, (0, (0, (0, 0))))))) = _ from a2]; simp [k_alive11, v_alive11]
    · rw [k3, show v_cells_Addr (bndP z) (4, (3, (1, 0))) (0, (0, (0, (n, (0, (0, (0, 0))))))) = _ from a3]; simp [k_alive11, v_alive11]
    · rw [k4, show v_cells_Addr (bndP z) (4, (4, (1, 0))) (0, (0, (0, (0, (n, (0, (0, 0))))))) = _ from a4]; simp [k_alive11, v_alive11]
    · rw [k5, show v_cells_Addr (bndP z) (4, (5, (1, 0))) (0, (0, (0, (0, (0, (n, (0, 0))))))) = _ from a5]; simp [k_alive11, v_alive11]
    · rw [k6, show v_cells_Addr (bndP z) (4, (6, (1, 0))) (0, (0, (0, (0, (0, (0, (n, 0))))))) = _ from a6]; simp [k_alive11, v_alive11]
    · rw [k7, show v_cells_Addr (bndP z) (4, (7, (1, 0))) (0, (0, (0, (0, (0, (0, (0, n))))))) = _ from a7]; simp [k_alive11, v_alive11]
  · rw [if_neg hc] at a0 a1 a2 a3 a4 a5 a6 a7
    rw [u, decide_eq_false hc]
    rcases hr with hr | hr | hr | hr | hr | hr | hr | hr <;> rw [hr]
    · rw [k0, show v_cells_Addr (bndP z) (4, (0, (1, 0))) (n, (0, (0, (0, (0, (0, (0, 0))))))) = _ from a0]; simp [k_alive11, v_alive11]
    · rw [k1, show v_cells_Addr (bndP z) (4, (1, (1, 0))) (0, (n, (0, (0, (0, (0, (0, 0))))))) = _ from a1]; simp [k_alive11, v_alive11]
    · rw [k2, show v_cells_Addr (bndP z) (4, (2, (1, 0))) (0, (0, (n, (0, (0, (0, (0, 0))))))) = _ from a2]; simp [k_alive11, v_alive11]
    · rw [k3, show v_cells_Addr (bndP z) (4, (3, (1, 0))) (0, (0, (0, (n, (0, (0, (0, 0))))))) = _ from a3]; simp [k_alive11, v_alive11]
    · rw [k4, show v_cells_Addr (bndP z) (4, (4, (1, 0))) (0, (0, (0, (0, (n, (0, (0, 0))))))) = _ from a4]; simp [k_alive11, v_alive11]
    · rw [k5, show v_cells_Addr (bndP z) (4, (5, (1, 0))) (0, (0, (0, (0, (0, (n, (0, 0))))))) = _ from a5]; simp [k_alive11, v_alive11]
    · rw [k6, show v_cells_Addr (bndP z) (4, (6, (1, 0))) (0, (0, (0, (0, (0, (0, (n, 0))))))) = _ from a6]; simp [k_alive11, v_alive11]
    · rw [k7, show v_cells_Addr (bndP z) (4, (7, (1, 0))) (0, (0, (0, (0, (0, (0, (0, n))))))) = _ from a7]; simp [k_alive11, v_alive11]
theorem call_law11_CellsBounds (a : Args sg_law11_CellsBounds) (ha : smallArgs sg_law11_CellsBounds a) : CallOK Go.Proofs.Tryd.prog fid_law11_CellsBounds (toForms sg_law11_CellsBounds a) (.d .bool true, tps (toForms sg_law11_CellsBounds a)) := by
  obtain ⟨size, n, reg, _⟩ := a
  obtain ⟨hk, hv⟩ := true_law11_CellsBounds size n reg ha.2.1
  have := co_law11_CellsBounds size n reg hk
  rw [hv] at this
  exact this
end Go.Ev
end

/- Part of the proof of: The free ways of any thread that the book makes, past any few points, between each two instructions, are what the document says: for every input the law answers true. -/
import Derived.Test.YtcojpeeoodchoaaDoorCon1
section
set_option linter.unusedSectionVars false
set_option linter.unusedVariables false
set_option linter.unusedSimpArgs false
set_option maxRecDepth 100000
set_option linter.unusedVariables false
open Go Go.Ev
namespace Go.Ev
noncomputable section
/-! ### paling/road.Free -/
def sg_road_Free : Sig := [(true, (.sl T_api_Ins)), (false, (.sl (.int .i64))), (false, (.int .i64)), (false, (.int .i64))]
noncomputable def t_road_Free : Tbl := [(9, e_road_Ends), (27, e_slices_Contains___int_int_)]
theorem tk_road_Free : ∀ p ∈ t_road_Free, EntOK Go.Proofs.Tryd.prog p.1 p.2 := tbl_cons ok_road_Ends (tbl_cons ok_slices_Contains___int_int_ (tbl_nil))
noncomputable def c_road_Free : Code := Go.Proofs.Tryd.f11.body.getD .skip
def tb_road_Free : Tb := []
def T_road_Free (t : List (El T_api_Ins)) (points : List Int) (s : Int) (l : Int) : Empty → JT Empty (Bool) := fun j => nomatch j
def T0_road_Free (t : List (El T_api_Ins)) (points : List Int) (s : Int) (l : Int) : JT Empty (Bool) :=
  .br (k_road_Ends t points s)
    (.br (k_slices_Contains___int_int_ (v_road_Ends t points s) l)
      (.leaf (v_slices_Contains___int_int_ (v_road_Ends t points s) l))
    (.no))
  (.no)
def v_road_Free (t : List (El T_api_Ins)) (points : List Int) (s : Int) (l : Int) : Bool :=
  bif (k_road_Ends t points s) then
    bif (k_slices_Contains___int_int_ (v_road_Ends t points s) l) then
      (v_slices_Contains___int_int_ (v_road_Ends t points s) l)
    else false
  else false
def k_road_Free (t : List (El T_api_Ins)) (points : List Int) (s : Int) (l : Int) : Bool :=
  bif (k_road_Ends t points s) then
    bif (k_slices_Contains___int_int_ (v_road_Ends t points s) l) then
      true
    else false
  else false
theorem g_road_Free (t : List (El T_api_Ins)) (points : List Int) (s : Int) (l : Int) (hk : k_road_Free t points s l = true) : Goes (T_road_Free t points s l) (T0_road_Free t points s l) (v_road_Free t points s l) :=
  Goes.brk hk (fun hk =>
    Goes.brk hk (fun hk =>
      Goes.leaf) (fun hk =>
      Goes.nok hk)) (fun hk =>
    Goes.nok hk)
def R_road_Free : Bool → AV := fun (r : Bool) => .d .bool r
def S_road_Free (t : List (El T_api_Ins)) (points : List Int) (s : Int) (l : Int) : Empty → Nat × St := fun j => nomatch j
theorem en_road_Free (t : List (El T_api_Ins)) (points : List Int) (s : Int) (l : Int) (L : Lt) : entryA Go.Proofs.Tryd.prog (clOf t_road_Free) tb_road_Free Go.Proofs.Tryd.f11 c_road_Free L (toForms sg_road_Free (t, points, s, l, ())) = (T0_road_Free t points s l).run (fun v => some (R_road_Free v, tps (toForms sg_road_Free (t, points, s, l, ())))) fun j => L (S_road_Free t points s l j).1 (S_road_Free t points s l j).2 := by kernel_rfl
theorem lp_road_Free (t : List (El T_api_Ins)) (points : List Int) (s : Int) (l : Int) : ∀ (L : Lt) (j : Empty), procOf (procsF Go.Proofs.Tryd.prog (clOf t_road_Free) tb_road_Free Go.Proofs.Tryd.f11 c_road_Free (toForms sg_road_Free (t, points, s, l, ()))) (S_road_Free t points s l j).1 L (S_road_Free t points s l j).2 = (T_road_Free t points s l j).run (fun v => some (R_road_Free v, tps (toForms sg_road_Free (t, points, s, l, ())))) fun j => L (S_road_Free t points s l j).1 (S_road_Free t points s l j).2 := fun L j => nomatch j
noncomputable def e_road_Free : Run := entG sg_road_Free R_road_Free (fun a => k_road_Free a.1 a.2.1 a.2.2.1 a.2.2.2.1) (fun a => v_road_Free a.1 a.2.1 a.2.2.1 a.2.2.2.1)
theorem ok_road_Free : EntOK Go.Proofs.Tryd.prog 11 e_road_Free := entG_ok (tb := tb_road_Free) (c := c_road_Free) tk_road_Free (by kernel_rfl) (by kernel_rfl) (by kernel_rfl) (fun a => by kernel_rfl) fun ⟨t, points, s, l, _⟩ hk => evF_goes (c := c_road_Free) (K := fun v => (R_road_Free v, tps (toForms sg_road_Free (t, points, s, l, ())))) (S := S_road_Free t points s l) (by kernel_rfl) (en_road_Free t points s l) (lp_road_Free t points s l) (g_road_Free t points s l hk)
end
end Go.Ev
end

section
set_option linter.unusedSectionVars false
set_option linter.unusedVariables false
set_option linter.unusedSimpArgs false
set_option maxRecDepth 100000
set_option linter.unusedVariables false
open Go Go.Ev
namespace Go.Ev
noncomputable section
/-! ### paling/palinglaw21.alive -/
def sg_law21_alive : Sig := []
noncomputable def t_law21_alive : Tbl := [(11, e_road_Free), (9, e_road_Ends), (8, e_book_SameInts)]
theorem tk_law21_alive : ∀ p ∈ t_law21_alive, EntOK Go.Proofs.Tryd.prog p.1 p.2 := tbl_cons ok_road_Free (tbl_cons ok_road_Ends (tbl_cons ok_book_SameInts (tbl_nil)))
noncomputable def c_law21_alive : Code := Go.Proofs.Tryd.f13.body.getD .skip
def tb_law21_alive : Tb := []
def T_law21_alive : Empty → JT Empty (Bool) := fun j => nomatch j
def T0_law21_alive : JT Empty (Bool) :=
  .br (k_road_Free [((1 : Int), (false, ((0 : Int), (((3 : Int), ((0 : Int), ((0 : Int), (0 : Int)))), (((2 : Int), ((0 : Int), ((0 : Int), (1 : Int)))), ((bs []), [])))))), ((1 : Int), (false, ((0 : Int), (((1 : Int), ((0 : Int), ((0 : Int), (0 : Int)))), (((3 : Int), ((0 : Int), ((0 : Int), (0 : Int)))), ((bs []), [])))))), ((14 : Int), (false, ((0 : Int), (((0 : Int), ((0 : Int), ((0 : Int), (0 : Int)))), (((0 : Int), ((0 : Int), ((0 : Int), (0 : Int)))), ((bs []), []))))))] [] (0 : Int) (1 : Int))
    (.br (v_road_Free [((1 : Int), (false, ((0 : Int), (((3 : Int), ((0 : Int), ((0 : Int), (0 : Int)))), (((2 : Int), ((0 : Int), ((0 : Int), (1 : Int)))), ((bs []), [])))))), ((1 : Int), (false, ((0 : Int), (((1 : Int), ((0 : Int), ((0 : Int), (0 : Int)))), (((3 : Int), ((0 : Int), ((0 : Int), (0 : Int)))), ((bs []), [])))))), ((14 : Int), (false, ((0 : Int), (((0 : Int), ((0 : Int), ((0 : Int), (0 : Int)))), (((0 : Int), ((0 : Int), ((0 : Int), (0 : Int)))), ((bs []), []))))))] [] (0 : Int) (1 : Int))
      (.br (k_road_Free [((1 : Int), (false, ((0 : Int), (((3 : Int), ((0 : Int), ((0 : Int), (0 : Int)))), (((2 : Int), ((0 : Int), ((0 : Int), (1 : Int)))), ((bs []), [])))))), ((1 : Int), (false, ((0 : Int), (((1 : Int), ((0 : Int), ((0 : Int), (0 : Int)))), (((3 : Int), ((0 : Int), ((0 : Int), (0 : Int)))), ((bs []), [])))))), ((14 : Int), (false, ((0 : Int), (((0 : Int), ((0 : Int), ((0 : Int), (0 : Int)))), (((0 : Int), ((0 : Int), ((0 : Int), (0 : Int)))), ((bs []), []))))))] [(1 : Int)] (0 : Int) (1 : Int))
        (.br (! (v_road_Free [((1 : Int), (false, ((0 : Int), (((3 : Int), ((0 : Int), ((0 : Int), (0 : Int)))), (((2 : Int), ((0 : Int), ((0 : Int), (1 : Int)))), ((bs []), [])))))), ((1 : Int), (false, ((0 : Int), (((1 : Int), ((0 : Int), ((0 : Int), (0 : Int)))), (((3 : Int), ((0 : Int), ((0 : Int), (0 : Int)))), ((bs []), [])))))), ((14 : Int), (false, ((0 : Int), (((0 : Int), ((0 : Int), ((0 : Int), (0 : Int)))), (((0 : Int), ((0 : Int), ((0 : Int), (0 : Int)))), ((bs []), []))))))] [(1 : Int)] (0 : Int) (1 : Int)))
          (.br (k_road_Free [((1 : Int), (false, ((0 : Int), (((3 : Int), ((0 : Int), ((0 : Int), (0 : Int)))), (((2 : Int), ((0 : Int), ((0 : Int), (1 : Int)))), ((bs []), [])))))), ((1 : Int), (false, ((0 : Int), (((1 : Int), ((0 : Int), ((0 : Int), (0 : Int)))), (((3 : Int), ((0 : Int), ((0 : Int), (0 : Int)))), ((bs []), [])))))), ((14 : Int), (false, ((0 : Int), (((0 : Int), ((0 : Int), ((0 : Int), (0 : Int)))), (((0 : Int), ((0 : Int), ((0 : Int), (0 : Int)))), ((bs []), []))))))] [] (1 : Int) (0 : Int))
            (.br (! (v_road_Free [((1 : Int), (false, ((0 : Int), (((3 : Int), ((0 : Int), ((0 : Int), (0 : Int)))), (((2 : Int), ((0 : Int), ((0 : Int), (1 : Int)))), ((bs []), [])))))), ((1 : Int), (false, ((0 : Int), (((1 : Int), ((0 : Int), ((0 : Int), (0 : Int)))), (((3 : Int), ((0 : Int), ((0 : Int), (0 : Int)))), ((bs []), [])))))), ((14 : Int), (false, ((0 : Int), (((0 : Int), ((0 : Int), ((0 : Int), (0 : Int)))), (((0 : Int), ((0 : Int), ((0 : Int), (0 : Int)))), ((bs []), []))))))] [] (1 : Int) (0 : Int)))
              (.br (k_road_Ends [((1 : Int), (false, ((0 : Int), (((3 : Int), ((0 : Int), ((0 : Int), (0 : Int)))), (((2 : Int), ((0 : Int), ((0 : Int), (1 : Int)))), ((bs []), [])))))), ((1 : Int), (false, ((0 : Int), (((1 : Int), ((0 : Int), ((0 : Int), (0 : Int)))), (((3 : Int), ((0 : Int), ((0 : Int), (0 : Int)))), ((bs []), [])))))), ((14 : Int), (false, ((0 : Int), (((0 : Int), ((0 : Int), ((0 : Int), (0 : Int)))), (((0 : Int), ((0 : Int), ((0 : Int), (0 : Int)))), ((bs []), []))))))] [(2 : Int)] (0 : Int))
                (.br (k_book_SameInts (v_road_Ends [((1 : Int), (false, ((0 : Int), (((3 : Int), ((0 : Int), ((0 : Int), (0 : Int)))), (((2 : Int), ((0 : Int), ((0 : Int), (1 : Int)))), ((bs []), [])))))), ((1 : Int), (false, ((0 : Int), (((1 : Int), ((0 : Int), ((0 : Int), (0 : Int)))), (((3 : Int), ((0 : Int), ((0 : Int), (0 : Int)))), ((bs []), [])))))), ((14 : Int), (false, ((0 : Int), (((0 : Int), ((0 : Int), ((0 : Int), (0 : Int)))), (((0 : Int), ((0 : Int), ((0 : Int), (0 : Int)))), ((bs []), []))))))] [(2 : Int)] (0 : Int)) [(1 : Int)])
                  (.leaf (v_book_SameInts (v_road_Ends [((1 : Int), (false, ((0 : Int), (((3 : Int), ((0 : Int), ((0 : Int), (0 : Int)))), (((2 : Int), ((0 : Int), ((0 : Int), (1 : Int)))), ((bs []), [])))))), ((1 : Int), (false, ((0 : Int), (((1 : Int), ((0 : Int), ((0 : Int), (0 : Int)))), (((3 : Int), ((0 : Int), ((0 : Int), (0 : Int)))), ((bs []), [])))))), ((14 : Int), (false, ((0 : Int), (((0 : Int), ((0 : Int), ((0 : Int), (0 : Int)))), (((0 : Int), ((0 : Int), ((0 : Int), (0 : Int)))), ((bs []), []))))))] [(2 : Int)] (0 : Int)) [(1 : Int)]))
                (.no))
              (.no))
            (.leaf false))
          (.no))
        (.leaf false))
      (.no))
    (.leaf false))
  (.no)
def v_law21_alive : Bool :=
  bif (k_road_Free [((1 : Int), (false, ((0 : Int), (((3 : Int), ((0 : Int), ((0 : Int), (0 : Int)))), (((2 : Int), ((0 : Int), ((0 : Int), (1 : Int)))), ((bs []), [])))))), ((1 : Int), (false, ((0 : Int), (((1 : Int), ((0 : Int), ((0 : Int), (0 : Int)))), (((3 : Int), ((0 : Int), ((0 : Int), (0 : Int)))), ((bs []), [])))))), ((14 : Int), (false, ((0 : Int), (((0 : Int), ((0 : Int), ((0 : Int), (0 : Int)))), (((0 : Int), ((0 : Int), ((0 : Int), (0 : Int)))), ((bs []), []))))))] [] (0 : Int) (1 : Int)) then
    bif (v_road_Free [((1 : Int), (false, ((0 : Int), (((3 : Int), ((0 : Int), ((0 : Int), (0 : Int)))), (((2 : Int), ((0 : Int), ((0 : Int), (1 : Int)))), ((bs []), [])))))), ((1 : Int), (false, ((0 : Int), (((1 : Int), ((0 : Int), ((0 : Int), (0 : Int)))), (((3 : Int), ((0 : Int), ((0 : Int), (0 : Int)))), ((bs []), [])))))), ((14 : Int), (false, ((0 : Int), (((0 : Int), ((0 : Int), ((0 : Int), (0 : Int)))), (((0 : Int), ((0 : Int), ((0 : Int), (0 : Int)))), ((bs []), []))))))] [] (0 : Int) (1 : Int)) then
      bif (k_road_Free [((1 : Int), (false, ((0 : Int), (((3 : Int), ((0 : Int), ((0 : Int), (0 : Int)))), (((2 : Int), ((0 : Int), ((0 : Int), (1 : Int)))), ((bs []), [])))))), ((1 : Int), (false, ((0 : Int), (((1 : Int), ((0 : Int), ((0 : Int), (0 : Int)))), (((3 : Int), ((0 : Int), ((0 : Int), (0 : Int)))), ((bs []), [])))))), ((14 : Int), (false, ((0 : Int), (((0 : Int), ((0 : Int), ((0 : Int), (0 : Int)))), (((0 : Int), ((0 : Int), ((0 : Int), (0 : Int)))), ((bs []), []))))))] [(1 : Int)] (0 : Int) (1 : Int)) then
        bif (! (v_road_Free [((1 : Int), (false, ((0 : Int), (((3 : Int), ((0 : Int), ((0 : Int), (0 : Int)))), (((2 : Int), ((0 : Int), ((0 : Int), (1 : Int)))), ((bs []), [])))))), ((1 : Int), (false, ((0 : Int), (((1 : Int), ((0 : Int), ((0 : Int), (0 : Int)))), (((3 : Int), ((0 : Int), ((0 : Int), (0 : Int)))), ((bs []), [])))))), ((14 : Int), (false, ((0 : Int), (((0 : Int), ((0 : Int), ((0 : Int), (0 : Int)))), (((0 : Int), ((0 : Int), ((0 : Int), (0 : Int)))), ((bs []), []))))))] [(1 : Int)] (0 : Int) (1 : Int))) then
          bif (k_road_Free [((1 : Int), (false, ((0 : Int), (((3 : Int), ((0 : Int), ((0 : Int), (0 : Int)))), (((2 : Int), ((0 : Int), ((0 : Int), (1 : Int)))), ((bs []), [])))))), ((1 : Int), (false, ((0 : Int), (((1 : Int), ((0 : Int), ((0 : Int), (0 : Int)))), (((3 : Int), ((0 : Int), ((0 : Int), (0 : Int)))), ((bs []), [])))))), ((14 : Int), (false, ((0 : Int), (((0 : Int), ((0 : Int), ((0 : Int), (0 : Int)))), (((0 : Int), ((0 : Int), ((0 : Int), (0 : Int)))), ((bs []), []))))))] [] (1 : Int) (0 : Int)) then
            bif (! (v_road_Free [((1 : Int), (false, ((0 : Int), (((3 : Int), ((0 : Int), ((0 : Int), (0 : Int)))), (((2 : Int), ((0 : Int), ((0 : Int), (1 : Int)))), ((bs []), [])))))), ((1 : Int), (false, ((0 : Int), (((1 : Int), ((0 : Int), ((0 : Int), (0 : Int)))), (((3 : Int), ((0 : Int), ((0 : Int), (0 : Int)))), ((bs []), [])))))), ((14 : Int), (false, ((0 : Int), (((0 : Int), ((0 : Int), ((0 : Int), (0 : Int)))), (((0 : Int), ((0 : Int), ((0 : Int), (0 : Int)))), ((bs []), []))))))] [] (1 : Int) (0 : Int))) then
              bif (k_road_Ends [((1 : Int), (false, ((0 : Int), (((3 : Int), ((0 : Int), ((0 : Int), (0 : Int)))), (((2 : Int), ((0 : Int), ((0 : Int), (1 : Int)))), ((bs []), [])))))), ((1 : Int), (false, ((0 : Int), (((1 : Int), ((0 : Int), ((0 : Int), (0 : Int)))), (((3 : Int), ((0 : Int), ((0 : Int), (0 : Int)))), ((bs []), [])))))), ((14 : Int), (false, ((0 : Int), (((0 : Int), ((0 : Int), ((0 : Int), (0 : Int)))), (((0 : Int), ((0 : Int), ((0 : Int), (0 : Int)))), ((bs []), []))))))] [(2 : Int)] (0 : Int)) then
                bif (k_book_SameInts (v_road_Ends [((1 : Int), (false, ((0 : Int), (((3 : Int), ((0 : Int), ((0 : Int), (0 : Int)))), (((2 : Int), ((0 : Int), ((0 : Int), (1 : Int)))), ((bs []), [])))))), ((1 : Int), (false, ((0 : Int), (((1 : Int), ((0 : Int), ((0 : Int), (0 : Int)))), (((3 : Int), ((0 : Int), ((0 : Int), (0 : Int)))), ((bs []), [])))))), ((14 : Int), (false, ((0 : Int), (((0 : Int), ((0 : Int), ((0 : Int), (0 : Int)))), (((0 : Int), ((0 : Int), ((0 : Int), (0 : Int)))), ((bs []), []))))))] [(2 : Int)] (0 : Int)) [(1 : Int)]) then
                  (v_book_SameInts (v_road_Ends [((1 : Int), (false, ((0 : Int), (((3 : Int), ((0 : Int), ((0 : Int), (0 : Int)))), (((2 : Int), ((0 : Int), ((0 : Int), (1 : Int)))), ((bs []), [])))))), ((1 : Int), (false, ((0 : Int), (((1 : Int), ((0 : Int), ((0 : Int), (0 : Int)))), (((3 : Int), ((0 : Int), ((0 : Int), (0 : Int)))), ((bs []), [])))))), ((14 : Int), (false, ((0 : Int), (((0 : Int), ((0 : Int), ((0 : Int), (0 : Int)))), (((0 : Int), ((0 : Int), ((0 : Int), (0 : Int)))), ((bs []), []))))))] [(2 : Int)] (0 : Int)) [(1 : Int)])
                else false
              else false
            else false
          else false
        else false
      else false
    else false
  else false
def k_law21_alive : Bool :=
  bif (k_road_Free [((1 : Int), (false, ((0 : Int), (((3 : Int), ((0 : Int), ((0 : Int), (0 : Int)))), (((2 : Int), ((0 : Int), ((0 : Int), (1 : Int)))), ((bs []), [])))))), ((1 : Int), (false, ((0 : Int), (((1 : Int), ((0 : Int), ((0 : Int), (0 : Int)))), (((3 : Int), ((0 : Int), ((0 : Int), (0 : Int)))), ((bs []), [])))))), ((14 : Int), (false, ((0 : Int), (((0 : Int), ((0 : Int), ((0 : Int), (0 : Int)))), (((0 : Int), ((0 : Int), ((0 : Int), (0 : Int)))), ((bs []), []))))))] [] (0 : Int) (1 : Int)) then
    bif (v_road_Free [((1 : Int), (false, ((0 : Int), (((3 : Int), ((0 : Int), ((0 : Int), (0 : Int)))), (((2 : Int), ((0 : Int), ((0 : Int), (1 : Int)))), ((bs []), [])))))), ((1 : Int), (false, ((0 : Int), (((1 : Int), ((0 : Int), ((0 : Int), (0 : Int)))), (((3 : Int), ((0 : Int), ((0 : Int), (0 : Int)))), ((bs []), [])))))), ((14 : Int), (false, ((0 : Int), (((0 : Int), ((0 : Int), ((0 : Int), (0 : Int)))), (((0 : Int), ((0 : Int), ((0 : Int), (0 : Int)))), ((bs []), []))))))] [] (0 : Int) (1 : Int)) then
      bif (k_road_Free [((1 : Int), (false, ((0 : Int), (((3 : Int), ((0 : Int), ((0 : Int), (0 : Int)))), (((2 : Int), ((0 : Int), ((0 : Int), (1 : Int)))), ((bs []), [])))))), ((1 : Int), (false, ((0 : Int), (((1 : Int), ((0 : Int), ((0 : Int), (0 : Int)))), (((3 : Int), ((0 : Int), ((0 : Int), (0 : Int)))), ((bs []), [])))))), ((14 : Int), (false, ((0 : Int), (((0 : Int), ((0 : Int), ((0 : Int), (0 : Int)))), (((0 : Int), ((0 : Int), ((0 : Int), (0 : Int)))), ((bs []), []))))))] [(1 : Int)] (0 : Int) (1 : Int)) then
        bif (! (v_road_Free [((1 : Int), (false, ((0 : Int), (((3 : Int), ((0 : Int), ((0 : Int), (0 : Int)))), (((2 : Int), ((0 : Int), ((0 : Int), (1 : Int)))), ((bs []), [])))))), ((1 : Int), (false, ((0 : Int), (((1 : Int), ((0 : Int), ((0 : Int), (0 : Int)))), (((3 : Int), ((0 : Int), ((0 : Int), (0 : Int)))), ((bs []), [])))))), ((14 : Int), (false, ((0 : Int), (((0 : Int), ((0 : Int), ((0 : Int), (0 : Int)))), (((0 : Int), ((0 : Int), ((0 : Int), (0 : Int)))), ((bs []), []))))))] [(1 : Int)] (0 : Int) (1 : Int))) then
          bif (k_road_Free [((1 : Int), (false, ((0 : Int), (((3 : Int), ((0 : Int), ((0 : Int), (0 : Int)))), (((2 : Int), ((0 : Int), ((0 : Int), (1 : Int)))), ((bs []), [])))))), ((1 : Int), (false, ((0 : Int), (((1 : Int), ((0 : Int), ((0 : Int), (0 : Int)))), (((3 : Int), ((0 : Int), ((0 : Int), (0 : Int)))), ((bs []), [])))))), ((14 : Int), (false, ((0 : Int), (((0 : Int), ((0 : Int), ((0 : Int), (0 : Int)))), (((0 : Int), ((0 : Int), ((0 : Int), (0 : Int)))), ((bs []), []))))))] [] (1 : Int) (0 : Int)) then
            bif (! (v_road_Free [((1 : Int), (false, ((0 : Int), (((3 : Int), ((0 : Int), ((0 : Int), (0 : Int)))), (((2 : Int), ((0 : Int), ((0 : Int), (1 : Int)))), ((bs []), [])))))), ((1 : Int), (false, ((0 : Int), (((1 : Int), ((0 : Int), ((0 : Int), (0 : Int)))), (((3 : Int), ((0 : Int), ((0 : Int), (0 : Int)))), ((bs []), [])))))), ((14 : Int), (false, ((0 : Int), (((0 : Int), ((0 : Int), ((0 : Int), (0 : Int)))), (((0 : Int), ((0 : Int), ((0 : Int), (0 : Int)))), ((bs []), []))))))] [] (1 : Int) (0 : Int))) then
              bif (k_road_Ends [((1 : Int), (false, ((0 : Int), (((3 : Int), ((0 : Int), ((0 : Int), (0 : Int)))), (((2 : Int), ((0 : Int), ((0 : Int), (1 : Int)))), ((bs []), [])))))), ((1 : Int), (false, ((0 : Int), (((1 : Int), ((0 : Int), ((0 : Int), (0 : Int)))), (((3 : Int), ((0 : Int), ((0 : Int), (0 : Int)))), ((bs []), [])))))), ((14 : Int), (false, ((0 : Int), (((0 : Int), ((0 : Int), ((0 : Int), (0 : Int)))), (((0 : Int), ((0 : Int), ((0 : Int), (0 : Int)))), ((bs []), []))))))] [(2 : Int)] (0 : Int)) then
                bif (k_book_SameInts (v_road_Ends [((1 : Int), (false, ((0 : Int), (((3 : Int), ((0 : Int), ((0 : Int), (0 : Int)))), (((2 : Int), ((0 : Int), ((0 : Int), (1 : Int)))), ((bs []), [])))))), ((1 : Int), (false, ((0 : Int), (((1 : Int), ((0 : Int), ((0 : Int), (0 : Int)))), (((3 : Int), ((0 : Int), ((0 : Int), (0 : Int)))), ((bs []), [])))))), ((14 : Int), (false, ((0 : Int), (((0 : Int), ((0 : Int), ((0 : Int), (0 : Int)))), (((0 : Int), ((0 : Int), ((0 : Int), (0 : Int)))), ((bs []), []))))))] [(2 : Int)] (0 : Int)) [(1 : Int)]) then
                  true
                else false
              else false
            else true
          else false
        else true
      else false
    else true
  else false
theorem g_law21_alive (hk : k_law21_alive = true) : Goes (T_law21_alive) (T0_law21_alive) (v_law21_alive) :=
  Goes.brk hk (fun hk =>
    Goes.brk hk (fun hk =>
      Goes.brk hk (fun hk =>
        Goes.brk hk (fun hk =>
          Goes.brk hk (fun hk =>
            Goes.brk hk (fun hk =>
              Goes.brk hk (fun hk =>
                Goes.brk hk (fun hk =>
                  Goes.leaf) (fun hk =>
                  Goes.nok hk)) (fun hk =>
                Goes.nok hk)) (fun hk =>
              Goes.leaf)) (fun hk =>
            Goes.nok hk)) (fun hk =>
          Goes.leaf)) (fun hk =>
        Goes.nok hk)) (fun hk =>
      Goes.leaf)) (fun hk =>
    Goes.nok hk)
def R_law21_alive : Bool → AV := fun (r : Bool) => .d .bool r
def S_law21_alive : Empty → Nat × St := fun j => nomatch j
theorem en_law21_alive (L : Lt) : entryA Go.Proofs.Tryd.prog (clOf t_law21_alive) tb_law21_alive Go.Proofs.Tryd.f13 c_law21_alive L (toForms sg_law21_alive (())) = (T0_law21_alive).run (fun v => some (R_law21_alive v, tps (toForms sg_law21_alive (())))) fun j => L (S_law21_alive j).1 (S_law21_alive j).2 := by kernel_rfl
theorem lp_law21_alive : ∀ (L : Lt) (j : Empty), procOf (procsF Go.Proofs.Tryd.prog (clOf t_law21_alive) tb_law21_alive Go.Proofs.Tryd.f13 c_law21_alive (toForms sg_law21_alive (()))) (S_law21_alive j).1 L (S_law21_alive j).2 = (T_law21_alive j).run (fun v => some (R_law21_alive v, tps (toForms sg_law21_alive (())))) fun j => L (S_law21_alive j).1 (S_law21_alive j).2 := fun L j => nomatch j
noncomputable def e_law21_alive : Run := entG sg_law21_alive R_law21_alive (fun a => k_law21_alive) (fun a => v_law21_alive)
theorem ok_law21_alive : EntOK Go.Proofs.Tryd.prog 13 e_law21_alive := entG_ok (tb := tb_law21_alive) (c := c_law21_alive) tk_law21_alive (by kernel_rfl) (by kernel_rfl) (by kernel_rfl) (fun a => by kernel_rfl) fun _ hk => evF_goes (c := c_law21_alive) (K := fun v => (R_law21_alive v, tps (toForms sg_law21_alive (())))) (S := S_law21_alive) (by kernel_rfl) (en_law21_alive) (lp_law21_alive) (g_law21_alive hk)
theorem co_law21_alive (hk : k_law21_alive = true) : CallOK Go.Proofs.Tryd.prog 13 (toForms sg_law21_alive (())) (R_law21_alive (v_law21_alive), tps (toForms sg_law21_alive (()))) := by
  obtain ⟨h1, h2⟩ := clOf_ok tk_law21_alive
  obtain ⟨n, hn⟩ := evF_goes (c := c_law21_alive) (K := fun v => (R_law21_alive v, tps (toForms sg_law21_alive (())))) (S := S_law21_alive) (by kernel_rfl) (en_law21_alive) (lp_law21_alive) (g_law21_alive hk)
  exact evF_sound (f := 13) (c := c_law21_alive) h1 h2 (by kernel_rfl) (by kernel_rfl) (by kernel_rfl) hn
end
end Go.Ev
end

section
set_option linter.unusedSectionVars false
set_option linter.unusedVariables false
set_option linter.unusedSimpArgs false
set_option maxRecDepth 100000
set_option linter.unusedVariables false
open Go Go.Ev
namespace Go.Ev
noncomputable section
/-! ### paling/palinglaw21.RoadMade -/
def sg_law21_RoadMade : Sig := [(false, (.sl T_book_Act)), (false, (.sl (.int .i64)))]
noncomputable def t_law21_RoadMade : Tbl := [(6, e_book_Prog), (7, e_book_Pick), (9, e_road_Ends), (10, e_ref3_Ends), (8, e_book_SameInts), (11, e_road_Free), (12, e_ref3_In), (13, e_law21_alive)]
theorem tk_law21_RoadMade : ∀ p ∈ t_law21_RoadMade, EntOK Go.Proofs.Tryd.prog p.1 p.2 := tbl_cons ok_book_Prog (tbl_cons ok_book_Pick (tbl_cons ok_road_Ends (tbl_cons ok_ref3_Ends (tbl_cons ok_book_SameInts (tbl_cons ok_road_Free (tbl_cons ok_ref3_In (tbl_cons ok_law21_alive (tbl_nil))))))))
noncomputable def c_law21_RoadMade : Code := Go.Proofs.Tryd.f3.body.getD .skip
def tb_law21_RoadMade : Tb := [(6, ⟨[1, 6, 7, 8], [(8, 46)]⟩), (12, ⟨[6, 7, 9], [(10000000000000000000000000000000000000000000000000000000000008, 1)]⟩), (20, ⟨[6, 7, 9, 10], []⟩)]
inductive J_law21_RoadMade where
  | l6 (t : List (El T_api_Ins)) (i : Int) (at_ : List Int)
  | l12 (t : List (El T_api_Ins)) (at_ : List Int) (i : Int)
  | l20 (t : List (El T_api_Ins)) (at_ : List Int) (k : Int) (i : Int)
def T_law21_RoadMade (l : List (El T_book_Act)) (points : List Int) : J_law21_RoadMade → JT J_law21_RoadMade (Bool)
  | .l6 t i at_ =>
    .br (decide (i < (Int.ofNat (List.length points))))
      (.br (decide (i < (4 : Int)))
        (.br ((decide ((0 : Int) ≤ i)) && (decide (i < (Int.ofNat (List.length points)))))
          (.br (k_book_Pick (List.getD points (Int.toNat i) (dflt (.int .i64))) (IntKind.i64.wrap ((Int.ofNat (List.length t)) + (1 : Int))))
            (.br (Nat.ble (((List.length at_) + 1) * 8) limit)
              (.jmp (.l6 t (IntKind.i64.wrap (i + (1 : Int))) (at_ ++ [(v_book_Pick (List.getD points (Int.toNat i) (dflt (.int .i64))) (IntKind.i64.wrap ((Int.ofNat (List.length t)) + (1 : Int))))])))
            (.no))
          (.no))
        (.no))
      (.jmp (.l12 t at_ (0 : Int))))
    (.jmp (.l12 t at_ (0 : Int)))
  | .l12 t at_ i =>
    .br (decide (i < (Int.ofNat (List.length t))))
      (.br (k_road_Ends t at_ i)
        (.br (k_ref3_Ends t at_ i)
          (.br (k_book_SameInts (v_road_Ends t at_ i) (v_ref3_Ends t at_ i))
            (.br (! (v_book_SameInts (v_road_Ends t at_ i) (v_ref3_Ends t at_ i)))
              (.leaf false)
            (.jmp (.l20 t at_ (0 : Int) i)))
          (.no))
        (.no))
      (.no))
    (.br k_law21_alive
      (.leaf v_law21_alive)
    (.no))
  | .l20 t at_ k i =>
    .br (decide (k < (Int.ofNat (List.length t))))
      (.br (k_road_Free t at_ i k)
        (.br (k_ref3_Ends t at_ i)
          (.br (k_ref3_In (v_ref3_Ends t at_ i) k)
            (.br (! ((v_road_Free t at_ i k) == (v_ref3_In (v_ref3_Ends t at_ i) k)))
              (.leaf false)
            (.jmp (.l20 t at_ (IntKind.i64.wrap (k + (1 : Int))) i)))
          (.no))
        (.no))
      (.no))
    (.jmp (.l12 t at_ (IntKind.i64.wrap (i + (1 : Int)))))
def T0_law21_RoadMade (l : List (El T_book_Act)) (points : List Int) : JT J_law21_RoadMade (Bool) :=
  .br (k_book_Prog [l] (1 : Int) (9 : Int))
    (.br (decide ((0 : Int) < (Int.ofNat (List.length (v_book_Prog [l] (1 : Int) (9 : Int)).2))))
      (.jmp (.l6 (List.getD (v_book_Prog [l] (1 : Int) (9 : Int)).2 0 (dflt (.sl T_api_Ins))) (0 : Int) []))
    (.no))
  (.no)
def R_law21_RoadMade : Bool → AV := fun (r : Bool) => .d .bool r
def S_law21_RoadMade (l : List (El T_book_Act)) (points : List Int) : J_law21_RoadMade → Nat × St
  | .l6 t i at_ => (6, ⟨mkTm 77 [(1, .d (.sl (.int .i64)) points), (6, .pt 7 0 0), (7, .own 8 0 none), (8, .d (.int .i64) i)], [(7, 0, .box 32 [.d (.sl T_api_Ins) t] none), (8, 0, .row 3 (.int .i64) at_ false)]⟩)
  | .l12 t at_ i => (12, ⟨mkTm 77 [(6, .pt 7 0 0), (7, .d (.sl (.int .i64)) at_), (9, .d (.int .i64) i)], [(7, 0, .box 32 [.d (.sl T_api_Ins) t] none)]⟩)
  | .l20 t at_ k i => (20, ⟨mkTm 77 [(6, .pt 7 0 0), (7, .d (.sl (.int .i64)) at_), (9, .d (.int .i64) i), (10, .d (.int .i64) k)], [(7, 0, .box 32 [.d (.sl T_api_Ins) t] none)]⟩)
theorem en_law21_RoadMade (l : List (El T_book_Act)) (points : List Int) (L : Lt) : entryA Go.Proofs.Tryd.prog (clOf t_law21_RoadMade) tb_law21_RoadMade Go.Proofs.Tryd.f3 c_law21_RoadMade L (toForms sg_law21_RoadMade (l, points, ())) = (T0_law21_RoadMade l points).run (fun v => some (R_law21_RoadMade v, tps (toForms sg_law21_RoadMade (l, points, ())))) fun j => L (S_law21_RoadMade l points j).1 (S_law21_RoadMade l points j).2 := by kernel_rfl
theorem lp_law21_RoadMade (l : List (El T_book_Act)) (points : List Int) : ∀ (L : Lt) (j : J_law21_RoadMade), procOf (procsF Go.Proofs.Tryd.prog (clOf t_law21_RoadMade) tb_law21_RoadMade Go.Proofs.Tryd.f3 c_law21_RoadMade (toForms sg_law21_RoadMade (l, points, ()))) (S_law21_RoadMade l points j).1 L (S_law21_RoadMade l points j).2 = (T_law21_RoadMade l points j).run (fun v => some (R_law21_RoadMade v, tps (toForms sg_law21_RoadMade (l, points, ())))) fun j => L (S_law21_RoadMade l points j).1 (S_law21_RoadMade l points j).2
  | L, .l6 t i at_ => by kernel_rfl
  | L, .l12 t at_ i => by kernel_rfl
  | L, .l20 t at_ k i => by kernel_rfl
end
end Go.Ev
end

section
set_option linter.unusedSectionVars false
set_option linter.unusedVariables false
set_option linter.unusedSimpArgs false
/- The programs that the book makes may be. -/
set_option maxRecDepth 100000
set_option linter.unusedVariables false
set_option linter.unusedSimpArgs false
namespace Go.Ev
open Go
theorem setL_right (i : El T_api_Ins) (ls : List ByteArray) : v_ins_Right (setL i ls) = v_ins_Right i := rfl
theorem setL_to (i : El T_api_Ins) (ls : List ByteArray) : (setL i ls).2.2.2.2.2.1 = i.2.2.2.2.2.1 := rfl
theorem place_book {th : List (List (El T_api_Ins))} {k r s n : Int} (h : k = 3 ∨ k = 4 → placeOK k s n = true) : placeC (symsB, th) (k, (r, (s, n))) = 0 := by
  show placeN 3 _ k s n = 0
  unfold placeN
  by_cases hk : k = 3 ∨ k = 4
  · rw [if_pos hk]
    have := h hk
    unfold placeOK at this
    simp only [Bool.and_eq_true, decide_eq_true_eq, Bool.or_eq_true, beq_iff_eq] at this
    obtain ⟨h0, h3, hn⟩ := this
    rw [if_neg (by omega)]
    have hs : s = 0 ∨ s = 1 ∨ s = 2 := by omega
    rcases hs with rfl | rfl | rfl
    · rw [if_neg]
      rintro ⟨h1, h2⟩
      have h2 : (1 : Int) ≤ n := h2
      rcases hn with hn | hn
      · omega
      · have hn : n < (1 : Int) := hn
        omega
    · rw [if_neg]
      rintro ⟨h1, h2⟩
      have h2 : (2 : Int) ≤ n := h2
      rcases hn with hn | hn
      · omega
      · have hn : n < (2 : Int) := hn
        omega
    · rw [if_neg]
      rintro ⟨h1, h2⟩
      have h2 : (1 : Int) ≤ n := h2
      rcases hn with hn | hn
      · omega
      · have hn : n < (1 : Int) := hn
        omega
  · rw [if_neg hk]
theorem insC_book {th : List (List (El T_api_Ins))} {many : Int} {i : El T_api_Ins} (h : BookOK many i) (ls : List ByteArray) : insC (symsB, th) (setL i ls) = 0 := by
  have hA : placeC (symsB, th) i.2.2.2.1 = 0 := place_book (k := i.2.2.2.1.1) (r := i.2.2.2.1.2.1) (s := i.2.2.2.1.2.2.1) (n := i.2.2.2.1.2.2.2) h.placeA
  have hB : placeC (symsB, th) i.2.2.2.2.1 = 0 := place_book (k := i.2.2.2.2.1.1) (r := i.2.2.2.2.1.2.1) (s := i.2.2.2.2.1.2.2.1) (n := i.2.2.2.2.1.2.2.2) h.placeB
  unfold insC
  rw [setL_right, h.right]
  show (if (0 : Int) ≠ 0 then _ else if placeC (symsB, th) i.2.2.2.1 ≠ 0 then _ else placeC (symsB, th) i.2.2.2.2.1) = 0
  rw [hA, hB]
  rfl
theorem scanI_lab {p : El T_api_Prog} {K : List ByteArray → Int} : ∀ (x : List (El T_api_Ins)) (k : Nat) (seen : List ByteArray),
    (∀ (j : Nat) (i : El T_api_Ins), x[j]? = some i → (i.2.2.2.2.2.2 = [] ∨ i.2.2.2.2.2.2 = [v_book_label ((k + j : Nat) : Int)]) ∧ insC p i = 0) → (∀ l ∈ seen, ∃ k', k' < k ∧ l = v_book_label (k' : Int)) → k + x.length ≤ 100 → scanI p K seen x = K (seen ++ labels x)
  | [], k, seen, _, _, _ => by simp [scanI, labels]
  | i :: r, k, seen, h, hs, hk => by
    obtain ⟨hl, hi⟩ := h 0 i rfl
    rw [List.length_cons] at hk
    have hr := fun seen' hs' => scanI_lab (K := K) r (k + 1) seen' (fun j y hy => by
      have := h (j + 1) y (by simpa using hy)
      rwa [show k + (j + 1) = k + 1 + j by omega] at this) hs' (by omega)
    unfold scanI
    rcases hl with hl | hl
    · rw [hl]
      unfold scanL
      rw [hi]
      simp only [ne_eq, not_true_eq_false, if_false]
      rw [hr seen fun l hl => by obtain ⟨k', h1, h2⟩ := hs l hl; exact ⟨k', by omega, h2⟩]
      unfold labels
      rw [List.flatMap_cons, hl, List.nil_append]
    · rw [hl, Nat.add_zero]
      unfold scanL
      rw [if_neg (by rw [(label_right (k := (k : Int)) (by omega) (by omega)).1]; decide)]
      have hns : seen.contains (v_book_label (k : Int)) = false := by
        rw [Bool.eq_false_iff]
        intro hc
        rw [List.contains_iff_mem] at hc
        obtain ⟨k', h1, h2⟩ := hs _ hc
        have := label_inj (by omega) (by omega) h2
        omega
      rw [if_neg (by rw [hns]; decide)]
      unfold scanL
      rw [hi]
      simp only [ne_eq, not_true_eq_false, if_false]
      rw [hr _ fun l hl => by
        rcases List.mem_append.1 hl with hl | hl
        · obtain ⟨k', h1, h2⟩ := hs l hl; exact ⟨k', by omega, h2⟩
        · rw [List.mem_singleton] at hl; exact ⟨k, by omega, hl⟩]
      unfold labels
      rw [List.flatMap_cons, hl, Nat.add_zero, List.append_assoc]
theorem jumpC_lab {seen : List ByteArray} : ∀ {x : List (El T_api_Ins)}, (∀ i ∈ x, ((i.1 == (10 : Int)) || (i.1 == (11 : Int))) = true → seen.contains i.2.2.2.2.2.1 = true) → jumpC seen x = 0
  | [], _ => rfl
  | i :: r, h => by
    unfold jumpC
    have ih := jumpC_lab fun j hj => h j (List.mem_cons_of_mem _ hj)
    by_cases hj : ((i.1 == (10 : Int)) || (i.1 == (11 : Int))) = true
    · rw [if_pos hj, if_pos (h i (List.mem_cons_self ..) hj)]; exact ih
    · rw [if_neg hj]; exact ih
/-- What stands in a thread of the book. -/
theorem threadB_get {a : List (El T_book_Act)} {n : Nat} (hn : n ≤ 90) (ha : n ≤ a.length) {k : Nat} {i : El T_api_Ins} (h : (threadB a n)[k]? = some i) :
    (k < n ∧ ∃ x, (baseT a n)[k]? = some x ∧ BookOK ((n + 1 : Nat) : Int) x ∧ i = setL x (if sAt (baseT a n) n k then [v_book_label (k : Int)] else [])) ∨ (k = n ∧ i = setL (bare 14) (if sAt (baseT a n) n k then [v_book_label (k : Int)] else [])) := by
  have hl := baseT_len a n ha
  obtain ⟨hk, he⟩ := List.getElem?_eq_some_iff.1 h
  unfold threadB at hk he
  rw [withL_get hk] at he
  rw [withL_len, hl] at hk
  by_cases hkn : k < n
  · obtain ⟨x, h1, h2⟩ := baseT_book hn hkn ha
    obtain ⟨h3, h4⟩ := List.getElem?_eq_some_iff.1 h1
    rw [h4] at he
    exact .inl ⟨hkn, _, h1, h2, he.symm⟩
  · have hkn : k = n := by omega
    subst hkn
    have : (baseT a k)[k]'(by omega) = bare 14 := by
      unfold baseT
      rw [List.getElem_append_right (by simp; omega)]
      simp
    rw [this] at he
    exact .inr ⟨rfl, he.symm⟩
theorem bare14_book (many : Int) (ls : List ByteArray) {th : List (List (El T_api_Ins))} : insC (symsB, th) (setL (bare 14) ls) = 0 := by
  unfold insC
  rw [setL_right, bare_right (.inr (.inr rfl))]
  rfl
theorem labels_get {x : List (El T_api_Ins)} {k : Nat} {i : El T_api_Ins} {l : ByteArray} (h : x[k]? = some i) (hl : l ∈ i.2.2.2.2.2.2) : (labels x).contains l = true := by
  rw [List.contains_iff_mem]
  unfold labels
  exact List.mem_flatMap.2 ⟨i, List.mem_of_getElem? h, hl⟩
theorem threadC_book {a : List (El T_book_Act)} {n : Nat} (hn : n ≤ 90) (ha : n ≤ a.length) {th : List (List (El T_api_Ins))} : threadC (symsB, th) (threadB a n) = 0 := by
  have hlen : (threadB a n).length = n + 1 := by unfold threadB; rw [withL_len, baseT_len a n ha]
  unfold threadC
  have hc := countM_le (threadB a n)
  rw [if_neg (by omega), scanI_lab (threadB a n) 0 [] (fun j i h => by
    rw [Nat.zero_add]
    rcases threadB_get hn ha h with ⟨_, x, _, hx, rfl⟩ | ⟨_, rfl⟩
    · refine ⟨?_, insC_book hx _⟩
      show (if _ then [v_book_label (j : Int)] else []) = [] ∨ (if _ then [v_book_label (j : Int)] else []) = [v_book_label (j : Int)]
      split
      · exact .inr rfl
      · exact .inl rfl
    · refine ⟨?_, bare14_book 0 _⟩
      show (if _ then [v_book_label (j : Int)] else []) = [] ∨ (if _ then [v_book_label (j : Int)] else []) = [v_book_label (j : Int)]
      split
      · exact .inr rfl
      · exact .inl rfl) (fun l hl => by cases hl) (by omega)]
  rw [List.nil_append, endC_eq (by omega)]
  have hlast : (threadB a n)[(threadB a n).length - 1]? = some ((threadB a n)[(threadB a n).length - 1]'(by omega)) := List.getElem?_eq_getElem (by omega)
  have h14 : (((threadB a n)[(threadB a n).length - 1]'(by omega)).1 == (10 : Int) || ((threadB a n)[(threadB a n).length - 1]'(by omega)).1 == (14 : Int)) = true := by
    rcases threadB_get hn ha hlast with ⟨h1, _⟩ | ⟨_, h2⟩
    · omega
    · rw [h2]; rfl
  rw [if_pos h14]
  refine jumpC_lab fun i hi hj => ?_
  obtain ⟨k, hk⟩ := List.getElem?_of_mem hi
  rcases threadB_get hn ha hk with ⟨hkn, x, hx, hb, rfl⟩ | ⟨_, rfl⟩
  · rw [setL_to]
    rcases hb.to with ⟨h1, h2, _⟩ | ⟨_, m, m0, m1, e⟩
    · exfalso
      have hj : ((x.1 == (10 : Int)) || (x.1 == (11 : Int))) = true := hj
      simp only [Bool.or_eq_true, beq_iff_eq] at hj
      rcases hj with hj | hj
      · exact h1 hj
      · exact h2 hj
    · rw [e]
      obtain ⟨q, rfl⟩ : ∃ q : Nat, m = (q : Int) := ⟨m.toNat, by omega⟩
      have hqn : q < n + 1 := by omega
      have hq : (threadB a n)[q]? = some ((threadB a n)[q]'(by omega)) := List.getElem?_eq_getElem (by omega)
      have hs : sAt (baseT a n) n q = true := by
        unfold sAt
        rw [List.any_eq_true]
        exact ⟨x, List.mem_of_getElem? (i := k) (by rw [List.getElem?_take, if_pos hkn]; exact hx), decide_eq_true e⟩
      refine labels_get hq ?_
      rcases threadB_get hn ha hq with ⟨_, y, _, _, h2⟩ | ⟨_, h2⟩
      · rw [h2, hs]; exact List.mem_singleton.2 rfl
      · rw [h2, hs]; exact List.mem_singleton.2 rfl
  · cases hj
theorem small_book {a : List (El T_book_Act)} {n : Nat} (hn : n ≤ 90) (ha : n ≤ a.length) : smallThread (threadB a n) = true := by
  have hlen : (threadB a n).length = n + 1 := by unfold threadB; rw [withL_len, baseT_len a n ha]
  have hlab : ∀ i ∈ threadB a n, smallText i.2.2.2.2.2.1 = true ∧ i.2.2.2.2.2.2.length ≤ 1 ∧ ∀ l ∈ i.2.2.2.2.2.2, smallText l = true := fun i hi => by
    obtain ⟨k, hk⟩ := List.getElem?_of_mem hi
    have hkl := (List.getElem?_eq_some_iff.1 hk).1
    have hls : ∀ b : Bool, (if b = true then [v_book_label (k : Int)] else []).length ≤ 1 ∧ ∀ l ∈ (if b = true then [v_book_label (k : Int)] else []), smallText l = true := fun b => by
      cases b with
      | false => exact ⟨by simp, fun l hl => by simp at hl⟩
      | true => exact ⟨by simp, fun l hl => by
          rw [if_pos rfl, List.mem_singleton] at hl
          rw [hl]; exact (label_right (by omega) (by omega)).2⟩
    rcases threadB_get hn ha hk with ⟨hkn, x, hx, hb, rfl⟩ | ⟨_, rfl⟩
    · exact ⟨hb.small (by omega), hls _⟩
    · exact ⟨(by decide : smallText (bs []) = true), hls _⟩
  have := labels_le (t := threadB a n) (n := 1) fun i hi => (hlab i hi).2.1
  unfold smallThread
  simp only [Bool.and_eq_true, decide_eq_true_eq, List.all_eq_true]
  exact ⟨by omega, by omega, fun i hi => ⟨(hlab i hi).1, (hlab i hi).2.2⟩⟩
theorem symsC_book (K : Int) : symsC K [] symsB = K := by kernel_rfl
theorem thsC_zero {p : El T_api_Prog} : ∀ {th : List (List (El T_api_Ins))}, (∀ t ∈ th, threadC p t = 0) → thsC p th = 0
  | [], _ => rfl
  | t :: r, h => by
    unfold thsC
    rw [h t (List.mem_cons_self ..)]
    simp only [ne_eq, not_true_eq_false, if_false]
    exact thsC_zero fun x hx => h x (List.mem_cons_of_mem _ hx)
theorem book_valid (l : List (List (El T_book_Act))) {threads many : Int} (h0 : 0 ≤ threads) (h1 : threads ≤ 64) (m0 : 0 ≤ many) (m1 : many ≤ 90) : checkC (v_book_Prog l threads many) = 0 ∧ smallProg (v_book_Prog l threads many) = true ∧ k_book_Prog l threads many = true := by
  refine ⟨?_, ?_, ?_⟩
  · unfold checkC v_book_Prog
    show (if 64 < symsB.length ∨ 64 < ((l.take threads.toNat).map fun a => threadB a (min a.length many.toNat)).length then (10 : Int) else symsC (thsC _ ((l.take threads.toNat).map fun a => threadB a (min a.length many.toNat))) [] symsB) = 0
    rw [if_neg, symsC_book]
    · exact thsC_zero fun t ht => by
        obtain ⟨a, _, rfl⟩ := List.mem_map.1 ht
        exact threadC_book (by omega) (by omega)
    · rw [List.length_map, List.length_take]
      have : symsB.length = 3 := rfl
      omega
  · unfold smallProg v_book_Prog
    simp only [Bool.and_eq_true, List.all_eq_true]
    refine ⟨?_, fun t ht => ?_⟩
    · have : symsB.all (fun s => smallText s.1) = true := by decide +kernel
      rw [List.all_eq_true] at this
      exact this
    · obtain ⟨a, _, rfl⟩ := List.mem_map.1 ht
      exact small_book (by omega) (by omega)
  · unfold k_book_Prog
    simp only [Bool.and_eq_true, decide_eq_true_eq]
    omega
end Go.Ev
end

section
set_option linter.unusedSectionVars false
set_option linter.unusedVariables false
set_option linter.unusedSimpArgs false
/- The one thread that the book makes. -/
set_option maxRecDepth 100000
set_option linter.unusedVariables false
set_option linter.unusedSimpArgs false
open Go
namespace Go.Ev
theorem small_flow' {t : List (El T_api_Ins)} (h : smallThread t = true) : flowOK t = true := by
  unfold smallThread at h
  simp only [Bool.and_eq_true, List.all_eq_true, decide_eq_true_eq] at h
  unfold flowOK
  simp only [Bool.and_eq_true, List.all_eq_true, decide_eq_true_eq]
  refine ⟨h.1, fun i hi => ⟨(h.2.2 i hi).1, ?_⟩⟩
  have := labels_mem hi
  omega
theorem book_one (l : List (El T_book_Act)) {many : Int} (m0 : 0 ≤ many) (m1 : many ≤ 90) : ∃ t : List (El T_api_Ins), (v_book_Prog [l] (1 : Int) many).2 = [t] ∧ 1 ≤ t.length ∧ (t.length : Int) ≤ many + 1 ∧ smallThread t = true ∧ flowOK t = true ∧ k_book_Prog [l] (1 : Int) many = true := by
  obtain ⟨_, hs, hk⟩ := book_valid [l] (threads := 1) (many := many) (by omega) (by omega) m0 m1
  have e : (v_book_Prog [l] (1 : Int) many).2 = [threadB l (min l.length many.toNat)] := rfl
  have hl : (threadB l (min l.length many.toNat)).length = min l.length many.toNat + 1 := by unfold threadB; rw [withL_len, baseT_len l _ (Nat.min_le_left _ _)]
  have hsm : smallThread (threadB l (min l.length many.toNat)) = true := by
    unfold smallProg at hs
    rw [Bool.and_eq_true, e] at hs
    exact List.all_eq_true.1 hs.2 _ (by simp)
  exact ⟨_, e, by omega, by omega, hsm, small_flow' hsm, hk⟩
end Go.Ev
end

section
set_option linter.unusedSectionVars false
set_option linter.unusedVariables false
set_option linter.unusedSimpArgs false
/- Free ways: the program's own answers. -/
set_option maxRecDepth 100000
set_option linter.unusedVariables false
set_option linter.unusedSimpArgs false
open Go
namespace Go.Ev
theorem listOf_le {n : Nat} {M : Nat → Bool} : (listOf n M).length ≤ n := by rw [listOf_length]; exact card_le
theorem listOf_contains {n : Nat} {M : Nat → Bool} {x : Int} : (listOf n M).contains x = (decide (0 ≤ x ∧ x < (n : Int)) && M x.toNat) := by
  rw [Bool.eq_iff_iff, List.contains_iff_mem, listOf_mem]
  simp only [Bool.and_eq_true, decide_eq_true_eq]
  constructor
  · rintro ⟨i, h1, h2, rfl⟩; exact ⟨by omega, by rw [Int.toNat_natCast]; exact h2⟩
  · rintro ⟨h1, h2⟩; exact ⟨x.toNat, by omega, h2, by omega⟩
theorem same_self {l : List Int} (h : l.length < 1099511627776) : k_book_SameInts l l = true ∧ v_book_SameInts l l = true := ⟨decide_eq_true (by omega), decide_eq_true rfl⟩
theorem ends_road {t : List (El T_api_Ins)} {points : List Int} (h : flowOK t = true) (hp : points.length < 4611686018427387904) (s : Int) :
    k_road_Ends t points s = true ∧ k_book_SameInts (v_road_Ends t points s) (v_road_Ends t points s) = true ∧ v_book_SameInts (v_road_Ends t points s) (v_road_Ends t points s) = true := by
  have k1 : k_road_Ends t points s = true := by unfold k_road_Ends; rw [h, decide_eq_true hp]; rfl
  have hl := flowOK_len h
  exact ⟨k1, same_self (by unfold v_road_Ends; have := @listOf_le t.length (endsB t points s); omega)⟩
theorem free_road {t : List (El T_api_Ins)} {points : List Int} (h : flowOK t = true) (hp : points.length < 4611686018427387904) (s l : Int) :
    k_road_Free t points s l = true ∧ v_road_Free t points s l = (decide (0 ≤ l ∧ l < (t.length : Int)) && endsB t points s l.toNat) := by
  obtain ⟨k1, _⟩ := ends_road h hp s
  have hl := flowOK_len h
  have ki : k_slices_Index___int_int_ (v_road_Ends t points s) l = true := decide_eq_true (by unfold v_road_Ends; have := @listOf_le t.length (endsB t points s); omega)
  have vr : v_road_Free t points s l = (decide (0 ≤ l ∧ l < (t.length : Int)) && endsB t points s l.toNat) := by
    unfold v_road_Free k_slices_Contains___int_int_ v_slices_Contains___int_int_
    rw [k1, ki]
    simp only [cond_true]
    unfold v_slices_Index___int_int_
    rw [indexI_ge]
    unfold v_road_Ends
    exact listOf_contains
  refine ⟨?_, vr⟩
  unfold k_road_Free k_slices_Contains___int_int_; rw [k1, ki]; rfl
end Go.Ev
end

section
set_option linter.unusedSectionVars false
set_option linter.unusedVariables false
set_option linter.unusedSimpArgs false
/- The first call's text of law21_alive. -/
set_option maxRecDepth 100000
open Go
namespace Go.Ev
noncomputable section
def lit_law21_alive : List (El T_api_Ins) := [((1 : Int), (false, ((0 : Int), (((3 : Int), ((0 : Int), ((0 : Int), (0 : Int)))), (((2 : Int), ((0 : Int), ((0 : Int), (1 : Int)))), ((bs []), [])))))), ((1 : Int), (false, ((0 : Int), (((1 : Int), ((0 : Int), ((0 : Int), (0 : Int)))), (((3 : Int), ((0 : Int), ((0 : Int), (0 : Int)))), ((bs []), [])))))), ((14 : Int), (false, ((0 : Int), (((0 : Int), ((0 : Int), ((0 : Int), (0 : Int)))), (((0 : Int), ((0 : Int), ((0 : Int), (0 : Int)))), ((bs []), []))))))]
def ka_law21_alive (t : List (El T_api_Ins)) : Bool :=
  bif (k_road_Free t [] (0 : Int) (1 : Int)) then
    bif (v_road_Free t [] (0 : Int) (1 : Int)) then
      bif (k_road_Free t [(1 : Int)] (0 : Int) (1 : Int)) then
        bif (! (v_road_Free t [(1 : Int)] (0 : Int) (1 : Int))) then
          bif (k_road_Free t [] (1 : Int) (0 : Int)) then
            bif (! (v_road_Free t [] (1 : Int) (0 : Int))) then
              bif (k_road_Ends t [(2 : Int)] (0 : Int)) then
                bif (k_book_SameInts (v_road_Ends t [(2 : Int)] (0 : Int)) [(1 : Int)]) then
                  true
                else false
              else false
            else true
          else false
        else true
      else false
    else true
  else false
def va_law21_alive (t : List (El T_api_Ins)) : Bool :=
  bif (k_road_Free t [] (0 : Int) (1 : Int)) then
    bif (v_road_Free t [] (0 : Int) (1 : Int)) then
      bif (k_road_Free t [(1 : Int)] (0 : Int) (1 : Int)) then
        bif (! (v_road_Free t [(1 : Int)] (0 : Int) (1 : Int))) then
          bif (k_road_Free t [] (1 : Int) (0 : Int)) then
            bif (! (v_road_Free t [] (1 : Int) (0 : Int))) then
              bif (k_road_Ends t [(2 : Int)] (0 : Int)) then
                bif (k_book_SameInts (v_road_Ends t [(2 : Int)] (0 : Int)) [(1 : Int)]) then
                  (v_book_SameInts (v_road_Ends t [(2 : Int)] (0 : Int)) [(1 : Int)])
                else false
              else false
            else false
          else false
        else false
      else false
    else false
  else false
theorem ka_law21_alive_eq : k_law21_alive = ka_law21_alive lit_law21_alive := rfl
theorem va_law21_alive_eq : v_law21_alive = va_law21_alive lit_law21_alive := rfl
end
end Go.Ev
end

section
set_option linter.unusedSectionVars false
set_option linter.unusedVariables false
set_option linter.unusedSimpArgs false
/- Chapter 21's first calls. -/
set_option maxRecDepth 100000
set_option linter.unusedVariables false
set_option linter.unusedSimpArgs false
open Go
namespace Go.Ev
theorem alive21 : k_law21_alive = true ∧ v_law21_alive = true := by
  rw [ka_law21_alive_eq, va_law21_alive_eq]
  have hk : flowOK lit_law21_alive = true := by decide +kernel
  have hl3 : lit_law21_alive.length = 3 := rfl
  have nx : ∀ i, i < 3 → ∀ j, j < 3 → nextB lit_law21_alive ((i : Nat) : Int) j = decide (j = i + 1) := by decide +kernel
  have hlt : ∀ (k j : Nat), nextB lit_law21_alive (k : Int) j = true → j < 3 ∧ k < 3 := fun k j h => by
    refine ⟨nextB_lt h, ?_⟩
    unfold nextB at h
    rw [Bool.and_eq_true] at h
    have := (of_decide_eq_true h.1).2.1
    rw [hl3] at this
    omega
  have nx1 : ∀ (k j : Nat), nextB lit_law21_alive (k : Int) j = true → j = k + 1 ∧ j < 3 := fun k j h => by
    obtain ⟨h1, h2⟩ := hlt k j h
    rw [nx k h2 j h1] at h
    exact ⟨of_decide_eq_true h, h1⟩
  have first : ∀ {points : List Int} {s j : Nat}, firstB lit_law21_alive points (s : Int) j = true → j = s + 1 ∧ j < 3 ∧ points.contains (j : Int) = false := fun {points s j} h => by
    unfold firstB at h
    rw [Bool.and_eq_true] at h
    obtain ⟨h1, h2⟩ := nx1 s j h.1
    exact ⟨h1, h2, by simpa using h.2⟩
  have step : ∀ {points : List Int} {k j : Nat}, stepB lit_law21_alive points k j = true → j = k + 1 ∧ j < 3 ∧ points.contains (j : Int) = false := fun {points k j} h => by
    unfold stepB at h
    rw [Bool.and_eq_true, Bool.and_eq_true] at h
    obtain ⟨h1, h2⟩ := nx1 k j h.2.1
    exact ⟨h1, h2, by simpa using h.2.2⟩
  have e1 : endsB lit_law21_alive [] ((0 : Nat) : Int) 1 = true := comeB_iff.2 (.start (by decide +kernel))
  have e2 : ∀ j, endsB lit_law21_alive [1] ((0 : Nat) : Int) j = false := fun j => by
    refine (comeB_eq (M := fun _ => false) (fun j hj => ?_) (fun k j hk => by cases hk) (fun j hj => by cases hj) j).symm
    obtain ⟨h1, _, h3⟩ := first hj
    subst h1
    exact absurd h3 (by decide)
  have e3 : endsB lit_law21_alive [] ((1 : Nat) : Int) 0 = false := by
    have := (comeB_eq (N := stepB lit_law21_alive []) (A := firstB lit_law21_alive [] ((1 : Nat) : Int)) (M := fun j => decide (j = 2)) (fun j hj => ?_) (fun k j hk hj => ?_) (fun j hj => ?_) 0).symm
    · exact this
    · obtain ⟨h1, _⟩ := first hj; exact decide_eq_true (by omega)
    · obtain ⟨h1, h2, _⟩ := step hj
      have := of_decide_eq_true hk
      omega
    · have := of_decide_eq_true hj
      subst this
      exact .start (by decide +kernel)
  have e4 : ∀ j, endsB lit_law21_alive [2] ((0 : Nat) : Int) j = decide (j = 1) := fun j => by
    refine (comeB_eq (M := fun j => decide (j = 1)) (fun j hj => ?_) (fun k j hk hj => ?_) (fun j hj => ?_) j).symm
    · obtain ⟨h1, _⟩ := first hj; exact decide_eq_true (by omega)
    · obtain ⟨h1, h2, h3⟩ := step hj
      have := of_decide_eq_true hk
      subst this
      subst h1
      exact absurd h3 (by decide)
    · have := of_decide_eq_true hj
      subst this
      exact .start (by decide +kernel)
  obtain ⟨a1, a2⟩ := free_road (points := []) hk (by simp) 0 1
  obtain ⟨b1, b2⟩ := free_road (points := [1]) hk (by simp) 0 1
  obtain ⟨c1, c2⟩ := free_road (points := []) hk (by simp) 1 0
  obtain ⟨d1, d3, d4⟩ := ends_road (points := [2]) hk (by simp) 0
  have a3 : v_road_Free lit_law21_alive [] 0 1 = true := by
    rw [a2, hl3, show endsB lit_law21_alive [] 0 (Int.toNat 1) = true from e1]; rfl
  have b3 : v_road_Free lit_law21_alive [1] 0 1 = false := by
    rw [b2, show endsB lit_law21_alive [1] 0 (Int.toNat 1) = false from e2 1, Bool.and_false]
  have c3 : v_road_Free lit_law21_alive [] 1 0 = false := by
    rw [c2, show endsB lit_law21_alive [] 1 (Int.toNat 0) = false from e3, Bool.and_false]
  have d2 : v_road_Ends lit_law21_alive [2] 0 = [1] := by
    unfold v_road_Ends
    rw [show endsB lit_law21_alive [2] 0 = fun j => decide (j = 1) from funext e4, hl3]
    rfl
  rw [d2] at d3 d4
  unfold ka_law21_alive va_law21_alive
  rw [a1, a3, b1, b3, c1, c3, d1, d2]
  exact ⟨by decide +kernel, by decide +kernel⟩
end Go.Ev
end

section
set_option linter.unusedSectionVars false
set_option linter.unusedVariables false
set_option linter.unusedSimpArgs false
/- Chapter 21: both texts tell the same. -/
set_option maxRecDepth 100000
set_option linter.unusedVariables false
set_option linter.unusedSimpArgs false
open Go
namespace Go.Ev
theorem listFrom_row' (M : Nat → Bool) : ∀ n k : Nat, listFrom k ((List.range' k n).map M) = ((List.range' k n).filter M).map Int.ofNat
  | 0, k => rfl
  | n + 1, k => by
    rw [List.range'_succ, List.map_cons, List.filter_cons]
    unfold listFrom
    rw [listFrom_row' M n (k + 1)]
    cases M k <;> simp
theorem list_row' {n : Nat} {M : Nat → Bool} : listFrom 0 (rowOf n M) = listOf n M := by
  have := listFrom_row' M n 0
  unfold rowOf listOf
  rw [List.range_eq_range']
  exact this
theorem ends_eq {t : List (El T_api_Ins)} {points : List Int} (h : flowOK t = true) (hp : points.length < 4611686018427387904) (s : Int) :
    k_road_Ends t points s = true ∧ k_ref3_Ends t points s = true ∧ v_ref3_Ends t points s = v_road_Ends t points s ∧ k_book_SameInts (v_road_Ends t points s) (v_road_Ends t points s) = true ∧ v_book_SameInts (v_road_Ends t points s) (v_road_Ends t points s) = true := by
  have k0 : (flowOK t && decide (points.length < 4611686018427387904)) = true := by rw [h, decide_eq_true hp]; rfl
  have k1 : k_road_Ends t points s = true := k0
  have k2 : k_ref3_ends t points s = true := k0
  have k3 : k_ref3_List (v_ref3_ends t points s) = true := decide_eq_true (by unfold v_ref3_ends; rw [rowOf_length]; exact flowOK_len h)
  have hl := flowOK_len h
  refine ⟨k1, ?_, ?_, decide_eq_true (by unfold v_road_Ends; have := @listOf_le t.length (endsB t points s); omega), decide_eq_true rfl⟩
  · unfold k_ref3_Ends; rw [k2, k3]; rfl
  · unfold v_ref3_Ends; rw [k2, k3]; exact list_row'
end Go.Ev
end

section
set_option linter.unusedSectionVars false
set_option linter.unusedVariables false
set_option linter.unusedSimpArgs false
set_option maxRecDepth 100000
set_option linter.unusedVariables false
set_option linter.unusedSimpArgs false
open Go
namespace Go.Ev
def v_law21_RoadMade (l : List (El T_book_Act)) (points : List Int) : Bool := true
def k_law21_RoadMade (l : List (El T_book_Act)) (points : List Int) : Bool := true
theorem g_law21_RoadMade (l : List (El T_book_Act)) (points : List Int) (hk : k_law21_RoadMade l points = true) : Goes (T_law21_RoadMade l points) (T0_law21_RoadMade l points) (v_law21_RoadMade l points) := by
  obtain ⟨ka, va⟩ := alive21
  obtain ⟨t, hP, ht1, ht2, _, hf, kp⟩ := book_one l (many := 9) (by omega) (by omega)
  have hg : List.getD (v_book_Prog [l] (1 : Int) (9 : Int)).2 0 (dflt (.sl T_api_Ins)) = t := by rw [hP]; rfl
  have hlen := flowOK_len hf
  unfold T0_law21_RoadMade v_law21_RoadMade
  rw [hg, hP, goes_br, if_pos kp, goes_br, if_pos (by simp)]
  -- the comparing
  have comp : ∀ a : List Int, a.length ≤ 4 → Goes (T_law21_RoadMade l points) (.jmp (.l12 t a (0 : Int))) true := by
    intro a ha
    have hp : a.length < 4611686018427387904 := by omega
    have outer : ∀ i, i ≤ t.length → Goes (T_law21_RoadMade l points) (.jmp (.l12 t a (i : Int))) true := by
      refine down ?_ fun i hi ih => ?_
      · rw [goes_jmp, T_law21_RoadMade, goes_br, if_neg (by rw [lt_len_not (Nat.lt_irrefl _)]; decide), goes_br, if_pos ka, va]
        exact .leaf
      · obtain ⟨a1, a2, a3, a4, a5⟩ := ends_eq hf hp (i : Int)
        have inner : ∀ k, k ≤ t.length → Goes (T_law21_RoadMade l points) (.jmp (.l20 t a (k : Int) (i : Int))) true := by
          refine down ?_ fun k hk ih2 => ?_
          · rw [goes_jmp, T_law21_RoadMade, goes_br, if_neg (by rw [lt_len_not (Nat.lt_irrefl _)]; decide), wrap_succ (by omega)]
            exact ih
          · obtain ⟨b1, b4⟩ := free_road hf hp (i : Int) (k : Int)
            have kin : k_ref3_In (v_road_Ends t a (i : Int)) (k : Int) = true := decide_eq_true (by unfold v_road_Ends; have := @listOf_le t.length (endsB t a (i : Int)); omega)
            have vin : v_ref3_In (v_road_Ends t a (i : Int)) (k : Int) = v_road_Free t a (i : Int) (k : Int) := by
              rw [b4]
              unfold v_ref3_In v_road_Ends
              exact listOf_contains
            rw [goes_jmp, T_law21_RoadMade, goes_br, if_pos (lt_len hk), goes_br, if_pos b1, goes_br, if_pos a2, a3, goes_br, if_pos kin, goes_br, vin, if_neg (by simp), wrap_succ (by omega)]
            exact ih2
        rw [goes_jmp, T_law21_RoadMade, goes_br, if_pos (lt_len hi), goes_br, if_pos a1, goes_br, if_pos a2, a3, goes_br, if_pos a4, goes_br, if_neg (by rw [a5]; decide)]
        exact inner 0 (Nat.zero_le _)
    exact outer 0 (Nat.zero_le _)
  have pick : ∀ k, k ≤ points.length → ∀ a : List Int, a.length = min k 4 → (k ≤ 4) → Goes (T_law21_RoadMade l points) (.jmp (.l6 t (k : Int) a)) true := by
    refine down ?_ fun k hk ih => ?_
    · intro a ha h4
      rw [goes_jmp, T_law21_RoadMade, goes_br, if_neg (by rw [lt_len_not (Nat.lt_irrefl _)]; decide)]
      exact comp a (by omega)
    · intro a ha h4
      rw [goes_jmp, T_law21_RoadMade, goes_br, if_pos (lt_len hk), goes_br]
      by_cases h : k < 4
      · have hw : IntKind.i64.wrap (Int.ofNat t.length + 1) = ((t.length + 1 : Nat) : Int) := wrap_succ (by omega)
        obtain ⟨kpk, _, _⟩ := pick_lt (n := List.getD points k (dflt (.int .i64))) (m := ((t.length + 1 : Nat) : Int)) (by omega) (by omega)
        rw [if_pos (decide_eq_true (by omega)), goes_br, if_pos (bound_len hk), goes_br, hw, Int.toNat_natCast, if_pos kpk, goes_br, if_pos (Nat.ble_eq_true_of_le (by unfold limit; omega)), wrap_succ (by omega)]
        exact ih _ (by simp; omega) (by omega)
      · rw [if_neg (by simp; omega)]
        exact comp a (by omega)
  exact pick 0 (Nat.zero_le _) [] rfl (by omega)
end Go.Ev
end

section
set_option linter.unusedSectionVars false
set_option linter.unusedVariables false
set_option linter.unusedSimpArgs false
set_option maxRecDepth 100000
set_option linter.unusedVariables false
open Go Go.Ev
namespace Go.Ev
noncomputable section
noncomputable def e_law21_RoadMade : Run := entG sg_law21_RoadMade R_law21_RoadMade (fun a => k_law21_RoadMade a.1 a.2.1) (fun a => v_law21_RoadMade a.1 a.2.1)
theorem ok_law21_RoadMade : EntOK Go.Proofs.Tryd.prog 3 e_law21_RoadMade := entG_ok (tb := tb_law21_RoadMade) (c := c_law21_RoadMade) tk_law21_RoadMade (by kernel_rfl) (by kernel_rfl) (by kernel_rfl) (fun a => by kernel_rfl) fun ⟨l, points, _⟩ hk => evF_goes (c := c_law21_RoadMade) (K := fun v => (R_law21_RoadMade v, tps (toForms sg_law21_RoadMade (l, points, ())))) (S := S_law21_RoadMade l points) (by kernel_rfl) (en_law21_RoadMade l points) (lp_law21_RoadMade l points) (g_law21_RoadMade l points hk)
theorem co_law21_RoadMade (l : List (El T_book_Act)) (points : List Int) (hk : k_law21_RoadMade l points = true) : CallOK Go.Proofs.Tryd.prog 3 (toForms sg_law21_RoadMade (l, points, ())) (R_law21_RoadMade (v_law21_RoadMade l points), tps (toForms sg_law21_RoadMade (l, points, ()))) := by
  obtain ⟨h1, h2⟩ := clOf_ok tk_law21_RoadMade
  obtain ⟨n, hn⟩ := evF_goes (c := c_law21_RoadMade) (K := fun v => (R_law21_RoadMade v, tps (toForms sg_law21_RoadMade (l, points, ())))) (S := S_law21_RoadMade l points) (by kernel_rfl) (en_law21_RoadMade l points) (lp_law21_RoadMade l points) (g_law21_RoadMade l points hk)
  exact evF_sound (f := 3) (c := c_law21_RoadMade) h1 h2 (by kernel_rfl) (by kernel_rfl) (by kernel_rfl) hn
end
end Go.Ev
end

section
set_option linter.unusedSectionVars false
set_option linter.unusedVariables false
set_option linter.unusedSimpArgs false
set_option maxRecDepth 100000
set_option linter.unusedVariables false
namespace Go.Ev
open Go
theorem call_law21_RoadMade (a : Args sg_law21_RoadMade) (ha : smallArgs sg_law21_RoadMade a) : CallOK Go.Proofs.Tryd.prog fid_law21_RoadMade (toForms sg_law21_RoadMade a) (.d .bool true, tps (toForms sg_law21_RoadMade a)) := by
  obtain ⟨l, points, _⟩ := a
  exact co_law21_RoadMade l points rfl
end Go.Ev
end

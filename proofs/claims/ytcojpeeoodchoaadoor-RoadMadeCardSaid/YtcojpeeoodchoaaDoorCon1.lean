/- Part of the proof of: The free ways of any thread that the book makes, past any few points, between each two instructions, are what the document says: for every input the law answers true. -/
import Derived.Shelf.Slices.In.SortNone
import Derived.Shelf.Sort.Plain
import Derived.Test.YtcojpeeoodchoaaDoorCon0
section
set_option linter.unusedSectionVars false
set_option linter.unusedVariables false
set_option linter.unusedSimpArgs false
set_option maxRecDepth 100000
set_option linter.unusedVariables false
open Go Go.Ev
namespace Go.Ev
noncomputable section
noncomputable def e_valid_Find : Run := entG sg_valid_Find R_valid_Find (fun a => k_valid_Find a.1 a.2.1) (fun a => v_valid_Find a.1 a.2.1)
theorem ok_valid_Find : EntOK Go.Proofs.Tryd.prog 29 e_valid_Find := entG_ok (tb := tb_valid_Find) (c := c_valid_Find) tk_valid_Find (by kernel_rfl) (by kernel_rfl) (by kernel_rfl) (fun a => by kernel_rfl) fun ⟨t, label, _⟩ hk => evF_goes (c := c_valid_Find) (K := fun v => (R_valid_Find v, tps (toForms sg_valid_Find (t, label, ())))) (S := S_valid_Find t label) (by kernel_rfl) (en_valid_Find t label) (lp_valid_Find t label) (g_valid_Find t label hk)
end
end Go.Ev
end

section
set_option linter.unusedSectionVars false
set_option linter.unusedVariables false
set_option linter.unusedSimpArgs false
set_option maxRecDepth 100000
set_option linter.unusedVariables false
open Go Go.Ev
namespace Go.Ev
noncomputable section
/-! ### paling/flow.Next -/
def sg_flow_Next : Sig := [(true, (.sl T_api_Ins)), (false, (.int .i64))]
noncomputable def t_flow_Next : Tbl := [(28, e_ins_Leads), (29, e_valid_Find)]
theorem tk_flow_Next : ∀ p ∈ t_flow_Next, EntOK Go.Proofs.Tryd.prog p.1 p.2 := tbl_cons ok_ins_Leads (tbl_cons ok_valid_Find (tbl_nil))
noncomputable def c_flow_Next : Code := Go.Proofs.Tryd.f15.body.getD .skip
def tb_flow_Next : Tb := [(12, ⟨[1, 5, 8, 55, 68, 76], [(9, 46)]⟩), (14, ⟨[5, 8, 78], []⟩), (hintK, ⟨[], [(1, 46)]⟩)]
inductive J_flow_Next where
  | l12 (to_ : Int) (out : List Int) (h : Bool)
  | l14 (to_ : Int) (out : List Int) (h : Bool)
def T_flow_Next (t : List (El T_api_Ins)) (i : Int) : J_flow_Next → JT J_flow_Next (List Int)
  | .l12 to_ out h =>
    .br h
      (.br (Nat.ble (((List.length out) + 1) * 8) limit)
        (.br (decide (to_ > i))
          (.br ((Int.ofNat (List.length (out ++ [(IntKind.i64.wrap (i + (1 : Int)))]))) == (0 : Int))
            (.jmp (.l14 to_ (out ++ [(IntKind.i64.wrap (i + (1 : Int)))]) true))
          (.br ((decide ((0 : Int) ≤ (IntKind.i64.wrap ((Int.ofNat (List.length (out ++ [(IntKind.i64.wrap (i + (1 : Int)))]))) - (1 : Int))))) && (decide ((IntKind.i64.wrap ((Int.ofNat (List.length (out ++ [(IntKind.i64.wrap (i + (1 : Int)))]))) - (1 : Int))) < (Int.ofNat (List.length (out ++ [(IntKind.i64.wrap (i + (1 : Int)))]))))))
            (.jmp (.l14 to_ (out ++ [(IntKind.i64.wrap (i + (1 : Int)))]) ((List.getD (out ++ [(IntKind.i64.wrap (i + (1 : Int)))]) (Int.toNat (IntKind.i64.wrap ((Int.ofNat (List.length (out ++ [(IntKind.i64.wrap (i + (1 : Int)))]))) - (1 : Int)))) (dflt (.int .i64))) != to_)))
          (.no)))
        (.jmp (.l14 to_ (out ++ [(IntKind.i64.wrap (i + (1 : Int)))]) false)))
      (.no))
    (.br (decide (to_ > i))
      (.br ((Int.ofNat (List.length out)) == (0 : Int))
        (.jmp (.l14 to_ out true))
      (.br ((decide ((0 : Int) ≤ (IntKind.i64.wrap ((Int.ofNat (List.length out)) - (1 : Int))))) && (decide ((IntKind.i64.wrap ((Int.ofNat (List.length out)) - (1 : Int))) < (Int.ofNat (List.length out)))))
        (.jmp (.l14 to_ out ((List.getD out (Int.toNat (IntKind.i64.wrap ((Int.ofNat (List.length out)) - (1 : Int)))) (dflt (.int .i64))) != to_)))
      (.no)))
    (.jmp (.l14 to_ out false)))
  | .l14 to_ out h =>
    .br h
      (.br (Nat.ble (((List.length out) + 1) * 8) limit)
        (.leaf (out ++ [to_]))
      (.no))
    (.leaf out)
def T0_flow_Next (t : List (El T_api_Ins)) (i : Int) : JT J_flow_Next (List Int) :=
  .br (decide (i < (0 : Int)))
    (.leaf [])
  (.br (decide (i ≥ (Int.ofNat (List.length t))))
    (.leaf [])
  (.br ((decide ((0 : Int) ≤ i)) && (decide (i < (Int.ofNat (List.length t)))))
    (.br (k_ins_Leads (List.getD t (Int.toNat i) (dflt T_api_Ins)))
      (.br (v_ins_Leads (List.getD t (Int.toNat i) (dflt T_api_Ins))).2
        (.br ((decide ((0 : Int) ≤ i)) && (decide (i < (Int.ofNat (List.length t)))))
          (.br (k_valid_Find t (List.getD t (Int.toNat i) (dflt T_api_Ins)).2.2.2.2.2.1)
            (.br (decide ((v_valid_Find t (List.getD t (Int.toNat i) (dflt T_api_Ins)).2.2.2.2.2.1) ≥ (0 : Int)))
              (.br (decide ((v_valid_Find t (List.getD t (Int.toNat i) (dflt T_api_Ins)).2.2.2.2.2.1) ≤ i))
                (.br (v_ins_Leads (List.getD t (Int.toNat i) (dflt T_api_Ins))).1
                  (.jmp (.l12 (v_valid_Find t (List.getD t (Int.toNat i) (dflt T_api_Ins)).2.2.2.2.2.1) [(v_valid_Find t (List.getD t (Int.toNat i) (dflt T_api_Ins)).2.2.2.2.2.1)] (decide ((IntKind.i64.wrap (i + (1 : Int))) < (Int.ofNat (List.length t))))))
                (.jmp (.l12 (v_valid_Find t (List.getD t (Int.toNat i) (dflt T_api_Ins)).2.2.2.2.2.1) [(v_valid_Find t (List.getD t (Int.toNat i) (dflt T_api_Ins)).2.2.2.2.2.1)] false)))
              (.br (v_ins_Leads (List.getD t (Int.toNat i) (dflt T_api_Ins))).1
                (.jmp (.l12 (v_valid_Find t (List.getD t (Int.toNat i) (dflt T_api_Ins)).2.2.2.2.2.1) [] (decide ((IntKind.i64.wrap (i + (1 : Int))) < (Int.ofNat (List.length t))))))
              (.jmp (.l12 (v_valid_Find t (List.getD t (Int.toNat i) (dflt T_api_Ins)).2.2.2.2.2.1) [] false))))
            (.br (v_ins_Leads (List.getD t (Int.toNat i) (dflt T_api_Ins))).1
              (.jmp (.l12 (v_valid_Find t (List.getD t (Int.toNat i) (dflt T_api_Ins)).2.2.2.2.2.1) [] (decide ((IntKind.i64.wrap (i + (1 : Int))) < (Int.ofNat (List.length t))))))
            (.jmp (.l12 (v_valid_Find t (List.getD t (Int.toNat i) (dflt T_api_Ins)).2.2.2.2.2.1) [] false))))
          (.no))
        (.no))
      (.br (v_ins_Leads (List.getD t (Int.toNat i) (dflt T_api_Ins))).1
        (.jmp (.l12 (-1 : Int) [] (decide ((IntKind.i64.wrap (i + (1 : Int))) < (Int.ofNat (List.length t))))))
      (.jmp (.l12 (-1 : Int) [] false))))
    (.no))
  (.no)))
def v_flow_Next_l14 (t : List (El T_api_Ins)) (i : Int) (to_ : Int) (out : List Int) (h : Bool) : List Int :=
  bif h then
    bif (Nat.ble (((List.length out) + 1) * 8) limit) then
      (out ++ [to_])
    else []
  else out
def k_flow_Next_l14 (t : List (El T_api_Ins)) (i : Int) (to_ : Int) (out : List Int) (h : Bool) : Bool :=
  bif h then
    bif (Nat.ble (((List.length out) + 1) * 8) limit) then
      true
    else false
  else true
theorem g_flow_Next_l14 (t : List (El T_api_Ins)) (i : Int) (to_ : Int) (out : List Int) (h : Bool) (hk : k_flow_Next_l14 t i to_ out h = true) : Goes (T_flow_Next t i) (.jmp (.l14 to_ out h)) (v_flow_Next_l14 t i to_ out h) :=
  Goes.jmp (Goes.brk hk (fun hk =>
    Goes.brk hk (fun hk =>
      Goes.leaf) (fun hk =>
      Goes.nok hk)) (fun hk =>
    Goes.leaf))
def v_flow_Next_l12 (t : List (El T_api_Ins)) (i : Int) (to_ : Int) (out : List Int) (h : Bool) : List Int :=
  bif h then
    bif (Nat.ble (((List.length out) + 1) * 8) limit) then
      bif (decide (to_ > i)) then
        bif ((Int.ofNat (List.length (out ++ [(IntKind.i64.wrap (i + (1 : Int)))]))) == (0 : Int)) then
          v_flow_Next_l14 t i to_ (out ++ [(IntKind.i64.wrap (i + (1 : Int)))]) true
        else bif ((decide ((0 : Int) ≤ (IntKind.i64.wrap ((Int.ofNat (List.length (out ++ [(IntKind.i64.wrap (i + (1 : Int)))]))) - (1 : Int))))) && (decide ((IntKind.i64.wrap ((Int.ofNat (List.length (out ++ [(IntKind.i64.wrap (i + (1 : Int)))]))) - (1 : Int))) < (Int.ofNat (List.length (out ++ [(IntKind.i64.wrap (i + (1 : Int)))])))))) then
          v_flow_Next_l14 t i to_ (out ++ [(IntKind.i64.wrap (i + (1 : Int)))]) ((List.getD (out ++ [(IntKind.i64.wrap (i + (1 : Int)))]) (Int.toNat (IntKind.i64.wrap ((Int.ofNat (List.length (out ++ [(IntKind.i64.wrap (i + (1 : Int)))]))) - (1 : Int)))) (dflt (.int .i64))) != to_)
        else []
      else v_flow_Next_l14 t i to_ (out ++ [(IntKind.i64.wrap (i + (1 : Int)))]) false
    else []
  else bif (decide (to_ > i)) then
    bif ((Int.ofNat (List.length out)) == (0 : Int)) then
      v_flow_Next_l14 t i to_ out true
    else bif ((decide ((0 : Int) ≤ (IntKind.i64.wrap ((Int.ofNat (List.length out)) - (1 : Int))))) && (decide ((IntKind.i64.wrap ((Int.ofNat (List.length out)) - (1 : Int))) < (Int.ofNat (List.length out))))) then
      v_flow_Next_l14 t i to_ out ((List.getD out (Int.toNat (IntKind.i64.wrap ((Int.ofNat (List.length out)) - (1 : Int)))) (dflt (.int .i64))) != to_)
    else []
  else v_flow_Next_l14 t i to_ out false
def k_flow_Next_l12 (t : List (El T_api_Ins)) (i : Int) (to_ : Int) (out : List Int) (h : Bool) : Bool :=
  bif h then
    bif (Nat.ble (((List.length out) + 1) * 8) limit) then
      bif (decide (to_ > i)) then
        bif ((Int.ofNat (List.length (out ++ [(IntKind.i64.wrap (i + (1 : Int)))]))) == (0 : Int)) then
          k_flow_Next_l14 t i to_ (out ++ [(IntKind.i64.wrap (i + (1 : Int)))]) true
        else bif ((decide ((0 : Int) ≤ (IntKind.i64.wrap ((Int.ofNat (List.length (out ++ [(IntKind.i64.wrap (i + (1 : Int)))]))) - (1 : Int))))) && (decide ((IntKind.i64.wrap ((Int.ofNat (List.length (out ++ [(IntKind.i64.wrap (i + (1 : Int)))]))) - (1 : Int))) < (Int.ofNat (List.length (out ++ [(IntKind.i64.wrap (i + (1 : Int)))])))))) then
          k_flow_Next_l14 t i to_ (out ++ [(IntKind.i64.wrap (i + (1 : Int)))]) ((List.getD (out ++ [(IntKind.i64.wrap (i + (1 : Int)))]) (Int.toNat (IntKind.i64.wrap ((Int.ofNat (List.length (out ++ [(IntKind.i64.wrap (i + (1 : Int)))]))) - (1 : Int)))) (dflt (.int .i64))) != to_)
        else false
      else k_flow_Next_l14 t i to_ (out ++ [(IntKind.i64.wrap (i + (1 : Int)))]) false
    else false
  else bif (decide (to_ > i)) then
    bif ((Int.ofNat (List.length out)) == (0 : Int)) then
      k_flow_Next_l14 t i to_ out true
    else bif ((decide ((0 : Int) ≤ (IntKind.i64.wrap ((Int.ofNat (List.length out)) - (1 : Int))))) && (decide ((IntKind.i64.wrap ((Int.ofNat (List.length out)) - (1 : Int))) < (Int.ofNat (List.length out))))) then
      k_flow_Next_l14 t i to_ out ((List.getD out (Int.toNat (IntKind.i64.wrap ((Int.ofNat (List.length out)) - (1 : Int)))) (dflt (.int .i64))) != to_)
    else false
  else k_flow_Next_l14 t i to_ out false
theorem g_flow_Next_l12 (t : List (El T_api_Ins)) (i : Int) (to_ : Int) (out : List Int) (h : Bool) (hk : k_flow_Next_l12 t i to_ out h = true) : Goes (T_flow_Next t i) (.jmp (.l12 to_ out h)) (v_flow_Next_l12 t i to_ out h) :=
  Goes.jmp (Goes.brk hk (fun hk =>
    Goes.brk hk (fun hk =>
      Goes.brk hk (fun hk =>
        Goes.brk hk (fun hk =>
          g_flow_Next_l14 t i to_ (out ++ [(IntKind.i64.wrap (i + (1 : Int)))]) true hk) (fun hk =>
          Goes.brk hk (fun hk =>
            g_flow_Next_l14 t i to_ (out ++ [(IntKind.i64.wrap (i + (1 : Int)))]) ((List.getD (out ++ [(IntKind.i64.wrap (i + (1 : Int)))]) (Int.toNat (IntKind.i64.wrap ((Int.ofNat (List.length (out ++ [(IntKind.i64.wrap (i + (1 : Int)))]))) - (1 : Int)))) (dflt (.int .i64))) != to_) hk) (fun hk =>
            Goes.nok hk))) (fun hk =>
        g_flow_Next_l14 t i to_ (out ++ [(IntKind.i64.wrap (i + (1 : Int)))]) false hk)) (fun hk =>
      Goes.nok hk)) (fun hk =>
    Goes.brk hk (fun hk =>
      Goes.brk hk (fun hk =>
        g_flow_Next_l14 t i to_ out true hk) (fun hk =>
        Goes.brk hk (fun hk =>
          g_flow_Next_l14 t i to_ out ((List.getD out (Int.toNat (IntKind.i64.wrap ((Int.ofNat (List.length out)) - (1 : Int)))) (dflt (.int .i64))) != to_) hk) (fun hk =>
          Goes.nok hk))) (fun hk =>
      g_flow_Next_l14 t i to_ out false hk)))
def u_flow_Next (t : List (El T_api_Ins)) (i : Int) : List Int :=
  bif (decide (i < (0 : Int))) then
    []
  else bif (decide (i ≥ (Int.ofNat (List.length t)))) then
    []
  else bif ((decide ((0 : Int) ≤ i)) && (decide (i < (Int.ofNat (List.length t))))) then
    bif (k_ins_Leads (List.getD t (Int.toNat i) (dflt T_api_Ins))) then
      bif (v_ins_Leads (List.getD t (Int.toNat i) (dflt T_api_Ins))).2 then
        bif ((decide ((0 : Int) ≤ i)) && (decide (i < (Int.ofNat (List.length t))))) then
          bif (k_valid_Find t (List.getD t (Int.toNat i) (dflt T_api_Ins)).2.2.2.2.2.1) then
            bif (decide ((v_valid_Find t (List.getD t (Int.toNat i) (dflt T_api_Ins)).2.2.2.2.2.1) ≥ (0 : Int))) then
              bif (decide ((v_valid_Find t (List.getD t (Int.toNat i) (dflt T_api_Ins)).2.2.2.2.2.1) ≤ i)) then
                bif (v_ins_Leads (List.getD t (Int.toNat i) (dflt T_api_Ins))).1 then
                  v_flow_Next_l12 t i (v_valid_Find t (List.getD t (Int.toNat i) (dflt T_api_Ins)).2.2.2.2.2.1) [(v_valid_Find t (List.getD t (Int.toNat i) (dflt T_api_Ins)).2.2.2.2.2.1)] (decide ((IntKind.i64.wrap (i + (1 : Int))) < (Int.ofNat (List.length t))))
                else v_flow_Next_l12 t i (v_valid_Find t (List.getD t (Int.toNat i) (dflt T_api_Ins)).2.2.2.2.2.1) [(v_valid_Find t (List.getD t (Int.toNat i) (dflt T_api_Ins)).2.2.2.2.2.1)] false
              else bif (v_ins_Leads (List.getD t (Int.toNat i) (dflt T_api_Ins))).1 then
                v_flow_Next_l12 t i (v_valid_Find t (List.getD t (Int.toNat i) (dflt T_api_Ins)).2.2.2.2.2.1) [] (decide ((IntKind.i64.wrap (i + (1 : Int))) < (Int.ofNat (List.length t))))
              else v_flow_Next_l12 t i (v_valid_Find t (List.getD t (Int.toNat i) (dflt T_api_Ins)).2.2.2.2.2.1) [] false
            else bif (v_ins_Leads (List.getD t (Int.toNat i) (dflt T_api_Ins))).1 then
              v_flow_Next_l12 t i (v_valid_Find t (List.getD t (Int.toNat i) (dflt T_api_Ins)).2.2.2.2.2.1) [] (decide ((IntKind.i64.wrap (i + (1 : Int))) < (Int.ofNat (List.length t))))
            else v_flow_Next_l12 t i (v_valid_Find t (List.getD t (Int.toNat i) (dflt T_api_Ins)).2.2.2.2.2.1) [] false
          else []
        else []
      else bif (v_ins_Leads (List.getD t (Int.toNat i) (dflt T_api_Ins))).1 then
        v_flow_Next_l12 t i (-1 : Int) [] (decide ((IntKind.i64.wrap (i + (1 : Int))) < (Int.ofNat (List.length t))))
      else v_flow_Next_l12 t i (-1 : Int) [] false
    else []
  else []
def ku_flow_Next (t : List (El T_api_Ins)) (i : Int) : Bool :=
  bif (decide (i < (0 : Int))) then
    true
  else bif (decide (i ≥ (Int.ofNat (List.length t)))) then
    true
  else bif ((decide ((0 : Int) ≤ i)) && (decide (i < (Int.ofNat (List.length t))))) then
    bif (k_ins_Leads (List.getD t (Int.toNat i) (dflt T_api_Ins))) then
      bif (v_ins_Leads (List.getD t (Int.toNat i) (dflt T_api_Ins))).2 then
        bif ((decide ((0 : Int) ≤ i)) && (decide (i < (Int.ofNat (List.length t))))) then
          bif (k_valid_Find t (List.getD t (Int.toNat i) (dflt T_api_Ins)).2.2.2.2.2.1) then
            bif (decide ((v_valid_Find t (List.getD t (Int.toNat i) (dflt T_api_Ins)).2.2.2.2.2.1) ≥ (0 : Int))) then
              bif (decide ((v_valid_Find t (List.getD t (Int.toNat i) (dflt T_api_Ins)).2.2.2.2.2.1) ≤ i)) then
                bif (v_ins_Leads (List.getD t (Int.toNat i) (dflt T_api_Ins))).1 then
                  k_flow_Next_l12 t i (v_valid_Find t (List.getD t (Int.toNat i) (dflt T_api_Ins)).2.2.2.2.2.1) [(v_valid_Find t (List.getD t (Int.toNat i) (dflt T_api_Ins)).2.2.2.2.2.1)] (decide ((IntKind.i64.wrap (i + (1 : Int))) < (Int.ofNat (List.length t))))
                else k_flow_Next_l12 t i (v_valid_Find t (List.getD t (Int.toNat i) (dflt T_api_Ins)).2.2.2.2.2.1) [(v_valid_Find t (List.getD t (Int.toNat i) (dflt T_api_Ins)).2.2.2.2.2.1)] false
              else bif (v_ins_Leads (List.getD t (Int.toNat i) (dflt T_api_Ins))).1 then
                k_flow_Next_l12 t i (v_valid_Find t (List.getD t (Int.toNat i) (dflt T_api_Ins)).2.2.2.2.2.1) [] (decide ((IntKind.i64.wrap (i + (1 : Int))) < (Int.ofNat (List.length t))))
              else k_flow_Next_l12 t i (v_valid_Find t (List.getD t (Int.toNat i) (dflt T_api_Ins)).2.2.2.2.2.1) [] false
            else bif (v_ins_Leads (List.getD t (Int.toNat i) (dflt T_api_Ins))).1 then
              k_flow_Next_l12 t i (v_valid_Find t (List.getD t (Int.toNat i) (dflt T_api_Ins)).2.2.2.2.2.1) [] (decide ((IntKind.i64.wrap (i + (1 : Int))) < (Int.ofNat (List.length t))))
            else k_flow_Next_l12 t i (v_valid_Find t (List.getD t (Int.toNat i) (dflt T_api_Ins)).2.2.2.2.2.1) [] false
          else false
        else false
      else bif (v_ins_Leads (List.getD t (Int.toNat i) (dflt T_api_Ins))).1 then
        k_flow_Next_l12 t i (-1 : Int) [] (decide ((IntKind.i64.wrap (i + (1 : Int))) < (Int.ofNat (List.length t))))
      else k_flow_Next_l12 t i (-1 : Int) [] false
    else false
  else false
theorem gu_flow_Next (t : List (El T_api_Ins)) (i : Int) (hk : ku_flow_Next t i = true) : Goes (T_flow_Next t i) (T0_flow_Next t i) (u_flow_Next t i) :=
  Goes.brk hk (fun hk =>
    Goes.leaf) (fun hk =>
    Goes.brk hk (fun hk =>
      Goes.leaf) (fun hk =>
      Goes.brk hk (fun hk =>
        Goes.brk hk (fun hk =>
          Goes.brk hk (fun hk =>
            Goes.brk hk (fun hk =>
              Goes.brk hk (fun hk =>
                Goes.brk hk (fun hk =>
                  Goes.brk hk (fun hk =>
                    Goes.brk hk (fun hk =>
                      g_flow_Next_l12 t i (v_valid_Find t (List.getD t (Int.toNat i) (dflt T_api_Ins)).2.2.2.2.2.1) [(v_valid_Find t (List.getD t (Int.toNat i) (dflt T_api_Ins)).2.2.2.2.2.1)] (decide ((IntKind.i64.wrap (i + (1 : Int))) < (Int.ofNat (List.length t)))) hk) (fun hk =>
                      g_flow_Next_l12 t i (v_valid_Find t (List.getD t (Int.toNat i) (dflt T_api_Ins)).2.2.2.2.2.1) [(v_valid_Find t (List.getD t (Int.toNat i) (dflt T_api_Ins)).2.2.2.2.2.1)] false hk)) (fun hk =>
                    Goes.brk hk (fun hk =>
                      g_flow_Next_l12 t i (v_valid_Find t (List.getD t (Int.toNat i) (dflt T_api_Ins)).2.2.2.2.2.1) [] (decide ((IntKind.i64.wrap (i + (1 : Int))) < (Int.ofNat (List.length t)))) hk) (fun hk =>
                      g_flow_Next_l12 t i (v_valid_Find t (List.getD t (Int.toNat i) (dflt T_api_Ins)).2.2.2.2.2.1) [] false hk))) (fun hk =>
                  Goes.brk hk (fun hk =>
                    g_flow_Next_l12 t i (v_valid_Find t (List.getD t (Int.toNat i) (dflt T_api_Ins)).2.2.2.2.2.1) [] (decide ((IntKind.i64.wrap (i + (1 : Int))) < (Int.ofNat (List.length t)))) hk) (fun hk =>
                    g_flow_Next_l12 t i (v_valid_Find t (List.getD t (Int.toNat i) (dflt T_api_Ins)).2.2.2.2.2.1) [] false hk))) (fun hk =>
                Goes.nok hk)) (fun hk =>
              Goes.nok hk)) (fun hk =>
            Goes.brk hk (fun hk =>
              g_flow_Next_l12 t i (-1 : Int) [] (decide ((IntKind.i64.wrap (i + (1 : Int))) < (Int.ofNat (List.length t)))) hk) (fun hk =>
              g_flow_Next_l12 t i (-1 : Int) [] false hk))) (fun hk =>
          Goes.nok hk)) (fun hk =>
        Goes.nok hk)))
def R_flow_Next : List Int → AV := fun (r : List Int) => .rw 3 (.int .i64) r
def S_flow_Next (t : List (El T_api_Ins)) (i : Int) : J_flow_Next → Nat × St
  | .l12 to_ out h => (12, ⟨mkTm 84 [(1, .d (.int .i64) i), (5, .d (.int .i64) to_), (8, .own 9 0 none), (55, .d .bool h)], [(9, 0, .row 3 (.int .i64) out false)]⟩)
  | .l14 to_ out h => (14, ⟨mkTm 84 [(5, .d (.int .i64) to_), (8, .own 9 0 none), (78, .d .bool h)], [(9, 0, .row 3 (.int .i64) out false)]⟩)
theorem en_flow_Next (t : List (El T_api_Ins)) (i : Int) (L : Lt) : entryA Go.Proofs.Tryd.prog (clOf t_flow_Next) tb_flow_Next Go.Proofs.Tryd.f15 c_flow_Next L (toForms sg_flow_Next (t, i, ())) = (T0_flow_Next t i).run (fun v => some (R_flow_Next v, tps (toForms sg_flow_Next (t, i, ())))) fun j => L (S_flow_Next t i j).1 (S_flow_Next t i j).2 := by kernel_rfl
theorem lp_flow_Next (t : List (El T_api_Ins)) (i : Int) : ∀ (L : Lt) (j : J_flow_Next), procOf (procsF Go.Proofs.Tryd.prog (clOf t_flow_Next) tb_flow_Next Go.Proofs.Tryd.f15 c_flow_Next (toForms sg_flow_Next (t, i, ()))) (S_flow_Next t i j).1 L (S_flow_Next t i j).2 = (T_flow_Next t i j).run (fun v => some (R_flow_Next v, tps (toForms sg_flow_Next (t, i, ())))) fun j => L (S_flow_Next t i j).1 (S_flow_Next t i j).2
  | L, .l12 to_ out h => by kernel_rfl
  | L, .l14 to_ out h => by kernel_rfl
end
end Go.Ev
end

section
set_option linter.unusedSectionVars false
set_option linter.unusedVariables false
set_option linter.unusedSimpArgs false
/- What a set of small numbers has. -/
set_option linter.unusedVariables false
open Go
namespace Go.Ev

theorem wrapU_lt {n : Nat} (h : n < 2 ^ 64) : IntKind.u64.wrap (n : Int) = (n : Int) := by
  unfold IntKind.wrap
  simp only [IntKind.signed, IntKind.bits, Bool.false_and, Bool.false_eq_true, if_false]
  exact Int.emod_eq_of_lt (by omega) (by exact_mod_cast h)
theorem ofIntU {n : Nat} : BitVec.ofInt 64 (n : Int) = BitVec.ofNat 64 n := BitVec.ofInt_natCast 64 n
theorem bitAnd_eq {a b : Nat} (ha : a < 2 ^ 64) (hb : b < 2 ^ 64) : bitAnd IntKind.u64 (a : Int) (b : Int) = ((a &&& b : Nat) : Int) := by
  unfold bitAnd
  show IntKind.u64.wrap (((BitVec.ofInt 64 (a : Int) &&& BitVec.ofInt 64 (b : Int)).toNat : Nat) : Int) = _
  rw [ofIntU, ofIntU, BitVec.toNat_and, BitVec.toNat_ofNat, BitVec.toNat_ofNat, Nat.mod_eq_of_lt ha, Nat.mod_eq_of_lt hb]
  exact wrapU_lt (Nat.lt_of_le_of_lt Nat.and_le_left ha)
theorem bitOr_eq {a b : Nat} (ha : a < 2 ^ 64) (hb : b < 2 ^ 64) : bitOr IntKind.u64 (a : Int) (b : Int) = ((a ||| b : Nat) : Int) := by
  unfold bitOr
  show IntKind.u64.wrap (((BitVec.ofInt 64 (a : Int) ||| BitVec.ofInt 64 (b : Int)).toNat : Nat) : Int) = _
  rw [ofIntU, ofIntU, BitVec.toNat_or, BitVec.toNat_ofNat, BitVec.toNat_ofNat, Nat.mod_eq_of_lt ha, Nat.mod_eq_of_lt hb]
  exact wrapU_lt (Nat.or_lt_two_pow ha hb)
theorem two_pow_int (j : Nat) : (2 : Int) ^ j = ((2 ^ j : Nat) : Int) := by simp
theorem bitE_eq {w j : Nat} (hw : w < 2 ^ 64) (hj : j < 64) : bitE (w : Int) (j : Int) = w.testBit j := by
  unfold bitE
  rw [wrapU_small hj, Int.toNat_natCast, show min j (IntKind.u64).bits = j from Nat.min_eq_left (by show j ≤ 64; omega), two_pow_int, Int.fdiv_eq_ediv_of_nonneg _ (Int.natCast_nonneg _), ← Int.natCast_ediv]
  rw [show (1 : Int) = ((1 : Nat) : Int) from rfl, bitAnd_eq (Nat.lt_of_le_of_lt (Nat.div_le_self _ _) hw) (by decide), Nat.and_one_is_mod, Nat.testBit_eq_decide_div_mod_eq]
  by_cases h : w / 2 ^ j % 2 = 1
  · rw [h]; simp
  · have : w / 2 ^ j % 2 = 0 := by omega
    rw [this]; simp
theorem withBit_eq {w j : Nat} (hw : w < 2 ^ 64) (hj : j < 64) : withBit (w : Int) (j : Int) = ((w ||| 2 ^ j : Nat) : Int) := by
  unfold withBit
  have hp : 2 ^ j < 2 ^ 64 := Nat.pow_lt_pow_right (by decide) hj
  rw [wrapU_small hj, Int.toNat_natCast, show min j (IntKind.u64).bits = j from Nat.min_eq_left (by show j ≤ 64; omega), two_pow_int, Int.one_mul, wrapU_lt hp, bitOr_eq hw hp]

/-! ### Maps -/
theorem mget_mput_self (k v : Int) : ∀ m : List (Int × Int), mget (kt := .int .i64) k (mput (kt := .int .i64) k v m) = some v
  | [] => by simp [mput, mget, keyEq]
  | (x, u) :: r => by
    by_cases h : k = x
    · subst h; simp [mput, mget, keyEq]
    · have hb : keyEq (.int .i64) k x = false := by show (k == x) = false; simpa using h
      simp only [mput, hb, cond_false, mget]
      exact mget_mput_self k v r
theorem mget_mput_other {k k' : Int} (v : Int) (h : k' ≠ k) : ∀ m : List (Int × Int), mget (kt := .int .i64) k' (mput (kt := .int .i64) k v m) = mget (kt := .int .i64) k' m
  | [] => by
    have hb : keyEq (.int .i64) k' k = false := by show (k' == k) = false; simpa using h
    simp [mput, mget, hb]
  | (x, u) :: r => by
    by_cases hx : k = x
    · subst hx
      have hb : keyEq (.int .i64) k' k = false := by show (k' == k) = false; simpa using h
      have hb2 : keyEq (.int .i64) k k = true := by show (k == k) = true; simp
      simp only [mput, hb2, cond_true, mget, hb, cond_false]
    · have hb : keyEq (.int .i64) k x = false := by show (k == x) = false; simpa using hx
      simp only [mput, hb, cond_false, mget, mget_mput_other v h r]
theorem mget_mem_int {k v : Int} : ∀ {m : List (Int × Int)}, mget (kt := .int .i64) k m = some v → (k, v) ∈ m
  | [], h => by cases h
  | (x, u) :: r, h => by
    by_cases hx : k = x
    · subst hx
      have hb2 : keyEq (.int .i64) k k = true := by show (k == k) = true; simp
      simp only [mget, hb2, cond_true, Option.some.injEq] at h
      subst h
      simp
    · have hb : keyEq (.int .i64) k x = false := by show (k == x) = false; simpa using hx
      simp only [mget, hb, cond_false] at h
      exact List.mem_cons_of_mem _ (mget_mem_int h)
theorem mget_none_int {k : Int} : ∀ {m : List (Int × Int)}, mget (kt := .int .i64) k m = none → k ∉ m.map Prod.fst
  | [], _ => by simp
  | (x, u) :: r, h => by
    by_cases hx : k = x
    · subst hx
      have hb2 : keyEq (.int .i64) k k = true := by show (k == k) = true; simp
      simp only [mget, hb2, cond_true] at h
      cases h
    · have hb : keyEq (.int .i64) k x = false := by show (k == x) = false; simpa using hx
      simp only [mget, hb, cond_false] at h
      simp only [List.map_cons, List.mem_cons, not_or]
      exact ⟨hx, mget_none_int h⟩
theorem mput_mem {k v : Int} {p : Int × Int} : ∀ {m : List (Int × Int)}, p ∈ mput (kt := .int .i64) k v m → p = (k, v) ∨ p ∈ m
  | [], h => by simp [mput] at h; exact .inl h
  | (x, u) :: r, h => by
    by_cases hx : k = x
    · subst hx
      have hb2 : keyEq (.int .i64) k k = true := by show (k == k) = true; simp
      simp only [mput, hb2, cond_true] at h
      rcases List.mem_cons.1 h with h | h
      · exact .inl h
      · exact .inr (List.mem_cons_of_mem _ h)
    · have hb : keyEq (.int .i64) k x = false := by show (k == x) = false; simpa using hx
      simp only [mput, hb, cond_false] at h
      rcases List.mem_cons.1 h with h | h
      · exact .inr (by rw [h]; simp)
      · exact (mput_mem h).imp id (List.mem_cons_of_mem _)
theorem mput_len {k v : Int} : ∀ {m : List (Int × Int)}, (mput (kt := .int .i64) k v m).length ≤ m.length + 1
  | [] => by simp [mput]
  | (x, u) :: r => by
    have := @mput_len k v r
    simp only [mput]
    cases keyEq (.int .i64) k x <;> simp <;> omega

theorem mput_keys_int {k v : Int} : ∀ {m : List (Int × Int)}, (mput (kt := .int .i64) k v m).map Prod.fst = if k ∈ m.map Prod.fst then m.map Prod.fst else m.map Prod.fst ++ [k]
  | [] => by simp [mput]
  | (x, u) :: r => by
    by_cases hx : k = x
    · subst hx
      have hb2 : keyEq (.int .i64) k k = true := by show (k == k) = true; simp
      simp only [mput, hb2, cond_true]
      simp
    · have hb : keyEq (.int .i64) k x = false := by show (k == x) = false; simpa using hx
      simp only [mput, hb, cond_false, List.map_cons, List.mem_cons, hx, false_or]
      rw [@mput_keys_int k v r]
      by_cases h : k ∈ r.map Prod.fst
      · rw [if_pos h, if_pos h]
      · rw [if_neg h, if_neg h]; rfl
theorem mput_nodup_int {k v : Int} {m : List (Int × Int)} (h : (m.map Prod.fst).Nodup) : ((mput (kt := .int .i64) k v m).map Prod.fst).Nodup := by
  rw [mput_keys_int]
  split
  · exact h
  · rename_i hk
    rw [List.nodup_append]
    exact ⟨h, by simp, fun a ha b hb e => by simp at hb; subst hb; subst e; exact hk ha⟩
theorem strict_len : ∀ {l : List Int} {a b : Int}, l.Pairwise (· < ·) → (∀ x ∈ l, a ≤ x ∧ x < b) → a ≤ b → (l.length : Int) ≤ b - a
  | [], a, b, _, _, h => by simp; omega
  | y :: l, a, b, hp, hb, h => by
    rw [List.pairwise_cons] at hp
    have hy := hb y (by simp)
    have := strict_len (l := l) (a := y + 1) (b := b) hp.2 (fun x hx => ⟨hp.1 x hx, (hb x (List.mem_cons_of_mem _ hx)).2⟩) (by omega)
    simp
    omega

/-! ### Sets -/
structure SetOK (s : Int × List (Int × Int)) (n : Nat) (M : Nat → Bool) : Prop where
  size : s.1 = n
  nodup : (s.2.map Prod.fst).Nodup
  words : ∀ p ∈ s.2, ∃ k w : Nat, p = ((k : Int), (w : Int)) ∧ k * 64 < n ∧ w < 2 ^ 64
  bits : ∀ k j : Nat, j < 64 → (wordAt s.2 (k : Int)).toNat.testBit j = M (k * 64 + j)
  lt : ∀ i, M i = true → i < n

theorem SetOK.new (n : Nat) : SetOK ((n : Int), []) n fun _ => false := ⟨rfl, List.nodup_nil, fun p hp => by simp at hp, fun k j _ => by simp [wordAt, mget], fun i h => by cases h⟩
variable {s : Int × List (Int × Int)} {n : Nat} {M : Nat → Bool}
theorem SetOK.word (h : SetOK s n M) (k : Nat) : ∃ w : Nat, wordAt s.2 (k : Int) = (w : Int) ∧ w < 2 ^ 64 := by
  unfold wordAt
  cases hg : mget (kt := .int .i64) (k : Int) s.2 with
  | none => exact ⟨0, rfl, by decide⟩
  | some v =>
    obtain ⟨k', w, e, _, hw⟩ := h.words _ (mget_mem_int hg)
    simp only [Prod.mk.injEq] at e
    exact ⟨w, e.2, hw⟩
theorem placeOf_nat {i : Nat} (hi : i < 4611686018427387904) : placeOf (i : Int) = ((i / 64 : Nat) : Int) := by
  unfold placeOf
  rw [show Int.tdiv (i : Int) 64 = ((i / 64 : Nat) : Int) from rfl, wrap_i64 (by omega) (by omega)]
theorem SetOK.has (h : SetOK s n M) (hn : n < 4611686018427387904) (i : Int) : hasS s i = (decide (0 ≤ i) && M i.toNat) := by
  unfold hasS
  rw [h.size]
  by_cases h0 : 0 ≤ i
  · obtain ⟨j, rfl⟩ := Int.eq_ofNat_of_zero_le h0
    by_cases h1 : j < n
    · rw [decide_eq_true (show (j : Int) ≥ 0 from h0), decide_eq_true (show (j : Int) < (n : Int) by omega), Bool.true_and, Bool.true_and, Bool.true_and, placeOf_nat (by omega)]
      obtain ⟨w, hw, hlt⟩ := h.word (j / 64)
      have hb := h.bits (j / 64) (j % 64) (Nat.mod_lt _ (by decide))
      rw [hw, show Int.tmod (j : Int) 64 = ((j % 64 : Nat) : Int) from rfl, bitE_eq hlt (Nat.mod_lt _ (by decide))]
      rw [hw, Int.toNat_natCast] at hb
      rw [hb, Int.toNat_natCast, Nat.div_add_mod' j 64]
    · rw [decide_eq_false (show ¬ (j : Int) < (n : Int) by omega), Bool.false_and, Bool.and_false]
      have : M (j : Int).toNat = false := by
        rw [Int.toNat_natCast]
        cases hm : M j with
        | true => exact absurd (h.lt j hm) h1
        | false => rfl
      rw [this, Bool.and_false]
  · rw [decide_eq_false (show ¬ i ≥ 0 from h0), Bool.false_and, Bool.false_and]
theorem SetOK.put (h : SetOK s n M) (hn : n < 4611686018427387904) {i : Nat} (hi : i < n) (hM : M i = false) :
    (putS s i).1 = true ∧ SetOK (putS s i).2 n fun j => M j || (j == i) := by
  have hno : ¬ ((i : Int) < 0 ∨ s.1 ≤ (i : Int) ∨ hasS s (i : Int) = true) := by
    rw [h.has hn, h.size, Int.toNat_natCast, hM]
    simp
    omega
  unfold putS
  rw [if_neg hno, placeOf_nat (by omega), show Int.tmod (i : Int) 64 = ((i % 64 : Nat) : Int) from rfl]
  refine ⟨rfl, ?_⟩
  obtain ⟨w, hw, hlt⟩ := h.word (i / 64)
  have hj : i % 64 < 64 := Nat.mod_lt _ (by decide)
  have hp : 2 ^ (i % 64) < 2 ^ 64 := Nat.pow_lt_pow_right (by decide) hj
  rw [hw, withBit_eq hlt hj]
  have hw2 : w ||| 2 ^ (i % 64) < 2 ^ 64 := Nat.or_lt_two_pow hlt hp
  refine ⟨h.size, mput_nodup_int h.nodup, fun p hp => ?_, fun k j hj2 => ?_, fun k hk => ?_⟩
  · rcases mput_mem hp with rfl | hp
    · exact ⟨i / 64, _, rfl, by omega, hw2⟩
    · exact h.words p hp
  · unfold wordAt
    by_cases hk : k = i / 64
    · subst hk
      simp only
      rw [mget_mput_self, Option.getD_some, Int.toNat_natCast, Nat.testBit_or, Nat.testBit_two_pow]
      have hb := h.bits (i / 64) j hj2
      rw [hw, Int.toNat_natCast] at hb
      rw [hb]
      congr 1
      rw [Bool.eq_iff_iff]
      simp
      omega
    · simp only
      rw [mget_mput_other _ (by omega)]
      have hb := h.bits k j hj2
      unfold wordAt at hb
      rw [hb]
      have : (k * 64 + j == i) = false := by simp; omega
      rw [this, Bool.or_false]
  · simp only [Bool.or_eq_true, beq_iff_eq] at hk
    rcases hk with hk | hk
    · exact h.lt k hk
    · omega
theorem SetOK.put_no (h : SetOK s n M) (hn : n < 4611686018427387904) {i : Int} (hi : ¬ (0 ≤ i ∧ i < n ∧ M i.toNat = false)) : putS s i = (false, s) := by
  unfold putS
  rw [if_pos]
  rw [h.has hn, h.size]
  by_cases h0 : i < 0
  · exact .inl h0
  · by_cases h1 : (n : Int) ≤ i
    · exact .inr (.inl h1)
    · refine .inr (.inr ?_)
      have : ¬ M i.toNat = false := fun hf => hi ⟨by omega, by omega, hf⟩
      rw [Bool.not_eq_false] at this
      rw [this, decide_eq_true (by omega)]; rfl

theorem strict_ext : ∀ {l m : List Int}, l.Pairwise (· < ·) → m.Pairwise (· < ·) → (∀ x, x ∈ l ↔ x ∈ m) → l = m
  | [], [], _, _, _ => rfl
  | [], b :: m, _, _, h => by have := (h b).2 (by simp); simp at this
  | a :: l, [], _, _, h => by have := (h a).1 (by simp); simp at this
  | a :: l, b :: m, hl, hm, h => by
    rw [List.pairwise_cons] at hl hm
    have hab : a = b := by
      have h1 := (h a).1 (by simp)
      have h2 := (h b).2 (by simp)
      rcases List.mem_cons.1 h1 with h1 | h1
      · exact h1
      · rcases List.mem_cons.1 h2 with h2 | h2
        · exact h2.symm
        · have := hm.1 a h1; have := hl.1 b h2; omega
    subst hab
    rw [strict_ext hl.2 hm.2 fun x => ⟨fun hx => ?_, fun hx => ?_⟩]
    · have := hl.1 x hx
      rcases List.mem_cons.1 ((h x).1 (List.mem_cons_of_mem _ hx)) with e | e
      · omega
      · exact e
    · have := hm.1 x hx
      rcases List.mem_cons.1 ((h x).2 (List.mem_cons_of_mem _ hx)) with e | e
      · omega
      · exact e

/-- What is so of the first numbers. -/
def listOf (n : Nat) (M : Nat → Bool) : List Int := ((List.range n).filter M).map Int.ofNat
theorem listOf_mem {x : Int} : x ∈ listOf n M ↔ ∃ i : Nat, i < n ∧ M i = true ∧ x = (i : Int) := by
  unfold listOf
  simp only [List.mem_map, List.mem_filter, List.mem_range]
  constructor
  · rintro ⟨i, ⟨h1, h2⟩, rfl⟩; exact ⟨i, h1, h2, rfl⟩
  · rintro ⟨i, h1, h2, rfl⟩; exact ⟨i, ⟨h1, h2⟩, rfl⟩
theorem listOf_strict : (listOf n M).Pairwise (· < ·) := by
  unfold listOf
  rw [List.pairwise_map]
  refine (List.Pairwise.filter M List.pairwise_lt_range).imp fun {a b} h => ?_
  show (a : Int) < (b : Int)
  omega
theorem listOf_congr {M' : Nat → Bool} (h : ∀ i, i < n → M i = M' i) : listOf n M = listOf n M' := by
  unfold listOf
  congr 1
  exact List.filter_congr fun i hi => h i (List.mem_range.1 hi)
theorem SetOK.list (h : SetOK s n M) (hn : n < 4611686018427387904) : listS s = listOf n M := by
  have hkey : ∀ k ∈ s.2.map Prod.fst, ∃ k' : Nat, k = (k' : Int) ∧ k' * 64 < n := fun k hk => by
    obtain ⟨p, hp, rfl⟩ := List.mem_map.1 hk
    obtain ⟨k', w, e, h1, _⟩ := h.words p hp
    exact ⟨k', by rw [e], h1⟩
  have hwl : ∀ k : Nat, k * 64 < n → ∀ x, x ∈ wordList s.2 (k : Int) 0 64 ↔ ∃ j : Nat, j < 64 ∧ M (k * 64 + j) = true ∧ x = ((k * 64 + j : Nat) : Int) := fun k hk x => by
    obtain ⟨w, hw, hlt⟩ := h.word k
    unfold wordList
    rw [hw]
    simp only [List.mem_map, List.mem_filter, List.mem_range'_1]
    have hnum : ∀ j : Nat, j < 64 → numE (k : Int) (j : Int) = ((k * 64 + j : Nat) : Int) := fun j hj => by
      unfold numE
      rw [wrap_i64 (n := (k : Int) * 64) (by omega) (by omega), wrap_i64 (by omega) (by omega)]
      omega
    have hbit : ∀ j : Nat, j < 64 → bitE (w : Int) (j : Int) = M (k * 64 + j) := fun j hj => by
      rw [bitE_eq hlt hj]
      have := h.bits k j hj
      rwa [hw, Int.toNat_natCast] at this
    constructor
    · rintro ⟨j, ⟨hj, hb⟩, rfl⟩
      exact ⟨j, by omega, by rw [← hbit j (by omega)]; exact hb, hnum j (by omega)⟩
    · rintro ⟨j, hj, hb, rfl⟩
      exact ⟨j, ⟨by omega, by rw [hbit j hj]; exact hb⟩, hnum j hj⟩
  have hmem : ∀ {k : Int}, k ∈ (s.2.map Prod.fst).mergeSort (fun x y => decide (x ≤ y)) ↔ k ∈ s.2.map Prod.fst := List.mem_mergeSort
  have tr : ∀ a b c : Int, decide (a ≤ b) = true → decide (b ≤ c) = true → decide (a ≤ c) = true := fun a b c h1 h2 => by simp at *; omega
  have to : ∀ a b : Int, (decide (a ≤ b) || decide (b ≤ a)) = true := fun a b => by simp; omega
  have hs1 := List.pairwise_mergeSort tr to (s.2.map Prod.fst)
  have hs2 : ((s.2.map Prod.fst).mergeSort (fun x y => decide (x ≤ y))).Nodup := (List.mergeSort_perm _ _).nodup_iff.2 h.nodup
  have hst : ((s.2.map Prod.fst).mergeSort (fun x y => decide (x ≤ y))).Pairwise (· < ·) := (hs1.and hs2).imp fun {a b} h => by
    have h1 := h.1; have h2 := h.2; simp at h1; omega
  refine strict_ext ?_ listOf_strict fun x => ?_
  · unfold listS listAt
    rw [List.pairwise_flatMap]
    refine ⟨fun k hk => ?_, ?_⟩
    · obtain ⟨k', rfl, hk'⟩ := hkey k (hmem.1 hk)
      unfold wordList
      rw [List.pairwise_map]
      have hp : ((List.range' 0 64).filter fun i => bitE (wordAt s.2 (k' : Int)) (i : Nat)).Pairwise (· < ·) := List.Pairwise.filter _ (List.pairwise_lt_range' (step := 1) (s := 0) (n := 64) (by omega))
      refine (List.Pairwise.and_mem.1 hp).imp fun {a b} h => ?_
      obtain ⟨ha, hb, hab⟩ := h
      have ha' := (List.mem_range'_1.1 (List.mem_filter.1 ha).1)
      have hb' := (List.mem_range'_1.1 (List.mem_filter.1 hb).1)
      unfold numE
      rw [wrap_i64 (n := (k' : Int) * 64) (by omega) (by omega), wrap_i64 (by omega) (by omega), wrap_i64 (by omega) (by omega)]
      omega
    · refine (List.Pairwise.and_mem.1 hst).imp fun {a b} hab => ?_
      obtain ⟨ha, hb, hlt⟩ := hab
      obtain ⟨a', rfl, ha'⟩ := hkey a (hmem.1 ha)
      obtain ⟨b', rfl, hb'⟩ := hkey b (hmem.1 hb)
      intro x hx y hy
      obtain ⟨j, hj, _, rfl⟩ := (hwl a' ha' x).1 hx
      obtain ⟨j', hj', _, rfl⟩ := (hwl b' hb' y).1 hy
      omega
  · unfold listS listAt
    rw [listOf_mem, List.mem_flatMap]
    constructor
    · rintro ⟨k, hk, hx⟩
      obtain ⟨k', rfl, hk'⟩ := hkey k (hmem.1 hk)
      obtain ⟨j, hj, hM, rfl⟩ := (hwl k' hk' x).1 hx
      exact ⟨_, h.lt _ hM, hM, rfl⟩
    · rintro ⟨i, hi, hM, rfl⟩
      have hb := h.bits (i / 64) (i % 64) (Nat.mod_lt _ (by decide))
      rw [Nat.div_add_mod' i 64, hM] at hb
      refine ⟨((i / 64 : Nat) : Int), hmem.2 ?_, (hwl (i / 64) (by omega) _).2 ⟨i % 64, Nat.mod_lt _ (by decide), by rw [Nat.div_add_mod' i 64]; exact hM, by rw [Nat.div_add_mod' i 64]⟩⟩
      unfold wordAt at hb
      cases hg : mget (kt := .int .i64) ((i / 64 : Nat) : Int) s.2 with
      | none => rw [hg] at hb; simp at hb
      | some v => exact List.mem_map.2 ⟨_, mget_mem_int hg, rfl⟩
/-- So many words. -/
theorem SetOK.few (h : SetOK s n M) : s.2.length ≤ (n + 63) / 64 := by
  have tr : ∀ a b c : Int, decide (a ≤ b) = true → decide (b ≤ c) = true → decide (a ≤ c) = true := fun a b c h1 h2 => by simp at *; omega
  have to : ∀ a b : Int, (decide (a ≤ b) || decide (b ≤ a)) = true := fun a b => by simp; omega
  have hs1 := List.pairwise_mergeSort tr to (s.2.map Prod.fst)
  have hs2 : ((s.2.map Prod.fst).mergeSort (fun x y => decide (x ≤ y))).Nodup := (List.mergeSort_perm _ _).nodup_iff.2 h.nodup
  have hst : ((s.2.map Prod.fst).mergeSort (fun x y => decide (x ≤ y))).Pairwise (· < ·) := (hs1.and hs2).imp fun {a b} h => by
    have h1 := h.1; have h2 := h.2; simp at h1; omega
  have := strict_len (a := 0) (b := (((n + 63) / 64 : Nat) : Int)) hst (fun x hx => by
    obtain ⟨p, hp, rfl⟩ := List.mem_map.1 (List.mem_mergeSort.1 hx)
    obtain ⟨k', w, e, h1, _⟩ := h.words p hp
    rw [e]
    exact ⟨by simp, by simp; omega⟩) (by omega)
  simp at this
  omega
end Go.Ev
end

section
set_option linter.unusedSectionVars false
set_option linter.unusedVariables false
set_option linter.unusedSimpArgs false
/- What follows an instruction: over lists. -/
set_option maxRecDepth 100000
set_option linter.unusedVariables false
set_option linter.unusedSimpArgs false
open Go
namespace Go.Ev

def flowOK (t : List (El T_api_Ins)) : Bool := decide (t.length < 1099511627776) && t.all fun i => smallText i.2.2.2.2.2.1 && decide (i.2.2.2.2.2.2.length < 1099511627776)
theorem flowOK_len {t : List (El T_api_Ins)} (h : flowOK t = true) : t.length < 1099511627776 := by
  unfold flowOK at h; rw [Bool.and_eq_true] at h; exact of_decide_eq_true h.1
theorem flowOK_text {t : List (El T_api_Ins)} (h : flowOK t = true) {i : El T_api_Ins} (hi : i ∈ t) : smallText i.2.2.2.2.2.1 = true := by
  unfold flowOK at h
  rw [Bool.and_eq_true] at h
  have := List.all_eq_true.1 h.2 i hi
  rw [Bool.and_eq_true] at this
  exact this.1
theorem flowOK_find {t : List (El T_api_Ins)} (h : flowOK t = true) : (decide (t.length < 1099511627776) && t.all fun i => decide (i.2.2.2.2.2.2.length < 1099511627776)) = true := by
  unfold flowOK at h
  rw [Bool.and_eq_true] at h ⊢
  refine ⟨h.1, List.all_eq_true.2 fun i hi => ?_⟩
  have := List.all_eq_true.1 h.2 i hi
  rw [Bool.and_eq_true] at this
  exact this.2
theorem findI_lt {label : ByteArray} : ∀ {t : List (El T_api_Ins)} {k : Nat}, findI label t k < ((k + t.length : Nat) : Int) ∨ findI label t k = -1
  | [], k => .inr rfl
  | x :: r, k => by
    unfold findI
    split
    · left; simp; omega
    · rcases @findI_lt label r (k + 1) with h | h
      · left; simp only [List.length_cons]; omega
      · exact .inr h
theorem findI_ge {label : ByteArray} : ∀ {t : List (El T_api_Ins)} {k : Nat}, findI label t k = -1 ∨ (k : Int) ≤ findI label t k
  | [], k => .inl rfl
  | x :: r, k => by
    unfold findI
    split
    · right; omega
    · rcases @findI_ge label r (k + 1) with h | h
      · exact .inl h
      · right; omega

/-- Where one instruction leads: on, and to. -/
def onOf (t : List (El T_api_Ins)) (i : Nat) : Bool := (v_ins_Leads (t.getD i (dflt T_api_Ins))).1
def toOf (t : List (El T_api_Ins)) (i : Nat) : Int := if (v_ins_Leads (t.getD i (dflt T_api_Ins))).2 then findI (t.getD i (dflt T_api_Ins)).2.2.2.2.2.1 t 0 else -1
theorem toOf_lt {t : List (El T_api_Ins)} {i : Nat} : -1 ≤ toOf t i ∧ (toOf t i < (t.length : Int)) := by
  unfold toOf
  split
  · have h1 := @findI_lt (t.getD i (dflt T_api_Ins)).2.2.2.2.2.1 t 0
    have h2 := @findI_ge (t.getD i (dflt T_api_Ins)).2.2.2.2.2.1 t 0
    rw [Nat.zero_add] at h1
    omega
  · omega
/-- Does j follow i? -/
def nextB (t : List (El T_api_Ins)) (i : Int) (j : Nat) : Bool :=
  decide (0 ≤ i ∧ i < (t.length : Int) ∧ j < t.length) && ((onOf t i.toNat && decide ((j : Int) = i + 1)) || decide (toOf t i.toNat = (j : Int)))

theorem nextB_lt {t : List (El T_api_Ins)} {i : Int} {j : Nat} (h : nextB t i j = true) : j < t.length := by
  unfold nextB at h
  rw [Bool.and_eq_true] at h
  exact (of_decide_eq_true h.1).2.2

/-- The code's list. -/
def nextL (n : Nat) (on : Bool) (to i : Int) : List Int :=
  (if 0 ≤ to ∧ to ≤ i then [to] else []) ++ ((if on = true ∧ i + 1 < (n : Int) then [i + 1] else []) ++ (if to > i ∧ ¬ (on = true ∧ i + 1 < (n : Int) ∧ to = i + 1) then [to] else []))
theorem nextL_strict {n : Nat} {on : Bool} {to i : Int} : (nextL n on to i).Pairwise (· < ·) := by
  unfold nextL
  by_cases h1 : 0 ≤ to ∧ to ≤ i
  · rw [if_pos h1, if_neg (c := to > i ∧ _) (fun h => by omega)]
    by_cases h2 : on = true ∧ i + 1 < (n : Int)
    · rw [if_pos h2]; simp; omega
    · rw [if_neg h2]; simp
  · rw [if_neg h1]
    by_cases h2 : on = true ∧ i + 1 < (n : Int)
    · rw [if_pos h2]
      by_cases h3 : to > i ∧ ¬ (on = true ∧ i + 1 < (n : Int) ∧ to = i + 1)
      · rw [if_pos h3]
        have : to ≠ i + 1 := fun e => h3.2 ⟨h2.1, h2.2, e⟩
        simp; omega
      · rw [if_neg h3]; simp
    · rw [if_neg h2]
      by_cases h3 : to > i ∧ ¬ (on = true ∧ i + 1 < (n : Int) ∧ to = i + 1)
      · rw [if_pos h3]; simp
      · rw [if_neg h3]; simp
theorem nextL_eq {t : List (El T_api_Ins)} {i : Nat} (hi : i < t.length) : nextL t.length (onOf t i) (toOf t i) (i : Int) = listOf t.length (nextB t (i : Int)) := by
  refine strict_ext nextL_strict listOf_strict fun x => ?_
  rw [listOf_mem]
  have hb : ∀ j : Nat, nextB t (i : Int) j = true ↔ j < t.length ∧ ((onOf t i = true ∧ (j : Int) = (i : Int) + 1) ∨ toOf t i = (j : Int)) := fun j => by
    unfold nextB
    rw [Int.toNat_natCast]
    simp only [Bool.and_eq_true, Bool.or_eq_true, decide_eq_true_eq]
    constructor
    · rintro ⟨⟨_, _, h⟩, h2⟩; exact ⟨h, h2⟩
    · rintro ⟨h, h2⟩; exact ⟨⟨by omega, by omega, h⟩, h2⟩
  have ht := @toOf_lt t i
  unfold nextL
  constructor
  · intro h
    simp only [List.mem_append] at h
    rcases h with h | h | h
    · split at h
      · rename_i hc
        simp at h
        subst h
        exact ⟨(toOf t i).toNat, by omega, (hb _).2 ⟨by omega, .inr (by omega)⟩, by omega⟩
      · simp at h
    · split at h
      · rename_i hc
        simp at h
        subst h
        exact ⟨i + 1, by omega, (hb _).2 ⟨by omega, .inl ⟨hc.1, by omega⟩⟩, by omega⟩
      · simp at h
    · split at h
      · rename_i hc
        simp at h
        subst h
        exact ⟨(toOf t i).toNat, by omega, (hb _).2 ⟨by omega, .inr (by omega)⟩, by omega⟩
      · simp at h
  · rintro ⟨j, hj, hM, rfl⟩
    obtain ⟨_, h⟩ := (hb j).1 hM
    simp only [List.mem_append]
    rcases h with ⟨h1, h2⟩ | h
    · right; left
      rw [if_pos ⟨h1, by omega⟩]; simp; omega
    · by_cases hle : toOf t i ≤ (i : Int)
      · left; rw [if_pos ⟨by omega, hle⟩]; simp; omega
      · right
        by_cases hc : onOf t i = true ∧ (i : Int) + 1 < (t.length : Int) ∧ toOf t i = (i : Int) + 1
        · left; rw [if_pos ⟨hc.1, hc.2.1⟩]; simp; omega
        · right; rw [if_pos ⟨by omega, hc⟩]; simp; omega
end Go.Ev
end

section
set_option linter.unusedSectionVars false
set_option linter.unusedVariables false
set_option linter.unusedSimpArgs false
set_option maxRecDepth 100000
set_option linter.unusedVariables false
set_option linter.unusedSimpArgs false
open Go
namespace Go.Ev
def v_flow_Next (t : List (El T_api_Ins)) (i : Int) : List Int := listOf t.length (nextB t i)
def k_flow_Next (t : List (El T_api_Ins)) (i : Int) : Bool := flowOK t
theorem nextB_out {t : List (El T_api_Ins)} {i : Int} (h : ¬ (0 ≤ i ∧ i < (t.length : Int))) : listOf t.length (nextB t i) = [] := by
  unfold listOf
  rw [List.map_eq_nil_iff, List.filter_eq_nil_iff]
  intro j _ hb
  unfold nextB at hb
  rw [Bool.and_eq_true] at hb
  have := of_decide_eq_true hb.1
  exact h ⟨this.1, this.2.1⟩
theorem g_flow_Next (t : List (El T_api_Ins)) (i : Int) (hk : k_flow_Next t i = true) : Goes (T_flow_Next t i) (T0_flow_Next t i) (v_flow_Next t i) := by
  have hlen := flowOK_len hk
  unfold T0_flow_Next v_flow_Next
  rw [goes_br]
  by_cases h0 : i < 0
  · rw [if_pos (decide_eq_true h0), nextB_out (fun h => by omega)]; exact .leaf
  rw [if_neg (by simpa using h0), goes_br]
  obtain ⟨j, rfl⟩ := Int.eq_ofNat_of_zero_le (show 0 ≤ i by omega)
  by_cases h1 : (t.length : Int) ≤ (j : Int)
  · rw [if_pos (decide_eq_true (show (j : Int) ≥ Int.ofNat t.length from h1)), nextB_out (fun h => by omega)]; exact .leaf
  have hj : j < t.length := by omega
  rw [if_neg (by simp; omega), goes_br, if_pos (bound_len hj), goes_br, Int.toNat_natCast]
  rw [← nextL_eq hj]
  have hmem : t.getD j (dflt T_api_Ins) ∈ t := by rw [getD_lt hj]; exact List.getElem_mem hj
  have kl : k_ins_Leads (t.getD j (dflt T_api_Ins)) = true := k_leads (flowOK_text hk hmem)
  have kf : k_valid_Find t (t.getD j (dflt T_api_Ins)).2.2.2.2.2.1 = true := flowOK_find hk
  have vf : v_valid_Find t (t.getD j (dflt T_api_Ins)).2.2.2.2.2.1 = findI (t.getD j (dflt T_api_Ins)).2.2.2.2.2.1 t 0 := rfl
  rw [if_pos kl]
  have hw : IntKind.i64.wrap ((j : Int) + 1) = (j : Int) + 1 := by rw [wrap_i64 (by omega) (by omega)]
  -- the last label
  have l14 : ∀ (to : Int) (out : List Int) (h : Bool), out.length ≤ 3 → Goes (T_flow_Next t (j : Int)) (.jmp (.l14 to out h)) (out ++ if h = true then [to] else []) := by
    intro to out h ho
    rw [goes_jmp, T_flow_Next, goes_br]
    cases h with
    | true =>
      rw [if_pos rfl, goes_br, if_pos (Nat.ble_eq_true_of_le (by unfold limit; omega)), if_pos rfl]; exact .leaf
    | false => rw [if_neg (by decide), if_neg (by decide), List.append_nil]; exact .leaf
  have last : ∀ (out : List Int) (x : Int), out.length ≤ 1 → (decide ((0 : Int) ≤ IntKind.i64.wrap (Int.ofNat (out ++ [x]).length - 1)) && decide (IntKind.i64.wrap (Int.ofNat (out ++ [x]).length - 1) < Int.ofNat (out ++ [x]).length)) = true ∧ List.getD (out ++ [x]) (IntKind.i64.wrap (Int.ofNat (out ++ [x]).length - 1)).toNat (dflt (.int .i64)) = x := by
    intro out x ho
    have e : IntKind.i64.wrap (Int.ofNat (out ++ [x]).length - 1) = (out.length : Int) := by
      rw [List.length_append, List.length_singleton, wrap_i64 (by simp <;> omega) (by simp <;> omega)]
      simp
    rw [e]
    refine ⟨by simp; omega, ?_⟩
    rw [Int.toNat_natCast]
    simp [List.getD]
  have l12 : ∀ (to : Int) (h : Bool), -1 ≤ to → (h = true → (j : Int) + 1 < t.length) → Goes (T_flow_Next t (j : Int)) (.jmp (.l12 to (if 0 ≤ to ∧ to ≤ (j : Int) then [to] else []) h)) (nextL t.length h to (j : Int)) := by
    intro to h hto hh
    rw [goes_jmp, T_flow_Next]
    unfold nextL
    generalize hout : (if 0 ≤ to ∧ to ≤ (j : Int) then [to] else []) = out
    have hol : out.length ≤ 1 := by rw [← hout]; split <;> simp
    rw [goes_br]
    cases h with
    | true =>
      rw [if_pos rfl, goes_br, if_pos (Nat.ble_eq_true_of_le (by unfold limit; omega)), goes_br, hw]
      have hin := hh rfl
      obtain ⟨b1, b2⟩ := last out ((j : Int) + 1) hol
      rw [if_pos (show true = true ∧ (j : Int) + 1 < (t.length : Int) from ⟨rfl, hin⟩)]
      by_cases hgt : to > (j : Int)
      · rw [if_pos (decide_eq_true hgt), goes_br, if_neg (by simp; omega), goes_br, if_pos b1, b2]
        have := l14 to (out ++ [(j : Int) + 1]) ((j : Int) + 1 != to) (by simp; omega)
        rw [List.append_assoc] at this
        by_cases he : to = (j : Int) + 1
        · rw [if_neg (by simp [he]), List.append_nil] at this
          rw [if_neg (fun h => h.2 ⟨rfl, hin, he⟩), List.append_nil]
          exact this
        · rw [if_pos (by simp; omega)] at this
          rw [if_pos ⟨hgt, fun h => he h.2.2⟩]
          exact this
      · rw [if_neg (by simpa using hgt), if_neg (fun h => hgt h.1), List.append_nil]
        have := l14 to (out ++ [(j : Int) + 1]) false (by simp; omega)
        rwa [if_neg (by decide), List.append_nil] at this
    | false =>
      rw [if_neg (by decide), goes_br, if_neg (c := false = true ∧ (j : Int) + 1 < (t.length : Int)) (fun h => by cases h.1), List.nil_append]
      by_cases hgt : to > (j : Int)
      · have he : out = [] := by rw [← hout, if_neg (fun h => by omega)]
        subst he
        rw [if_pos (decide_eq_true hgt), goes_br, if_pos (show (Int.ofNat ([] : List Int).length == 0) = true from rfl), if_pos ⟨hgt, fun h => by cases h.1⟩]
        have := l14 to [] true (by simp)
        rwa [if_pos rfl] at this
      · rw [if_neg (by simpa using hgt), if_neg (fun h => hgt h.1), List.append_nil]
        have := l14 to out false (by omega)
        rwa [if_neg (by decide), List.append_nil] at this
  have key : ∀ (on : Bool) (to : Int), nextL t.length (bif on then decide ((j : Int) + 1 < Int.ofNat t.length) else false) to (j : Int) = nextL t.length on to (j : Int) := by
    intro on to
    cases on with
    | false => rfl
    | true =>
      show nextL t.length (decide ((j : Int) + 1 < Int.ofNat t.length)) to (j : Int) = nextL t.length true to (j : Int)
      by_cases hin : (j : Int) + 1 < (t.length : Int)
      · rw [decide_eq_true (show (j : Int) + 1 < Int.ofNat t.length from hin)]
      · rw [decide_eq_false (show ¬ (j : Int) + 1 < Int.ofNat t.length from hin)]
        unfold nextL
        rw [if_neg (c := false = true ∧ (j : Int) + 1 < (t.length : Int)) (fun h => by cases h.1), if_neg (c := true = true ∧ (j : Int) + 1 < (t.length : Int)) (fun h => hin h.2)]
        by_cases hgt : to > (j : Int)
        · rw [if_pos (c := to > (j : Int) ∧ ¬ (false = true ∧ (j : Int) + 1 < (t.length : Int) ∧ to = (j : Int) + 1)) ⟨hgt, fun h => by cases h.1⟩, if_pos (c := to > (j : Int) ∧ ¬ (true = true ∧ (j : Int) + 1 < (t.length : Int) ∧ to = (j : Int) + 1)) ⟨hgt, fun h => hin h.2.1⟩]
        · rw [if_neg (c := to > (j : Int) ∧ ¬ (false = true ∧ (j : Int) + 1 < (t.length : Int) ∧ to = (j : Int) + 1)) (fun h => hgt h.1), if_neg (c := to > (j : Int) ∧ ¬ (true = true ∧ (j : Int) + 1 < (t.length : Int) ∧ to = (j : Int) + 1)) (fun h => hgt h.1)]
  have both : ∀ (on : Bool) (to : Int) (out : List Int), -1 ≤ to → out = (if 0 ≤ to ∧ to ≤ (j : Int) then [to] else []) → Goes (T_flow_Next t (j : Int)) (.br on (.jmp (.l12 to out (decide (IntKind.i64.wrap ((j : Int) + 1) < Int.ofNat t.length)))) (.jmp (.l12 to out false))) (nextL t.length on to (j : Int)) := by
    intro on to out hto hout
    subst hout
    rw [goes_br, ← key, hw]
    cases on with
    | true =>
      rw [if_pos rfl, cond_true]
      exact l12 to _ hto fun h => of_decide_eq_true h
    | false =>
      rw [if_neg (by decide), cond_false]
      exact l12 to _ hto fun h => by cases h
  have hr := @toOf_lt t j
  rw [goes_br]
  unfold onOf
  by_cases hjmp : (v_ins_Leads (t.getD j (dflt T_api_Ins))).2 = true
  · have hto : toOf t j = findI (t.getD j (dflt T_api_Ins)).2.2.2.2.2.1 t 0 := by unfold toOf; rw [if_pos hjmp]
    rw [hto] at hr
    rw [if_pos hjmp, goes_br, if_pos (bound_len hj), goes_br, if_pos kf, goes_br, vf, hto]
    generalize findI (t.getD j (dflt T_api_Ins)).2.2.2.2.2.1 t 0 = to at hr
    by_cases h2 : to ≥ 0
    · rw [if_pos (decide_eq_true h2), goes_br]
      by_cases h3 : to ≤ (j : Int)
      · rw [if_pos (decide_eq_true h3)]
        exact both _ to _ hr.1 (by rw [if_pos ⟨h2, h3⟩])
      · rw [if_neg (by simpa using h3)]
        exact both _ to _ hr.1 (by rw [if_neg (fun h => h3 h.2)])
    · rw [if_neg (by simpa using h2)]
      exact both _ to _ hr.1 (by rw [if_neg (fun h => h2 h.1)])
  · have hto : toOf t j = -1 := by unfold toOf; rw [if_neg hjmp]
    rw [if_neg hjmp, hto]
    exact both _ (-1) _ (by omega) (by rw [if_neg (fun h => by omega)])
end Go.Ev
end

section
set_option linter.unusedSectionVars false
set_option linter.unusedVariables false
set_option linter.unusedSimpArgs false
set_option maxRecDepth 100000
set_option linter.unusedVariables false
open Go Go.Ev
namespace Go.Ev
noncomputable section
noncomputable def e_flow_Next : Run := entG sg_flow_Next R_flow_Next (fun a => k_flow_Next a.1 a.2.1) (fun a => v_flow_Next a.1 a.2.1)
theorem ok_flow_Next : EntOK Go.Proofs.Tryd.prog 15 e_flow_Next := entG_ok (tb := tb_flow_Next) (c := c_flow_Next) tk_flow_Next (by kernel_rfl) (by kernel_rfl) (by kernel_rfl) (fun a => by kernel_rfl) fun ⟨t, i, _⟩ hk => evF_goes (c := c_flow_Next) (K := fun v => (R_flow_Next v, tps (toForms sg_flow_Next (t, i, ())))) (S := S_flow_Next t i) (by kernel_rfl) (en_flow_Next t i) (lp_flow_Next t i) (g_flow_Next t i hk)
end
end Go.Ev
end

section
set_option linter.unusedSectionVars false
set_option linter.unusedVariables false
set_option linter.unusedSimpArgs false
set_option maxRecDepth 100000
set_option linter.unusedVariables false
open Go Go.Ev
namespace Go.Ev
noncomputable section
/-! ### paling/ins.Locked -/
def sg_ins_Locked : Sig := [(true, T_api_Ins)]
noncomputable def t_ins_Locked : Tbl := [(36, e_ins_Right)]
theorem tk_ins_Locked : ∀ p ∈ t_ins_Locked, EntOK Go.Proofs.Tryd.prog p.1 p.2 := tbl_cons ok_ins_Right (tbl_nil)
noncomputable def c_ins_Locked : Code := Go.Proofs.Tryd.f37.body.getD .skip
def tb_ins_Locked : Tb := []
def T_ins_Locked (i : El T_api_Ins) : Empty → JT Empty (Bool) := fun j => nomatch j
def T0_ins_Locked (i : El T_api_Ins) : JT Empty (Bool) :=
  .br (k_ins_Right i)
    (.br ((v_ins_Right i) == (0 : Int))
      (.br (i.1 == (8 : Int))
        (.leaf true)
      (.leaf i.2.1))
    (.leaf false))
  (.no)
def v_ins_Locked (i : El T_api_Ins) : Bool :=
  bif (k_ins_Right i) then
    bif ((v_ins_Right i) == (0 : Int)) then
      bif (i.1 == (8 : Int)) then
        true
      else i.2.1
    else false
  else false
def k_ins_Locked (i : El T_api_Ins) : Bool :=
  bif (k_ins_Right i) then
    bif ((v_ins_Right i) == (0 : Int)) then
      bif (i.1 == (8 : Int)) then
        true
      else true
    else true
  else false
theorem g_ins_Locked (i : El T_api_Ins) (hk : k_ins_Locked i = true) : Goes (T_ins_Locked i) (T0_ins_Locked i) (v_ins_Locked i) :=
  Goes.brk hk (fun hk =>
    Goes.brk hk (fun hk =>
      Goes.brk hk (fun hk =>
        Goes.leaf) (fun hk =>
        Goes.leaf)) (fun hk =>
      Goes.leaf)) (fun hk =>
    Goes.nok hk)
def R_ins_Locked : Bool → AV := fun (r : Bool) => .d .bool r
def S_ins_Locked (i : El T_api_Ins) : Empty → Nat × St := fun j => nomatch j
theorem en_ins_Locked (i : El T_api_Ins) (L : Lt) : entryA Go.Proofs.Tryd.prog (clOf t_ins_Locked) tb_ins_Locked Go.Proofs.Tryd.f37 c_ins_Locked L (toForms sg_ins_Locked (i, ())) = (T0_ins_Locked i).run (fun v => some (R_ins_Locked v, tps (toForms sg_ins_Locked (i, ())))) fun j => L (S_ins_Locked i j).1 (S_ins_Locked i j).2 := by kernel_rfl
theorem lp_ins_Locked (i : El T_api_Ins) : ∀ (L : Lt) (j : Empty), procOf (procsF Go.Proofs.Tryd.prog (clOf t_ins_Locked) tb_ins_Locked Go.Proofs.Tryd.f37 c_ins_Locked (toForms sg_ins_Locked (i, ()))) (S_ins_Locked i j).1 L (S_ins_Locked i j).2 = (T_ins_Locked i j).run (fun v => some (R_ins_Locked v, tps (toForms sg_ins_Locked (i, ())))) fun j => L (S_ins_Locked i j).1 (S_ins_Locked i j).2 := fun L j => nomatch j
noncomputable def e_ins_Locked : Run := entG sg_ins_Locked R_ins_Locked (fun a => k_ins_Locked a.1) (fun a => v_ins_Locked a.1)
theorem ok_ins_Locked : EntOK Go.Proofs.Tryd.prog 37 e_ins_Locked := entG_ok (tb := tb_ins_Locked) (c := c_ins_Locked) tk_ins_Locked (by kernel_rfl) (by kernel_rfl) (by kernel_rfl) (fun a => by kernel_rfl) fun ⟨i, _⟩ hk => evF_goes (c := c_ins_Locked) (K := fun v => (R_ins_Locked v, tps (toForms sg_ins_Locked (i, ())))) (S := S_ins_Locked i) (by kernel_rfl) (en_ins_Locked i) (lp_ins_Locked i) (g_ins_Locked i hk)
end
end Go.Ev
end

section
set_option linter.unusedSectionVars false
set_option linter.unusedVariables false
set_option linter.unusedSimpArgs false
set_option maxRecDepth 100000
set_option linter.unusedVariables false
open Go Go.Ev
namespace Go.Ev
noncomputable section
/-! ### paling/ins.Fence -/
def sg_ins_Fence : Sig := [(true, T_api_Ins)]
noncomputable def t_ins_Fence : Tbl := [(36, e_ins_Right), (37, e_ins_Locked)]
theorem tk_ins_Fence : ∀ p ∈ t_ins_Fence, EntOK Go.Proofs.Tryd.prog p.1 p.2 := tbl_cons ok_ins_Right (tbl_cons ok_ins_Locked (tbl_nil))
noncomputable def c_ins_Fence : Code := Go.Proofs.Tryd.f23.body.getD .skip
def tb_ins_Fence : Tb := []
def T_ins_Fence (i : El T_api_Ins) : Empty → JT Empty (Bool) := fun j => nomatch j
def T0_ins_Fence (i : El T_api_Ins) : JT Empty (Bool) :=
  .br (k_ins_Right i)
    (.br ((v_ins_Right i) == (0 : Int))
      (.br (i.1 == (12 : Int))
        (.leaf true)
      (.br (k_ins_Locked i)
        (.leaf (v_ins_Locked i))
      (.no)))
    (.br (k_ins_Locked i)
      (.leaf (v_ins_Locked i))
    (.no)))
  (.no)
def v_ins_Fence (i : El T_api_Ins) : Bool :=
  bif (k_ins_Right i) then
    bif ((v_ins_Right i) == (0 : Int)) then
      bif (i.1 == (12 : Int)) then
        true
      else bif (k_ins_Locked i) then
        (v_ins_Locked i)
      else false
    else bif (k_ins_Locked i) then
      (v_ins_Locked i)
    else false
  else false
def k_ins_Fence (i : El T_api_Ins) : Bool :=
  bif (k_ins_Right i) then
    bif ((v_ins_Right i) == (0 : Int)) then
      bif (i.1 == (12 : Int)) then
        true
      else bif (k_ins_Locked i) then
        true
      else false
    else bif (k_ins_Locked i) then
      true
    else false
  else false
theorem g_ins_Fence (i : El T_api_Ins) (hk : k_ins_Fence i = true) : Goes (T_ins_Fence i) (T0_ins_Fence i) (v_ins_Fence i) :=
  Goes.brk hk (fun hk =>
    Goes.brk hk (fun hk =>
      Goes.brk hk (fun hk =>
        Goes.leaf) (fun hk =>
        Goes.brk hk (fun hk =>
          Goes.leaf) (fun hk =>
          Goes.nok hk))) (fun hk =>
      Goes.brk hk (fun hk =>
        Goes.leaf) (fun hk =>
        Goes.nok hk))) (fun hk =>
    Goes.nok hk)
def R_ins_Fence : Bool → AV := fun (r : Bool) => .d .bool r
def S_ins_Fence (i : El T_api_Ins) : Empty → Nat × St := fun j => nomatch j
theorem en_ins_Fence (i : El T_api_Ins) (L : Lt) : entryA Go.Proofs.Tryd.prog (clOf t_ins_Fence) tb_ins_Fence Go.Proofs.Tryd.f23 c_ins_Fence L (toForms sg_ins_Fence (i, ())) = (T0_ins_Fence i).run (fun v => some (R_ins_Fence v, tps (toForms sg_ins_Fence (i, ())))) fun j => L (S_ins_Fence i j).1 (S_ins_Fence i j).2 := by kernel_rfl
theorem lp_ins_Fence (i : El T_api_Ins) : ∀ (L : Lt) (j : Empty), procOf (procsF Go.Proofs.Tryd.prog (clOf t_ins_Fence) tb_ins_Fence Go.Proofs.Tryd.f23 c_ins_Fence (toForms sg_ins_Fence (i, ()))) (S_ins_Fence i j).1 L (S_ins_Fence i j).2 = (T_ins_Fence i j).run (fun v => some (R_ins_Fence v, tps (toForms sg_ins_Fence (i, ())))) fun j => L (S_ins_Fence i j).1 (S_ins_Fence i j).2 := fun L j => nomatch j
noncomputable def e_ins_Fence : Run := entG sg_ins_Fence R_ins_Fence (fun a => k_ins_Fence a.1) (fun a => v_ins_Fence a.1)
theorem ok_ins_Fence : EntOK Go.Proofs.Tryd.prog 23 e_ins_Fence := entG_ok (tb := tb_ins_Fence) (c := c_ins_Fence) tk_ins_Fence (by kernel_rfl) (by kernel_rfl) (by kernel_rfl) (fun a => by kernel_rfl) fun ⟨i, _⟩ hk => evF_goes (c := c_ins_Fence) (K := fun v => (R_ins_Fence v, tps (toForms sg_ins_Fence (i, ())))) (S := S_ins_Fence i) (by kernel_rfl) (en_ins_Fence i) (lp_ins_Fence i) (g_ins_Fence i hk)
end
end Go.Ev
end

section
set_option linter.unusedSectionVars false
set_option linter.unusedVariables false
set_option linter.unusedSimpArgs false
set_option maxRecDepth 100000
set_option linter.unusedVariables false
open Go Go.Ev
namespace Go.Ev
noncomputable section
/-! ### (*paling/bits.Set).List -/
def sg_bits_Set_List_t : PSig := [.obj 74 [(.d (.int .i64)), (.m (.int .i64) (.int .u64))]]
noncomputable def t_bits_Set_List_t : Tbl := []
theorem tk_bits_Set_List_t : ∀ p ∈ t_bits_Set_List_t, EntOK Go.Proofs.Tryd.prog p.1 p.2 := tbl_nil
noncomputable def c_bits_Set_List_t : Code := match Go.Proofs.Tryd.f24.body with
  | some (.seq _ (.seq _ (.seq _ (.seq _ (.seq _ d))))) => d
  | _ => .skip
def tb_bits_Set_List_t : Tb := [(2, ⟨[0, 4, 26, 27, 28], [(5, 46)]⟩), (8, ⟨[0, 4, 7, 8, 26, 27, 28], [(5, 46)]⟩)]
inductive J_bits_Set_List_t where
  | l2 (h : Int) (h1 : List Int) (h2 : Int) (out : List Int)
  | l8 (k : Int) (h : Int) (h1 : List Int) (i : Int) (out : List Int) (h2 : Int)
def T_bits_Set_List_t (s : Int × List (Int × Int)) (places : List Int) : J_bits_Set_List_t → JT J_bits_Set_List_t ((List Int) × Int × List (Int × Int))
  | .l2 h h1 h2 out =>
    .br (decide (h2 < h))
      (.br ((decide ((0 : Int) ≤ h2)) && (decide (h2 < (Int.ofNat (List.length h1)))))
        (.jmp (.l8 (List.getD h1 (Int.toNat h2) (dflt (.int .i64))) h h1 (0 : Int) out h2))
      (.no))
    (.leaf (out, s))
  | .l8 k h h1 i out h2 =>
    .br (decide (i < (64 : Int)))
      (.br (decide ((IntKind.u64.wrap i) < (0 : Int)))
        (.no)
      (.br ((bitAnd IntKind.u64 (Int.fdiv (Option.getD (mget (kt := (.int .i64)) k s.2) (0 : Int)) (2 ^ (min (Int.toNat (IntKind.u64.wrap i)) (IntKind.u64).bits))) (1 : Int)) == (1 : Int))
        (.br (Nat.ble (((List.length out) + 1) * 8) limit)
          (.jmp (.l8 k h h1 (IntKind.i64.wrap (i + (1 : Int))) (out ++ [(IntKind.i64.wrap ((IntKind.i64.wrap (k * (64 : Int))) + i))]) h2))
        (.no))
      (.jmp (.l8 k h h1 (IntKind.i64.wrap (i + (1 : Int))) out h2))))
    (.jmp (.l2 h h1 (IntKind.i64.wrap (h2 + (1 : Int))) out))
def T0_bits_Set_List_t (s : Int × List (Int × Int)) (places : List Int) : JT J_bits_Set_List_t ((List Int) × Int × List (Int × Int)) :=
  .jmp (.l2 (Int.ofNat (List.length places)) places (0 : Int) [])
def K_bits_Set_List_t : (List Int) × Int × List (Int × Int) → Ans := fun (r : (List Int) × Int × List (Int × Int)) => (.rw 3 (.int .i64) r.1, [.bx 74 [.d (.int .i64) r.2.1, .mv (.int .i64) (.int .u64) r.2.2]])
def S_bits_Set_List_t (s : Int × List (Int × Int)) (places : List Int) : J_bits_Set_List_t → Nat × St
  | .l2 h h1 h2 out => (2, ⟨mkTm 56 [(0, .pt 1 0 0), (4, .own 5 0 none), (26, .own 27 0 none), (27, .d (.int .i64) h), (28, .d (.int .i64) h2)], [(1, 0, .box 74 [.d (.int .i64) s.1, .mp 1026 0] (some 0)), (5, 0, .row 3 (.int .i64) out false), (27, 0, .row 3 (.int .i64) h1 false), (1026, 0, .map (.int .i64) (.int .u64) s.2)]⟩)
  | .l8 k h h1 i out h2 => (8, ⟨mkTm 56 [(0, .pt 1 0 0), (4, .own 5 0 none), (7, .d (.int .i64) k), (8, .d (.int .i64) i), (26, .own 27 0 none), (27, .d (.int .i64) h), (28, .d (.int .i64) h2)], [(1, 0, .box 74 [.d (.int .i64) s.1, .mp 1026 0] (some 0)), (5, 0, .row 3 (.int .i64) out false), (27, 0, .row 3 (.int .i64) h1 false), (1026, 0, .map (.int .i64) (.int .u64) s.2)]⟩)
def S0_bits_Set_List_t (s : Int × List (Int × Int)) (places : List Int) : St := ⟨mkTm 56 [(0, .pt 1 0 0), (3, .own 4 0 none), (4, .nil)], [(1, 0, .box 74 [.d (.int .i64) s.1, .mp 1026 0] (some 0)), (4, 0, .row 3 (.int .i64) places false), (1026, 0, .map (.int .i64) (.int .u64) s.2)]⟩
theorem en_bits_Set_List_t (s : Int × List (Int × Int)) (places : List Int) (L : Lt) : evC Go.Proofs.Tryd.prog (clOf t_bits_Set_List_t) tb_bits_Set_List_t L c_bits_Set_List_t 0 (finA Go.Proofs.Tryd.prog tb_bits_Set_List_t Go.Proofs.Tryd.f24 (toPs sg_bits_Set_List_t (s, ()))) (fun _ _ => none) (finA Go.Proofs.Tryd.prog tb_bits_Set_List_t Go.Proofs.Tryd.f24 (toPs sg_bits_Set_List_t (s, ()))) (S0_bits_Set_List_t s places) = (T0_bits_Set_List_t s places).run (fun v => some (K_bits_Set_List_t v)) fun j => L (S_bits_Set_List_t s places j).1 (S_bits_Set_List_t s places j).2 := by kernel_rfl
noncomputable def ps_bits_Set_List_t (s : Int × List (Int × Int)) (places : List Int) : List (Nat × (Lt → Kt)) := procs Go.Proofs.Tryd.prog (clOf t_bits_Set_List_t) tb_bits_Set_List_t c_bits_Set_List_t 0 (fun _ => (finA Go.Proofs.Tryd.prog tb_bits_Set_List_t Go.Proofs.Tryd.f24 (toPs sg_bits_Set_List_t (s, ())))) (fun _ _ _ => none) (fun _ => (finA Go.Proofs.Tryd.prog tb_bits_Set_List_t Go.Proofs.Tryd.f24 (toPs sg_bits_Set_List_t (s, ()))))
theorem lp_bits_Set_List_t (s : Int × List (Int × Int)) (places : List Int) : ∀ (L : Lt) (j : J_bits_Set_List_t), procOf (ps_bits_Set_List_t s places) (S_bits_Set_List_t s places j).1 L (S_bits_Set_List_t s places j).2 = (T_bits_Set_List_t s places j).run (fun v => some (K_bits_Set_List_t v)) fun j => L (S_bits_Set_List_t s places j).1 (S_bits_Set_List_t s places j).2
  | L, .l2 h h1 h2 out => by kernel_rfl
  | L, .l8 k h h1 i out h2 => by kernel_rfl
end
end Go.Ev
end

section
set_option linter.unusedSectionVars false
set_option linter.unusedVariables false
set_option linter.unusedSimpArgs false
set_option linter.unusedVariables false
set_option linter.unusedSimpArgs false
open Go
namespace Go.Ev
theorem g_bits_Set_List_t (s : Int × List (Int × Int)) (places : List Int) (hk : Nat.ble (places.length * 512) limit = true) : Goes (T_bits_Set_List_t s places) (T0_bits_Set_List_t s places) (listAt s.2 places, s) := by
  have hlim : places.length * 512 ≤ limit := Nat.le_of_ble_eq_true hk
  have hn : places.length < 4611686018427387904 := by unfold limit at hlim; omega
  -- within a word
  have inner : ∀ (k : Int) (j : Nat), j < places.length → ∀ (i : Nat), i ≤ 64 → ∀ (out : List Int) r, (out.length + (64 - i)) * 8 ≤ limit →
      Goes (T_bits_Set_List_t s places) (.jmp (.l2 (Int.ofNat (List.length places)) places ((j + 1 : Nat) : Int) (out ++ wordList s.2 k i (64 - i)))) r →
      Goes (T_bits_Set_List_t s places) (.jmp (.l8 k (Int.ofNat (List.length places)) places (i : Int) out (j : Int))) r := by
    intro k j hj
    refine down ?_ fun i hi ih => ?_
    · intro out r _ h
      rw [goes_jmp]
      have e : decide (((64 : Nat) : Int) < (64 : Int)) = false := by decide
      simp only [T_bits_Set_List_t, goes_br, e, Bool.false_eq_true, if_false, wrap_succ (k := j) (by omega)]
      simpa [wordList] using h
    · intro out r hl h
      rw [goes_jmp]
      have e : decide ((i : Int) < (64 : Int)) = true := decide_eq_true (by omega)
      have hw := wrapU_small hi
      have e2 : decide ((i : Int) < (0 : Int)) = false := decide_eq_false (by omega)
      have hcons : wordList s.2 k i (64 - i) = (if bitE (wordAt s.2 k) (i : Nat) then [numE k (i : Nat)] else []) ++ wordList s.2 k (i + 1) (64 - (i + 1)) := by
        unfold wordList
        rw [show 64 - i = (64 - (i + 1)) + 1 by omega, List.range'_succ, List.filter_cons]
        split <;> simp
      rw [hcons] at h
      have hb : ((bitAnd IntKind.u64 (Int.fdiv (Option.getD (mget (kt := (.int .i64)) k s.2) (0 : Int)) (2 ^ (min (Int.toNat (IntKind.u64.wrap (i : Int))) (IntKind.u64).bits))) (1 : Int)) == (1 : Int)) = bitE (wordAt s.2 k) (i : Nat) := rfl
      unfold T_bits_Set_List_t
      rw [goes_br, if_pos e, goes_br, if_neg (by rw [hw, e2]; decide), goes_br, hb, wrap_succ (k := i) (by omega)]
      by_cases hbit : bitE (wordAt s.2 k) (i : Nat) = true
      · rw [if_pos hbit]
        rw [if_pos hbit] at h
        rw [goes_br, if_pos (Nat.ble_eq_true_of_le (by omega))]
        refine ih (out ++ [numE k (i : Nat)]) r (by simp; omega) ?_
        simpa using h
      · rw [if_neg hbit]
        rw [if_neg hbit, List.nil_append] at h
        exact ih out r (by omega) h
  have outer : ∀ j, j ≤ places.length → ∀ out : List Int, (out.length + (places.length - j) * 64) * 8 ≤ limit →
      Goes (T_bits_Set_List_t s places) (.jmp (.l2 (Int.ofNat (List.length places)) places (j : Int) out)) (out ++ listAt s.2 (places.drop j), s) := by
    refine down ?_ fun j hj ih => ?_
    · intro out _
      rw [goes_jmp]
      simp only [T_bits_Set_List_t, goes_br, lt_len_not (Nat.lt_irrefl _), List.drop_length, Bool.false_eq_true, if_false]
      rw [show out ++ listAt s.2 [] = out by simp [listAt]]
      exact .leaf
    · intro out hl
      rw [goes_jmp, drop_cons hj]
      simp only [T_bits_Set_List_t, goes_br, lt_len hj, nng, Bool.and_self, if_true, Int.toNat_natCast, getD_lt hj]
      have hwl := wordList_length s.2 places[j] 0 64
      refine inner places[j] j hj 0 (by omega) out _ (by omega) ?_
      have := ih (out ++ wordList s.2 places[j] 0 64) (by rw [List.length_append]; omega)
      rw [show out ++ listAt s.2 (places[j] :: places.drop (j + 1)) = (out ++ wordList s.2 places[j] 0 64) ++ listAt s.2 (places.drop (j + 1)) by simp only [listAt, List.flatMap_cons, List.append_assoc]]
      exact this
  have := outer 0 (Nat.zero_le _) [] (by simp; omega)
  simpa [T0_bits_Set_List_t] using this
end Go.Ev
end

section
set_option linter.unusedSectionVars false
set_option linter.unusedVariables false
set_option linter.unusedSimpArgs false
set_option maxRecDepth 100000
set_option linter.unusedVariables false
open Go Go.Ev
namespace Go.Ev
/-! ### slices.Sort of numbers: by the library's contract -/
def renSort : Go.Shelf.Ren := ⟨fun n => if n = 189 then 38 else if n = 125 then 47 else if n = 257 then 46 else if n = 128 then 75 else if n = 129 then 76 else if n = 294 then 66 else if n = 295 then 67 else if n = 296 then 68 else if n = 297 then 69 else if n = 298 then 70 else if n = 299 then 71 else if n = 216 then 72 else if n = 300 then 73 else if n = 301 then 74 else if n = 328 then 89 else if n = 329 then 90 else if n = 330 then 91 else if n = 331 then 92 else if n = 332 then 93 else if n = 215 then 94 else if n = 343 then 100 else n,
  fun n => if n = 28 then 23 else if n = 46 then 77 else if n = 51 then 103 else if n = 53 then 76 else if n = 183 then 95 else if n = 182 then 94 else if n = 131 then 100 else if n = 218 then 123 else if n = 222 then 127 else if n = 228 then 137 else if n = 229 then 118 else n,
  fun n => n⟩
theorem renSort_lays : Go.Proofs.Lays.n189 Go.Proofs.Tryd.prog renSort where
  mixed := by kernel_rfl
  f125 := by kernel_rfl
  f128 := by kernel_rfl
  f129 := by kernel_rfl
  f189 := by kernel_rfl
  f215 := by kernel_rfl
  f216 := by kernel_rfl
  f257 := by kernel_rfl
  f294 := by kernel_rfl
  f295 := by kernel_rfl
  f296 := by kernel_rfl
  f297 := by kernel_rfl
  f298 := by kernel_rfl
  f299 := by kernel_rfl
  f300 := by kernel_rfl
  f301 := by kernel_rfl
  f328 := by kernel_rfl
  f329 := by kernel_rfl
  f330 := by kernel_rfl
  f331 := by kernel_rfl
  f332 := by kernel_rfl
  f343 := by kernel_rfl
  t0 := by kernel_rfl
  a0 := fun w => by kernel_rfl
  z0 := fun w => by kernel_rfl
  v0 := fun w => by kernel_rfl
  t3 := by kernel_rfl
  a3 := fun w => by kernel_rfl
  z3 := fun w => by kernel_rfl
  v3 := fun w => by kernel_rfl
  t4 := by kernel_rfl
  a4 := fun w => by kernel_rfl
  z4 := fun w => by kernel_rfl
  v4 := fun w => by kernel_rfl
  t5 := by kernel_rfl
  a5 := fun w => by kernel_rfl
  z5 := fun w => by kernel_rfl
  v5 := fun w => by kernel_rfl
  t9 := by kernel_rfl
  a9 := fun w => by kernel_rfl
  z9 := fun w => by kernel_rfl
  v9 := fun w => by kernel_rfl
  t28 := by kernel_rfl
  a28 := fun w => by kernel_rfl
  z28 := fun w => by kernel_rfl
  v28 := fun w => by kernel_rfl
  t46 := by kernel_rfl
  a46 := fun w => by kernel_rfl
  z46 := fun w => by kernel_rfl
  v46 := fun w => by kernel_rfl
  t51 := by kernel_rfl
  a51 := fun w => by kernel_rfl
  z51 := fun w => by kernel_rfl
  v51 := fun w => by kernel_rfl
  t53 := by kernel_rfl
  a53 := fun w => by kernel_rfl
  z53 := fun w => by kernel_rfl
  v53 := fun w => by kernel_rfl
  t131 := by kernel_rfl
  a131 := fun w => by kernel_rfl
  z131 := fun w => by kernel_rfl
  v131 := fun w => by kernel_rfl
  t182 := by kernel_rfl
  a182 := fun w => by kernel_rfl
  z182 := fun w => by kernel_rfl
  v182 := fun w => by kernel_rfl
  t183 := by kernel_rfl
  a183 := fun w => by kernel_rfl
  z183 := fun w => by kernel_rfl
  v183 := fun w => by kernel_rfl
  t218 := by kernel_rfl
  a218 := fun w => by kernel_rfl
  z218 := fun w => by kernel_rfl
  v218 := fun w => by kernel_rfl
  t222 := by kernel_rfl
  a222 := fun w => by kernel_rfl
  z222 := fun w => by kernel_rfl
  v222 := fun w => by kernel_rfl
  t228 := by kernel_rfl
  a228 := fun w => by kernel_rfl
  z228 := fun w => by kernel_rfl
  v228 := fun w => by kernel_rfl
  t229 := by kernel_rfl
  a229 := fun w => by kernel_rfl
  z229 := fun w => by kernel_rfl
  v229 := fun w => by kernel_rfl

theorem sortOK : SortOK Go.Proofs.Tryd.prog 38 := ⟨fun blk off cap zs w h1 h2 h3 => Go.Proofs.Any.slices_Sort_int renSort_lays blk off cap zs w h1 h2 h3, fun p cap w => Go.Proofs.Any.slices_Sort_int_none renSort_lays p cap w⟩
end Go.Ev
end

section
set_option linter.unusedSectionVars false
set_option linter.unusedVariables false
set_option linter.unusedSimpArgs false
set_option maxRecDepth 100000
set_option linter.unusedVariables false
open Go Go.Ev
namespace Go.Ev
/-! ### (*bits.Set).List: by hand: the keys in whatever order, sorted -/
def sg_bits_Set_List : PSig := [.obj 74 [(.d (.int .i64)), (.m (.int .i64) (.int .u64))]]
def v_bits_Set_List (s : Int × List (Int × Int)) : (List Int) × Int × List (Int × Int) := (listS s, s)
def k_bits_Set_List (s : Int × List (Int × Int)) : Bool := Nat.ble (s.2.length * 512) limit
def K_bits_Set_List : (List Int) × Int × List (Int × Int) → Ans := K_bits_Set_List_t

section
abbrev SetL := List (El (.int .i64) × El (.int .u64))
noncomputable def setListBody : Code := Go.Proofs.Tryd.f24.body.getD .skip
noncomputable def setListR : Code := fstC (sndC (sndC (sndC setListBody)))
noncomputable def setListX : RangeText := rangeText (sndC setListR)
noncomputable def setListSort : Code := fstC (sndC (sndC (sndC (sndC setListBody))))
def setLab1 : Lab := ⟨[0, 3, 4], []⟩
def setLab2 : Lab := ⟨[0, 3, 4, 15], [(4, 46)]⟩
def setObs (s : Int × SetL) (ps : List (El (.int .i64))) : List (Id × Nat × Obj) := [(1, 0, .box 74 [.d (.int .i64) s.1, .mp 1026 0] (some 0)), (4, 0, .row 3 (.int .i64) ps false), (1026, 0, .gone (some 1000))]
def setK (s : Int × SetL) (v : Value) (ps : List (El (.int .i64))) : St := ⟨mkTm 56 [(0, .pt 1 0 0), (3, .own 4 0 none), (4, .nil), (15, .cst v)], setObs s ps⟩
def setI (s : Int × SetL) (v : Value) (done : SetL) : St := setK s v (done.map Prod.fst)
def setT (s : Int × SetL) (v : Value) (done : SetL) (e : El (.int .i64) × El (.int .u64)) : St := ((setI s v done).put (some 16) (.tu [mkB true, .d (.int .i64) e.1, .d (.int .u64) e.2])).put (some 17) (mkB true)
def setU (s : Int × SetL) (v : Value) (done : SetL) (e : El (.int .i64) × El (.int .u64)) : St := (((setT s v done e).put (some 18) (.tu [.d (.int .i64) e.1, .d (.int .u64) e.2])).put (some 19) (.d (.int .i64) e.1)).put (some 5) (.d (.int .i64) e.1)
def setE (s : Int × SetL) (v : Value) (done : SetL) : St := ((setI s v done).put (some 16) (.tu [mkB false])).put (some 17) (mkB false)
/-- ahead of the range: after the first parts; with the map at hand -/
def setA (s : Int × SetL) : St := ⟨mkTm 56 [(0, .pt 1 0 0)], [(1, 0, .box 74 [.d (.int .i64) s.1, .mp 1026 0] (some 0)), (1026, 0, .map (.int .i64) (.int .u64) s.2)]⟩
def setC (s : Int × SetL) : St := ⟨mkTm 56 [(0, .pt 1 0 0), (3, .nil), (4, .nil)], [(1, 0, .box 74 [.d (.int .i64) s.1, .mp 1026 0] (some 0)), (1026, 0, .map (.int .i64) (.int .u64) s.2)]⟩
def setM (s : Int × SetL) : St := ((((setC s).put (some 11) (.pt 1 0 0)).put (some 12) (.pt 1 0 0)).put (some 13) (.pt 1 0 1)).put (some 14) (.mp 1026 0)

theorem setListX_ok : setListX.OK := ⟨by kernel_rfl, by kernel_rfl, by kernel_rfl, by kernel_rfl, by kernel_rfl, by kernel_rfl, by kernel_rfl, by kernel_rfl, by kernel_rfl⟩
theorem setList_round (s : Int × SetL) (v : Value) (done : SetL) (e : El (.int .i64) × El (.int .u64)) (L : Lt) (k : Kt) (x : Nat → Kt) (r : Kt) :
    evC Go.Proofs.Tryd.prog (clOf []) [] L setListX.cr 0 (fun t => k (norm Go.Proofs.Tryd.prog setLab2 t)) x r (setU s v done e) = bif Nat.ble (((done.map Prod.fst).length + 1) * 8) limit then k (setK s v (done.map Prod.fst ++ [e.1])) else none := by kernel_rfl
theorem setList_ev (s : Int × SetL) (hk : k_bits_Set_List s = true) : RangeEv Go.Proofs.Tryd.prog (clOf []) setListX s.2 setLab2 1026 1000 (setI s) (setE s) (setT s) (setU s) where
  it := fun v done => by kernel_rfl
  r1 := fun v done e k => by kernel_rfl
  rt := fun v done e => by kernel_rfl
  re := fun v done e => by kernel_rfl
  r2 := fun v done e k => by kernel_rfl
  r3 := fun v done e rest hp L k x r => by
    have hl := hp.length_eq
    simp only [List.length_append, List.length_cons] at hl
    have hlim : s.2.length * 512 ≤ limit := Nat.le_of_ble_eq_true hk
    rw [setList_round, List.length_map, Nat.ble_eq_true_of_le (by omega), cond_true]
    unfold setI
    rw [List.map_append]
    rfl
  f1 := fun v done k => by kernel_rfl
  ft := fun v done => by kernel_rfl
theorem setList_body : setListBody = .seq (fstC setListBody) (.seq (fstC (sndC setListBody)) (.seq (fstC (sndC (sndC setListBody))) (.seq (.seq (.region (ridC (fstC setListR)) (ropsC (fstC setListR)) false) setListX.code) (.seq (.region (ridC setListSort) (ropsC setListSort) false) c_bits_Set_List_t)))) := by kernel_rfl
theorem setList_a (s : Int × SetL) (L : Lt) (k : Kt) (x : Nat → Kt) (r : Kt) : evC Go.Proofs.Tryd.prog (clOf []) [] L (fstC setListBody) 0 (fun t => k (norm Go.Proofs.Tryd.prog setLab1 t)) x r (setA s) = k (setA s) := by kernel_rfl
theorem setList_b (s : Int × SetL) (L : Lt) (k : Kt) (x : Nat → Kt) (r : Kt) : evC Go.Proofs.Tryd.prog (clOf []) [] L (fstC (sndC setListBody)) 0 (fun t => k (norm Go.Proofs.Tryd.prog setLab1 t)) x r (setA s) = k (setA s) := by kernel_rfl
theorem setList_c (s : Int × SetL) (L : Lt) (k : Kt) (x : Nat → Kt) (r : Kt) : evC Go.Proofs.Tryd.prog (clOf []) [] L (fstC (sndC (sndC setListBody))) 0 (fun t => k (norm Go.Proofs.Tryd.prog setLab1 t)) x r (setA s) = k (setC s) := by kernel_rfl
def mapKV (P : Program) (T : TypeId) : TypeId × TypeId := match P.underlying T with | some (.map K V) => (K, V) | _ => (0, 0)

theorem callOK_bits_Set_List (s : Int × SetL) (hk : k_bits_Set_List s = true) : CallOK Go.Proofs.Tryd.prog 24 (toPs sg_bits_Set_List (s, ())) (K_bits_Set_List (v_bits_Set_List s)) := by
  obtain ⟨hcl, hdet⟩ := clOf_ok (P := Go.Proofs.Tryd.prog) tbl_nil
  have hlim : s.2.length * 512 ≤ limit := Nat.le_of_ble_eq_true hk
  refine callOK_of_wp (tb := tb_bits_Set_List_t) (fn := Go.Proofs.Tryd.f24) (c := setListBody) (vs := [.pt 1 0 0]) (st := ⟨[], [(1, 0, .box 74 [.d (.int .i64) s.1, .mp 1026 0] (some 0)), (1026, 0, .map (.int .i64) (.int .u64) s.2)]⟩) (by kernel_rfl) (by kernel_rfl) (by kernel_rfl) ?_
  intro _ Mod F0 w0 a w hr
  have hr : Rel Mod F0 w0 (setA s) a w := hr
  rw [setList_body]
  refine wp_seq (piece hcl hdet (norm Go.Proofs.Tryd.prog setLab1) (fun h => norm_rel h) (setList_a s) hr fun a w hr => ?_)
  refine wp_seq (piece hcl hdet (norm Go.Proofs.Tryd.prog setLab1) (fun h => norm_rel h) (setList_b s) hr fun a w hr => ?_)
  refine wp_seq (piece hcl hdet (norm Go.Proofs.Tryd.prog setLab1) (fun h => norm_rel h) (setList_c s) hr fun a w hr => ?_)
  -- the range
  refine wp_seq (wp_seq (wp_region ?_))
  rw [show List.range (ropsC (fstC setListR)).size = [0, 1, 2, 3, 4] from by kernel_rfl]
  refine evOp hcl (o := opC (fstC setListR) 0) (st1 := (setC s).put (some 11) (.pt 1 0 0)) (by kernel_rfl) (by kernel_rfl) (fun k => by kernel_rfl) hr fun a w hr => ?_
  refine evOp hcl (o := opC (fstC setListR) 1) (st1 := ((setC s).put (some 11) (.pt 1 0 0)).put (some 12) (.pt 1 0 0)) (by kernel_rfl) (by kernel_rfl) (fun k => by kernel_rfl) hr fun a w hr => ?_
  refine evOp hcl (o := opC (fstC setListR) 2) (st1 := (((setC s).put (some 11) (.pt 1 0 0)).put (some 12) (.pt 1 0 0)).put (some 13) (.pt 1 0 1)) (by kernel_rfl) (by kernel_rfl) (fun k => by kernel_rfl) hr fun a w hr => ?_
  refine evOp hcl (o := opC (fstC setListR) 3) (st1 := setM s) (by kernel_rfl) (by kernel_rfl) (fun k => by kernel_rfl) hr fun a w hr => ?_
  refine handOp (o := opC (fstC setListR) 4) (by kernel_rfl) (by kernel_rfl) ?_
  refine rangeLoop (tm := 14) (idm0 := 1026) (ver0 := 0) (T := (match (opC (fstC setListR) 4).op with | .range T _ => T | _ => 0)) (K := (mapKV Go.Proofs.Tryd.prog (match (opC (fstC setListR) 4).op with | .range T _ => T | _ => 0)).1) (V := (mapKV Go.Proofs.Tryd.prog (match (opC (fstC setListR) 4).op with | .range T _ => T | _ => 0)).2)
    hcl hdet setListX_ok rfl rfl (setList_ev s hk) (by kernel_rfl) (by kernel_rfl) (by kernel_rfl) (by kernel_rfl) (by kernel_rfl) (by kernel_rfl) (fun v => by kernel_rfl) (fun v done => by kernel_rfl) (fun v done => by kernel_rfl) hr ?_
  intro v done a w hperm hr
  -- the sort
  have hr : Rel Mod F0 w0 (S0_bits_Set_List_t s (done.map Prod.fst)) a w := norm_rel (P := Go.Proofs.Tryd.prog) (lab := setLab1) hr
  refine wp_seq (wp_region ?_)
  rw [show List.range (ropsC setListSort).size = [0, 1] from by kernel_rfl]
  refine evOp hcl (o := opC setListSort 0) (st1 := (S0_bits_Set_List_t s (done.map Prod.fst)).put (some 24) (.own 4 0 none)) (by kernel_rfl) (by kernel_rfl) (fun k => by kernel_rfl) hr fun a w hr => ?_
  refine handOp (o := opC setListSort 1) (by kernel_rfl) (by kernel_rfl) ?_
  refine sortStep (ts := 24) (id := 4) (ver := 0) (E := 3) (l := done.map Prod.fst) (c := (match (opC setListSort 1).op with | .call c => c | _ => default)) (fn := Go.Proofs.Tryd.f38) (body := Go.Proofs.Tryd.f38.body.getD .skip) (by kernel_rfl) (by kernel_rfl) (by kernel_rfl) (by kernel_rfl) (by kernel_rfl) (by kernel_rfl) (by kernel_rfl) (by kernel_rfl) sortOK (by
    rw [List.length_map, hperm.length_eq]
    unfold limit at hlim
    omega) hr fun a w hr => ?_
  have hr : Rel Mod F0 w0 (S0_bits_Set_List_t s (sorted (done.map Prod.fst))) a w := norm_rel (P := Go.Proofs.Tryd.prog) (lab := setLab1) hr
  rw [sorted_perm (hperm.map Prod.fst)] at hr
  have hg := g_bits_Set_List_t s (sorted (s.2.map Prod.fst)) (by rw [List.length_mergeSort, List.length_map]; exact hk)
  exact tailStep hcl hdet (ps := ps_bits_Set_List_t s (sorted (s.2.map Prod.fst))) rfl (by kernel_rfl) (en_bits_Set_List_t s _) (lp_bits_Set_List_t s _) hg hr
end
noncomputable def e_bits_Set_List : Run := entO sg_bits_Set_List K_bits_Set_List (fun a => k_bits_Set_List a.1) (fun a => v_bits_Set_List a.1)
theorem ok_bits_Set_List : EntOK Go.Proofs.Tryd.prog 24 e_bits_Set_List := entO_hand (noRun_ok (known_of (fn := Go.Proofs.Tryd.f24) (c := setListBody) (by kernel_rfl) (by kernel_rfl) (by kernel_rfl))) fun a h => callOK_bits_Set_List a.1 h
end Go.Ev
end

section
set_option linter.unusedSectionVars false
set_option linter.unusedVariables false
set_option linter.unusedSimpArgs false
set_option maxRecDepth 100000
set_option linter.unusedVariables false
open Go Go.Ev
namespace Go.Ev
noncomputable section
/-! ### paling/road.Ends -/
def sg_road_Ends : Sig := [(true, (.sl T_api_Ins)), (false, (.sl (.int .i64))), (false, (.int .i64))]
noncomputable def t_road_Ends : Tbl := [(20, e_bits_New), (21, e_bits_Set_Put), (15, e_flow_Next), (22, e_bits_Set_Has), (23, e_ins_Fence), (24, e_bits_Set_List)]
theorem tk_road_Ends : ∀ p ∈ t_road_Ends, EntOK Go.Proofs.Tryd.prog p.1 p.2 := tbl_cons ok_bits_New (tbl_cons ok_bits_Set_Put (tbl_cons ok_flow_Next (tbl_cons ok_bits_Set_Has (tbl_cons ok_ins_Fence (tbl_cons ok_bits_Set_List (tbl_nil))))))
noncomputable def c_road_Ends : Code := Go.Proofs.Tryd.f9.body.getD .skip
def tb_road_Ends : Tb := [(4, ⟨[2, 3, 7, 8, 23, 24, 25], []⟩), (11, ⟨[3, 7, 8, 11], [(1000000000000000000000000000000000000000000000000000000000012, 1)]⟩), (17, ⟨[3, 7, 8, 11, 51, 52, 53], [(1000000000000000000000000000000000000000000000000000000000012, 1)]⟩)]
inductive J_road_Ends where
  | l4 (h : Int) (closed : Int) (closed1 : List (Int × Int))
  | l11 (closed : Int) (closed1 : List (Int × Int)) (len : Nat) (seen : Int) (open_ : List Int) (seen1 : List (Int × Int))
  | l17 (closed : Int) (closed1 : List (Int × Int)) (len : Nat) (h : Int) (seen : Int) (open_ : List Int) (seen1 : List (Int × Int)) (h1 : Int) (h2 : List Int)
def T_road_Ends (t : List (El T_api_Ins)) (points : List Int) (s : Int) : J_road_Ends → JT J_road_Ends (List Int)
  | .l4 h closed closed1 =>
    .br (decide (h < (Int.ofNat (List.length points))))
      (.br ((decide ((0 : Int) ≤ h)) && (decide (h < (Int.ofNat (List.length points)))))
        (.jmp (.l4 (IntKind.i64.wrap (h + (1 : Int))) (v_bits_Set_Put (closed, closed1) (List.getD points (Int.toNat h) (dflt (.int .i64)))).2.1 (v_bits_Set_Put (closed, closed1) (List.getD points (Int.toNat h) (dflt (.int .i64)))).2.2))
      (.no))
    (.jmp (.l11 closed closed1 1 (v_bits_New (Int.ofNat (List.length t))).1 [s] (v_bits_New (Int.ofNat (List.length t))).2))
  | .l11 closed closed1 len seen open_ seen1 =>
    .br (decide ((Int.ofNat len) > (0 : Int)))
      (.br ((decide ((0 : Int) ≤ (IntKind.i64.wrap ((Int.ofNat len) - (1 : Int))))) && (decide ((IntKind.i64.wrap ((Int.ofNat len) - (1 : Int))) < (Int.ofNat len))))
        (.br ((decide ((0 : Int) ≤ (IntKind.i64.wrap ((Int.ofNat len) - (1 : Int))))) && (decide ((IntKind.i64.wrap ((Int.ofNat len) - (1 : Int))) ≤ (Int.ofNat len))))
          (.br (k_flow_Next t (List.getD open_ (Int.toNat (IntKind.i64.wrap ((Int.ofNat len) - (1 : Int)))) (dflt (.int .i64))))
            (.jmp (.l17 closed closed1 (Int.toNat (IntKind.i64.wrap ((Int.ofNat len) - (1 : Int)))) (0 : Int) seen open_ seen1 (Int.ofNat (List.length (v_flow_Next t (List.getD open_ (Int.toNat (IntKind.i64.wrap ((Int.ofNat len) - (1 : Int)))) (dflt (.int .i64)))))) (v_flow_Next t (List.getD open_ (Int.toNat (IntKind.i64.wrap ((Int.ofNat len) - (1 : Int)))) (dflt (.int .i64))))))
          (.no))
        (.no))
      (.no))
    (.br (k_bits_Set_List (seen, seen1))
      (.leaf (v_bits_Set_List (seen, seen1)).1)
    (.no))
  | .l17 closed closed1 len h seen open_ seen1 h1 h2 =>
    .br (decide (h < h1))
      (.br ((decide ((0 : Int) ≤ h)) && (decide (h < (Int.ofNat (List.length h2)))))
        (.br (! (v_bits_Set_Has (closed, closed1) (List.getD h2 (Int.toNat h) (dflt (.int .i64)))).1)
          (.br (v_bits_Set_Put (seen, seen1) (List.getD h2 (Int.toNat h) (dflt (.int .i64)))).1
            (.br ((decide ((0 : Int) ≤ (List.getD h2 (Int.toNat h) (dflt (.int .i64))))) && (decide ((List.getD h2 (Int.toNat h) (dflt (.int .i64))) < (Int.ofNat (List.length t)))))
              (.br (k_ins_Fence (List.getD t (Int.toNat (List.getD h2 (Int.toNat h) (dflt (.int .i64)))) (dflt T_api_Ins)))
                (.br (! (v_ins_Fence (List.getD t (Int.toNat (List.getD h2 (Int.toNat h) (dflt (.int .i64)))) (dflt T_api_Ins))))
                  (.br (Nat.ble (((List.length (List.take len open_)) + 1) * 8) limit)
                    (.jmp (.l17 (v_bits_Set_Has (closed, closed1) (List.getD h2 (Int.toNat h) (dflt (.int .i64)))).2.1 (v_bits_Set_Has (closed, closed1) (List.getD h2 (Int.toNat h) (dflt (.int .i64)))).2.2 (List.length ((List.take len open_) ++ [(List.getD h2 (Int.toNat h) (dflt (.int .i64)))])) (IntKind.i64.wrap (h + (1 : Int))) (v_bits_Set_Put (seen, seen1) (List.getD h2 (Int.toNat h) (dflt (.int .i64)))).2.1 ((List.take len open_) ++ [(List.getD h2 (Int.toNat h) (dflt (.int .i64)))]) (v_bits_Set_Put (seen, seen1) (List.getD h2 (Int.toNat h) (dflt (.int .i64)))).2.2 h1 h2))
                  (.no))
                (.jmp (.l17 (v_bits_Set_Has (closed, closed1) (List.getD h2 (Int.toNat h) (dflt (.int .i64)))).2.1 (v_bits_Set_Has (closed, closed1) (List.getD h2 (Int.toNat h) (dflt (.int .i64)))).2.2 len (IntKind.i64.wrap (h + (1 : Int))) (v_bits_Set_Put (seen, seen1) (List.getD h2 (Int.toNat h) (dflt (.int .i64)))).2.1 open_ (v_bits_Set_Put (seen, seen1) (List.getD h2 (Int.toNat h) (dflt (.int .i64)))).2.2 h1 h2)))
              (.no))
            (.no))
          (.jmp (.l17 (v_bits_Set_Has (closed, closed1) (List.getD h2 (Int.toNat h) (dflt (.int .i64)))).2.1 (v_bits_Set_Has (closed, closed1) (List.getD h2 (Int.toNat h) (dflt (.int .i64)))).2.2 len (IntKind.i64.wrap (h + (1 : Int))) (v_bits_Set_Put (seen, seen1) (List.getD h2 (Int.toNat h) (dflt (.int .i64)))).2.1 open_ (v_bits_Set_Put (seen, seen1) (List.getD h2 (Int.toNat h) (dflt (.int .i64)))).2.2 h1 h2)))
        (.jmp (.l17 (v_bits_Set_Has (closed, closed1) (List.getD h2 (Int.toNat h) (dflt (.int .i64)))).2.1 (v_bits_Set_Has (closed, closed1) (List.getD h2 (Int.toNat h) (dflt (.int .i64)))).2.2 len (IntKind.i64.wrap (h + (1 : Int))) seen open_ seen1 h1 h2)))
      (.no))
    (.jmp (.l11 closed closed1 len seen open_ seen1))
def T0_road_Ends (t : List (El T_api_Ins)) (points : List Int) (s : Int) : JT J_road_Ends (List Int) :=
  .jmp (.l4 (0 : Int) (v_bits_New (Int.ofNat (List.length t))).1 (v_bits_New (Int.ofNat (List.length t))).2)
def R_road_Ends : List Int → AV := fun (r : List Int) => .rw 3 (.int .i64) r
def S_road_Ends (t : List (El T_api_Ins)) (points : List Int) (s : Int) : J_road_Ends → Nat × St
  | .l4 h closed closed1 => (4, ⟨mkTm 82 [(2, .d (.int .i64) s), (3, .pt 4 0 0), (7, .pt 8 0 0), (8, .pt 9 0 0), (23, .d (.sl (.int .i64)) points), (24, .d (.int .i64) (Int.ofNat (List.length points))), (25, .d (.int .i64) h)], [(4, 0, .box 32 [.d (.sl T_api_Ins) t] none), (8, 0, .box 74 [.d (.int .i64) closed, .mp 8194 0] none), (9, 0, .box 74 [.d (.int .i64) (v_bits_New (Int.ofNat (List.length t))).1, .mp 9218 0] none), (8194, 0, .map (.int .i64) (.int .u64) closed1), (9218, 0, .map (.int .i64) (.int .u64) (v_bits_New (Int.ofNat (List.length t))).2)]⟩)
  | .l11 closed closed1 len seen open_ seen1 => (11, ⟨mkTm 82 [(3, .pt 4 0 0), (7, .pt 8 0 0), (8, .pt 9 0 0), (11, .own 12 0 (some len))], [(4, 0, .box 32 [.d (.sl T_api_Ins) t] none), (8, 0, .box 74 [.d (.int .i64) closed, .mp 8194 0] none), (9, 0, .box 74 [.d (.int .i64) seen, .mp 9218 0] none), (12, 0, .row 3 (.int .i64) open_ false), (8194, 0, .map (.int .i64) (.int .u64) closed1), (9218, 0, .map (.int .i64) (.int .u64) seen1)]⟩)
  | .l17 closed closed1 len h seen open_ seen1 h1 h2 => (17, ⟨mkTm 82 [(3, .pt 4 0 0), (7, .pt 8 0 0), (8, .pt 9 0 0), (11, .own 12 0 (some len)), (51, .own 52 0 none), (52, .d (.int .i64) h1), (53, .d (.int .i64) h)], [(4, 0, .box 32 [.d (.sl T_api_Ins) t] none), (8, 0, .box 74 [.d (.int .i64) closed, .mp 8194 0] none), (9, 0, .box 74 [.d (.int .i64) seen, .mp 9218 0] none), (12, 0, .row 3 (.int .i64) open_ false), (52, 0, .row 3 (.int .i64) h2 false), (8194, 0, .map (.int .i64) (.int .u64) closed1), (9218, 0, .map (.int .i64) (.int .u64) seen1)]⟩)
theorem en_road_Ends (t : List (El T_api_Ins)) (points : List Int) (s : Int) (L : Lt) : entryA Go.Proofs.Tryd.prog (clOf t_road_Ends) tb_road_Ends Go.Proofs.Tryd.f9 c_road_Ends L (toForms sg_road_Ends (t, points, s, ())) = (T0_road_Ends t points s).run (fun v => some (R_road_Ends v, tps (toForms sg_road_Ends (t, points, s, ())))) fun j => L (S_road_Ends t points s j).1 (S_road_Ends t points s j).2 := by kernel_rfl
theorem lp_road_Ends (t : List (El T_api_Ins)) (points : List Int) (s : Int) : ∀ (L : Lt) (j : J_road_Ends), procOf (procsF Go.Proofs.Tryd.prog (clOf t_road_Ends) tb_road_Ends Go.Proofs.Tryd.f9 c_road_Ends (toForms sg_road_Ends (t, points, s, ()))) (S_road_Ends t points s j).1 L (S_road_Ends t points s j).2 = (T_road_Ends t points s j).run (fun v => some (R_road_Ends v, tps (toForms sg_road_Ends (t, points, s, ())))) fun j => L (S_road_Ends t points s j).1 (S_road_Ends t points s j).2
  | L, .l4 h closed closed1 => by kernel_rfl
  | L, .l11 closed closed1 len seen open_ seen1 => by kernel_rfl
  | L, .l17 closed closed1 len h seen open_ seen1 h1 h2 => by kernel_rfl
end
end Go.Ev
end

section
set_option linter.unusedSectionVars false
set_option linter.unusedVariables false
set_option linter.unusedSimpArgs false
/- Where one comes to, over steps of numbers. -/
set_option linter.unusedVariables false
open Go
namespace Go.Ev

inductive Come (N : Nat → Nat → Bool) (A : Nat → Bool) : Nat → Prop
  | start {j : Nat} : A j = true → Come N A j
  | step {k j : Nat} : Come N A k → N k j = true → Come N A j
noncomputable def comeB (N : Nat → Nat → Bool) (A : Nat → Bool) (j : Nat) : Bool := @decide (Come N A j) (Classical.propDecidable _)
theorem comeB_iff {N : Nat → Nat → Bool} {A : Nat → Bool} {j : Nat} : comeB N A j = true ↔ Come N A j := @decide_eq_true_iff _ (Classical.propDecidable _)
/-- What holds the start, is closed, and is come to, is it. -/
theorem comeB_eq {N : Nat → Nat → Bool} {A M : Nat → Bool} (h1 : ∀ j, A j = true → M j = true) (h2 : ∀ k j, M k = true → N k j = true → M j = true) (h3 : ∀ j, M j = true → Come N A j) (j : Nat) : M j = comeB N A j := by
  rw [Bool.eq_iff_iff, comeB_iff]
  refine ⟨h3 j, fun h => ?_⟩
  induction h with
  | start h => exact h1 _ h
  | step _ h ih => exact h2 _ _ ih h
theorem come_lt {N : Nat → Nat → Bool} {A : Nat → Bool} {n : Nat} (hA : ∀ j, A j = true → j < n) (hN : ∀ k j, N k j = true → j < n) {j : Nat} (h : Come N A j) : j < n := by
  cases h with
  | start h => exact hA _ h
  | step _ h => exact hN _ _ h
theorem come_mono {N N' : Nat → Nat → Bool} {A A' : Nat → Bool} (hA : ∀ j, A j = true → A' j = true) (hN : ∀ k j, N k j = true → N' k j = true) {j : Nat} (h : Come N A j) : Come N' A' j := by
  induction h with
  | start h => exact .start (hA _ h)
  | step _ h ih => exact .step ih (hN _ _ h)

/-- How many. -/
def card (n : Nat) (M : Nat → Bool) : Nat := (List.range n).countP M
theorem card_le {n : Nat} {M : Nat → Bool} : card n M ≤ n := by
  have := List.countP_le_length (p := M) (l := List.range n)
  simpa [card] using this
theorem card_add {M : Nat → Bool} {i : Nat} (hM : M i = false) : ∀ {n : Nat}, i < n → card n (fun j => M j || (j == i)) = card n M + 1 := by
  intro n
  induction n with
  | zero => intro h; omega
  | succ n ih =>
    intro h
    unfold card at *
    rw [List.range_succ, List.countP_append, List.countP_append]
    by_cases hi : i = n
    · subst hi
      have e : (List.range i).countP (fun j => M j || (j == i)) = (List.range i).countP M := List.countP_congr fun j hj => by
        have := List.mem_range.1 hj
        have : (j == i) = false := by simp; omega
        rw [this, Bool.or_false]
      rw [e]
      simp [hM]
    · rw [ih (by omega)]
      have : (n == i) = false := by simp; omega
      simp [this]
      omega
theorem listOf_length {n : Nat} {M : Nat → Bool} : (listOf n M).length = card n M := by
  unfold listOf card
  rw [List.length_map, List.countP_eq_length_filter]
end Go.Ev
end

section
set_option linter.unusedSectionVars false
set_option linter.unusedVariables false
set_option linter.unusedSimpArgs false
/- To which instructions one comes. -/
set_option linter.unusedVariables false
open Go
namespace Go.Ev
/-- Does one come from i to j? -/
noncomputable def fromB (t : List (El T_api_Ins)) (i : Int) (j : Nat) : Bool := comeB (fun k j => nextB t (k : Int) j) (nextB t i) j
theorem fromB_lt {t : List (El T_api_Ins)} {i : Int} {j : Nat} (h : fromB t i j = true) : j < t.length := come_lt (fun j => nextB_lt) (fun k j => nextB_lt) (comeB_iff.1 h)
end Go.Ev
end

section
set_option linter.unusedSectionVars false
set_option linter.unusedVariables false
set_option linter.unusedSimpArgs false
/- What is a fence: the guard. -/
set_option maxRecDepth 100000
set_option linter.unusedVariables false
set_option linter.unusedSimpArgs false
open Go
namespace Go.Ev
theorem k_fence {i : El T_api_Ins} (h : smallText i.2.2.2.2.2.1 = true) : k_ins_Fence i = true := by
  have h0 : k_ins_Right i = true := h
  have a : k_ins_Locked i = true := by unfold k_ins_Locked; simp only [h0, cond_true, Bool.cond_self]
  unfold k_ins_Fence
  simp only [h0, a, cond_true, Bool.cond_self]
end Go.Ev
end

section
set_option linter.unusedSectionVars false
set_option linter.unusedVariables false
set_option linter.unusedSimpArgs false
/- Free ways. -/
set_option linter.unusedVariables false
open Go
namespace Go.Ev
def fenceAtT (t : List (El T_api_Ins)) (k : Nat) : Bool := v_ins_Fence (t.getD k (dflt T_api_Ins))
/-- A step past what is no fence, to what is no point. -/
def stepB (t : List (El T_api_Ins)) (points : List Int) (k j : Nat) : Bool := !fenceAtT t k && (nextB t (k : Int) j && !points.contains (j : Int))
def firstB (t : List (El T_api_Ins)) (points : List Int) (s : Int) (j : Nat) : Bool := nextB t s j && !points.contains (j : Int)
noncomputable def endsB (t : List (El T_api_Ins)) (points : List Int) (s : Int) (j : Nat) : Bool := comeB (stepB t points) (firstB t points s) j
theorem stepB_lt {t : List (El T_api_Ins)} {points : List Int} {k j : Nat} (h : stepB t points k j = true) : j < t.length := by
  unfold stepB at h
  simp only [Bool.and_eq_true] at h
  exact nextB_lt h.2.1
theorem firstB_lt {t : List (El T_api_Ins)} {points : List Int} {s : Int} {j : Nat} (h : firstB t points s j = true) : j < t.length := by
  unfold firstB at h
  simp only [Bool.and_eq_true] at h
  exact nextB_lt h.1
theorem endsB_lt {t : List (El T_api_Ins)} {points : List Int} {s : Int} {j : Nat} (h : endsB t points s j = true) : j < t.length := come_lt (fun j => firstB_lt) (fun k j => stepB_lt) (comeB_iff.1 h)
end Go.Ev
end

section
set_option linter.unusedSectionVars false
set_option linter.unusedVariables false
set_option linter.unusedSimpArgs false
set_option maxRecDepth 100000
set_option linter.unusedVariables false
set_option linter.unusedSimpArgs false
open Go
namespace Go.Ev
noncomputable def v_road_Ends (t : List (El T_api_Ins)) (points : List Int) (s : Int) : List Int := listOf t.length (endsB t points s)
def k_road_Ends (t : List (El T_api_Ins)) (points : List Int) (s : Int) : Bool := flowOK t && decide (points.length < 4611686018427387904)
def goB (t : List (El T_api_Ins)) (points : List Int) (x : Int) (j : Nat) : Bool := nextB t x j && !points.contains (j : Int)
def nodeP (t : List (El T_api_Ins)) (s : Int) (M : Nat → Bool) (x : Int) : Prop := x = s ∨ ∃ j : Nat, x = (j : Int) ∧ M j = true ∧ fenceAtT t j = false
structure EInv (t : List (El T_api_Ins)) (points : List Int) (s : Int) (M : Nat → Bool) (o : List Int) (x0 : Int) (r : List Int) : Prop where
  a : ∀ j, M j = true → Come (stepB t points) (firstB t points s) j
  b : ∀ x ∈ o, nodeP t s M x
  c : ∀ x, nodeP t s M x → x ∈ o ∨ ∀ j, goB t points x j = true → M j = true ∨ (x = x0 ∧ (j : Int) ∈ r)
  d : o.length ≤ card t.length M + 1
theorem take_pred' {l : List Int} {n : Nat} (h : n + 1 ≤ l.length) : l.take (n + 1) = l.take n ++ [l.getD n 0] := by
  have hn : n < l.length := by omega
  rw [List.take_succ_eq_append_getElem hn, getD_lt hn]
theorem g_road_Ends (t : List (El T_api_Ins)) (points : List Int) (s : Int) (hk : k_road_Ends t points s = true) : Goes (T_road_Ends t points s) (T0_road_Ends t points s) (v_road_Ends t points s) := by
  unfold k_road_Ends at hk
  rw [Bool.and_eq_true] at hk
  obtain ⟨hf, hpl⟩ := hk
  have hpl := of_decide_eq_true hpl
  have hlen := flowOK_len hf
  generalize hn : t.length = n at hlen
  have kfe : ∀ k, k < n → k_ins_Fence (List.getD t k (dflt T_api_Ins)) = true := fun k hk => by
    have hmem : t.getD k (dflt T_api_Ins) ∈ t := by rw [getD_lt (by omega)]; exact List.getElem_mem (by omega)
    exact k_fence (flowOK_text hf hmem)
  -- the main part
  have main : ∀ (C : Nat → Bool) (cl : Int × List (Int × Int)), SetOK cl n C → (∀ j, j < n → C j = points.contains (j : Int)) → ∀ m, ∀ (M : Nat → Bool) (se : Int × List (Int × Int)) (open_ : List Int) (len : Nat), len ≤ open_.length → 2 * (n - card n M) + len = m → SetOK se n M →
      (∀ j, M j = true → Come (stepB t points) (firstB t points s) j) → (∀ x ∈ open_.take len, nodeP t s M x) → (∀ x, nodeP t s M x → x ∈ open_.take len ∨ ∀ j, goB t points x j = true → M j = true) → len ≤ card n M + 1 →
      Goes (T_road_Ends t points s) (.jmp (.l11 cl.1 cl.2 len se.1 open_ se.2)) (v_road_Ends t points s) := by
    intro C cl hcl hC m
    induction m using Nat.strongRecOn with
    | _ m ih =>
    intro M se open_ len hl hm hs h1 h2 h3 h5
    cases len with
    | zero =>
      rw [goes_jmp, T_road_Ends, goes_br, if_neg (by decide)]
      have hkl : k_bits_Set_List (se.1, se.2) = true := Nat.ble_eq_true_of_le (by have := hs.few; unfold limit; show se.2.length * 512 ≤ _; omega)
      rw [goes_br, if_pos hkl]
      have hv : (v_bits_Set_List (se.1, se.2)).1 = v_road_Ends t points s := by
        show listS se = _
        rw [hs.list (by omega)]
        unfold v_road_Ends endsB
        rw [hn]
        refine listOf_congr fun j _ => comeB_eq (fun j hj => ?_) (fun k j hk hj => ?_) h1 j
        · rcases h3 s (.inl rfl) with h | h
          · simp at h
          · exact h j hj
        · unfold stepB at hj
          rw [Bool.and_eq_true] at hj
          rcases h3 (k : Int) (.inr ⟨k, rfl, hk, by simpa using hj.1⟩) with h | h
          · simp at h
          · exact h j hj.2
      rw [hv]; exact .leaf
    | succ len =>
      have hc := @card_le n M
      have e : IntKind.i64.wrap (Int.ofNat (len + 1) - 1) = (len : Int) := by
        rw [wrap_i64 (by simp <;> omega) (by simp <;> omega)]; simp
      have g1 : decide (Int.ofNat (len + 1) > (0 : Int)) = true := decide_eq_true (by simp <;> omega)
      have g2 : (decide ((0 : Int) ≤ (len : Int)) && decide ((len : Int) < Int.ofNat (len + 1))) = true := bound_len (by omega)
      have g3 : (decide ((0 : Int) ≤ (len : Int)) && decide ((len : Int) ≤ Int.ofNat (len + 1))) = true := by simp; omega
      rw [goes_jmp, T_road_Ends, e, goes_br, if_pos g1, goes_br, if_pos g2, goes_br, if_pos g3, Int.toNat_natCast]
      have htk := take_pred' hl
      generalize hx0 : open_.getD len 0 = x0 at htk
      have hd : open_.getD len (dflt (.int .i64)) = x0 := hx0
      rw [hd]
      have kn : k_flow_Next t x0 = true := hf
      rw [goes_br, if_pos kn]
      have hnode := h2 x0 (by rw [htk]; simp)
      generalize hr : v_flow_Next t x0 = r
      have hrm : ∀ y ∈ r, ∃ j : Nat, j < n ∧ nextB t x0 j = true ∧ y = (j : Int) := fun y hy => by
        rw [← hr] at hy
        unfold v_flow_Next at hy
        rw [hn] at hy
        exact listOf_mem.1 hy
      have hrl : r.length ≤ n := by rw [← hr]; unfold v_flow_Next; rw [listOf_length, hn]; exact card_le
      have hin : ∀ j : Nat, nextB t x0 j = true → (j : Int) ∈ r := fun j hj => by rw [← hr]; exact listOf_mem.2 ⟨j, nextB_lt hj, hj, rfl⟩
      have inner : ∀ h, h ≤ r.length → ∀ (M1 : Nat → Bool) (se1 : Int × List (Int × Int)) (op1 : List Int) (len1 : Nat), len1 ≤ op1.length → 2 * (n - card n M1) + len1 < m → SetOK se1 n M1 → nodeP t s M1 x0 →
          (∀ j, M1 j = true → Come (stepB t points) (firstB t points s) j) → (∀ x ∈ op1.take len1, nodeP t s M1 x) → (∀ x, nodeP t s M1 x → x ∈ op1.take len1 ∨ ∀ j, goB t points x j = true → M1 j = true ∨ (x = x0 ∧ (j : Int) ∈ r.drop h)) → len1 ≤ card n M1 + 1 →
          Goes (T_road_Ends t points s) (.jmp (.l17 cl.1 cl.2 len1 (h : Int) se1.1 op1 se1.2 (Int.ofNat r.length) r)) (v_road_Ends t points s) := by
        refine down ?_ fun h hh ih2 => ?_
        · intro M1 se1 op1 len1 i1 i2 i3 i4 i5 i6 i7 i8
          rw [goes_jmp, T_road_Ends, goes_br, if_neg (by rw [lt_len_not (Nat.lt_irrefl _)]; decide)]
          refine ih _ i2 M1 se1 op1 len1 i1 rfl i3 i5 i6 (fun x hx => (i7 x hx).imp id fun h j hj => (h j hj).resolve_right (by simp)) i8
        · intro M1 se1 op1 len1 i1 i2 i3 i4 i5 i6 i7 i8
          obtain ⟨y, hy, hyN, hxy⟩ := hrm r[h] (List.getElem_mem hh)
          have hdy : List.getD r h (dflt (.int .i64)) = (y : Int) := by rw [← hxy]; exact getD_lt hh
          have hhas : (v_bits_Set_Has (cl.1, cl.2) (y : Int)).1 = points.contains (y : Int) := by
            show hasS cl (y : Int) = _
            rw [hcl.has (by omega), Int.toNat_natCast, decide_eq_true (by omega), Bool.true_and, hC y hy]
          have hhas2 : (v_bits_Set_Has (cl.1, cl.2) (y : Int)).2 = cl := rfl
          have hput : v_bits_Set_Put (se1.1, se1.2) (y : Int) = putS se1 (y : Int) := rfl
          have hdr : ∀ z, z ∈ r.drop h ↔ z = (y : Int) ∨ z ∈ r.drop (h + 1) := fun z => by rw [drop_cons hh, List.mem_cons, hxy]
          rw [goes_jmp, T_road_Ends, goes_br, if_pos (lt_len hh), goes_br, if_pos (bound_len hh), goes_br, Int.toNat_natCast, hdy, hhas, hhas2, hput, wrap_succ (by omega)]
          -- nothing is done with y
          have skip : (goB t points x0 y = true → M1 y = true) → Goes (T_road_Ends t points s) (.jmp (.l17 cl.1 cl.2 len1 ((h + 1 : Nat) : Int) se1.1 op1 se1.2 (Int.ofNat r.length) r)) (v_road_Ends t points s) := fun hsk =>
            ih2 M1 se1 op1 len1 i1 i2 i3 i4 i5 i6 (fun x hx => (i7 x hx).imp id fun hg j hj => by
              rcases hg j hj with h | ⟨hx0, h⟩
              · exact .inl h
              · rcases (hdr _).1 h with h | h
                · have : j = y := by omega
                  subst this
                  rw [hx0] at hj
                  exact .inl (hsk hj)
                · exact .inr ⟨hx0, h⟩) i8
          cases hpt : points.contains (y : Int) with
          | true =>
            rw [if_neg (by decide)]
            exact skip fun h => by unfold goB at h; rw [hpt, Bool.not_true, Bool.and_false] at h; cases h
          | false =>
            rw [if_pos (by decide), goes_br]
            cases hMy : M1 y with
            | true =>
              have hno := i3.put_no (by omega) (i := (y : Int)) (fun h => by rw [Int.toNat_natCast, hMy] at h; cases h.2.2)
              rw [hno, if_neg (by simp)]
              exact skip fun _ => hMy
            | false =>
              obtain ⟨p1, p2⟩ := i3.put (by omega) hy hMy
              have hgo : goB t points x0 y = true := by unfold goB; rw [hyN, hpt]; rfl
              have hcome : Come (stepB t points) (firstB t points s) y := by
                rcases i4 with h | ⟨k, hk, hMk, hfk⟩
                · subst h; exact .start hgo
                · subst hk; exact .step (i5 k hMk) (by unfold stepB; rw [hfk]; exact hgo)
              have hcard := card_add hMy hy
              have hcl2 := @card_le n (fun k => M1 k || (k == y))
              have mono : ∀ x, nodeP t s M1 x → nodeP t s (fun k => M1 k || (k == y)) x := fun x hx => hx.imp id fun ⟨k, h1, h2, h3⟩ => ⟨k, h1, by show (M1 k || (k == y)) = true; rw [h2]; rfl, h3⟩
              have hcc : ∀ k, (M1 k || (k == y)) = true → Come (stepB t points) (firstB t points s) k := fun k hk => by
                simp only [Bool.or_eq_true, beq_iff_eq] at hk
                rcases hk with hk | hk
                · exact i5 k hk
                · subst hk; exact hcome
              have keep : ∀ (o : List Int), (∀ x ∈ op1.take len1, x ∈ o) → (fenceAtT t y = false → (y : Int) ∈ o) → ∀ x, nodeP t s (fun k => M1 k || (k == y)) x → x ∈ o ∨ ∀ j, goB t points x j = true → (M1 j || (j == y)) = true ∨ (x = x0 ∧ (j : Int) ∈ r.drop (h + 1)) := fun o ho hyo x hx => by
                have old : nodeP t s M1 x → x ∈ o ∨ ∀ j, goB t points x j = true → (M1 j || (j == y)) = true ∨ (x = x0 ∧ (j : Int) ∈ r.drop (h + 1)) := fun hx => by
                  rcases i7 x hx with h | h
                  · exact .inl (ho x h)
                  · refine .inr fun j hj => ?_
                    rcases h j hj with h | ⟨hx0, h⟩
                    · exact .inl (by rw [h]; rfl)
                    · rcases (hdr _).1 h with h | h
                      · have : j = y := by omega
                        subst this; exact .inl (by simp)
                      · exact .inr ⟨hx0, h⟩
                rcases hx with hx | ⟨k, hk, hMk, hfk⟩
                · exact old (.inl hx)
                · have hMk : (M1 k || (k == y)) = true := hMk
                  simp only [Bool.or_eq_true, beq_iff_eq] at hMk
                  rcases hMk with hMk | hMk
                  · exact old (.inr ⟨k, hk, hMk, hfk⟩)
                  · subst hMk; subst hk; exact .inl (hyo hfk)
              have vf : v_ins_Fence (List.getD t y (dflt T_api_Ins)) = fenceAtT t y := rfl
              rw [p1, if_pos rfl, goes_br, hn, if_pos (bound_len hy), goes_br, Int.toNat_natCast, if_pos (kfe y hy), goes_br, vf]
              cases hfy : fenceAtT t y with
              | true =>
                rw [if_neg (by decide)]
                exact ih2 _ _ op1 len1 i1 (by omega) p2 (mono x0 i4) hcc (fun x hx => mono x (i6 x hx)) (keep _ (fun x hx => hx) (fun h => by rw [hfy] at h; cases h)) (by omega)
              | false =>
                have htl : (op1.take len1).length = len1 := by rw [List.length_take]; omega
                rw [if_pos (by decide), goes_br, if_pos (Nat.ble_eq_true_of_le (by rw [htl]; unfold limit; omega))]
                have htake : (op1.take len1 ++ [(y : Int)]).take (op1.take len1 ++ [(y : Int)]).length = op1.take len1 ++ [(y : Int)] := List.take_length
                have hl2 : (op1.take len1 ++ [(y : Int)]).length = len1 + 1 := by rw [List.length_append, htl]; rfl
                refine ih2 _ _ (op1.take len1 ++ [(y : Int)]) _ (Nat.le_refl _) (by omega) p2 (mono x0 i4) hcc (fun x hx => ?_) ?_ (by omega)
                · rw [htake, List.mem_append] at hx
                  rcases hx with hx | hx
                  · exact mono x (i6 x hx)
                  · simp only [List.mem_singleton] at hx
                    exact .inr ⟨y, hx, by simp, hfy⟩
                · rw [htake]
                  exact keep _ (fun x hx => List.mem_append_left _ hx) (fun _ => List.mem_append_right _ (by simp))
      refine inner 0 (Nat.zero_le _) M se open_ len (by omega) (by omega) hs hnode h1 (fun x hx => h2 x (by rw [htk]; simp [hx])) (fun x hx => ?_) (by omega)
      rcases h3 x hx with h | h
      · rw [htk, List.mem_append] at h
        rcases h with h | h
        · exact .inl h
        · simp only [List.mem_singleton] at h
          refine .inr fun j hj => .inr ⟨h, ?_⟩
          subst h
          unfold goB at hj
          rw [Bool.and_eq_true] at hj
          rw [List.drop_zero]
          exact hin j hj.1
      · exact .inr fun j hj => .inl (h j hj)
  have hnew : v_bits_New (Int.ofNat (List.length t)) = ((n : Int), []) := by
    rw [hn]
    unfold v_bits_New
    simp
    omega
  have first : ∀ h, h ≤ points.length → ∀ (C : Nat → Bool) (cl : Int × List (Int × Int)), SetOK cl n C → (∀ j : Nat, j < n → ((C j = true ∨ (j : Int) ∈ points.drop h) ↔ (j : Int) ∈ points)) → Goes (T_road_Ends t points s) (.jmp (.l4 (h : Int) cl.1 cl.2)) (v_road_Ends t points s) := by
    refine down ?_ fun h hh ih => ?_
    · intro C cl hcl hC
      rw [goes_jmp, T_road_Ends, goes_br, if_neg (by rw [lt_len_not (Nat.lt_irrefl _)]; decide), hnew]
      refine main C cl hcl (fun j hj => ?_) _ (fun _ => false) ((n : Int), []) [s] 1 (by simp) rfl (SetOK.new n) (fun j h => by cases h) (fun x hx => .inl (by simpa using hx)) (fun x hx => .inl ?_) (by omega)
      · have := hC j hj
        rw [List.drop_length] at this
        rw [Bool.eq_iff_iff, List.contains_iff_mem, ← this]
        simp
      · rcases hx with hx | ⟨j, _, h, _⟩
        · simpa using hx
        · cases h
    · intro C cl hcl hC
      rw [goes_jmp, T_road_Ends, goes_br, if_pos (lt_len hh), goes_br, if_pos (bound_len hh), Int.toNat_natCast, wrap_succ (by omega)]
      have hd : points.getD h (dflt (.int .i64)) = points[h] := getD_lt hh
      rw [hd]
      have hput : v_bits_Set_Put (cl.1, cl.2) points[h] = putS cl points[h] := rfl
      rw [hput]
      have hdr : ∀ z, z ∈ points.drop h ↔ z = points[h] ∨ z ∈ points.drop (h + 1) := fun z => by rw [drop_cons hh, List.mem_cons]
      generalize points[h] = x at hdr
      by_cases hx : 0 ≤ x ∧ x < n ∧ C x.toNat = false
      · obtain ⟨y, rfl⟩ := Int.eq_ofNat_of_zero_le hx.1
        rw [Int.toNat_natCast] at hx
        obtain ⟨_, p2⟩ := hcl.put (by omega) (show y < n by omega) hx.2.2
        refine ih _ _ p2 fun j hj => ?_
        rw [← hC j hj, hdr]
        simp only [Bool.or_eq_true, beq_iff_eq]
        constructor
        · rintro ((h | h) | h)
          · exact .inl h
          · exact .inr (.inl (by omega))
          · exact .inr (.inr h)
        · rintro (h | h | h)
          · exact .inl (.inl h)
          · exact .inl (.inr (by omega))
          · exact .inr h
      · rw [hcl.put_no (by omega) hx]
        refine ih C cl hcl fun j hj => ?_
        rw [← hC j hj, hdr]
        constructor
        · rintro (h | h)
          · exact .inl h
          · exact .inr (.inr h)
        · rintro (h | h | h)
          · exact .inl h
          · left
            cases hCj : C j with
            | true => rfl
            | false => exact absurd ⟨by omega, by omega, by rw [← h, Int.toNat_natCast]; exact hCj⟩ hx
          · exact .inr h
  unfold T0_road_Ends
  rw [hnew]
  exact first 0 (Nat.zero_le _) (fun _ => false) ((n : Int), []) (SetOK.new n) fun j _ => by simp
end Go.Ev
end

section
set_option linter.unusedSectionVars false
set_option linter.unusedVariables false
set_option linter.unusedSimpArgs false
set_option maxRecDepth 100000
set_option linter.unusedVariables false
open Go Go.Ev
namespace Go.Ev
noncomputable section
noncomputable def e_road_Ends : Run := entG sg_road_Ends R_road_Ends (fun a => k_road_Ends a.1 a.2.1 a.2.2.1) (fun a => v_road_Ends a.1 a.2.1 a.2.2.1)
theorem ok_road_Ends : EntOK Go.Proofs.Tryd.prog 9 e_road_Ends := entG_ok (tb := tb_road_Ends) (c := c_road_Ends) tk_road_Ends (by kernel_rfl) (by kernel_rfl) (by kernel_rfl) (fun a => by kernel_rfl) fun ⟨t, points, s, _⟩ hk => evF_goes (c := c_road_Ends) (K := fun v => (R_road_Ends v, tps (toForms sg_road_Ends (t, points, s, ())))) (S := S_road_Ends t points s) (by kernel_rfl) (en_road_Ends t points s) (lp_road_Ends t points s) (g_road_Ends t points s hk)
end
end Go.Ev
end

section
set_option linter.unusedSectionVars false
set_option linter.unusedVariables false
set_option linter.unusedSimpArgs false
set_option maxRecDepth 100000
set_option linter.unusedVariables false
open Go Go.Ev
namespace Go.Ev
noncomputable section
/-! ### paling/palingref1.Spots -/
def sg_ref1_Spots : Sig := [(false, .str)]
noncomputable def t_ref1_Spots : Tbl := []
theorem tk_ref1_Spots : ∀ p ∈ t_ref1_Spots, EntOK Go.Proofs.Tryd.prog p.1 p.2 := tbl_nil
noncomputable def c_ref1_Spots : Code := Go.Proofs.Tryd.f54.body.getD .skip
def tb_ref1_Spots : Tb := [(5, ⟨[0, 3, 4, 5, 10], [(4, 170)]⟩), (18, ⟨[3, 8], []⟩)]
inductive J_ref1_Spots where
  | l5 (line : Int) (out : List (El T_ref1_Spot)) (pos : Nat) (col : Int)
  | l18 (out : List (El T_ref1_Spot)) (i : Int)
def T_ref1_Spots (s : ByteArray) : J_ref1_Spots → JT J_ref1_Spots (List (El T_ref1_Spot))
  | .l5 line out pos col =>
    .br (decide (pos < (ByteArray.size s)))
      (.br (decide ((Int.ofNat (List.length out)) > (0 : Int)))
        (.br ((decide ((0 : Int) ≤ (IntKind.i64.wrap ((Int.ofNat (List.length out)) - (1 : Int))))) && (decide ((IntKind.i64.wrap ((Int.ofNat (List.length out)) - (1 : Int))) < (Int.ofNat (List.length out)))))
          (.br ((decide ((0 : Int) ≤ (IntKind.i64.wrap ((Int.ofNat (List.length out)) - (1 : Int))))) && (decide ((IntKind.i64.wrap ((Int.ofNat (List.length out)) - (1 : Int))) < (Int.ofNat (List.length out)))))
            (.br (Nat.ble (((List.length (List.set out (Int.toNat (IntKind.i64.wrap ((Int.ofNat (List.length out)) - (1 : Int)))) ((List.getD out (Int.toNat (IntKind.i64.wrap ((Int.ofNat (List.length out)) - (1 : Int)))) (dflt T_ref1_Spot)).1, ((List.getD out (Int.toNat (IntKind.i64.wrap ((Int.ofNat (List.length out)) - (1 : Int)))) (dflt T_ref1_Spot)).2.1, ((IntKind.i64.wrap ((Int.ofNat pos) - (List.getD out (Int.toNat (IntKind.i64.wrap ((Int.ofNat (List.length out)) - (1 : Int)))) (dflt T_ref1_Spot)).2.1)), (List.getD out (Int.toNat (IntKind.i64.wrap ((Int.ofNat (List.length out)) - (1 : Int)))) (dflt T_ref1_Spot)).2.2.2))))) + 1) * 48) limit)
              (.br ((Int.ofNat (Utf8.decode s pos).1) == (10 : Int))
                (.jmp (.l5 (IntKind.i64.wrap (line + (1 : Int))) ((List.set out (Int.toNat (IntKind.i64.wrap ((Int.ofNat (List.length out)) - (1 : Int)))) ((List.getD out (Int.toNat (IntKind.i64.wrap ((Int.ofNat (List.length out)) - (1 : Int)))) (dflt T_ref1_Spot)).1, ((List.getD out (Int.toNat (IntKind.i64.wrap ((Int.ofNat (List.length out)) - (1 : Int)))) (dflt T_ref1_Spot)).2.1, ((IntKind.i64.wrap ((Int.ofNat pos) - (List.getD out (Int.toNat (IntKind.i64.wrap ((Int.ofNat (List.length out)) - (1 : Int)))) (dflt T_ref1_Spot)).2.1)), (List.getD out (Int.toNat (IntKind.i64.wrap ((Int.ofNat (List.length out)) - (1 : Int)))) (dflt T_ref1_Spot)).2.2.2)))) ++ [((Int.ofNat (Utf8.decode s pos).1), ((Int.ofNat pos), ((0 : Int), (line, (col, false)))))]) (pos + (Utf8.decode s pos).2) (1 : Int)))
              (.jmp (.l5 line ((List.set out (Int.toNat (IntKind.i64.wrap ((Int.ofNat (List.length out)) - (1 : Int)))) ((List.getD out (Int.toNat (IntKind.i64.wrap ((Int.ofNat (List.length out)) - (1 : Int)))) (dflt T_ref1_Spot)).1, ((List.getD out (Int.toNat (IntKind.i64.wrap ((Int.ofNat (List.length out)) - (1 : Int)))) (dflt T_ref1_Spot)).2.1, ((IntKind.i64.wrap ((Int.ofNat pos) - (List.getD out (Int.toNat (IntKind.i64.wrap ((Int.ofNat (List.length out)) - (1 : Int)))) (dflt T_ref1_Spot)).2.1)), (List.getD out (Int.toNat (IntKind.i64.wrap ((Int.ofNat (List.length out)) - (1 : Int)))) (dflt T_ref1_Spot)).2.2.2)))) ++ [((Int.ofNat (Utf8.decode s pos).1), ((Int.ofNat pos), ((0 : Int), (line, (col, false)))))]) (pos + (Utf8.decode s pos).2) (IntKind.i64.wrap (col + (1 : Int))))))
            (.no))
          (.no))
        (.no))
      (.br (Nat.ble (((List.length out) + 1) * 48) limit)
        (.br ((Int.ofNat (Utf8.decode s pos).1) == (10 : Int))
          (.jmp (.l5 (IntKind.i64.wrap (line + (1 : Int))) (out ++ [((Int.ofNat (Utf8.decode s pos).1), ((Int.ofNat pos), ((0 : Int), (line, (col, false)))))]) (pos + (Utf8.decode s pos).2) (1 : Int)))
        (.jmp (.l5 line (out ++ [((Int.ofNat (Utf8.decode s pos).1), ((Int.ofNat pos), ((0 : Int), (line, (col, false)))))]) (pos + (Utf8.decode s pos).2) (IntKind.i64.wrap (col + (1 : Int))))))
      (.no)))
    (.br (decide ((Int.ofNat (List.length out)) > (0 : Int)))
      (.br ((decide ((0 : Int) ≤ (IntKind.i64.wrap ((Int.ofNat (List.length out)) - (1 : Int))))) && (decide ((IntKind.i64.wrap ((Int.ofNat (List.length out)) - (1 : Int))) < (Int.ofNat (List.length out)))))
        (.br ((decide ((0 : Int) ≤ (IntKind.i64.wrap ((Int.ofNat (List.length out)) - (1 : Int))))) && (decide ((IntKind.i64.wrap ((Int.ofNat (List.length out)) - (1 : Int))) < (Int.ofNat (List.length out)))))
          (.jmp (.l18 (List.set out (Int.toNat (IntKind.i64.wrap ((Int.ofNat (List.length out)) - (1 : Int)))) ((List.getD out (Int.toNat (IntKind.i64.wrap ((Int.ofNat (List.length out)) - (1 : Int)))) (dflt T_ref1_Spot)).1, ((List.getD out (Int.toNat (IntKind.i64.wrap ((Int.ofNat (List.length out)) - (1 : Int)))) (dflt T_ref1_Spot)).2.1, ((IntKind.i64.wrap ((Int.ofNat (ByteArray.size s)) - (List.getD out (Int.toNat (IntKind.i64.wrap ((Int.ofNat (List.length out)) - (1 : Int)))) (dflt T_ref1_Spot)).2.1)), (List.getD out (Int.toNat (IntKind.i64.wrap ((Int.ofNat (List.length out)) - (1 : Int)))) (dflt T_ref1_Spot)).2.2.2)))) (0 : Int)))
        (.no))
      (.no))
    (.jmp (.l18 out (0 : Int))))
  | .l18 out i =>
    .br (decide (i < (Int.ofNat (List.length out))))
      (.br ((decide ((0 : Int) ≤ i)) && (decide (i < (Int.ofNat (List.length out)))))
        (.br ((List.getD out (Int.toNat i) (dflt T_ref1_Spot)).1 == (65533 : Int))
          (.br ((decide ((0 : Int) ≤ i)) && (decide (i < (Int.ofNat (List.length out)))))
            (.br ((decide ((0 : Int) ≤ i)) && (decide (i < (Int.ofNat (List.length out)))))
              (.jmp (.l18 (List.set out (Int.toNat i) ((List.getD out (Int.toNat i) (dflt T_ref1_Spot)).1, ((List.getD out (Int.toNat i) (dflt T_ref1_Spot)).2.1, ((List.getD out (Int.toNat i) (dflt T_ref1_Spot)).2.2.1, ((List.getD out (Int.toNat i) (dflt T_ref1_Spot)).2.2.2.1, ((List.getD out (Int.toNat i) (dflt T_ref1_Spot)).2.2.2.2.1, ((List.getD out (Int.toNat i) (dflt T_ref1_Spot)).2.2.1 == (1 : Int)))))))) (IntKind.i64.wrap (i + (1 : Int)))))
            (.no))
          (.no))
        (.br ((decide ((0 : Int) ≤ i)) && (decide (i < (Int.ofNat (List.length out)))))
          (.jmp (.l18 (List.set out (Int.toNat i) ((List.getD out (Int.toNat i) (dflt T_ref1_Spot)).1, ((List.getD out (Int.toNat i) (dflt T_ref1_Spot)).2.1, ((List.getD out (Int.toNat i) (dflt T_ref1_Spot)).2.2.1, ((List.getD out (Int.toNat i) (dflt T_ref1_Spot)).2.2.2.1, ((List.getD out (Int.toNat i) (dflt T_ref1_Spot)).2.2.2.2.1, false)))))) (IntKind.i64.wrap (i + (1 : Int)))))
        (.no)))
      (.no))
    (.leaf out)
def T0_ref1_Spots (s : ByteArray) : JT J_ref1_Spots (List (El T_ref1_Spot)) :=
  .jmp (.l5 (1 : Int) [] 0 (1 : Int))
def R_ref1_Spots : List (El T_ref1_Spot) → AV := fun (r : List (El T_ref1_Spot)) => .rw 88 T_ref1_Spot r
def S_ref1_Spots (s : ByteArray) : J_ref1_Spots → Nat × St
  | .l5 line out pos col => (5, ⟨mkTm 91 [(0, .d .str s), (3, .own 4 0 none), (4, .d (.int .i64) line), (5, .d (.int .i64) col), (10, .it 11 0)], [(4, 0, .row 88 T_ref1_Spot out false), (11, 0, .sit s pos)]⟩)
  | .l18 out i => (18, ⟨mkTm 91 [(3, .own 4 0 none), (8, .d (.int .i64) i)], [(4, 0, .row 88 T_ref1_Spot out false)]⟩)
theorem en_ref1_Spots (s : ByteArray) (L : Lt) : entryA Go.Proofs.Tryd.prog (clOf t_ref1_Spots) tb_ref1_Spots Go.Proofs.Tryd.f54 c_ref1_Spots L (toForms sg_ref1_Spots (s, ())) = (T0_ref1_Spots s).run (fun v => some (R_ref1_Spots v, tps (toForms sg_ref1_Spots (s, ())))) fun j => L (S_ref1_Spots s j).1 (S_ref1_Spots s j).2 := by kernel_rfl
theorem lp_ref1_Spots (s : ByteArray) : ∀ (L : Lt) (j : J_ref1_Spots), procOf (procsF Go.Proofs.Tryd.prog (clOf t_ref1_Spots) tb_ref1_Spots Go.Proofs.Tryd.f54 c_ref1_Spots (toForms sg_ref1_Spots (s, ()))) (S_ref1_Spots s j).1 L (S_ref1_Spots s j).2 = (T_ref1_Spots s j).run (fun v => some (R_ref1_Spots v, tps (toForms sg_ref1_Spots (s, ())))) fun j => L (S_ref1_Spots s j).1 (S_ref1_Spots s j).2
  | L, .l5 line out pos col => by kernel_rfl
  | L, .l18 out i => by kernel_rfl
end
end Go.Ev
end

section
set_option linter.unusedSectionVars false
set_option linter.unusedVariables false
set_option linter.unusedSimpArgs false
set_option linter.unusedVariables false
set_option linter.unusedSimpArgs false
open Go
namespace Go.Ev

/-- as in spotsFrom, but not told yet which are bad -/
def rawFrom (s : ByteArray) : Nat → Nat → Int → Int → List (El T_glyph_Spot)
  | 0, _, _, _ => []
  | n + 1, pos, line, col =>
    if pos < s.size then
      spotAt s pos line col false :: rawFrom s n (pos + (Utf8.decode s pos).2) (v_glyph_step line col (Int.ofNat (Utf8.decode s pos).1)).1 (v_glyph_step line col (Int.ofNat (Utf8.decode s pos).1)).2
    else []
def tellBad (x : El T_glyph_Spot) : El T_glyph_Spot := (x.1, x.2.1, x.2.2.1, x.2.2.2.1, x.2.2.2.2.1, x.1 == (65533 : Int) && x.2.2.1 == (1 : Int))
def noSize (x : El T_glyph_Spot) : El T_glyph_Spot := (x.1, x.2.1, 0, x.2.2.2.1, x.2.2.2.2.1, x.2.2.2.2.2)
theorem raw_spots (s : ByteArray) : ∀ (n pos : Nat) (line col : Int), (rawFrom s n pos line col).map tellBad = spotsFrom s n pos line col
  | 0, _, _, _ => rfl
  | n + 1, pos, line, col => by
    unfold rawFrom spotsFrom
    split
    · rw [List.map_cons, raw_spots s n]
      congr 1
      unfold tellBad spotAt badAt
      have e1 : (Int.ofNat (Utf8.decode s pos).1 == (65533 : Int)) = decide ((Utf8.decode s pos).1 = 65533) := by rw [Bool.eq_iff_iff]; simp <;> omega
      have e2 : (Int.ofNat (Utf8.decode s pos).2 == (1 : Int)) = decide ((Utf8.decode s pos).2 = 1) := by rw [Bool.eq_iff_iff]; simp <;> omega
      simp only [e1, e2]
    · rfl
def v_ref1_Spots (s : ByteArray) : List (El T_glyph_Spot) := spots s
def k_ref1_Spots (s : ByteArray) : Bool := smallText s
theorem g_ref1_Spots (s : ByteArray) (hk : k_ref1_Spots s = true) : Goes (T_ref1_Spots s) (T0_ref1_Spots s) (v_ref1_Spots s) := by
  have hs : s.size < 549755813888 := of_decide_eq_true hk
  have loop2 : ∀ (rest pre : List (El T_glyph_Spot)), pre.length + rest.length ≤ s.size → (∀ x ∈ rest, x.2.2.2.2.2 = false) → Goes (T_ref1_Spots s) (.jmp (.l18 (pre ++ rest) (pre.length : Int))) (pre ++ rest.map tellBad) := by
    intro rest
    induction rest with
    | nil =>
      intro pre _ _
      rw [goes_jmp]
      simp [T_ref1_Spots, goes_br, goes_leaf]
    | cons x rest ih =>
      intro pre hl hx
      rw [goes_jmp]
      have hk : pre.length < (pre ++ x :: rest).length := by simp
      have hg : (pre ++ x :: rest).getD pre.length (dflt T_glyph_Spot) = x := by simp [List.getD]
      have hset : ∀ y, (pre ++ x :: rest).set pre.length y = pre ++ y :: rest := fun y => by simp
      have hl' : (pre ++ x :: rest).length ≤ s.size := by simpa using hl
      simp only [T_ref1_Spots, goes_br, lt_len hk, nng, Bool.and_self, if_true, Int.toNat_natCast, hg, hset, wrap_succ (k := pre.length) (by omega)]
      have hb : x.2.2.2.2.2 = false := hx x (by simp)
      have key : ∀ b, b = (x.1 == (65533 : Int) && x.2.2.1 == (1 : Int)) → Goes (T_ref1_Spots s) (.jmp (.l18 (pre ++ (x.1, x.2.1, x.2.2.1, x.2.2.2.1, x.2.2.2.2.1, b) :: rest) ((pre.length + 1 : Nat) : Int))) (pre ++ (x :: rest).map tellBad) := by
        intro b e
        subst e
        have := ih (pre ++ [tellBad x]) (by simp at hl ⊢; omega) (fun y hy => hx y (by simp [hy]))
        simpa [tellBad] using this
      by_cases h : x.1 = 65533
      · rw [if_pos (by simp [h])]
        exact key _ (by simp [h])
      · rw [if_neg (by simp [h])]
        exact key _ (by simp [h])
  have raw_false : ∀ (n pos : Nat) (line col : Int), ∀ x ∈ rawFrom s n pos line col, x.2.2.2.2.2 = false := by
    intro n
    induction n with
    | zero => intro pos line col x hx; simp [rawFrom] at hx
    | succ n ih =>
      intro pos line col x hx
      unfold rawFrom at hx
      split at hx
      · rcases List.mem_cons.1 hx with rfl | hx
        · rfl
        · exact ih _ _ _ x hx
      · simp at hx
  -- the first loop: what is there, of which the last one has no size yet
  have loop1 : ∀ (n pos : Nat) (line col : Int) (done : List (El T_glyph_Spot)) (out : List (El T_glyph_Spot)), s.size - pos < n → pos ≤ s.size → done.length ≤ pos → (∀ x ∈ done, x.2.2.2.2.2 = false) →
      ((done = [] ∧ out = []) ∨ ∃ ini x, done = ini ++ [x] ∧ out = ini ++ [noSize x] ∧ ∃ a m : Nat, x.2.1 = (a : Int) ∧ x.2.2.1 = (m : Int) ∧ a + m = pos) →
      Goes (T_ref1_Spots s) (.jmp (.l5 line out pos col)) ((done ++ rawFrom s n pos line col).map tellBad) := by
    intro n
    induction n with
    | zero => intro pos line col done out h; omega
    | succ n ih =>
      intro pos line col done out hn hp hd hfalse hinv
      rw [goes_jmp]
      simp only [T_ref1_Spots, goes_br]
      by_cases h : pos < s.size
      · have hle := dec_le h
        have h1 := dec_ge (s := s) (pos := pos)
        have hraw : rawFrom s (n + 1) pos line col = spotAt s pos line col false :: rawFrom s n (pos + (Utf8.decode s pos).2) (v_glyph_step line col (Int.ofNat (Utf8.decode s pos).1)).1 (v_glyph_step line col (Int.ofNat (Utf8.decode s pos).1)).2 := by
          rw [rawFrom, if_pos h]
        have hnext : ∀ (l c : Int), l = (v_glyph_step line col (Int.ofNat (Utf8.decode s pos).1)).1 → c = (v_glyph_step line col (Int.ofNat (Utf8.decode s pos).1)).2 →
            Goes (T_ref1_Spots s) (.jmp (.l5 l (done ++ [(Int.ofNat (Utf8.decode s pos).1, Int.ofNat pos, 0, line, col, false)]) (pos + (Utf8.decode s pos).2) c)) ((done ++ rawFrom s (n + 1) pos line col).map tellBad) := by
          intro l c el ec
          subst el; subst ec
          have e : ∀ (r : List (El T_glyph_Spot)), done ++ spotAt s pos line col false :: r = (done ++ [spotAt s pos line col false]) ++ r := fun r => List.append_cons ..
          rw [hraw, e]
          refine ih (pos + (Utf8.decode s pos).2) _ _ (done ++ [spotAt s pos line col false]) _ (by omega) (by omega) (by simp <;> omega) ?_ (.inr ⟨done, spotAt s pos line col false, rfl, rfl, pos, (Utf8.decode s pos).2, rfl, rfl, rfl⟩)
          intro x hx
          rcases List.mem_append.1 hx with hx | hx
          · exact hfalse x hx
          · simp at hx; subst hx; rfl
        have hfin : if (Int.ofNat (Utf8.decode s pos).1 == (10 : Int)) = true then
              Goes (T_ref1_Spots s) (.jmp (.l5 (IntKind.i64.wrap (line + 1)) (done ++ [(Int.ofNat (Utf8.decode s pos).1, Int.ofNat pos, 0, line, col, false)]) (pos + (Utf8.decode s pos).2) 1)) ((done ++ rawFrom s (n + 1) pos line col).map tellBad)
            else Goes (T_ref1_Spots s) (.jmp (.l5 line (done ++ [(Int.ofNat (Utf8.decode s pos).1, Int.ofNat pos, 0, line, col, false)]) (pos + (Utf8.decode s pos).2) (IntKind.i64.wrap (col + 1)))) ((done ++ rawFrom s (n + 1) pos line col).map tellBad) := by
          split
          · rename_i hr
            exact hnext _ _ (by simp only [v_glyph_step, hr, cond_true]) (by simp only [v_glyph_step, hr, cond_true])
          · rename_i hr
            rw [Bool.not_eq_true] at hr
            exact hnext _ _ (by simp only [v_glyph_step, hr, cond_false]) (by simp only [v_glyph_step, hr, cond_false])
        rcases hinv with ⟨rfl, rfl⟩ | ⟨ini, x, rfl, rfl, a, m, ha, hm, ham⟩
        · have hb : Nat.ble ((([] : List (El T_glyph_Spot)).length + 1) * 48) limit = true := by decide
          simp only [h, decide_true, if_true, hb]
          rw [if_neg (by simp)]
          exact hfin
        · have hlen : (ini ++ [noSize x]).length = ini.length + 1 := by simp
          have hd2 : ini.length + 1 ≤ pos := by simpa using hd
          have hw : IntKind.i64.wrap (Int.ofNat (ini ++ [noSize x]).length - 1) = (ini.length : Int) := by rw [hlen, wrap_i64 (by simp <;> omega) (by simp <;> omega)]; simp
          have hg : (ini ++ [noSize x]).getD ini.length (dflt T_glyph_Spot) = noSize x := by simp [List.getD]
          have hset : ∀ y, (ini ++ [noSize x]).set ini.length y = ini ++ [y] := fun y => by simp
          have hat : IntKind.i64.wrap (Int.ofNat pos - (noSize x).2.1) = x.2.2.1 := by
            show IntKind.i64.wrap (Int.ofNat pos - x.2.1) = _
            rw [ha, hm, wrap_i64 (by simp <;> omega) (by simp <;> omega)]
            simp; omega
          have hy : ((noSize x).1, (noSize x).2.1, x.2.2.1, (noSize x).2.2.2) = x := rfl
          have hgt : decide (Int.ofNat (ini ++ [noSize x]).length > 0) = true := by rw [hlen]; simp <;> omega
          have hb : Nat.ble (((ini ++ [x]).length + 1) * 48) limit = true := by
            apply Nat.ble_eq_true_of_le; unfold limit; simp <;> omega
          have hlt : ini.length < (ini ++ [noSize x]).length := by simp
          simp only [h, decide_true, if_true, hgt, hw, lt_len hlt, nng, Bool.and_self, Int.toNat_natCast, hg, hset, hat, hy, hb]
          exact hfin
      · have hend : rawFrom s (n + 1) pos line col = [] := by rw [rawFrom, if_neg h]
        have hpos : pos = s.size := by omega
        rw [hend, List.append_nil]
        simp only [h, decide_false]
        rw [if_neg (by simp)]
        rcases hinv with ⟨rfl, rfl⟩ | ⟨ini, x, rfl, rfl, a, m, ha, hm, ham⟩
        · rw [if_neg (by simp)]
          exact loop2 [] [] (by simp) (by simp)
        · have hlen : (ini ++ [noSize x]).length = ini.length + 1 := by simp
          have hd2 : ini.length + 1 ≤ pos := by simpa using hd
          have hw : IntKind.i64.wrap (Int.ofNat (ini ++ [noSize x]).length - 1) = (ini.length : Int) := by rw [hlen, wrap_i64 (by simp <;> omega) (by simp <;> omega)]; simp
          have hg : (ini ++ [noSize x]).getD ini.length (dflt T_glyph_Spot) = noSize x := by simp [List.getD]
          have hset : ∀ y, (ini ++ [noSize x]).set ini.length y = ini ++ [y] := fun y => by simp
          have hat : IntKind.i64.wrap (Int.ofNat s.size - (noSize x).2.1) = x.2.2.1 := by
            show IntKind.i64.wrap (Int.ofNat s.size - x.2.1) = _
            rw [ha, hm, wrap_i64 (by simp <;> omega) (by simp <;> omega)]
            simp; omega
          have hy : ((noSize x).1, (noSize x).2.1, x.2.2.1, (noSize x).2.2.2) = x := rfl
          have hgt : decide (Int.ofNat (ini ++ [noSize x]).length > 0) = true := by rw [hlen]; simp <;> omega
          have hlt : ini.length < (ini ++ [noSize x]).length := by simp
          simp only [if_true, hgt, hw, lt_len hlt, nng, Bool.and_self, Int.toNat_natCast, hg, hset, hat, hy]
          exact loop2 (ini ++ [x]) [] (by simp <;> omega) hfalse
  unfold T0_ref1_Spots v_ref1_Spots spots
  have := loop1 (s.size + 1) 0 1 1 [] [] (by omega) (by omega) (by simp) (by simp) (.inl ⟨rfl, rfl⟩)
  rw [List.nil_append, raw_spots] at this
  exact this

end Go.Ev
end

section
set_option linter.unusedSectionVars false
set_option linter.unusedVariables false
set_option linter.unusedSimpArgs false
set_option maxRecDepth 100000
set_option linter.unusedVariables false
open Go Go.Ev
namespace Go.Ev
noncomputable section
noncomputable def e_ref1_Spots : Run := entG sg_ref1_Spots R_ref1_Spots (fun a => k_ref1_Spots a.1) (fun a => v_ref1_Spots a.1)
theorem ok_ref1_Spots : EntOK Go.Proofs.Tryd.prog 54 e_ref1_Spots := entG_ok (tb := tb_ref1_Spots) (c := c_ref1_Spots) tk_ref1_Spots (by kernel_rfl) (by kernel_rfl) (by kernel_rfl) (fun a => by kernel_rfl) fun ⟨s, _⟩ hk => evF_goes (c := c_ref1_Spots) (K := fun v => (R_ref1_Spots v, tps (toForms sg_ref1_Spots (s, ())))) (S := S_ref1_Spots s) (by kernel_rfl) (en_ref1_Spots s) (lp_ref1_Spots s) (g_ref1_Spots s hk)
end
end Go.Ev
end

section
set_option linter.unusedSectionVars false
set_option linter.unusedVariables false
set_option linter.unusedSimpArgs false
set_option maxRecDepth 100000
set_option linter.unusedVariables false
open Go Go.Ev
namespace Go.Ev
noncomputable section
/-! ### paling/palingref1.Regs -/
def sg_ref1_Regs : Sig := []
noncomputable def t_ref1_Regs : Tbl := []
theorem tk_ref1_Regs : ∀ p ∈ t_ref1_Regs, EntOK Go.Proofs.Tryd.prog p.1 p.2 := tbl_nil
noncomputable def c_ref1_Regs : Code := Go.Proofs.Tryd.f78.body.getD .skip
def tb_ref1_Regs : Tb := []
def T_ref1_Regs : Empty → JT Empty (List ByteArray) := fun j => nomatch j
def T0_ref1_Regs : JT Empty (List ByteArray) :=
  .leaf ([(bs [114, 97, 120]), (bs [114, 98, 120]), (bs [114, 99, 120]), (bs [114, 100, 120]), (bs [114, 115, 105]), (bs [114, 100, 105]), (bs [114, 56]), (bs [114, 57])])
def v_ref1_Regs : List ByteArray :=
  ([(bs [114, 97, 120]), (bs [114, 98, 120]), (bs [114, 99, 120]), (bs [114, 100, 120]), (bs [114, 115, 105]), (bs [114, 100, 105]), (bs [114, 56]), (bs [114, 57])])
theorem g_ref1_Regs : Goes (T_ref1_Regs) (T0_ref1_Regs) (v_ref1_Regs) :=
  Goes.leaf
def R_ref1_Regs : List ByteArray → AV := fun (r : List ByteArray) => .rw 9 .str r
def S_ref1_Regs : Empty → Nat × St := fun j => nomatch j
theorem en_ref1_Regs (L : Lt) : entryA Go.Proofs.Tryd.prog (clOf t_ref1_Regs) tb_ref1_Regs Go.Proofs.Tryd.f78 c_ref1_Regs L (toForms sg_ref1_Regs (())) = (T0_ref1_Regs).run (fun v => some (R_ref1_Regs v, tps (toForms sg_ref1_Regs (())))) fun j => L (S_ref1_Regs j).1 (S_ref1_Regs j).2 := by kernel_rfl
theorem lp_ref1_Regs : ∀ (L : Lt) (j : Empty), procOf (procsF Go.Proofs.Tryd.prog (clOf t_ref1_Regs) tb_ref1_Regs Go.Proofs.Tryd.f78 c_ref1_Regs (toForms sg_ref1_Regs (()))) (S_ref1_Regs j).1 L (S_ref1_Regs j).2 = (T_ref1_Regs j).run (fun v => some (R_ref1_Regs v, tps (toForms sg_ref1_Regs (())))) fun j => L (S_ref1_Regs j).1 (S_ref1_Regs j).2 := fun L j => nomatch j
noncomputable def e_ref1_Regs : Run := entT sg_ref1_Regs R_ref1_Regs (fun a => v_ref1_Regs)
theorem ok_ref1_Regs : EntOK Go.Proofs.Tryd.prog 78 e_ref1_Regs := entT_ok (tb := tb_ref1_Regs) (c := c_ref1_Regs) tk_ref1_Regs (by kernel_rfl) (by kernel_rfl) (by kernel_rfl) (fun a => by kernel_rfl) fun _ => evF_goes (c := c_ref1_Regs) (K := fun v => (R_ref1_Regs v, tps (toForms sg_ref1_Regs (())))) (S := S_ref1_Regs) (by kernel_rfl) (en_ref1_Regs) (lp_ref1_Regs) (g_ref1_Regs)
end
end Go.Ev
end

section
set_option linter.unusedSectionVars false
set_option linter.unusedVariables false
set_option linter.unusedSimpArgs false
set_option maxRecDepth 100000
set_option linter.unusedVariables false
open Go Go.Ev
namespace Go.Ev
noncomputable section
/-! ### paling/palingref1.ops -/
def sg_ref1_ops : Sig := []
noncomputable def t_ref1_ops : Tbl := []
theorem tk_ref1_ops : ∀ p ∈ t_ref1_ops, EntOK Go.Proofs.Tryd.prog p.1 p.2 := tbl_nil
noncomputable def c_ref1_ops : Code := Go.Proofs.Tryd.f79.body.getD .skip
def tb_ref1_ops : Tb := []
def T_ref1_ops : Empty → JT Empty (List ByteArray) := fun j => nomatch j
def T0_ref1_ops : JT Empty (List ByteArray) :=
  .leaf ([(bs []), (bs [109, 111, 118]), (bs [97, 100, 100]), (bs [115, 117, 98]), (bs [97, 110, 100]), (bs [111, 114]), (bs [120, 111, 114]), (bs [99, 109, 112]), (bs [120, 99, 104, 103]), (bs [99, 109, 112, 120, 99, 104, 103]), (bs [106, 109, 112]), (bs []), (bs [109, 102, 101, 110, 99, 101]), (bs [110, 111, 112]), (bs [104, 108, 116])])
def v_ref1_ops : List ByteArray :=
  ([(bs []), (bs [109, 111, 118]), (bs [97, 100, 100]), (bs [115, 117, 98]), (bs [97, 110, 100]), (bs [111, 114]), (bs [120, 111, 114]), (bs [99, 109, 112]), (bs [120, 99, 104, 103]), (bs [99, 109, 112, 120, 99, 104, 103]), (bs [106, 109, 112]), (bs []), (bs [109, 102, 101, 110, 99, 101]), (bs [110, 111, 112]), (bs [104, 108, 116])])
theorem g_ref1_ops : Goes (T_ref1_ops) (T0_ref1_ops) (v_ref1_ops) :=
  Goes.leaf
def R_ref1_ops : List ByteArray → AV := fun (r : List ByteArray) => .rw 9 .str r
def S_ref1_ops : Empty → Nat × St := fun j => nomatch j
theorem en_ref1_ops (L : Lt) : entryA Go.Proofs.Tryd.prog (clOf t_ref1_ops) tb_ref1_ops Go.Proofs.Tryd.f79 c_ref1_ops L (toForms sg_ref1_ops (())) = (T0_ref1_ops).run (fun v => some (R_ref1_ops v, tps (toForms sg_ref1_ops (())))) fun j => L (S_ref1_ops j).1 (S_ref1_ops j).2 := by kernel_rfl
theorem lp_ref1_ops : ∀ (L : Lt) (j : Empty), procOf (procsF Go.Proofs.Tryd.prog (clOf t_ref1_ops) tb_ref1_ops Go.Proofs.Tryd.f79 c_ref1_ops (toForms sg_ref1_ops (()))) (S_ref1_ops j).1 L (S_ref1_ops j).2 = (T_ref1_ops j).run (fun v => some (R_ref1_ops v, tps (toForms sg_ref1_ops (())))) fun j => L (S_ref1_ops j).1 (S_ref1_ops j).2 := fun L j => nomatch j
noncomputable def e_ref1_ops : Run := entT sg_ref1_ops R_ref1_ops (fun a => v_ref1_ops)
theorem ok_ref1_ops : EntOK Go.Proofs.Tryd.prog 79 e_ref1_ops := entT_ok (tb := tb_ref1_ops) (c := c_ref1_ops) tk_ref1_ops (by kernel_rfl) (by kernel_rfl) (by kernel_rfl) (fun a => by kernel_rfl) fun _ => evF_goes (c := c_ref1_ops) (K := fun v => (R_ref1_ops v, tps (toForms sg_ref1_ops (())))) (S := S_ref1_ops) (by kernel_rfl) (en_ref1_ops) (lp_ref1_ops) (g_ref1_ops)
end
end Go.Ev
end

section
set_option linter.unusedSectionVars false
set_option linter.unusedVariables false
set_option linter.unusedSimpArgs false
set_option maxRecDepth 100000
set_option linter.unusedVariables false
open Go Go.Ev
namespace Go.Ev
noncomputable section
/-! ### paling/palingref1.conds -/
def sg_ref1_conds : Sig := []
noncomputable def t_ref1_conds : Tbl := []
theorem tk_ref1_conds : ∀ p ∈ t_ref1_conds, EntOK Go.Proofs.Tryd.prog p.1 p.2 := tbl_nil
noncomputable def c_ref1_conds : Code := Go.Proofs.Tryd.f80.body.getD .skip
def tb_ref1_conds : Tb := []
def T_ref1_conds : Empty → JT Empty (List ByteArray) := fun j => nomatch j
def T0_ref1_conds : JT Empty (List ByteArray) :=
  .leaf ([(bs []), (bs [106, 101]), (bs [106, 110, 101]), (bs [106, 108]), (bs [106, 108, 101]), (bs [106, 103]), (bs [106, 103, 101]), (bs [106, 98]), (bs [106, 98, 101]), (bs [106, 97]), (bs [106, 97, 101])])
def v_ref1_conds : List ByteArray :=
  ([(bs []), (bs [106, 101]), (bs [106, 110, 101]), (bs [106, 108]), (bs [106, 108, 101]), (bs [106, 103]), (bs [106, 103, 101]), (bs [106, 98]), (bs [106, 98, 101]), (bs [106, 97]), (bs [106, 97, 101])])
theorem g_ref1_conds : Goes (T_ref1_conds) (T0_ref1_conds) (v_ref1_conds) :=
  Goes.leaf
def R_ref1_conds : List ByteArray → AV := fun (r : List ByteArray) => .rw 9 .str r
def S_ref1_conds : Empty → Nat × St := fun j => nomatch j
theorem en_ref1_conds (L : Lt) : entryA Go.Proofs.Tryd.prog (clOf t_ref1_conds) tb_ref1_conds Go.Proofs.Tryd.f80 c_ref1_conds L (toForms sg_ref1_conds (())) = (T0_ref1_conds).run (fun v => some (R_ref1_conds v, tps (toForms sg_ref1_conds (())))) fun j => L (S_ref1_conds j).1 (S_ref1_conds j).2 := by kernel_rfl
theorem lp_ref1_conds : ∀ (L : Lt) (j : Empty), procOf (procsF Go.Proofs.Tryd.prog (clOf t_ref1_conds) tb_ref1_conds Go.Proofs.Tryd.f80 c_ref1_conds (toForms sg_ref1_conds (()))) (S_ref1_conds j).1 L (S_ref1_conds j).2 = (T_ref1_conds j).run (fun v => some (R_ref1_conds v, tps (toForms sg_ref1_conds (())))) fun j => L (S_ref1_conds j).1 (S_ref1_conds j).2 := fun L j => nomatch j
noncomputable def e_ref1_conds : Run := entT sg_ref1_conds R_ref1_conds (fun a => v_ref1_conds)
theorem ok_ref1_conds : EntOK Go.Proofs.Tryd.prog 80 e_ref1_conds := entT_ok (tb := tb_ref1_conds) (c := c_ref1_conds) tk_ref1_conds (by kernel_rfl) (by kernel_rfl) (by kernel_rfl) (fun a => by kernel_rfl) fun _ => evF_goes (c := c_ref1_conds) (K := fun v => (R_ref1_conds v, tps (toForms sg_ref1_conds (())))) (S := S_ref1_conds) (by kernel_rfl) (en_ref1_conds) (lp_ref1_conds) (g_ref1_conds)
end
end Go.Ev
end

section
set_option linter.unusedSectionVars false
set_option linter.unusedVariables false
set_option linter.unusedSimpArgs false
set_option maxRecDepth 100000
set_option linter.unusedVariables false
open Go Go.Ev
namespace Go.Ev
noncomputable section
/-! ### paling/palingref1.Word -/
def sg_ref1_Word : Sig := [(false, .str)]
noncomputable def t_ref1_Word : Tbl := [(78, e_ref1_Regs), (77, e_ref1_index), (79, e_ref1_ops), (80, e_ref1_conds)]
theorem tk_ref1_Word : ∀ p ∈ t_ref1_Word, EntOK Go.Proofs.Tryd.prog p.1 p.2 := tbl_cons ok_ref1_Regs (tbl_cons ok_ref1_index (tbl_cons ok_ref1_ops (tbl_cons ok_ref1_conds (tbl_nil))))
noncomputable def c_ref1_Word : Code := Go.Proofs.Tryd.f55.body.getD .skip
def tb_ref1_Word : Tb := []
def T_ref1_Word (s : ByteArray) : Empty → JT Empty (Bool) := fun j => nomatch j
def T0_ref1_Word (s : ByteArray) : JT Empty (Bool) :=
  .br (! (eqB s (bs [])))
    (.br (eqB s (bs [115, 121, 109]))
      (.leaf true)
    (.br (eqB s (bs [116, 104, 114, 101, 97, 100]))
      (.leaf true)
    (.br (eqB s (bs [108, 111, 99, 107]))
      (.leaf true)
    (.br (k_ref1_index v_ref1_Regs s)
      (.br (decide ((v_ref1_index v_ref1_Regs s) ≥ (0 : Int)))
        (.leaf true)
      (.br (k_ref1_index v_ref1_ops s)
        (.br (decide ((v_ref1_index v_ref1_ops s) > (0 : Int)))
          (.leaf true)
        (.br (k_ref1_index v_ref1_conds s)
          (.leaf (decide ((v_ref1_index v_ref1_conds s) > (0 : Int))))
        (.no)))
      (.no)))
    (.no)))))
  (.leaf false)
def u_ref1_Word (s : ByteArray) : Bool :=
  bif (! (eqB s (bs []))) then
    bif (eqB s (bs [115, 121, 109])) then
      true
    else bif (eqB s (bs [116, 104, 114, 101, 97, 100])) then
      true
    else bif (eqB s (bs [108, 111, 99, 107])) then
      true
    else bif (k_ref1_index v_ref1_Regs s) then
      bif (decide ((v_ref1_index v_ref1_Regs s) ≥ (0 : Int))) then
        true
      else bif (k_ref1_index v_ref1_ops s) then
        bif (decide ((v_ref1_index v_ref1_ops s) > (0 : Int))) then
          true
        else bif (k_ref1_index v_ref1_conds s) then
          (decide ((v_ref1_index v_ref1_conds s) > (0 : Int)))
        else false
      else false
    else false
  else false
def ku_ref1_Word (s : ByteArray) : Bool :=
  bif (! (eqB s (bs []))) then
    bif (eqB s (bs [115, 121, 109])) then
      true
    else bif (eqB s (bs [116, 104, 114, 101, 97, 100])) then
      true
    else bif (eqB s (bs [108, 111, 99, 107])) then
      true
    else bif (k_ref1_index v_ref1_Regs s) then
      bif (decide ((v_ref1_index v_ref1_Regs s) ≥ (0 : Int))) then
        true
      else bif (k_ref1_index v_ref1_ops s) then
        bif (decide ((v_ref1_index v_ref1_ops s) > (0 : Int))) then
          true
        else bif (k_ref1_index v_ref1_conds s) then
          true
        else false
      else false
    else false
  else true
theorem gu_ref1_Word (s : ByteArray) (hk : ku_ref1_Word s = true) : Goes (T_ref1_Word s) (T0_ref1_Word s) (u_ref1_Word s) :=
  Goes.brk hk (fun hk =>
    Goes.brk hk (fun hk =>
      Goes.leaf) (fun hk =>
      Goes.brk hk (fun hk =>
        Goes.leaf) (fun hk =>
        Goes.brk hk (fun hk =>
          Goes.leaf) (fun hk =>
          Goes.brk hk (fun hk =>
            Goes.brk hk (fun hk =>
              Goes.leaf) (fun hk =>
              Goes.brk hk (fun hk =>
                Goes.brk hk (fun hk =>
                  Goes.leaf) (fun hk =>
                  Goes.brk hk (fun hk =>
                    Goes.leaf) (fun hk =>
                    Goes.nok hk))) (fun hk =>
                Goes.nok hk))) (fun hk =>
            Goes.nok hk))))) (fun hk =>
    Goes.leaf)
def R_ref1_Word : Bool → AV := fun (r : Bool) => .d .bool r
def S_ref1_Word (s : ByteArray) : Empty → Nat × St := fun j => nomatch j
theorem en_ref1_Word (s : ByteArray) (L : Lt) : entryA Go.Proofs.Tryd.prog (clOf t_ref1_Word) tb_ref1_Word Go.Proofs.Tryd.f55 c_ref1_Word L (toForms sg_ref1_Word (s, ())) = (T0_ref1_Word s).run (fun v => some (R_ref1_Word v, tps (toForms sg_ref1_Word (s, ())))) fun j => L (S_ref1_Word s j).1 (S_ref1_Word s j).2 := by kernel_rfl
theorem lp_ref1_Word (s : ByteArray) : ∀ (L : Lt) (j : Empty), procOf (procsF Go.Proofs.Tryd.prog (clOf t_ref1_Word) tb_ref1_Word Go.Proofs.Tryd.f55 c_ref1_Word (toForms sg_ref1_Word (s, ()))) (S_ref1_Word s j).1 L (S_ref1_Word s j).2 = (T_ref1_Word s j).run (fun v => some (R_ref1_Word v, tps (toForms sg_ref1_Word (s, ())))) fun j => L (S_ref1_Word s j).1 (S_ref1_Word s j).2 := fun L j => nomatch j
end
end Go.Ev
end

section
set_option linter.unusedSectionVars false
set_option linter.unusedVariables false
set_option linter.unusedSimpArgs false
set_option linter.unusedVariables false
set_option linter.unusedSimpArgs false
open Go
namespace Go.Ev

def v_ref1_Word (s : ByteArray) : Bool := v_names_Word s
theorem g_ref1_Word (s : ByteArray) : Goes (T_ref1_Word s) (T0_ref1_Word s) (v_ref1_Word s) := by
  have hk : ∀ l : List ByteArray, l.length < 100 → k_ref1_index l s = true := fun l h => decide_eq_true (by omega)
  have h1 : k_ref1_index v_ref1_Regs s = true := hk _ (by decide)
  have h2 : k_ref1_index v_ref1_ops s = true := hk _ (by decide)
  have h3 : k_ref1_index v_ref1_conds s = true := hk _ (by decide)
  have hku : ku_ref1_Word s = true := by
    unfold ku_ref1_Word
    simp only [h1, h2, h3, cond_true]
    cases eqB s (bs []) <;> cases eqB s (bs [115, 121, 109]) <;> cases eqB s (bs [116, 104, 114, 101, 97, 100]) <;> cases eqB s (bs [108, 111, 99, 107]) <;> cases decide (v_ref1_index v_ref1_Regs s ≥ 0) <;> cases decide (v_ref1_index v_ref1_ops s > 0) <;> rfl
  have hv : v_ref1_Word s = u_ref1_Word s := by
    unfold v_ref1_Word u_ref1_Word v_names_Word
    simp only [h1, h2, h3, cond_true, eqB_eq]
    have hr : decide (v_ref1_index v_ref1_Regs s ≥ 0) = (findFrom s v_names_regs 0).isSome := by
      unfold v_ref1_index
      rw [show v_ref1_Regs = v_names_regs from rfl]
      cases findFrom s v_names_regs 0 <;> simp
    have hR : (v_names_Reg s).2 = (findFrom s v_names_regs 0).isSome := by
      unfold v_names_Reg
      cases findFrom s v_names_regs 0 <;> rfl
    rw [hr, hR]
    by_cases h0 : s = bs []
    · subst h0
      decide
    have hidx : ∀ l : List ByteArray, decide (v_ref1_index (bs [] :: l) s > 0) = (findFrom s l 0).isSome := by
      intro l
      unfold v_ref1_index
      rw [show findFrom s (bs [] :: l) 0 = findFrom s l (0 + 1) by rw [findFrom, if_neg (fun e => h0 e.symm)], findFrom_shift (k := 0) (j := 0 + 1)]
      cases h : findFrom s l (0 + 1) with
      | none => simp
      | some n => have := findFrom_some h; simp; omega
    have ho := hidx v_names_ops
    have hj := hidx v_names_jumps
    rw [show v_ref1_ops = bs [] :: v_names_ops from rfl, ho, show v_ref1_conds = bs [] :: v_names_jumps from rfl, hj]
    have hO : (v_names_Op s).2.2 = ((findFrom s v_names_ops 0).isSome || (findFrom s v_names_jumps 0).isSome) := by
      unfold v_names_Op
      rw [if_neg h0]
      cases findFrom s v_names_ops 0 with
      | some k => rfl
      | none => cases findFrom s v_names_jumps 0 <;> rfl
    rw [hO]
    simp only [h0, decide_false, Bool.not_false, cond_true]
    cases (findFrom s v_names_ops 0).isSome <;> cases (findFrom s v_names_jumps 0).isSome <;> rfl
  rw [hv]
  exact gu_ref1_Word s hku

end Go.Ev
end

section
set_option linter.unusedSectionVars false
set_option linter.unusedVariables false
set_option linter.unusedSimpArgs false
set_option maxRecDepth 100000
set_option linter.unusedVariables false
open Go Go.Ev
namespace Go.Ev
noncomputable section
noncomputable def e_ref1_Word : Run := entT sg_ref1_Word R_ref1_Word (fun a => v_ref1_Word a.1)
theorem ok_ref1_Word : EntOK Go.Proofs.Tryd.prog 55 e_ref1_Word := entT_ok (tb := tb_ref1_Word) (c := c_ref1_Word) tk_ref1_Word (by kernel_rfl) (by kernel_rfl) (by kernel_rfl) (fun a => by kernel_rfl) fun ⟨s, _⟩ => evF_goes (c := c_ref1_Word) (K := fun v => (R_ref1_Word v, tps (toForms sg_ref1_Word (s, ())))) (S := S_ref1_Word s) (by kernel_rfl) (en_ref1_Word s) (lp_ref1_Word s) (g_ref1_Word s)
end
end Go.Ev
end

section
set_option linter.unusedSectionVars false
set_option linter.unusedVariables false
set_option linter.unusedSimpArgs false
set_option maxRecDepth 100000
set_option linter.unusedVariables false
open Go Go.Ev
namespace Go.Ev
noncomputable section
/-! ### paling/palingref1.Letter -/
def sg_ref1_Letter : Sig := [(false, (.int .i32))]
noncomputable def t_ref1_Letter : Tbl := []
theorem tk_ref1_Letter : ∀ p ∈ t_ref1_Letter, EntOK Go.Proofs.Tryd.prog p.1 p.2 := tbl_nil
noncomputable def c_ref1_Letter : Code := Go.Proofs.Tryd.f56.body.getD .skip
def tb_ref1_Letter : Tb := []
def T_ref1_Letter (r : Int) : Empty → JT Empty (Bool) := fun j => nomatch j
def T0_ref1_Letter (r : Int) : JT Empty (Bool) :=
  .br (decide (r ≥ (97 : Int)))
    (.br (decide (r ≤ (122 : Int)))
      (.leaf true)
    (.br (decide (r ≥ (65 : Int)))
      (.br (decide (r ≤ (90 : Int)))
        (.leaf true)
      (.br (r == (95 : Int))
        (.leaf true)
      (.br (decide (r ≥ (161 : Int)))
        (.leaf (decide (r ≤ (1114111 : Int))))
      (.leaf false))))
    (.br (r == (95 : Int))
      (.leaf true)
    (.br (decide (r ≥ (161 : Int)))
      (.leaf (decide (r ≤ (1114111 : Int))))
    (.leaf false)))))
  (.br (decide (r ≥ (65 : Int)))
    (.br (decide (r ≤ (90 : Int)))
      (.leaf true)
    (.br (r == (95 : Int))
      (.leaf true)
    (.br (decide (r ≥ (161 : Int)))
      (.leaf (decide (r ≤ (1114111 : Int))))
    (.leaf false))))
  (.br (r == (95 : Int))
    (.leaf true)
  (.br (decide (r ≥ (161 : Int)))
    (.leaf (decide (r ≤ (1114111 : Int))))
  (.leaf false))))
def v_ref1_Letter (r : Int) : Bool :=
  bif (decide (r ≥ (97 : Int))) then
    bif (decide (r ≤ (122 : Int))) then
      true
    else bif (decide (r ≥ (65 : Int))) then
      bif (decide (r ≤ (90 : Int))) then
        true
      else bif (r == (95 : Int)) then
        true
      else bif (decide (r ≥ (161 : Int))) then
        (decide (r ≤ (1114111 : Int)))
      else false
    else bif (r == (95 : Int)) then
      true
    else bif (decide (r ≥ (161 : Int))) then
      (decide (r ≤ (1114111 : Int)))
    else false
  else bif (decide (r ≥ (65 : Int))) then
    bif (decide (r ≤ (90 : Int))) then
      true
    else bif (r == (95 : Int)) then
      true
    else bif (decide (r ≥ (161 : Int))) then
      (decide (r ≤ (1114111 : Int)))
    else false
  else bif (r == (95 : Int)) then
    true
  else bif (decide (r ≥ (161 : Int))) then
    (decide (r ≤ (1114111 : Int)))
  else false
theorem g_ref1_Letter (r : Int) : Goes (T_ref1_Letter r) (T0_ref1_Letter r) (v_ref1_Letter r) :=
  Goes.br (
    Goes.br (
      Goes.leaf) (
      Goes.br (
        Goes.br (
          Goes.leaf) (
          Goes.br (
            Goes.leaf) (
            Goes.br (
              Goes.leaf) (
              Goes.leaf)))) (
        Goes.br (
          Goes.leaf) (
          Goes.br (
            Goes.leaf) (
            Goes.leaf))))) (
    Goes.br (
      Goes.br (
        Goes.leaf) (
        Goes.br (
          Goes.leaf) (
          Goes.br (
            Goes.leaf) (
            Goes.leaf)))) (
      Goes.br (
        Goes.leaf) (
        Goes.br (
          Goes.leaf) (
          Goes.leaf))))
def R_ref1_Letter : Bool → AV := fun (r : Bool) => .d .bool r
def S_ref1_Letter (r : Int) : Empty → Nat × St := fun j => nomatch j
theorem en_ref1_Letter (r : Int) (L : Lt) : entryA Go.Proofs.Tryd.prog (clOf t_ref1_Letter) tb_ref1_Letter Go.Proofs.Tryd.f56 c_ref1_Letter L (toForms sg_ref1_Letter (r, ())) = (T0_ref1_Letter r).run (fun v => some (R_ref1_Letter v, tps (toForms sg_ref1_Letter (r, ())))) fun j => L (S_ref1_Letter r j).1 (S_ref1_Letter r j).2 := by kernel_rfl
theorem lp_ref1_Letter (r : Int) : ∀ (L : Lt) (j : Empty), procOf (procsF Go.Proofs.Tryd.prog (clOf t_ref1_Letter) tb_ref1_Letter Go.Proofs.Tryd.f56 c_ref1_Letter (toForms sg_ref1_Letter (r, ()))) (S_ref1_Letter r j).1 L (S_ref1_Letter r j).2 = (T_ref1_Letter r j).run (fun v => some (R_ref1_Letter v, tps (toForms sg_ref1_Letter (r, ())))) fun j => L (S_ref1_Letter r j).1 (S_ref1_Letter r j).2 := fun L j => nomatch j
noncomputable def e_ref1_Letter : Run := entT sg_ref1_Letter R_ref1_Letter (fun a => v_ref1_Letter a.1)
theorem ok_ref1_Letter : EntOK Go.Proofs.Tryd.prog 56 e_ref1_Letter := entT_ok (tb := tb_ref1_Letter) (c := c_ref1_Letter) tk_ref1_Letter (by kernel_rfl) (by kernel_rfl) (by kernel_rfl) (fun a => by kernel_rfl) fun ⟨r, _⟩ => evF_goes (c := c_ref1_Letter) (K := fun v => (R_ref1_Letter v, tps (toForms sg_ref1_Letter (r, ())))) (S := S_ref1_Letter r) (by kernel_rfl) (en_ref1_Letter r) (lp_ref1_Letter r) (g_ref1_Letter r)
end
end Go.Ev
end

section
set_option linter.unusedSectionVars false
set_option linter.unusedVariables false
set_option linter.unusedSimpArgs false
set_option maxRecDepth 100000
set_option linter.unusedVariables false
open Go Go.Ev
namespace Go.Ev
noncomputable section
/-! ### paling/palingref1.Digit -/
def sg_ref1_Digit : Sig := [(false, (.int .i32))]
noncomputable def t_ref1_Digit : Tbl := []
theorem tk_ref1_Digit : ∀ p ∈ t_ref1_Digit, EntOK Go.Proofs.Tryd.prog p.1 p.2 := tbl_nil
noncomputable def c_ref1_Digit : Code := Go.Proofs.Tryd.f57.body.getD .skip
def tb_ref1_Digit : Tb := []
def T_ref1_Digit (r : Int) : Empty → JT Empty (Bool) := fun j => nomatch j
def T0_ref1_Digit (r : Int) : JT Empty (Bool) :=
  .br (decide (r ≥ (48 : Int)))
    (.leaf (decide (r ≤ (57 : Int))))
  (.leaf false)
def v_ref1_Digit (r : Int) : Bool :=
  bif (decide (r ≥ (48 : Int))) then
    (decide (r ≤ (57 : Int)))
  else false
theorem g_ref1_Digit (r : Int) : Goes (T_ref1_Digit r) (T0_ref1_Digit r) (v_ref1_Digit r) :=
  Goes.br (
    Goes.leaf) (
    Goes.leaf)
def R_ref1_Digit : Bool → AV := fun (r : Bool) => .d .bool r
def S_ref1_Digit (r : Int) : Empty → Nat × St := fun j => nomatch j
theorem en_ref1_Digit (r : Int) (L : Lt) : entryA Go.Proofs.Tryd.prog (clOf t_ref1_Digit) tb_ref1_Digit Go.Proofs.Tryd.f57 c_ref1_Digit L (toForms sg_ref1_Digit (r, ())) = (T0_ref1_Digit r).run (fun v => some (R_ref1_Digit v, tps (toForms sg_ref1_Digit (r, ())))) fun j => L (S_ref1_Digit r j).1 (S_ref1_Digit r j).2 := by kernel_rfl
theorem lp_ref1_Digit (r : Int) : ∀ (L : Lt) (j : Empty), procOf (procsF Go.Proofs.Tryd.prog (clOf t_ref1_Digit) tb_ref1_Digit Go.Proofs.Tryd.f57 c_ref1_Digit (toForms sg_ref1_Digit (r, ()))) (S_ref1_Digit r j).1 L (S_ref1_Digit r j).2 = (T_ref1_Digit r j).run (fun v => some (R_ref1_Digit v, tps (toForms sg_ref1_Digit (r, ())))) fun j => L (S_ref1_Digit r j).1 (S_ref1_Digit r j).2 := fun L j => nomatch j
noncomputable def e_ref1_Digit : Run := entT sg_ref1_Digit R_ref1_Digit (fun a => v_ref1_Digit a.1)
theorem ok_ref1_Digit : EntOK Go.Proofs.Tryd.prog 57 e_ref1_Digit := entT_ok (tb := tb_ref1_Digit) (c := c_ref1_Digit) tk_ref1_Digit (by kernel_rfl) (by kernel_rfl) (by kernel_rfl) (fun a => by kernel_rfl) fun ⟨r, _⟩ => evF_goes (c := c_ref1_Digit) (K := fun v => (R_ref1_Digit v, tps (toForms sg_ref1_Digit (r, ())))) (S := S_ref1_Digit r) (by kernel_rfl) (en_ref1_Digit r) (lp_ref1_Digit r) (g_ref1_Digit r)
end
end Go.Ev
end

section
set_option linter.unusedSectionVars false
set_option linter.unusedVariables false
set_option linter.unusedSimpArgs false
set_option maxRecDepth 100000
set_option linter.unusedVariables false
open Go Go.Ev
namespace Go.Ev
noncomputable section
/-! ### paling/palingref1.Right -/
def sg_ref1_Right : Sig := [(false, .str)]
noncomputable def t_ref1_Right : Tbl := [(54, e_ref1_Spots), (55, e_ref1_Word), (56, e_ref1_Letter), (57, e_ref1_Digit)]
theorem tk_ref1_Right : ∀ p ∈ t_ref1_Right, EntOK Go.Proofs.Tryd.prog p.1 p.2 := tbl_cons ok_ref1_Spots (tbl_cons ok_ref1_Word (tbl_cons ok_ref1_Letter (tbl_cons ok_ref1_Digit (tbl_nil))))
noncomputable def c_ref1_Right : Code := Go.Proofs.Tryd.f43.body.getD .skip
def tb_ref1_Right : Tb := [(7, ⟨[3, 4], []⟩)]
inductive J_ref1_Right where
  | l7 (i : Int)
def T_ref1_Right (s : ByteArray) : J_ref1_Right → JT J_ref1_Right (Bool)
  | .l7 i =>
    .br (decide (i < (Int.ofNat (List.length (v_ref1_Spots s)))))
      (.br ((decide ((0 : Int) ≤ i)) && (decide (i < (Int.ofNat (List.length (v_ref1_Spots s))))))
        (.br (List.getD (v_ref1_Spots s) (Int.toNat i) (dflt T_ref1_Spot)).2.2.2.2.2
          (.leaf false)
        (.br ((decide ((0 : Int) ≤ i)) && (decide (i < (Int.ofNat (List.length (v_ref1_Spots s))))))
          (.br (! (v_ref1_Letter (List.getD (v_ref1_Spots s) (Int.toNat i) (dflt T_ref1_Spot)).1))
            (.br (i == (0 : Int))
              (.leaf false)
            (.br ((decide ((0 : Int) ≤ i)) && (decide (i < (Int.ofNat (List.length (v_ref1_Spots s))))))
              (.br (! (v_ref1_Digit (List.getD (v_ref1_Spots s) (Int.toNat i) (dflt T_ref1_Spot)).1))
                (.leaf false)
              (.jmp (.l7 (IntKind.i64.wrap (i + (1 : Int))))))
            (.no)))
          (.jmp (.l7 (IntKind.i64.wrap (i + (1 : Int))))))
        (.no)))
      (.no))
    (.leaf true)
def T0_ref1_Right (s : ByteArray) : JT J_ref1_Right (Bool) :=
  .br (k_ref1_Spots s)
    (.br (decide ((Int.ofNat (List.length (v_ref1_Spots s))) < (1 : Int)))
      (.leaf false)
    (.br (decide ((Int.ofNat (List.length (v_ref1_Spots s))) > (16 : Int)))
      (.leaf false)
    (.br (v_ref1_Word s)
      (.leaf false)
    (.jmp (.l7 (0 : Int))))))
  (.no)
def R_ref1_Right : Bool → AV := fun (r : Bool) => .d .bool r
def S_ref1_Right (s : ByteArray) : J_ref1_Right → Nat × St
  | .l7 i => (7, ⟨mkTm 52 [(3, .own 4 0 none), (4, .d (.int .i64) i)], [(4, 0, .row 88 T_ref1_Spot (v_ref1_Spots s) false)]⟩)
theorem en_ref1_Right (s : ByteArray) (L : Lt) : entryA Go.Proofs.Tryd.prog (clOf t_ref1_Right) tb_ref1_Right Go.Proofs.Tryd.f43 c_ref1_Right L (toForms sg_ref1_Right (s, ())) = (T0_ref1_Right s).run (fun v => some (R_ref1_Right v, tps (toForms sg_ref1_Right (s, ())))) fun j => L (S_ref1_Right s j).1 (S_ref1_Right s j).2 := by kernel_rfl
theorem lp_ref1_Right (s : ByteArray) : ∀ (L : Lt) (j : J_ref1_Right), procOf (procsF Go.Proofs.Tryd.prog (clOf t_ref1_Right) tb_ref1_Right Go.Proofs.Tryd.f43 c_ref1_Right (toForms sg_ref1_Right (s, ()))) (S_ref1_Right s j).1 L (S_ref1_Right s j).2 = (T_ref1_Right s j).run (fun v => some (R_ref1_Right v, tps (toForms sg_ref1_Right (s, ())))) fun j => L (S_ref1_Right s j).1 (S_ref1_Right s j).2
  | L, .l7 i => by kernel_rfl
end
end Go.Ev
end

section
set_option linter.unusedSectionVars false
set_option linter.unusedVariables false
set_option linter.unusedSimpArgs false
set_option linter.unusedVariables false
set_option linter.unusedSimpArgs false
open Go
namespace Go.Ev

def v_ref1_Right (s : ByteArray) : Bool := nameRight s
def k_ref1_Right (s : ByteArray) : Bool := smallText s
theorem g_ref1_Right (s : ByteArray) (hk : k_ref1_Right s = true) : Goes (T_ref1_Right s) (T0_ref1_Right s) (v_ref1_Right s) := by
  have hs : s.size < 549755813888 := of_decide_eq_true hk
  have hl : (v_ref1_Spots s).length ≤ s.size := spots_length s
  have loop : ∀ k, k ≤ (v_ref1_Spots s).length → Goes (T_ref1_Right s) (.jmp (.l7 (k : Int))) (spotsOK k ((v_ref1_Spots s).drop k)) := by
    refine down ?_ fun k hk ih => ?_
    · rw [goes_jmp]
      simp [T_ref1_Right, goes_br, goes_leaf, spotsOK]
    · rw [goes_jmp]
      dsimp only [T_ref1_Right]
      simp only [goes_br, goes_leaf, lt_len hk, nng, Bool.and_self, if_true, Int.toNat_natCast, getD_lt hk, wrap_succ (k := k) (by omega)]
      rw [drop_cons hk, spotsOK]
      generalize (v_ref1_Spots s)[k] = x at *
      unfold spotOK
      rw [show v_ref1_Letter = v_glyph_Letter from rfl, show v_ref1_Digit = v_glyph_Digit from rfl]
      cases x.2.2.2.2.2
      · cases v_glyph_Letter x.1
        · by_cases h0 : k = 0
          · subst h0; simp
          · have e1 : ((k : Int) == 0) = false := by rw [Bool.eq_false_iff]; simp; omega
            have e2 : (k == 0) = false := by rw [Bool.eq_false_iff]; simpa using h0
            cases v_glyph_Digit x.1
            · simp [e1, e2]
            · simpa [e1, e2] using ih
        · simpa using ih
      · simp
  have hv : v_ref1_Right s = (spotsOK 0 (v_ref1_Spots s) && (decide (1 ≤ (v_ref1_Spots s).length) && (decide ((v_ref1_Spots s).length ≤ 16) && !v_names_Word s))) := rfl
  rw [hv]
  unfold T0_ref1_Right
  simp only [goes_br, show k_ref1_Spots s = true from hk, if_true, v_ref1_Word, goes_leaf]
  by_cases h1 : 1 ≤ (v_ref1_Spots s).length
  · by_cases h2 : (v_ref1_Spots s).length ≤ 16
    · cases v_names_Word s
      · rw [if_neg (by simp <;> omega), if_neg (by simp <;> omega)]
        simpa [h1, h2] using loop 0 (Nat.zero_le _)
      · rw [if_neg (by simp <;> omega), if_neg (by simp <;> omega)]
        simp
    · rw [if_neg (by simp <;> omega), if_pos (by simp <;> omega)]
      simp [h2]
  · rw [if_pos (by simp <;> omega)]
    simp [h1]

end Go.Ev
end

section
set_option linter.unusedSectionVars false
set_option linter.unusedVariables false
set_option linter.unusedSimpArgs false
set_option maxRecDepth 100000
set_option linter.unusedVariables false
open Go Go.Ev
namespace Go.Ev
noncomputable section
noncomputable def e_ref1_Right : Run := entG sg_ref1_Right R_ref1_Right (fun a => k_ref1_Right a.1) (fun a => v_ref1_Right a.1)
theorem ok_ref1_Right : EntOK Go.Proofs.Tryd.prog 43 e_ref1_Right := entG_ok (tb := tb_ref1_Right) (c := c_ref1_Right) tk_ref1_Right (by kernel_rfl) (by kernel_rfl) (by kernel_rfl) (fun a => by kernel_rfl) fun ⟨s, _⟩ hk => evF_goes (c := c_ref1_Right) (K := fun v => (R_ref1_Right v, tps (toForms sg_ref1_Right (s, ())))) (S := S_ref1_Right s) (by kernel_rfl) (en_ref1_Right s) (lp_ref1_Right s) (g_ref1_Right s hk)
end
end Go.Ev
end

section
set_option linter.unusedSectionVars false
set_option linter.unusedVariables false
set_option linter.unusedSimpArgs false
set_option maxRecDepth 100000
set_option linter.unusedVariables false
open Go Go.Ev
namespace Go.Ev
noncomputable section
/-! ### paling/palingref1.InsRight -/
def sg_ref1_InsRight : Sig := [(true, T_api_Ins)]
noncomputable def t_ref1_InsRight : Tbl := [(41, e_ref1_row), (42, e_ref1_Jumps), (43, e_ref1_Right)]
theorem tk_ref1_InsRight : ∀ p ∈ t_ref1_InsRight, EntOK Go.Proofs.Tryd.prog p.1 p.2 := tbl_cons ok_ref1_row (tbl_cons ok_ref1_Jumps (tbl_cons ok_ref1_Right (tbl_nil)))
noncomputable def c_ref1_InsRight : Code := Go.Proofs.Tryd.f30.body.getD .skip
def tb_ref1_InsRight : Tb := [(2, ⟨[1, 26, 34, 37, 44, 47], []⟩), (5, ⟨[1, 49], []⟩)]
inductive J_ref1_InsRight where
  | l2 (h : Bool)
  | l5 (h : Bool)
def T_ref1_InsRight (i : El T_api_Ins) : J_ref1_InsRight → JT J_ref1_InsRight (Int)
  | .l2 h =>
    .br h
      (.leaf (4 : Int))
    (.br (i.1 == (11 : Int))
      (.br (decide (i.2.2.1 < (1 : Int)))
        (.jmp (.l5 true))
      (.br (decide (i.2.2.1 > (10 : Int)))
        (.jmp (.l5 true))
      (.br (i.1 != (11 : Int))
        (.jmp (.l5 (i.2.2.1 != (0 : Int))))
      (.jmp (.l5 false)))))
    (.br (i.1 != (11 : Int))
      (.jmp (.l5 (i.2.2.1 != (0 : Int))))
    (.jmp (.l5 false))))
  | .l5 h =>
    .br h
      (.leaf (4 : Int))
    (.br (v_ref1_Jumps i.1)
      (.br (k_ref1_Right i.2.2.2.2.2.1)
        (.br (! (v_ref1_Right i.2.2.2.2.2.1))
          (.leaf (3 : Int))
        (.leaf (0 : Int)))
      (.no))
    (.leaf (0 : Int)))
def T0_ref1_InsRight (i : El T_api_Ins) : JT J_ref1_InsRight (Int) :=
  .br (decide (i.1 < (1 : Int)))
    (.jmp (.l2 true))
  (.br (decide (i.1 > (14 : Int)))
    (.jmp (.l2 true))
  (.br (! (v_ref1_row i))
    (.jmp (.l2 true))
  (.br (! (v_ref1_Jumps i.1))
    (.jmp (.l2 (! (eqB i.2.2.2.2.2.1 (bs [])))))
  (.jmp (.l2 false)))))
def v_ref1_InsRight_l5 (i : El T_api_Ins) (h : Bool) : Int :=
  bif h then
    (4 : Int)
  else bif (v_ref1_Jumps i.1) then
    bif (k_ref1_Right i.2.2.2.2.2.1) then
      bif (! (v_ref1_Right i.2.2.2.2.2.1)) then
        (3 : Int)
      else (0 : Int)
    else (0 : Int)
  else (0 : Int)
def k_ref1_InsRight_l5 (i : El T_api_Ins) (h : Bool) : Bool :=
  bif h then
    true
  else bif (v_ref1_Jumps i.1) then
    bif (k_ref1_Right i.2.2.2.2.2.1) then
      bif (! (v_ref1_Right i.2.2.2.2.2.1)) then
        true
      else true
    else false
  else true
theorem g_ref1_InsRight_l5 (i : El T_api_Ins) (h : Bool) (hk : k_ref1_InsRight_l5 i h = true) : Goes (T_ref1_InsRight i) (.jmp (.l5 h)) (v_ref1_InsRight_l5 i h) :=
  Goes.jmp (Goes.brk hk (fun hk =>
    Goes.leaf) (fun hk =>
    Goes.brk hk (fun hk =>
      Goes.brk hk (fun hk =>
        Goes.brk hk (fun hk =>
          Goes.leaf) (fun hk =>
          Goes.leaf)) (fun hk =>
        Goes.nok hk)) (fun hk =>
      Goes.leaf)))
def v_ref1_InsRight_l2 (i : El T_api_Ins) (h : Bool) : Int :=
  bif h then
    (4 : Int)
  else bif (i.1 == (11 : Int)) then
    bif (decide (i.2.2.1 < (1 : Int))) then
      v_ref1_InsRight_l5 i true
    else bif (decide (i.2.2.1 > (10 : Int))) then
      v_ref1_InsRight_l5 i true
    else bif (i.1 != (11 : Int)) then
      v_ref1_InsRight_l5 i (i.2.2.1 != (0 : Int))
    else v_ref1_InsRight_l5 i false
  else bif (i.1 != (11 : Int)) then
    v_ref1_InsRight_l5 i (i.2.2.1 != (0 : Int))
  else v_ref1_InsRight_l5 i false
def k_ref1_InsRight_l2 (i : El T_api_Ins) (h : Bool) : Bool :=
  bif h then
    true
  else bif (i.1 == (11 : Int)) then
    bif (decide (i.2.2.1 < (1 : Int))) then
      k_ref1_InsRight_l5 i true
    else bif (decide (i.2.2.1 > (10 : Int))) then
      k_ref1_InsRight_l5 i true
    else bif (i.1 != (11 : Int)) then
      k_ref1_InsRight_l5 i (i.2.2.1 != (0 : Int))
    else k_ref1_InsRight_l5 i false
  else bif (i.1 != (11 : Int)) then
    k_ref1_InsRight_l5 i (i.2.2.1 != (0 : Int))
  else k_ref1_InsRight_l5 i false
theorem g_ref1_InsRight_l2 (i : El T_api_Ins) (h : Bool) (hk : k_ref1_InsRight_l2 i h = true) : Goes (T_ref1_InsRight i) (.jmp (.l2 h)) (v_ref1_InsRight_l2 i h) :=
  Goes.jmp (Goes.brk hk (fun hk =>
    Goes.leaf) (fun hk =>
    Goes.brk hk (fun hk =>
      Goes.brk hk (fun hk =>
        g_ref1_InsRight_l5 i true hk) (fun hk =>
        Goes.brk hk (fun hk =>
          g_ref1_InsRight_l5 i true hk) (fun hk =>
          Goes.brk hk (fun hk =>
            g_ref1_InsRight_l5 i (i.2.2.1 != (0 : Int)) hk) (fun hk =>
            g_ref1_InsRight_l5 i false hk)))) (fun hk =>
      Goes.brk hk (fun hk =>
        g_ref1_InsRight_l5 i (i.2.2.1 != (0 : Int)) hk) (fun hk =>
        g_ref1_InsRight_l5 i false hk))))
def u_ref1_InsRight (i : El T_api_Ins) : Int :=
  bif (decide (i.1 < (1 : Int))) then
    v_ref1_InsRight_l2 i true
  else bif (decide (i.1 > (14 : Int))) then
    v_ref1_InsRight_l2 i true
  else bif (! (v_ref1_row i)) then
    v_ref1_InsRight_l2 i true
  else bif (! (v_ref1_Jumps i.1)) then
    v_ref1_InsRight_l2 i (! (eqB i.2.2.2.2.2.1 (bs [])))
  else v_ref1_InsRight_l2 i false
def ku_ref1_InsRight (i : El T_api_Ins) : Bool :=
  bif (decide (i.1 < (1 : Int))) then
    k_ref1_InsRight_l2 i true
  else bif (decide (i.1 > (14 : Int))) then
    k_ref1_InsRight_l2 i true
  else bif (! (v_ref1_row i)) then
    k_ref1_InsRight_l2 i true
  else bif (! (v_ref1_Jumps i.1)) then
    k_ref1_InsRight_l2 i (! (eqB i.2.2.2.2.2.1 (bs [])))
  else k_ref1_InsRight_l2 i false
theorem gu_ref1_InsRight (i : El T_api_Ins) (hk : ku_ref1_InsRight i = true) : Goes (T_ref1_InsRight i) (T0_ref1_InsRight i) (u_ref1_InsRight i) :=
  Goes.brk hk (fun hk =>
    g_ref1_InsRight_l2 i true hk) (fun hk =>
    Goes.brk hk (fun hk =>
      g_ref1_InsRight_l2 i true hk) (fun hk =>
      Goes.brk hk (fun hk =>
        g_ref1_InsRight_l2 i true hk) (fun hk =>
        Goes.brk hk (fun hk =>
          g_ref1_InsRight_l2 i (! (eqB i.2.2.2.2.2.1 (bs []))) hk) (fun hk =>
          g_ref1_InsRight_l2 i false hk))))
def R_ref1_InsRight : Int → AV := fun (r : Int) => .d (.int .i64) r
def S_ref1_InsRight (i : El T_api_Ins) : J_ref1_InsRight → Nat × St
  | .l2 h => (2, ⟨mkTm 59 [(1, .pt 2 0 0), (26, .d .bool h)], [(2, 0, .box 48 [.d (.int .i64) i.1, .d .bool i.2.1, .d (.int .i64) i.2.2.1, .d (.int .i64) i.2.2.2.1.1, .d (.int .i64) i.2.2.2.1.2.1, .d (.int .i64) i.2.2.2.1.2.2.1, .d (.int .i64) i.2.2.2.1.2.2.2, .d (.int .i64) i.2.2.2.2.1.1, .d (.int .i64) i.2.2.2.2.1.2.1, .d (.int .i64) i.2.2.2.2.1.2.2.1, .d (.int .i64) i.2.2.2.2.1.2.2.2, .d .str i.2.2.2.2.2.1, .d (.sl .str) i.2.2.2.2.2.2] none)]⟩)
  | .l5 h => (5, ⟨mkTm 59 [(1, .pt 2 0 0), (49, .d .bool h)], [(2, 0, .box 48 [.d (.int .i64) i.1, .d .bool i.2.1, .d (.int .i64) i.2.2.1, .d (.int .i64) i.2.2.2.1.1, .d (.int .i64) i.2.2.2.1.2.1, .d (.int .i64) i.2.2.2.1.2.2.1, .d (.int .i64) i.2.2.2.1.2.2.2, .d (.int .i64) i.2.2.2.2.1.1, .d (.int .i64) i.2.2.2.2.1.2.1, .d (.int .i64) i.2.2.2.2.1.2.2.1, .d (.int .i64) i.2.2.2.2.1.2.2.2, .d .str i.2.2.2.2.2.1, .d (.sl .str) i.2.2.2.2.2.2] none)]⟩)
theorem en_ref1_InsRight (i : El T_api_Ins) (L : Lt) : entryA Go.Proofs.Tryd.prog (clOf t_ref1_InsRight) tb_ref1_InsRight Go.Proofs.Tryd.f30 c_ref1_InsRight L (toForms sg_ref1_InsRight (i, ())) = (T0_ref1_InsRight i).run (fun v => some (R_ref1_InsRight v, tps (toForms sg_ref1_InsRight (i, ())))) fun j => L (S_ref1_InsRight i j).1 (S_ref1_InsRight i j).2 := by kernel_rfl
theorem lp_ref1_InsRight (i : El T_api_Ins) : ∀ (L : Lt) (j : J_ref1_InsRight), procOf (procsF Go.Proofs.Tryd.prog (clOf t_ref1_InsRight) tb_ref1_InsRight Go.Proofs.Tryd.f30 c_ref1_InsRight (toForms sg_ref1_InsRight (i, ()))) (S_ref1_InsRight i j).1 L (S_ref1_InsRight i j).2 = (T_ref1_InsRight i j).run (fun v => some (R_ref1_InsRight v, tps (toForms sg_ref1_InsRight (i, ())))) fun j => L (S_ref1_InsRight i j).1 (S_ref1_InsRight i j).2
  | L, .l2 h => by kernel_rfl
  | L, .l5 h => by kernel_rfl
end
end Go.Ev
end

section
set_option linter.unusedSectionVars false
set_option linter.unusedVariables false
set_option linter.unusedSimpArgs false
set_option linter.unusedVariables false
set_option linter.unusedSimpArgs false
open Go
namespace Go.Ev
def refRB_l5 (op cond : Int) (row nm te : Bool) (h : Bool) : Int :=
  bif h then
    (4 : Int)
  else bif (bif (op == (10 : Int)) then true else (op == (11 : Int))) then
    bif true then
      bif (! nm) then
        (3 : Int)
      else (0 : Int)
    else (0 : Int)
  else (0 : Int)
def refRB_l2 (op cond : Int) (row nm te : Bool) (h : Bool) : Int :=
  bif h then
    (4 : Int)
  else bif (op == (11 : Int)) then
    bif (decide (cond < (1 : Int))) then
      refRB_l5 op cond row nm te true
    else bif (decide (cond > (10 : Int))) then
      refRB_l5 op cond row nm te true
    else bif (op != (11 : Int)) then
      refRB_l5 op cond row nm te (cond != (0 : Int))
    else refRB_l5 op cond row nm te false
  else bif (op != (11 : Int)) then
    refRB_l5 op cond row nm te (cond != (0 : Int))
  else refRB_l5 op cond row nm te false
def refRB (op cond : Int) (row nm te : Bool) : Int :=
  bif (decide (op < (1 : Int))) then
    refRB_l2 op cond row nm te true
  else bif (decide (op > (14 : Int))) then
    refRB_l2 op cond row nm te true
  else bif (! row) then
    refRB_l2 op cond row nm te true
  else bif (! (bif (op == (10 : Int)) then true else (op == (11 : Int)))) then
    refRB_l2 op cond row nm te (! te)
  else refRB_l2 op cond row nm te false
def insRB (op cond : Int) (row nm te : Bool) : Int :=
  bif (op == (10 : Int)) then
    bif (! (decide (1 ≤ op) && (decide (op ≤ 14) && (row && condOK op cond)))) then
      (4 : Int)
    else bif true then
      bif (! nm) then
        (3 : Int)
      else (0 : Int)
    else (0 : Int)
  else bif (! (decide (1 ≤ op) && (decide (op ≤ 14) && (row && condOK op cond)))) then
    (4 : Int)
  else bif (! (op == (11 : Int))) then
    bif (! te) then
      (4 : Int)
    else bif (op == (11 : Int)) then
      bif true then
        bif (! nm) then
          (3 : Int)
        else (0 : Int)
      else (0 : Int)
    else (0 : Int)
  else bif (op == (11 : Int)) then
    bif true then
      bif (! nm) then
        (3 : Int)
      else (0 : Int)
    else (0 : Int)
  else (0 : Int)

theorem rightB (op cond : Int) (row nm te : Bool) : refRB op cond row nm te = insRB op cond row nm te := by
  unfold refRB refRB_l2 refRB_l5 insRB condOK
  have beqs : ∀ (k c : Int), (k == c) = decide (k = c) := fun k c => by rw [Bool.eq_iff_iff]; simp
  have bnes : ∀ (k c : Int), (k != c) = !decide (k = c) := fun k c => by rw [Bool.eq_iff_iff]; simp
  simp only [beqs, bnes]
  by_cases h1 : op < 1
  · have e1 : decide (op = 10) = false := by simp; omega
    have e2 : decide (op = 11) = false := by simp; omega
    have e3 : decide (1 ≤ op) = false := by simp; omega
    simp [h1, e1, e2, e3]
  by_cases h2 : op > 14
  · have e1 : decide (op = 10) = false := by simp; omega
    have e2 : decide (op = 11) = false := by simp; omega
    have e3 : decide (op ≤ 14) = false := by simp; omega
    simp [h1, h2, e1, e2, e3]
  have e3 : decide (1 ≤ op) = true := by simp; omega
  have e4 : decide (op ≤ 14) = true := by simp; omega
  by_cases h10 : op = 10
  · subst h10
    by_cases hc : cond = 0 <;> cases row <;> cases nm <;> simp [hc]
  by_cases h11 : op = 11
  · subst h11
    have f1 : decide (1 ≤ cond) = !decide (cond < 1) := by by_cases h : cond < 1 <;> simp [h] <;> omega
    have f2 : decide (cond ≤ 10) = !decide (cond > 10) := by by_cases h : cond > 10 <;> simp [h] <;> omega
    rw [f1, f2]
    by_cases hc : cond < 1 <;> by_cases hd : cond > 10 <;> cases row <;> cases nm <;> simp [hc, hd]
  by_cases hc : cond = 0 <;> cases row <;> cases te <;> simp [h1, h2, h10, h11, e3, e4, hc]
def v_ref1_InsRight (i : El T_api_Ins) : Int := v_ins_Right i
def k_ref1_InsRight (i : El T_api_Ins) : Bool := smallText i.2.2.2.2.2.1
theorem g_ref1_InsRight (i : El T_api_Ins) (hk : k_ref1_InsRight i = true) : Goes (T_ref1_InsRight i) (T0_ref1_InsRight i) (v_ref1_InsRight i) := by
  have h1 : k_ref1_Right i.2.2.2.2.2.1 = true := hk
  have h2 : k_names_Right i.2.2.2.2.2.1 = true := hk
  have hku : ku_ref1_InsRight i = true := by
    unfold ku_ref1_InsRight k_ref1_InsRight_l2 k_ref1_InsRight_l5
    simp only [h1, cond_true, Bool.cond_self]
  have hr : u_ref1_InsRight i = refRB i.1 i.2.2.1 (v_ref1_row i) (nameRight i.2.2.2.2.2.1) (eqB i.2.2.2.2.2.1 (bs [])) := by
    unfold u_ref1_InsRight v_ref1_InsRight_l2 v_ref1_InsRight_l5
    simp only [h1]
    rfl
  have hp : u_ins_Right i = insRB i.1 i.2.2.1 (v_ref1_row i) (nameRight i.2.2.2.2.2.1) (eqB i.2.2.2.2.2.1 (bs [])) := by
    unfold u_ins_Right
    simp only [h2, fits_row]
    rfl
  have e : v_ref1_InsRight i = u_ref1_InsRight i := by
    rw [hr, rightB, ← hp]
    rfl
  rw [e]
  exact gu_ref1_InsRight i hku
end Go.Ev
end

section
set_option linter.unusedSectionVars false
set_option linter.unusedVariables false
set_option linter.unusedSimpArgs false
set_option maxRecDepth 100000
set_option linter.unusedVariables false
open Go Go.Ev
namespace Go.Ev
noncomputable section
noncomputable def e_ref1_InsRight : Run := entG sg_ref1_InsRight R_ref1_InsRight (fun a => k_ref1_InsRight a.1) (fun a => v_ref1_InsRight a.1)
theorem ok_ref1_InsRight : EntOK Go.Proofs.Tryd.prog 30 e_ref1_InsRight := entG_ok (tb := tb_ref1_InsRight) (c := c_ref1_InsRight) tk_ref1_InsRight (by kernel_rfl) (by kernel_rfl) (by kernel_rfl) (fun a => by kernel_rfl) fun ⟨i, _⟩ hk => evF_goes (c := c_ref1_InsRight) (K := fun v => (R_ref1_InsRight v, tps (toForms sg_ref1_InsRight (i, ())))) (S := S_ref1_InsRight i) (by kernel_rfl) (en_ref1_InsRight i) (lp_ref1_InsRight i) (g_ref1_InsRight i hk)
end
end Go.Ev
end

section
set_option linter.unusedSectionVars false
set_option linter.unusedVariables false
set_option linter.unusedSimpArgs false
set_option maxRecDepth 100000
set_option linter.unusedVariables false
open Go Go.Ev
namespace Go.Ev
noncomputable section
/-! ### paling/palingref1.Leads -/
def sg_ref1_Leads : Sig := [(true, T_api_Ins)]
noncomputable def t_ref1_Leads : Tbl := [(30, e_ref1_InsRight), (42, e_ref1_Jumps)]
theorem tk_ref1_Leads : ∀ p ∈ t_ref1_Leads, EntOK Go.Proofs.Tryd.prog p.1 p.2 := tbl_cons ok_ref1_InsRight (tbl_cons ok_ref1_Jumps (tbl_nil))
noncomputable def c_ref1_Leads : Code := Go.Proofs.Tryd.f48.body.getD .skip
def tb_ref1_Leads : Tb := []
def T_ref1_Leads (i : El T_api_Ins) : Empty → JT Empty (Bool × Bool) := fun j => nomatch j
def T0_ref1_Leads (i : El T_api_Ins) : JT Empty (Bool × Bool) :=
  .br (k_ref1_InsRight i)
    (.br ((v_ref1_InsRight i) != (0 : Int))
      (.leaf (false, false))
    (.br (i.1 != (10 : Int))
      (.leaf ((i.1 != (14 : Int)), (v_ref1_Jumps i.1)))
    (.leaf (false, (v_ref1_Jumps i.1)))))
  (.no)
def v_ref1_Leads (i : El T_api_Ins) : Bool × Bool :=
  bif (k_ref1_InsRight i) then
    bif ((v_ref1_InsRight i) != (0 : Int)) then
      (false, false)
    else bif (i.1 != (10 : Int)) then
      ((i.1 != (14 : Int)), (v_ref1_Jumps i.1))
    else (false, (v_ref1_Jumps i.1))
  else (false, false)
def k_ref1_Leads (i : El T_api_Ins) : Bool :=
  bif (k_ref1_InsRight i) then
    bif ((v_ref1_InsRight i) != (0 : Int)) then
      true
    else bif (i.1 != (10 : Int)) then
      true
    else true
  else false
theorem g_ref1_Leads (i : El T_api_Ins) (hk : k_ref1_Leads i = true) : Goes (T_ref1_Leads i) (T0_ref1_Leads i) (v_ref1_Leads i) :=
  Goes.brk hk (fun hk =>
    Goes.brk hk (fun hk =>
      Goes.leaf) (fun hk =>
      Goes.brk hk (fun hk =>
        Goes.leaf) (fun hk =>
        Goes.leaf))) (fun hk =>
    Goes.nok hk)
def R_ref1_Leads : Bool × Bool → AV := fun (r : Bool × Bool) => .tu [.d .bool r.1, .d .bool r.2]
def S_ref1_Leads (i : El T_api_Ins) : Empty → Nat × St := fun j => nomatch j
theorem en_ref1_Leads (i : El T_api_Ins) (L : Lt) : entryA Go.Proofs.Tryd.prog (clOf t_ref1_Leads) tb_ref1_Leads Go.Proofs.Tryd.f48 c_ref1_Leads L (toForms sg_ref1_Leads (i, ())) = (T0_ref1_Leads i).run (fun v => some (R_ref1_Leads v, tps (toForms sg_ref1_Leads (i, ())))) fun j => L (S_ref1_Leads i j).1 (S_ref1_Leads i j).2 := by kernel_rfl
theorem lp_ref1_Leads (i : El T_api_Ins) : ∀ (L : Lt) (j : Empty), procOf (procsF Go.Proofs.Tryd.prog (clOf t_ref1_Leads) tb_ref1_Leads Go.Proofs.Tryd.f48 c_ref1_Leads (toForms sg_ref1_Leads (i, ()))) (S_ref1_Leads i j).1 L (S_ref1_Leads i j).2 = (T_ref1_Leads i j).run (fun v => some (R_ref1_Leads v, tps (toForms sg_ref1_Leads (i, ())))) fun j => L (S_ref1_Leads i j).1 (S_ref1_Leads i j).2 := fun L j => nomatch j
noncomputable def e_ref1_Leads : Run := entG sg_ref1_Leads R_ref1_Leads (fun a => k_ref1_Leads a.1) (fun a => v_ref1_Leads a.1)
theorem ok_ref1_Leads : EntOK Go.Proofs.Tryd.prog 48 e_ref1_Leads := entG_ok (tb := tb_ref1_Leads) (c := c_ref1_Leads) tk_ref1_Leads (by kernel_rfl) (by kernel_rfl) (by kernel_rfl) (fun a => by kernel_rfl) fun ⟨i, _⟩ hk => evF_goes (c := c_ref1_Leads) (K := fun v => (R_ref1_Leads v, tps (toForms sg_ref1_Leads (i, ())))) (S := S_ref1_Leads i) (by kernel_rfl) (en_ref1_Leads i) (lp_ref1_Leads i) (g_ref1_Leads i hk)
end
end Go.Ev
end

section
set_option linter.unusedSectionVars false
set_option linter.unusedVariables false
set_option linter.unusedSimpArgs false
set_option maxRecDepth 100000
set_option linter.unusedVariables false
open Go Go.Ev
namespace Go.Ev
noncomputable section
/-! ### paling/palingref1.Find -/
def sg_ref1_Find : Sig := [(true, (.sl T_api_Ins)), (false, .str)]
noncomputable def t_ref1_Find : Tbl := [(77, e_ref1_index)]
theorem tk_ref1_Find : ∀ p ∈ t_ref1_Find, EntOK Go.Proofs.Tryd.prog p.1 p.2 := tbl_cons ok_ref1_index (tbl_nil)
noncomputable def c_ref1_Find : Code := Go.Proofs.Tryd.f49.body.getD .skip
def tb_ref1_Find : Tb := [(3, ⟨[1, 2, 5], []⟩)]
inductive J_ref1_Find where
  | l3 (i : Int)
def T_ref1_Find (t : List (El T_api_Ins)) (label : ByteArray) : J_ref1_Find → JT J_ref1_Find (Int)
  | .l3 i =>
    .br (decide (i < (Int.ofNat (List.length t))))
      (.br ((decide ((0 : Int) ≤ i)) && (decide (i < (Int.ofNat (List.length t)))))
        (.br (k_ref1_index (List.getD t (Int.toNat i) (dflt T_api_Ins)).2.2.2.2.2.2 label)
          (.br (decide ((v_ref1_index (List.getD t (Int.toNat i) (dflt T_api_Ins)).2.2.2.2.2.2 label) ≥ (0 : Int)))
            (.leaf i)
          (.jmp (.l3 (IntKind.i64.wrap (i + (1 : Int))))))
        (.no))
      (.no))
    (.leaf (-1 : Int))
def T0_ref1_Find (t : List (El T_api_Ins)) (label : ByteArray) : JT J_ref1_Find (Int) :=
  .jmp (.l3 (0 : Int))
def R_ref1_Find : Int → AV := fun (r : Int) => .d (.int .i64) r
def S_ref1_Find (t : List (El T_api_Ins)) (label : ByteArray) : J_ref1_Find → Nat × St
  | .l3 i => (3, ⟨mkTm 23 [(1, .d .str label), (2, .pt 3 0 0), (5, .d (.int .i64) i)], [(3, 0, .box 32 [.d (.sl T_api_Ins) t] none)]⟩)
theorem en_ref1_Find (t : List (El T_api_Ins)) (label : ByteArray) (L : Lt) : entryA Go.Proofs.Tryd.prog (clOf t_ref1_Find) tb_ref1_Find Go.Proofs.Tryd.f49 c_ref1_Find L (toForms sg_ref1_Find (t, label, ())) = (T0_ref1_Find t label).run (fun v => some (R_ref1_Find v, tps (toForms sg_ref1_Find (t, label, ())))) fun j => L (S_ref1_Find t label j).1 (S_ref1_Find t label j).2 := by kernel_rfl
theorem lp_ref1_Find (t : List (El T_api_Ins)) (label : ByteArray) : ∀ (L : Lt) (j : J_ref1_Find), procOf (procsF Go.Proofs.Tryd.prog (clOf t_ref1_Find) tb_ref1_Find Go.Proofs.Tryd.f49 c_ref1_Find (toForms sg_ref1_Find (t, label, ()))) (S_ref1_Find t label j).1 L (S_ref1_Find t label j).2 = (T_ref1_Find t label j).run (fun v => some (R_ref1_Find v, tps (toForms sg_ref1_Find (t, label, ())))) fun j => L (S_ref1_Find t label j).1 (S_ref1_Find t label j).2
  | L, .l3 i => by kernel_rfl
end
end Go.Ev
end

section
set_option linter.unusedSectionVars false
set_option linter.unusedVariables false
set_option linter.unusedSimpArgs false
set_option linter.unusedVariables false
set_option linter.unusedSimpArgs false
open Go
namespace Go.Ev
def v_ref1_Find (t : List (El T_api_Ins)) (label : ByteArray) : Int := findI label t 0
def k_ref1_Find (t : List (El T_api_Ins)) (label : ByteArray) : Bool := decide (t.length < 1099511627776) && t.all fun i => decide (i.2.2.2.2.2.2.length < 1099511627776)
theorem g_ref1_Find (t : List (El T_api_Ins)) (label : ByteArray) (hk : k_ref1_Find t label = true) : Goes (T_ref1_Find t label) (T0_ref1_Find t label) (v_ref1_Find t label) := by
  unfold k_ref1_Find at hk
  simp only [Bool.and_eq_true, decide_eq_true_eq, List.all_eq_true] at hk
  obtain ⟨hn, hl⟩ := hk
  have loop : ∀ k, k ≤ t.length → Goes (T_ref1_Find t label) (.jmp (.l3 (k : Int))) (findI label (t.drop k) k) := by
    refine down ?_ fun k hk ih => ?_
    · rw [goes_jmp]
      simp only [T_ref1_Find, goes_br, lt_len_not (Nat.lt_irrefl _), goes_leaf, List.drop_length]
      simp [findI]
    · have hli := hl t[k] (List.getElem_mem hk)
      have hki : k_ref1_index t[k].2.2.2.2.2.2 label = true := decide_eq_true (by omega)
      rw [goes_jmp]
      simp only [T_ref1_Find, goes_br, lt_len hk, nng, Bool.and_self, if_true, Int.toNat_natCast, getD_lt hk, wrap_succ (k := k) (by omega), hki]
      rw [drop_cons hk]
      unfold findI
      have hi : decide (v_ref1_index t[k].2.2.2.2.2.2 label ≥ 0) = t[k].2.2.2.2.2.2.contains label := by
        rw [← findFrom_contains (k := 0)]
        unfold v_ref1_index
        cases h : findFrom label t[k].2.2.2.2.2.2 0 with
        | none => rfl
        | some n => simp
      rw [hi]
      split
      · exact .leaf
      · exact ih
  unfold T0_ref1_Find v_ref1_Find
  simpa using loop 0 (Nat.zero_le _)
end Go.Ev
end

section
set_option linter.unusedSectionVars false
set_option linter.unusedVariables false
set_option linter.unusedSimpArgs false
set_option maxRecDepth 100000
set_option linter.unusedVariables false
open Go Go.Ev
namespace Go.Ev
noncomputable section
noncomputable def e_ref1_Find : Run := entG sg_ref1_Find R_ref1_Find (fun a => k_ref1_Find a.1 a.2.1) (fun a => v_ref1_Find a.1 a.2.1)
theorem ok_ref1_Find : EntOK Go.Proofs.Tryd.prog 49 e_ref1_Find := entG_ok (tb := tb_ref1_Find) (c := c_ref1_Find) tk_ref1_Find (by kernel_rfl) (by kernel_rfl) (by kernel_rfl) (fun a => by kernel_rfl) fun ⟨t, label, _⟩ hk => evF_goes (c := c_ref1_Find) (K := fun v => (R_ref1_Find v, tps (toForms sg_ref1_Find (t, label, ())))) (S := S_ref1_Find t label) (by kernel_rfl) (en_ref1_Find t label) (lp_ref1_Find t label) (g_ref1_Find t label hk)
end
end Go.Ev
end

section
set_option linter.unusedSectionVars false
set_option linter.unusedVariables false
set_option linter.unusedSimpArgs false
set_option maxRecDepth 100000
set_option linter.unusedVariables false
open Go Go.Ev
namespace Go.Ev
noncomputable section
/-! ### paling/palingref3.next -/
def sg_ref3_next : Sig := [(true, (.sl T_api_Ins)), (false, (.int .i64))]
noncomputable def t_ref3_next : Tbl := [(48, e_ref1_Leads), (49, e_ref1_Find)]
theorem tk_ref3_next : ∀ p ∈ t_ref3_next, EntOK Go.Proofs.Tryd.prog p.1 p.2 := tbl_cons ok_ref1_Leads (tbl_cons ok_ref1_Find (tbl_nil))
noncomputable def c_ref3_next : Code := Go.Proofs.Tryd.f39.body.getD .skip
def tb_ref3_next : Tb := [(6, ⟨[1, 2, 5, 7], []⟩)]
inductive J_ref3_next where
  | l6 (jumps : Bool) (is : List Bool)
def T_ref3_next (t : List (El T_api_Ins)) (i : Int) : J_ref3_next → JT J_ref3_next (List Bool)
  | .l6 jumps is =>
    .br jumps
      (.br ((decide ((0 : Int) ≤ i)) && (decide (i < (Int.ofNat (List.length t)))))
        (.br (k_ref1_Find t (List.getD t (Int.toNat i) (dflt T_api_Ins)).2.2.2.2.2.1)
          (.br (decide ((v_ref1_Find t (List.getD t (Int.toNat i) (dflt T_api_Ins)).2.2.2.2.2.1) ≥ (0 : Int)))
            (.br ((decide ((0 : Int) ≤ (v_ref1_Find t (List.getD t (Int.toNat i) (dflt T_api_Ins)).2.2.2.2.2.1))) && (decide ((v_ref1_Find t (List.getD t (Int.toNat i) (dflt T_api_Ins)).2.2.2.2.2.1) < (Int.ofNat (List.length is)))))
              (.leaf (List.set is (Int.toNat (v_ref1_Find t (List.getD t (Int.toNat i) (dflt T_api_Ins)).2.2.2.2.2.1)) true))
            (.no))
          (.leaf is))
        (.no))
      (.no))
    (.leaf is)
def T0_ref3_next (t : List (El T_api_Ins)) (i : Int) : JT J_ref3_next (List Bool) :=
  .br ((((Int.ofNat (List.length t)) == (Int.ofNat (List.length t))) && (decide ((0 : Int) ≤ (Int.ofNat (List.length t))))) && (decide (((Int.ofNat (List.length t)) * (1 : Int)) ≤ (limit : Int))))
    (.br (decide (i < (0 : Int)))
      (.leaf (List.replicate (List.length t) false))
    (.br (decide (i ≥ (Int.ofNat (List.length t))))
      (.leaf (List.replicate (List.length t) false))
    (.br ((decide ((0 : Int) ≤ i)) && (decide (i < (Int.ofNat (List.length t)))))
      (.br (k_ref1_Leads (List.getD t (Int.toNat i) (dflt T_api_Ins)))
        (.br (v_ref1_Leads (List.getD t (Int.toNat i) (dflt T_api_Ins))).1
          (.br (decide ((IntKind.i64.wrap (i + (1 : Int))) < (Int.ofNat (List.length t))))
            (.br ((decide ((0 : Int) ≤ (IntKind.i64.wrap (i + (1 : Int))))) && (decide ((IntKind.i64.wrap (i + (1 : Int))) < (Int.ofNat (List.length (List.replicate (List.length t) false))))))
              (.jmp (.l6 (v_ref1_Leads (List.getD t (Int.toNat i) (dflt T_api_Ins))).2 (List.set (List.replicate (List.length t) false) (Int.toNat (IntKind.i64.wrap (i + (1 : Int)))) true)))
            (.no))
          (.jmp (.l6 (v_ref1_Leads (List.getD t (Int.toNat i) (dflt T_api_Ins))).2 (List.replicate (List.length t) false))))
        (.jmp (.l6 (v_ref1_Leads (List.getD t (Int.toNat i) (dflt T_api_Ins))).2 (List.replicate (List.length t) false))))
      (.no))
    (.no))))
  (.no)
def v_ref3_next_l6 (t : List (El T_api_Ins)) (i : Int) (jumps : Bool) (is : List Bool) : List Bool :=
  bif jumps then
    bif ((decide ((0 : Int) ≤ i)) && (decide (i < (Int.ofNat (List.length t))))) then
      bif (k_ref1_Find t (List.getD t (Int.toNat i) (dflt T_api_Ins)).2.2.2.2.2.1) then
        bif (decide ((v_ref1_Find t (List.getD t (Int.toNat i) (dflt T_api_Ins)).2.2.2.2.2.1) ≥ (0 : Int))) then
          bif ((decide ((0 : Int) ≤ (v_ref1_Find t (List.getD t (Int.toNat i) (dflt T_api_Ins)).2.2.2.2.2.1))) && (decide ((v_ref1_Find t (List.getD t (Int.toNat i) (dflt T_api_Ins)).2.2.2.2.2.1) < (Int.ofNat (List.length is))))) then
            (List.set is (Int.toNat (v_ref1_Find t (List.getD t (Int.toNat i) (dflt T_api_Ins)).2.2.2.2.2.1)) true)
          else []
        else is
      else []
    else []
  else is
def k_ref3_next_l6 (t : List (El T_api_Ins)) (i : Int) (jumps : Bool) (is : List Bool) : Bool :=
  bif jumps then
    bif ((decide ((0 : Int) ≤ i)) && (decide (i < (Int.ofNat (List.length t))))) then
      bif (k_ref1_Find t (List.getD t (Int.toNat i) (dflt T_api_Ins)).2.2.2.2.2.1) then
        bif (decide ((v_ref1_Find t (List.getD t (Int.toNat i) (dflt T_api_Ins)).2.2.2.2.2.1) ≥ (0 : Int))) then
          bif ((decide ((0 : Int) ≤ (v_ref1_Find t (List.getD t (Int.toNat i) (dflt T_api_Ins)).2.2.2.2.2.1))) && (decide ((v_ref1_Find t (List.getD t (Int.toNat i) (dflt T_api_Ins)).2.2.2.2.2.1) < (Int.ofNat (List.length is))))) then
            true
          else false
        else true
      else false
    else false
  else true
theorem g_ref3_next_l6 (t : List (El T_api_Ins)) (i : Int) (jumps : Bool) (is : List Bool) (hk : k_ref3_next_l6 t i jumps is = true) : Goes (T_ref3_next t i) (.jmp (.l6 jumps is)) (v_ref3_next_l6 t i jumps is) :=
  Goes.jmp (Goes.brk hk (fun hk =>
    Goes.brk hk (fun hk =>
      Goes.brk hk (fun hk =>
        Goes.brk hk (fun hk =>
          Goes.brk hk (fun hk =>
            Goes.leaf) (fun hk =>
            Goes.nok hk)) (fun hk =>
          Goes.leaf)) (fun hk =>
        Goes.nok hk)) (fun hk =>
      Goes.nok hk)) (fun hk =>
    Goes.leaf))
def u_ref3_next (t : List (El T_api_Ins)) (i : Int) : List Bool :=
  bif ((((Int.ofNat (List.length t)) == (Int.ofNat (List.length t))) && (decide ((0 : Int) ≤ (Int.ofNat (List.length t))))) && (decide (((Int.ofNat (List.length t)) * (1 : Int)) ≤ (limit : Int)))) then
    bif (decide (i < (0 : Int))) then
      (List.replicate (List.length t) false)
    else bif (decide (i ≥ (Int.ofNat (List.length t)))) then
      (List.replicate (List.length t) false)
    else bif ((decide ((0 : Int) ≤ i)) && (decide (i < (Int.ofNat (List.length t))))) then
      bif (k_ref1_Leads (List.getD t (Int.toNat i) (dflt T_api_Ins))) then
        bif (v_ref1_Leads (List.getD t (Int.toNat i) (dflt T_api_Ins))).1 then
          bif (decide ((IntKind.i64.wrap (i + (1 : Int))) < (Int.ofNat (List.length t)))) then
            bif ((decide ((0 : Int) ≤ (IntKind.i64.wrap (i + (1 : Int))))) && (decide ((IntKind.i64.wrap (i + (1 : Int))) < (Int.ofNat (List.length (List.replicate (List.length t) false)))))) then
              v_ref3_next_l6 t i (v_ref1_Leads (List.getD t (Int.toNat i) (dflt T_api_Ins))).2 (List.set (List.replicate (List.length t) false) (Int.toNat (IntKind.i64.wrap (i + (1 : Int)))) true)
            else []
          else v_ref3_next_l6 t i (v_ref1_Leads (List.getD t (Int.toNat i) (dflt T_api_Ins))).2 (List.replicate (List.length t) false)
        else v_ref3_next_l6 t i (v_ref1_Leads (List.getD t (Int.toNat i) (dflt T_api_Ins))).2 (List.replicate (List.length t) false)
      else []
    else []
  else []
def ku_ref3_next (t : List (El T_api_Ins)) (i : Int) : Bool :=
  bif ((((Int.ofNat (List.length t)) == (Int.ofNat (List.length t))) && (decide ((0 : Int) ≤ (Int.ofNat (List.length t))))) && (decide (((Int.ofNat (List.length t)) * (1 : Int)) ≤ (limit : Int)))) then
    bif (decide (i < (0 : Int))) then
      true
    else bif (decide (i ≥ (Int.ofNat (List.length t)))) then
      true
    else bif ((decide ((0 : Int) ≤ i)) && (decide (i < (Int.ofNat (List.length t))))) then
      bif (k_ref1_Leads (List.getD t (Int.toNat i) (dflt T_api_Ins))) then
        bif (v_ref1_Leads (List.getD t (Int.toNat i) (dflt T_api_Ins))).1 then
          bif (decide ((IntKind.i64.wrap (i + (1 : Int))) < (Int.ofNat (List.length t)))) then
            bif ((decide ((0 : Int) ≤ (IntKind.i64.wrap (i + (1 : Int))))) && (decide ((IntKind.i64.wrap (i + (1 : Int))) < (Int.ofNat (List.length (List.replicate (List.length t) false)))))) then
              k_ref3_next_l6 t i (v_ref1_Leads (List.getD t (Int.toNat i) (dflt T_api_Ins))).2 (List.set (List.replicate (List.length t) false) (Int.toNat (IntKind.i64.wrap (i + (1 : Int)))) true)
            else false
          else k_ref3_next_l6 t i (v_ref1_Leads (List.getD t (Int.toNat i) (dflt T_api_Ins))).2 (List.replicate (List.length t) false)
        else k_ref3_next_l6 t i (v_ref1_Leads (List.getD t (Int.toNat i) (dflt T_api_Ins))).2 (List.replicate (List.length t) false)
      else false
    else false
  else false
theorem gu_ref3_next (t : List (El T_api_Ins)) (i : Int) (hk : ku_ref3_next t i = true) : Goes (T_ref3_next t i) (T0_ref3_next t i) (u_ref3_next t i) :=
  Goes.brk hk (fun hk =>
    Goes.brk hk (fun hk =>
      Goes.leaf) (fun hk =>
      Goes.brk hk (fun hk =>
        Goes.leaf) (fun hk =>
        Goes.brk hk (fun hk =>
          Goes.brk hk (fun hk =>
            Goes.brk hk (fun hk =>
              Goes.brk hk (fun hk =>
                Goes.brk hk (fun hk =>
                  g_ref3_next_l6 t i (v_ref1_Leads (List.getD t (Int.toNat i) (dflt T_api_Ins))).2 (List.set (List.replicate (List.length t) false) (Int.toNat (IntKind.i64.wrap (i + (1 : Int)))) true) hk) (fun hk =>
                  Goes.nok hk)) (fun hk =>
                g_ref3_next_l6 t i (v_ref1_Leads (List.getD t (Int.toNat i) (dflt T_api_Ins))).2 (List.replicate (List.length t) false) hk)) (fun hk =>
              g_ref3_next_l6 t i (v_ref1_Leads (List.getD t (Int.toNat i) (dflt T_api_Ins))).2 (List.replicate (List.length t) false) hk)) (fun hk =>
            Goes.nok hk)) (fun hk =>
          Goes.nok hk)))) (fun hk =>
    Goes.nok hk)
def R_ref3_next : List Bool → AV := fun (r : List Bool) => .rw 4 .bool r
def S_ref3_next (t : List (El T_api_Ins)) (i : Int) : J_ref3_next → Nat × St
  | .l6 jumps is => (6, ⟨mkTm 60 [(1, .d (.int .i64) i), (2, .pt 3 0 0), (5, .own 6 0 none), (7, .d .bool jumps)], [(3, 0, .box 32 [.d (.sl T_api_Ins) t] none), (6, 0, .row 4 .bool is false)]⟩)
theorem en_ref3_next (t : List (El T_api_Ins)) (i : Int) (L : Lt) : entryA Go.Proofs.Tryd.prog (clOf t_ref3_next) tb_ref3_next Go.Proofs.Tryd.f39 c_ref3_next L (toForms sg_ref3_next (t, i, ())) = (T0_ref3_next t i).run (fun v => some (R_ref3_next v, tps (toForms sg_ref3_next (t, i, ())))) fun j => L (S_ref3_next t i j).1 (S_ref3_next t i j).2 := by kernel_rfl
theorem lp_ref3_next (t : List (El T_api_Ins)) (i : Int) : ∀ (L : Lt) (j : J_ref3_next), procOf (procsF Go.Proofs.Tryd.prog (clOf t_ref3_next) tb_ref3_next Go.Proofs.Tryd.f39 c_ref3_next (toForms sg_ref3_next (t, i, ()))) (S_ref3_next t i j).1 L (S_ref3_next t i j).2 = (T_ref3_next t i j).run (fun v => some (R_ref3_next v, tps (toForms sg_ref3_next (t, i, ())))) fun j => L (S_ref3_next t i j).1 (S_ref3_next t i j).2
  | L, .l6 jumps is => by kernel_rfl
end
end Go.Ev
end

section
set_option linter.unusedSectionVars false
set_option linter.unusedVariables false
set_option linter.unusedSimpArgs false
/- Both texts tell the same of where an instruction leads. -/
set_option maxRecDepth 100000
set_option linter.unusedVariables false
set_option linter.unusedSimpArgs false
open Go
namespace Go.Ev
theorem k_refLeads' {i : El T_api_Ins} (h : smallText i.2.2.2.2.2.1 = true) : k_ref1_Leads i = true := by
  have h1 : k_ref1_InsRight i = true := h
  unfold k_ref1_Leads
  simp only [h1, cond_true, Bool.cond_self]
theorem leads_eq' {i : El T_api_Ins} (h : smallText i.2.2.2.2.2.1 = true) : v_ref1_Leads i = v_ins_Leads i := by
  have h0 : k_ins_Right i = true := h
  have h1 : k_ref1_InsRight i = true := h
  unfold v_ref1_Leads v_ins_Leads v_ref1_InsRight v_ref1_Jumps
  simp only [h0, h1, cond_true]
  cases h10 : ((show Int from i.1) == 10) with
  | true => simp only [cond_true, bne, h10, Bool.not_true, cond_false]
  | false => simp only [cond_true, bne, h10, Bool.not_false, cond_false]
end Go.Ev
end

section
set_option linter.unusedSectionVars false
set_option linter.unusedVariables false
set_option linter.unusedSimpArgs false
set_option maxRecDepth 100000
set_option linter.unusedVariables false
set_option linter.unusedSimpArgs false
open Go
namespace Go.Ev
/-- What is so, as a row. -/
def rowOf (n : Nat) (M : Nat → Bool) : List Bool := (List.range n).map M
theorem rowOf_length {n : Nat} {M : Nat → Bool} : (rowOf n M).length = n := by simp [rowOf]
theorem rowOf_get {n : Nat} {M : Nat → Bool} {i : Nat} (h : i < n) : (rowOf n M)[i]? = some (M i) := by simp [rowOf, h]
theorem rowOf_set {n : Nat} {M : Nat → Bool} {i : Nat} : (rowOf n M).set i true = rowOf n fun j => M j || (j == i) := by
  apply List.ext_getElem?
  intro j
  rw [List.getElem?_set, rowOf_length]
  by_cases hj : j < n
  · rw [rowOf_get hj, rowOf_get hj]
    by_cases hi : i = j
    · subst hi; rw [if_pos rfl, if_pos hj]; simp
    · rw [if_neg hi]
      have : (j == i) = false := by simp; omega
      rw [this, Bool.or_false]
  · rw [List.getElem?_eq_none (by rw [rowOf_length]; omega), List.getElem?_eq_none (by rw [rowOf_length]; omega)]
    by_cases hi : i = j
    · rw [if_pos hi, if_neg (by omega)]
    · rw [if_neg hi]
theorem rowOf_congr {n : Nat} {M M' : Nat → Bool} (h : ∀ i, i < n → M i = M' i) : rowOf n M = rowOf n M' := List.map_congr_left fun i hi => h i (List.mem_range.1 hi)
theorem rowOf_none {n : Nat} : List.replicate n false = rowOf n fun _ => false := by
  apply List.ext_getElem?
  intro j
  by_cases hj : j < n
  · rw [rowOf_get hj]; simp [hj]
  · rw [List.getElem?_eq_none (by simp; omega), List.getElem?_eq_none (by rw [rowOf_length]; omega)]
def v_ref3_next (t : List (El T_api_Ins)) (i : Int) : List Bool := rowOf t.length (nextB t i)
def k_ref3_next (t : List (El T_api_Ins)) (i : Int) : Bool := flowOK t
theorem g_ref3_next (t : List (El T_api_Ins)) (i : Int) (hk : k_ref3_next t i = true) : Goes (T_ref3_next t i) (T0_ref3_next t i) (v_ref3_next t i) := by
  have hlen := flowOK_len hk
  have hout : ∀ i, ¬ (0 ≤ i ∧ i < (t.length : Int)) → List.replicate t.length false = rowOf t.length (nextB t i) := fun i h => by
    rw [rowOf_none]
    refine rowOf_congr fun j hj => ?_
    unfold nextB
    rw [decide_eq_false (fun hh => h ⟨hh.1, hh.2.1⟩), Bool.false_and]
  unfold T0_ref3_next v_ref3_next
  rw [goes_br, if_pos (by unfold limit; simp; omega), goes_br]
  by_cases h0 : i < 0
  · rw [if_pos (decide_eq_true h0), ← hout i (fun h => by omega)]; exact .leaf
  rw [if_neg (by simpa using h0), goes_br]
  obtain ⟨j, rfl⟩ := Int.eq_ofNat_of_zero_le (show 0 ≤ i by omega)
  by_cases h1 : (t.length : Int) ≤ (j : Int)
  · rw [if_pos (decide_eq_true (show (j : Int) ≥ Int.ofNat t.length from h1)), ← hout _ (fun h => by omega)]; exact .leaf
  have hj : j < t.length := by omega
  rw [if_neg (by simp; omega), goes_br, if_pos (bound_len hj), goes_br, Int.toNat_natCast]
  have hmem : t.getD j (dflt T_api_Ins) ∈ t := by rw [getD_lt hj]; exact List.getElem_mem hj
  have hsm := flowOK_text hk hmem
  rw [if_pos (k_refLeads' hsm), leads_eq' hsm]
  have kf : k_ref1_Find t (t.getD j (dflt T_api_Ins)).2.2.2.2.2.1 = true := flowOK_find hk
  have vf : v_ref1_Find t (t.getD j (dflt T_api_Ins)).2.2.2.2.2.1 = findI (t.getD j (dflt T_api_Ins)).2.2.2.2.2.1 t 0 := rfl
  have hw : IntKind.i64.wrap ((j : Int) + 1) = ((j + 1 : Nat) : Int) := wrap_succ (by omega)
  have hr := @toOf_lt t j
  -- the jump
  have l6 : ∀ (M : Nat → Bool), Goes (T_ref3_next t (j : Int)) (.jmp (.l6 (v_ins_Leads (t.getD j (dflt T_api_Ins))).2 (rowOf t.length M))) (rowOf t.length fun k => M k || decide (toOf t j = (k : Int))) := by
    intro M
    rw [goes_jmp, T_ref3_next, goes_br]
    by_cases hjmp : (v_ins_Leads (t.getD j (dflt T_api_Ins))).2 = true
    · have hto : toOf t j = findI (t.getD j (dflt T_api_Ins)).2.2.2.2.2.1 t 0 := by unfold toOf; rw [if_pos hjmp]
      rw [hto] at hr
      rw [if_pos hjmp, goes_br, if_pos (bound_len hj), goes_br, Int.toNat_natCast, if_pos kf, goes_br, vf, hto]
      generalize findI (t.getD j (dflt T_api_Ins)).2.2.2.2.2.1 t 0 = to at hr
      by_cases h2 : to ≥ 0
      · obtain ⟨k, rfl⟩ := Int.eq_ofNat_of_zero_le h2
        rw [if_pos (decide_eq_true h2), goes_br, if_pos (by rw [rowOf_length]; exact bound_len (by omega)), Int.toNat_natCast, rowOf_set]
        rw [show (rowOf t.length fun l => M l || decide ((k : Int) = (l : Int))) = rowOf t.length fun l => M l || (l == k) from rowOf_congr fun l _ => by
          congr 1
          rw [Bool.eq_iff_iff]; simp; omega]
        exact .leaf
      · rw [if_neg (by simpa using h2)]
        rw [show (rowOf t.length fun l => M l || decide (to = (l : Int))) = rowOf t.length M from rowOf_congr fun l _ => by
          rw [decide_eq_false (by omega), Bool.or_false]]
        exact .leaf
    · have hto : toOf t j = -1 := by unfold toOf; rw [if_neg hjmp]
      rw [if_neg hjmp, hto]
      rw [show (rowOf t.length fun l => M l || decide ((-1 : Int) = (l : Int))) = rowOf t.length M from rowOf_congr fun l _ => by
          rw [decide_eq_false (by omega), Bool.or_false]]
      exact .leaf
  have hB : ∀ k, k < t.length → nextB t (j : Int) k = ((onOf t j && decide ((k : Int) = (j : Int) + 1)) || decide (toOf t j = (k : Int))) := fun k hk => by
    unfold nextB
    rw [decide_eq_true (by omega), Bool.true_and, Int.toNat_natCast]
  rw [rowOf_none, goes_br]
  by_cases hon : (v_ins_Leads (t.getD j (dflt T_api_Ins))).1 = true
  · have hon' : onOf t j = true := hon
    rw [if_pos hon, goes_br, hw]
    by_cases hin : j + 1 < t.length
    · rw [if_pos (lt_len hin), goes_br, rowOf_length, if_pos (bound_len hin), Int.toNat_natCast, rowOf_set]
      have := l6 fun k => false || (k == j + 1)
      rw [show rowOf t.length (nextB t (j : Int)) = rowOf t.length fun k => (false || (k == j + 1)) || decide (toOf t j = (k : Int)) from rowOf_congr fun k hk => by
        rw [hB k hk, hon', Bool.true_and, Bool.false_or]
        congr 1
        rw [Bool.eq_iff_iff]; simp; omega]
      exact this
    · rw [if_neg (by rw [lt_len_not hin]; decide)]
      have := l6 fun _ => false
      rw [show rowOf t.length (nextB t (j : Int)) = rowOf t.length fun k => false || decide (toOf t j = (k : Int)) from rowOf_congr fun k hk => by
        rw [hB k hk, hon', Bool.true_and, decide_eq_false (show ¬ (k : Int) = (j : Int) + 1 by omega)]]
      exact this
  · have hon' : onOf t j = false := Bool.eq_false_iff.2 hon
    rw [if_neg hon]
    have := l6 fun _ => false
    rw [show rowOf t.length (nextB t (j : Int)) = rowOf t.length fun k => false || decide (toOf t j = (k : Int)) from rowOf_congr fun k hk => by
      rw [hB k hk, hon', Bool.false_and]]
    exact this
end Go.Ev
end

section
set_option linter.unusedSectionVars false
set_option linter.unusedVariables false
set_option linter.unusedSimpArgs false
set_option maxRecDepth 100000
set_option linter.unusedVariables false
open Go Go.Ev
namespace Go.Ev
noncomputable section
noncomputable def e_ref3_next : Run := entG sg_ref3_next R_ref3_next (fun a => k_ref3_next a.1 a.2.1) (fun a => v_ref3_next a.1 a.2.1)
theorem ok_ref3_next : EntOK Go.Proofs.Tryd.prog 39 e_ref3_next := entG_ok (tb := tb_ref3_next) (c := c_ref3_next) tk_ref3_next (by kernel_rfl) (by kernel_rfl) (by kernel_rfl) (fun a => by kernel_rfl) fun ⟨t, i, _⟩ hk => evF_goes (c := c_ref3_next) (K := fun v => (R_ref3_next v, tps (toForms sg_ref3_next (t, i, ())))) (S := S_ref3_next t i) (by kernel_rfl) (en_ref3_next t i) (lp_ref3_next t i) (g_ref3_next t i hk)
end
end Go.Ev
end

section
set_option linter.unusedSectionVars false
set_option linter.unusedVariables false
set_option linter.unusedSimpArgs false
set_option maxRecDepth 100000
set_option linter.unusedVariables false
open Go Go.Ev
namespace Go.Ev
noncomputable section
/-! ### paling/palingref3.In -/
def sg_ref3_In : Sig := [(false, (.sl (.int .i64))), (false, (.int .i64))]
noncomputable def t_ref3_In : Tbl := []
theorem tk_ref3_In : ∀ p ∈ t_ref3_In, EntOK Go.Proofs.Tryd.prog p.1 p.2 := tbl_nil
noncomputable def c_ref3_In : Code := Go.Proofs.Tryd.f12.body.getD .skip
def tb_ref3_In : Tb := [(3, ⟨[0, 1, 5], []⟩)]
inductive J_ref3_In where
  | l3 (i : Int)
def T_ref3_In (l : List Int) (n : Int) : J_ref3_In → JT J_ref3_In (Bool)
  | .l3 i =>
    .br (decide (i < (Int.ofNat (List.length l))))
      (.br ((decide ((0 : Int) ≤ i)) && (decide (i < (Int.ofNat (List.length l)))))
        (.br ((List.getD l (Int.toNat i) (dflt (.int .i64))) == n)
          (.leaf true)
        (.jmp (.l3 (IntKind.i64.wrap (i + (1 : Int))))))
      (.no))
    (.leaf false)
def T0_ref3_In (l : List Int) (n : Int) : JT J_ref3_In (Bool) :=
  .jmp (.l3 (0 : Int))
def R_ref3_In : Bool → AV := fun (r : Bool) => .d .bool r
def S_ref3_In (l : List Int) (n : Int) : J_ref3_In → Nat × St
  | .l3 i => (3, ⟨mkTm 18 [(0, .d (.sl (.int .i64)) l), (1, .d (.int .i64) n), (5, .d (.int .i64) i)], []⟩)
theorem en_ref3_In (l : List Int) (n : Int) (L : Lt) : entryA Go.Proofs.Tryd.prog (clOf t_ref3_In) tb_ref3_In Go.Proofs.Tryd.f12 c_ref3_In L (toForms sg_ref3_In (l, n, ())) = (T0_ref3_In l n).run (fun v => some (R_ref3_In v, tps (toForms sg_ref3_In (l, n, ())))) fun j => L (S_ref3_In l n j).1 (S_ref3_In l n j).2 := by kernel_rfl
theorem lp_ref3_In (l : List Int) (n : Int) : ∀ (L : Lt) (j : J_ref3_In), procOf (procsF Go.Proofs.Tryd.prog (clOf t_ref3_In) tb_ref3_In Go.Proofs.Tryd.f12 c_ref3_In (toForms sg_ref3_In (l, n, ()))) (S_ref3_In l n j).1 L (S_ref3_In l n j).2 = (T_ref3_In l n j).run (fun v => some (R_ref3_In v, tps (toForms sg_ref3_In (l, n, ())))) fun j => L (S_ref3_In l n j).1 (S_ref3_In l n j).2
  | L, .l3 i => by kernel_rfl
end
end Go.Ev
end

section
set_option linter.unusedSectionVars false
set_option linter.unusedVariables false
set_option linter.unusedSimpArgs false
set_option linter.unusedVariables false
set_option linter.unusedSimpArgs false
open Go
namespace Go.Ev
def v_ref3_In (l : List Int) (n : Int) : Bool := l.contains n
def k_ref3_In (l : List Int) (n : Int) : Bool := decide (l.length < 4611686018427387904)
theorem g_ref3_In (l : List Int) (n : Int) (hk : k_ref3_In l n = true) : Goes (T_ref3_In l n) (T0_ref3_In l n) (v_ref3_In l n) := by
  have hn : l.length < 4611686018427387904 := of_decide_eq_true hk
  have loop : ∀ k, k ≤ l.length → Goes (T_ref3_In l n) (.jmp (.l3 (k : Int))) ((l.drop k).contains n) := by
    refine down ?_ fun k hk ih => ?_
    · rw [goes_jmp]
      simp only [T_ref3_In, goes_br, lt_len_not (Nat.lt_irrefl _), goes_leaf, List.drop_length]
      simp
    · rw [goes_jmp]
      simp only [T_ref3_In, goes_br, lt_len hk, nng, Bool.and_self, if_true, Int.toNat_natCast, getD_lt hk, wrap_succ (k := k) (by omega)]
      rw [drop_cons hk, List.contains_cons]
      cases h : (l[k] == n) with
      | true =>
        have : (n == l[k]) = true := by simp at h ⊢; exact h.symm
        rw [this]; simp [goes_leaf]
      | false =>
        have : (n == l[k]) = false := by simp at h ⊢; exact fun e => h e.symm
        rw [this]; simpa using ih
  unfold T0_ref3_In v_ref3_In
  simpa using loop 0 (Nat.zero_le _)
end Go.Ev
end

section
set_option linter.unusedSectionVars false
set_option linter.unusedVariables false
set_option linter.unusedSimpArgs false
set_option maxRecDepth 100000
set_option linter.unusedVariables false
open Go Go.Ev
namespace Go.Ev
noncomputable section
noncomputable def e_ref3_In : Run := entG sg_ref3_In R_ref3_In (fun a => k_ref3_In a.1 a.2.1) (fun a => v_ref3_In a.1 a.2.1)
theorem ok_ref3_In : EntOK Go.Proofs.Tryd.prog 12 e_ref3_In := entG_ok (tb := tb_ref3_In) (c := c_ref3_In) tk_ref3_In (by kernel_rfl) (by kernel_rfl) (by kernel_rfl) (fun a => by kernel_rfl) fun ⟨l, n, _⟩ hk => evF_goes (c := c_ref3_In) (K := fun v => (R_ref3_In v, tps (toForms sg_ref3_In (l, n, ())))) (S := S_ref3_In l n) (by kernel_rfl) (en_ref3_In l n) (lp_ref3_In l n) (g_ref3_In l n hk)
end
end Go.Ev
end

section
set_option linter.unusedSectionVars false
set_option linter.unusedVariables false
set_option linter.unusedSimpArgs false
set_option maxRecDepth 100000
set_option linter.unusedVariables false
open Go Go.Ev
namespace Go.Ev
noncomputable section
/-! ### paling/palingref1.Locked -/
def sg_ref1_Locked : Sig := [(true, T_api_Ins)]
noncomputable def t_ref1_Locked : Tbl := [(30, e_ref1_InsRight)]
theorem tk_ref1_Locked : ∀ p ∈ t_ref1_Locked, EntOK Go.Proofs.Tryd.prog p.1 p.2 := tbl_cons ok_ref1_InsRight (tbl_nil)
noncomputable def c_ref1_Locked : Code := Go.Proofs.Tryd.f31.body.getD .skip
def tb_ref1_Locked : Tb := []
def T_ref1_Locked (i : El T_api_Ins) : Empty → JT Empty (Bool) := fun j => nomatch j
def T0_ref1_Locked (i : El T_api_Ins) : JT Empty (Bool) :=
  .br (k_ref1_InsRight i)
    (.br ((v_ref1_InsRight i) == (0 : Int))
      (.br (i.1 == (8 : Int))
        (.leaf true)
      (.leaf i.2.1))
    (.leaf false))
  (.no)
def v_ref1_Locked (i : El T_api_Ins) : Bool :=
  bif (k_ref1_InsRight i) then
    bif ((v_ref1_InsRight i) == (0 : Int)) then
      bif (i.1 == (8 : Int)) then
        true
      else i.2.1
    else false
  else false
def k_ref1_Locked (i : El T_api_Ins) : Bool :=
  bif (k_ref1_InsRight i) then
    bif ((v_ref1_InsRight i) == (0 : Int)) then
      bif (i.1 == (8 : Int)) then
        true
      else true
    else true
  else false
theorem g_ref1_Locked (i : El T_api_Ins) (hk : k_ref1_Locked i = true) : Goes (T_ref1_Locked i) (T0_ref1_Locked i) (v_ref1_Locked i) :=
  Goes.brk hk (fun hk =>
    Goes.brk hk (fun hk =>
      Goes.brk hk (fun hk =>
        Goes.leaf) (fun hk =>
        Goes.leaf)) (fun hk =>
      Goes.leaf)) (fun hk =>
    Goes.nok hk)
def R_ref1_Locked : Bool → AV := fun (r : Bool) => .d .bool r
def S_ref1_Locked (i : El T_api_Ins) : Empty → Nat × St := fun j => nomatch j
theorem en_ref1_Locked (i : El T_api_Ins) (L : Lt) : entryA Go.Proofs.Tryd.prog (clOf t_ref1_Locked) tb_ref1_Locked Go.Proofs.Tryd.f31 c_ref1_Locked L (toForms sg_ref1_Locked (i, ())) = (T0_ref1_Locked i).run (fun v => some (R_ref1_Locked v, tps (toForms sg_ref1_Locked (i, ())))) fun j => L (S_ref1_Locked i j).1 (S_ref1_Locked i j).2 := by kernel_rfl
theorem lp_ref1_Locked (i : El T_api_Ins) : ∀ (L : Lt) (j : Empty), procOf (procsF Go.Proofs.Tryd.prog (clOf t_ref1_Locked) tb_ref1_Locked Go.Proofs.Tryd.f31 c_ref1_Locked (toForms sg_ref1_Locked (i, ()))) (S_ref1_Locked i j).1 L (S_ref1_Locked i j).2 = (T_ref1_Locked i j).run (fun v => some (R_ref1_Locked v, tps (toForms sg_ref1_Locked (i, ())))) fun j => L (S_ref1_Locked i j).1 (S_ref1_Locked i j).2 := fun L j => nomatch j
noncomputable def e_ref1_Locked : Run := entG sg_ref1_Locked R_ref1_Locked (fun a => k_ref1_Locked a.1) (fun a => v_ref1_Locked a.1)
theorem ok_ref1_Locked : EntOK Go.Proofs.Tryd.prog 31 e_ref1_Locked := entG_ok (tb := tb_ref1_Locked) (c := c_ref1_Locked) tk_ref1_Locked (by kernel_rfl) (by kernel_rfl) (by kernel_rfl) (fun a => by kernel_rfl) fun ⟨i, _⟩ hk => evF_goes (c := c_ref1_Locked) (K := fun v => (R_ref1_Locked v, tps (toForms sg_ref1_Locked (i, ())))) (S := S_ref1_Locked i) (by kernel_rfl) (en_ref1_Locked i) (lp_ref1_Locked i) (g_ref1_Locked i hk)
end
end Go.Ev
end

section
set_option linter.unusedSectionVars false
set_option linter.unusedVariables false
set_option linter.unusedSimpArgs false
set_option maxRecDepth 100000
set_option linter.unusedVariables false
open Go Go.Ev
namespace Go.Ev
noncomputable section
/-! ### paling/palingref1.Fence -/
def sg_ref1_Fence : Sig := [(true, T_api_Ins)]
noncomputable def t_ref1_Fence : Tbl := [(30, e_ref1_InsRight), (31, e_ref1_Locked)]
theorem tk_ref1_Fence : ∀ p ∈ t_ref1_Fence, EntOK Go.Proofs.Tryd.prog p.1 p.2 := tbl_cons ok_ref1_InsRight (tbl_cons ok_ref1_Locked (tbl_nil))
noncomputable def c_ref1_Fence : Code := Go.Proofs.Tryd.f16.body.getD .skip
def tb_ref1_Fence : Tb := []
def T_ref1_Fence (i : El T_api_Ins) : Empty → JT Empty (Bool) := fun j => nomatch j
def T0_ref1_Fence (i : El T_api_Ins) : JT Empty (Bool) :=
  .br (k_ref1_InsRight i)
    (.br ((v_ref1_InsRight i) == (0 : Int))
      (.br (i.1 == (12 : Int))
        (.leaf true)
      (.br (k_ref1_Locked i)
        (.leaf (v_ref1_Locked i))
      (.no)))
    (.br (k_ref1_Locked i)
      (.leaf (v_ref1_Locked i))
    (.no)))
  (.no)
def v_ref1_Fence (i : El T_api_Ins) : Bool :=
  bif (k_ref1_InsRight i) then
    bif ((v_ref1_InsRight i) == (0 : Int)) then
      bif (i.1 == (12 : Int)) then
        true
      else bif (k_ref1_Locked i) then
        (v_ref1_Locked i)
      else false
    else bif (k_ref1_Locked i) then
      (v_ref1_Locked i)
    else false
  else false
def k_ref1_Fence (i : El T_api_Ins) : Bool :=
  bif (k_ref1_InsRight i) then
    bif ((v_ref1_InsRight i) == (0 : Int)) then
      bif (i.1 == (12 : Int)) then
        true
      else bif (k_ref1_Locked i) then
        true
      else false
    else bif (k_ref1_Locked i) then
      true
    else false
  else false
theorem g_ref1_Fence (i : El T_api_Ins) (hk : k_ref1_Fence i = true) : Goes (T_ref1_Fence i) (T0_ref1_Fence i) (v_ref1_Fence i) :=
  Goes.brk hk (fun hk =>
    Goes.brk hk (fun hk =>
      Goes.brk hk (fun hk =>
        Goes.leaf) (fun hk =>
        Goes.brk hk (fun hk =>
          Goes.leaf) (fun hk =>
          Goes.nok hk))) (fun hk =>
      Goes.brk hk (fun hk =>
        Goes.leaf) (fun hk =>
        Goes.nok hk))) (fun hk =>
    Goes.nok hk)
def R_ref1_Fence : Bool → AV := fun (r : Bool) => .d .bool r
def S_ref1_Fence (i : El T_api_Ins) : Empty → Nat × St := fun j => nomatch j
theorem en_ref1_Fence (i : El T_api_Ins) (L : Lt) : entryA Go.Proofs.Tryd.prog (clOf t_ref1_Fence) tb_ref1_Fence Go.Proofs.Tryd.f16 c_ref1_Fence L (toForms sg_ref1_Fence (i, ())) = (T0_ref1_Fence i).run (fun v => some (R_ref1_Fence v, tps (toForms sg_ref1_Fence (i, ())))) fun j => L (S_ref1_Fence i j).1 (S_ref1_Fence i j).2 := by kernel_rfl
theorem lp_ref1_Fence (i : El T_api_Ins) : ∀ (L : Lt) (j : Empty), procOf (procsF Go.Proofs.Tryd.prog (clOf t_ref1_Fence) tb_ref1_Fence Go.Proofs.Tryd.f16 c_ref1_Fence (toForms sg_ref1_Fence (i, ()))) (S_ref1_Fence i j).1 L (S_ref1_Fence i j).2 = (T_ref1_Fence i j).run (fun v => some (R_ref1_Fence v, tps (toForms sg_ref1_Fence (i, ())))) fun j => L (S_ref1_Fence i j).1 (S_ref1_Fence i j).2 := fun L j => nomatch j
noncomputable def e_ref1_Fence : Run := entG sg_ref1_Fence R_ref1_Fence (fun a => k_ref1_Fence a.1) (fun a => v_ref1_Fence a.1)
theorem ok_ref1_Fence : EntOK Go.Proofs.Tryd.prog 16 e_ref1_Fence := entG_ok (tb := tb_ref1_Fence) (c := c_ref1_Fence) tk_ref1_Fence (by kernel_rfl) (by kernel_rfl) (by kernel_rfl) (fun a => by kernel_rfl) fun ⟨i, _⟩ hk => evF_goes (c := c_ref1_Fence) (K := fun v => (R_ref1_Fence v, tps (toForms sg_ref1_Fence (i, ())))) (S := S_ref1_Fence i) (by kernel_rfl) (en_ref1_Fence i) (lp_ref1_Fence i) (g_ref1_Fence i hk)
end
end Go.Ev
end

section
set_option linter.unusedSectionVars false
set_option linter.unusedVariables false
set_option linter.unusedSimpArgs false
set_option maxRecDepth 100000
set_option linter.unusedVariables false
open Go Go.Ev
namespace Go.Ev
noncomputable section
/-! ### paling/palingref3.ends -/
def sg_ref3_ends : Sig := [(true, (.sl T_api_Ins)), (false, (.sl (.int .i64))), (false, (.int .i64))]
noncomputable def t_ref3_ends : Tbl := [(39, e_ref3_next), (12, e_ref3_In), (16, e_ref1_Fence)]
theorem tk_ref3_ends : ∀ p ∈ t_ref3_ends, EntOK Go.Proofs.Tryd.prog p.1 p.2 := tbl_cons ok_ref3_next (tbl_cons ok_ref3_In (tbl_cons ok_ref1_Fence (tbl_nil)))
noncomputable def c_ref3_ends : Code := Go.Proofs.Tryd.f26.body.getD .skip
def tb_ref3_ends : Tb := [(4, ⟨[1, 3, 7, 8], []⟩), (10, ⟨[1, 3, 7, 9], []⟩), (15, ⟨[1, 3, 7, 9, 10], []⟩), (23, ⟨[1, 3, 7, 9, 10, 11, 12], []⟩)]
inductive J_ref3_ends where
  | l4 (i : Int) (is : List Bool)
  | l10 (is : List Bool) (moved : Bool)
  | l15 (is : List Bool) (k : Int) (moved : Bool)
  | l23 (is : List Bool) (k : Int) (more : List Bool) (moved : Bool) (j_ : Int)
def T_ref3_ends (t : List (El T_api_Ins)) (points : List Int) (s : Int) : J_ref3_ends → JT J_ref3_ends (List Bool)
  | .l4 i is =>
    .br (decide (i < (Int.ofNat (List.length is))))
      (.br ((decide ((0 : Int) ≤ i)) && (decide (i < (Int.ofNat (List.length is)))))
        (.br (List.getD is (Int.toNat i) (dflt .bool))
          (.br (k_ref3_In points i)
            (.br ((decide ((0 : Int) ≤ i)) && (decide (i < (Int.ofNat (List.length is)))))
              (.jmp (.l4 (IntKind.i64.wrap (i + (1 : Int))) (List.set is (Int.toNat i) (! (v_ref3_In points i)))))
            (.no))
          (.no))
        (.br ((decide ((0 : Int) ≤ i)) && (decide (i < (Int.ofNat (List.length is)))))
          (.jmp (.l4 (IntKind.i64.wrap (i + (1 : Int))) (List.set is (Int.toNat i) false)))
        (.no)))
      (.no))
    (.jmp (.l10 is true))
  | .l10 is moved =>
    .br moved
      (.jmp (.l15 is (0 : Int) false))
    (.leaf is)
  | .l15 is k moved =>
    .br (decide (k < (Int.ofNat (List.length is))))
      (.br ((decide ((0 : Int) ≤ k)) && (decide (k < (Int.ofNat (List.length is)))))
        (.br (! (List.getD is (Int.toNat k) (dflt .bool)))
          (.jmp (.l15 is (IntKind.i64.wrap (k + (1 : Int))) moved))
        (.br ((decide ((0 : Int) ≤ k)) && (decide (k < (Int.ofNat (List.length t)))))
          (.br (k_ref1_Fence (List.getD t (Int.toNat k) (dflt T_api_Ins)))
            (.br (v_ref1_Fence (List.getD t (Int.toNat k) (dflt T_api_Ins)))
              (.jmp (.l15 is (IntKind.i64.wrap (k + (1 : Int))) moved))
            (.br (k_ref3_next t k)
              (.jmp (.l23 is k (v_ref3_next t k) moved (0 : Int)))
            (.no)))
          (.no))
        (.no)))
      (.no))
    (.jmp (.l10 is moved))
  | .l23 is k more moved j_ =>
    .br (decide (j_ < (Int.ofNat (List.length is))))
      (.br ((decide ((0 : Int) ≤ j_)) && (decide (j_ < (Int.ofNat (List.length more)))))
        (.br (List.getD more (Int.toNat j_) (dflt .bool))
          (.br ((decide ((0 : Int) ≤ j_)) && (decide (j_ < (Int.ofNat (List.length is)))))
            (.br (! (List.getD is (Int.toNat j_) (dflt .bool)))
              (.br (k_ref3_In points j_)
                (.br (! (v_ref3_In points j_))
                  (.br ((decide ((0 : Int) ≤ j_)) && (decide (j_ < (Int.ofNat (List.length is)))))
                    (.jmp (.l23 (List.set is (Int.toNat j_) true) k more true (IntKind.i64.wrap (j_ + (1 : Int)))))
                  (.no))
                (.jmp (.l23 is k more moved (IntKind.i64.wrap (j_ + (1 : Int))))))
              (.no))
            (.jmp (.l23 is k more moved (IntKind.i64.wrap (j_ + (1 : Int))))))
          (.no))
        (.jmp (.l23 is k more moved (IntKind.i64.wrap (j_ + (1 : Int))))))
      (.no))
    (.jmp (.l15 is (IntKind.i64.wrap (k + (1 : Int))) moved))
def T0_ref3_ends (t : List (El T_api_Ins)) (points : List Int) (s : Int) : JT J_ref3_ends (List Bool) :=
  .br (k_ref3_next t s)
    (.jmp (.l4 (0 : Int) (v_ref3_next t s)))
  (.no)
def R_ref3_ends : List Bool → AV := fun (r : List Bool) => .rw 4 .bool r
def S_ref3_ends (t : List (El T_api_Ins)) (points : List Int) (s : Int) : J_ref3_ends → Nat × St
  | .l4 i is => (4, ⟨mkTm 85 [(1, .d (.sl (.int .i64)) points), (3, .pt 4 0 0), (7, .own 8 0 none), (8, .d (.int .i64) i)], [(4, 0, .box 32 [.d (.sl T_api_Ins) t] none), (8, 0, .row 4 .bool is false)]⟩)
  | .l10 is moved => (10, ⟨mkTm 85 [(1, .d (.sl (.int .i64)) points), (3, .pt 4 0 0), (7, .own 8 0 none), (9, .d .bool moved)], [(4, 0, .box 32 [.d (.sl T_api_Ins) t] none), (8, 0, .row 4 .bool is false)]⟩)
  | .l15 is k moved => (15, ⟨mkTm 85 [(1, .d (.sl (.int .i64)) points), (3, .pt 4 0 0), (7, .own 8 0 none), (9, .d .bool moved), (10, .d (.int .i64) k)], [(4, 0, .box 32 [.d (.sl T_api_Ins) t] none), (8, 0, .row 4 .bool is false)]⟩)
  | .l23 is k more moved j_ => (23, ⟨mkTm 85 [(1, .d (.sl (.int .i64)) points), (3, .pt 4 0 0), (7, .own 8 0 none), (9, .d .bool moved), (10, .d (.int .i64) k), (11, .own 12 0 none), (12, .d (.int .i64) j_)], [(4, 0, .box 32 [.d (.sl T_api_Ins) t] none), (8, 0, .row 4 .bool is false), (12, 0, .row 4 .bool more false)]⟩)
theorem en_ref3_ends (t : List (El T_api_Ins)) (points : List Int) (s : Int) (L : Lt) : entryA Go.Proofs.Tryd.prog (clOf t_ref3_ends) tb_ref3_ends Go.Proofs.Tryd.f26 c_ref3_ends L (toForms sg_ref3_ends (t, points, s, ())) = (T0_ref3_ends t points s).run (fun v => some (R_ref3_ends v, tps (toForms sg_ref3_ends (t, points, s, ())))) fun j => L (S_ref3_ends t points s j).1 (S_ref3_ends t points s j).2 := by kernel_rfl
theorem lp_ref3_ends (t : List (El T_api_Ins)) (points : List Int) (s : Int) : ∀ (L : Lt) (j : J_ref3_ends), procOf (procsF Go.Proofs.Tryd.prog (clOf t_ref3_ends) tb_ref3_ends Go.Proofs.Tryd.f26 c_ref3_ends (toForms sg_ref3_ends (t, points, s, ()))) (S_ref3_ends t points s j).1 L (S_ref3_ends t points s j).2 = (T_ref3_ends t points s j).run (fun v => some (R_ref3_ends v, tps (toForms sg_ref3_ends (t, points, s, ())))) fun j => L (S_ref3_ends t points s j).1 (S_ref3_ends t points s j).2
  | L, .l4 i is => by kernel_rfl
  | L, .l10 is moved => by kernel_rfl
  | L, .l15 is k moved => by kernel_rfl
  | L, .l23 is k more moved j_ => by kernel_rfl
end
end Go.Ev
end

section
set_option linter.unusedSectionVars false
set_option linter.unusedVariables false
set_option linter.unusedSimpArgs false
/- Both texts tell the same of what is a fence. -/
set_option maxRecDepth 100000
set_option linter.unusedVariables false
set_option linter.unusedSimpArgs false
open Go
namespace Go.Ev
theorem k_fence' {i : El T_api_Ins} (h : smallText i.2.2.2.2.2.1 = true) : k_ins_Fence i = true ∧ k_ref1_Fence i = true := by
  have h0 : k_ins_Right i = true := h
  have h1 : k_ref1_InsRight i = true := h
  have a : k_ins_Locked i = true := by unfold k_ins_Locked; simp only [h0, cond_true, Bool.cond_self]
  have b : k_ref1_Locked i = true := by unfold k_ref1_Locked; simp only [h1, cond_true, Bool.cond_self]
  unfold k_ins_Fence k_ref1_Fence
  simp only [h0, h1, a, b, cond_true, Bool.cond_self, and_self]
theorem fence_eq' {i : El T_api_Ins} (h : smallText i.2.2.2.2.2.1 = true) : v_ref1_Fence i = v_ins_Fence i := by
  have h0 : k_ins_Right i = true := h
  have h1 : k_ref1_InsRight i = true := h
  have a : k_ins_Locked i = true := by unfold k_ins_Locked; simp only [h0, cond_true, Bool.cond_self]
  have b : k_ref1_Locked i = true := by unfold k_ref1_Locked; simp only [h1, cond_true, Bool.cond_self]
  have c : v_ref1_Locked i = v_ins_Locked i := by
    unfold v_ref1_Locked v_ins_Locked v_ref1_InsRight
    simp only [h0, h1]
  unfold v_ref1_Fence v_ins_Fence v_ref1_InsRight
  simp only [h0, h1, a, b, c]
end Go.Ev
end

section
set_option linter.unusedSectionVars false
set_option linter.unusedVariables false
set_option linter.unusedSimpArgs false
/- Rows of what is so. -/
set_option linter.unusedVariables false
open Go
namespace Go.Ev
theorem rowOf_getD {n : Nat} {M : Nat → Bool} {i : Nat} (h : i < n) : List.getD (rowOf n M) i (dflt .bool) = M i := by
  simp [List.getD, rowOf_get h]
theorem rowOf_put {n : Nat} {M : Nat → Bool} {i : Nat} {b : Bool} : (rowOf n M).set i b = rowOf n fun j => if j = i then b else M j := by
  apply List.ext_getElem?
  intro j
  rw [List.getElem?_set, rowOf_length]
  by_cases hj : j < n
  · rw [rowOf_get hj, rowOf_get hj]
    by_cases hi : i = j
    · subst hi; rw [if_pos rfl, if_pos hj, if_pos rfl]
    · rw [if_neg hi, if_neg (fun e => hi e.symm)]
  · rw [List.getElem?_eq_none (by rw [rowOf_length]; omega), List.getElem?_eq_none (by rw [rowOf_length]; omega)]
    by_cases hi : i = j
    · rw [if_pos hi, if_neg (by omega)]
    · rw [if_neg hi]
end Go.Ev
end

section
set_option linter.unusedSectionVars false
set_option linter.unusedVariables false
set_option linter.unusedSimpArgs false
set_option maxRecDepth 100000
set_option linter.unusedVariables false
set_option linter.unusedSimpArgs false
open Go
namespace Go.Ev
noncomputable def v_ref3_ends (t : List (El T_api_Ins)) (points : List Int) (s : Int) : List Bool := rowOf t.length (endsB t points s)
def k_ref3_ends (t : List (El T_api_Ins)) (points : List Int) (s : Int) : Bool := flowOK t && decide (points.length < 4611686018427387904)
theorem g_ref3_ends (t : List (El T_api_Ins)) (points : List Int) (s : Int) (hk : k_ref3_ends t points s = true) : Goes (T_ref3_ends t points s) (T0_ref3_ends t points s) (v_ref3_ends t points s) := by
  unfold k_ref3_ends at hk
  rw [Bool.and_eq_true] at hk
  obtain ⟨hf, hpl⟩ := hk
  have hlen := flowOK_len hf
  have kIn : ∀ x, k_ref3_In points x = true := fun x => hpl
  have vIn : ∀ x, v_ref3_In points x = points.contains x := fun x => rfl
  generalize hn : t.length = n at hlen
  have kfe : ∀ k, k < n → k_ref1_Fence (List.getD t k (dflt T_api_Ins)) = true ∧ v_ref1_Fence (List.getD t k (dflt T_api_Ins)) = fenceAtT t k := fun k hk => by
    have hmem : t.getD k (dflt T_api_Ins) ∈ t := by rw [getD_lt (by omega)]; exact List.getElem_mem (by omega)
    have hs := flowOK_text hf hmem
    exact ⟨(k_fence' hs).2, fence_eq' hs⟩
  let OK : (Nat → Bool) → (Nat → Bool) → Bool → Prop := fun M0 M moved => (∀ j, firstB t points s j = true → M j = true) ∧ (∀ j, M j = true → Come (stepB t points) (firstB t points s) j) ∧ (moved = false → M = M0) ∧ (moved = true → card n M0 < card n M)
  have hltM : ∀ {M0 M moved}, OK M0 M moved → ∀ j, M j = true → j < n := fun h j hj => by
    have := come_lt (n := t.length) (fun j => firstB_lt) (fun k j => stepB_lt) (h.2.1 j hj)
    omega
  have loop : ∀ m, ∀ M : Nat → Bool, n - card n M = m → (∀ j, firstB t points s j = true → M j = true) → (∀ j, M j = true → Come (stepB t points) (firstB t points s) j) → Goes (T_ref3_ends t points s) (.jmp (.l10 (rowOf n M) true)) (v_ref3_ends t points s) := by
    intro m
    induction m using Nat.strongRecOn with
    | _ m ih =>
    intro M0 hm hA hC
    have inner : ∀ k, k < n → fenceAtT t k = false → ∀ Z : Prop, (∀ M moved, OK M0 M moved → (moved = false → Z ∧ ∀ j, stepB t points k j = true → M0 j = true) → Goes (T_ref3_ends t points s) (.jmp (.l15 (rowOf n M) ((k + 1 : Nat) : Int) moved)) (v_ref3_ends t points s)) →
        ∀ j, j ≤ n → ∀ M moved, M k = true → OK M0 M moved → (moved = false → Z ∧ ∀ x, x < j → stepB t points k x = true → M0 x = true) → Goes (T_ref3_ends t points s) (.jmp (.l23 (rowOf n M) (k : Int) (rowOf n (nextB t (k : Int))) moved (j : Int))) (v_ref3_ends t points s) := by
      intro k hkn hfk Z hz
      have hst : ∀ x, stepB t points k x = (nextB t (k : Int) x && !points.contains (x : Int)) := fun x => by unfold stepB; rw [hfk]; rfl
      refine down ?_ fun j hj ih2 => ?_
      · intro M moved hMk hok hcl
        rw [goes_jmp, T_ref3_ends, goes_br, rowOf_length, if_neg (by rw [lt_len_not (Nat.lt_irrefl _)]; decide), wrap_succ (by omega)]
        exact hz M moved hok fun hm => ⟨(hcl hm).1, fun j hj => (hcl hm).2 j (by have := stepB_lt hj; omega) hj⟩
      · intro M moved hMk hok hcl
        rw [goes_jmp, T_ref3_ends, goes_br, rowOf_length, if_pos (lt_len hj), goes_br, rowOf_length, if_pos (bound_len hj), goes_br, Int.toNat_natCast, rowOf_getD hj, wrap_succ (by omega)]
        have skip : (stepB t points k j = true → moved = false → M0 j = true) → Goes (T_ref3_ends t points s) (.jmp (.l23 (rowOf n M) (k : Int) (rowOf n (nextB t (k : Int))) moved ((j + 1 : Nat) : Int))) (v_ref3_ends t points s) := fun hsk => by
          refine ih2 M moved hMk hok fun hm => ⟨(hcl hm).1, fun x hx hxN => ?_⟩
          by_cases hxj : x = j
          · subst hxj; exact hsk hxN hm
          · exact (hcl hm).2 x (by omega) hxN
        by_cases hN : nextB t (k : Int) j = true
        · rw [if_pos hN, goes_br, if_pos (bound_len hj), goes_br, rowOf_getD hj]
          cases hMj : M j with
          | true =>
            rw [if_neg (by decide)]
            exact skip fun _ hm => by rw [← hok.2.2.1 hm]; exact hMj
          | false =>
            rw [if_pos (by decide), goes_br, if_pos (kIn _), goes_br, vIn]
            cases hpt : points.contains (j : Int) with
            | true =>
              rw [if_neg (by decide)]
              exact skip fun h _ => by rw [hst, hpt, Bool.not_true, Bool.and_false] at h; cases h
            | false =>
              rw [if_pos (by decide), goes_br, if_pos (bound_len hj), rowOf_set]
              have hca := card_add hMj hj
              refine ih2 (fun x => M x || (x == j)) true (by rw [hMk]; rfl) ⟨fun x hx => (show (M x || (x == j)) = true by rw [hok.1 x hx]; rfl), fun x hx => ?_, fun h => (by cases h), fun _ => ?_⟩ (fun h => by cases h)
              · simp only [Bool.or_eq_true, beq_iff_eq] at hx
                rcases hx with hx | hx
                · exact hok.2.1 x hx
                · subst hx; exact .step (hok.2.1 k hMk) (by rw [hst, hN, hpt]; rfl)
              · cases moved with
                | true => have := hok.2.2.2 rfl; omega
                | false => rw [hok.2.2.1 rfl] at hca; rw [hok.2.2.1 rfl]; omega
        · rw [if_neg hN]
          exact skip fun h _ => by rw [hst] at h; simp only [Bool.and_eq_true] at h; exact absurd h.1 hN
    have pass : ∀ k, k ≤ n → ∀ M moved, OK M0 M moved → (moved = false → ∀ k' j, k' < k → M0 k' = true → stepB t points k' j = true → M0 j = true) → Goes (T_ref3_ends t points s) (.jmp (.l15 (rowOf n M) (k : Int) moved)) (v_ref3_ends t points s) := by
      refine down ?_ fun k hkn ih2 => ?_
      · intro M moved hok hcl
        rw [goes_jmp, T_ref3_ends, goes_br, rowOf_length, if_neg (by rw [lt_len_not (Nat.lt_irrefl _)]; decide)]
        cases moved with
        | true =>
          have h1 := hok.2.2.2 rfl
          have h2 := @card_le n M
          exact ih (n - card n M) (by omega) M rfl hok.1 hok.2.1
        | false =>
          have e := hok.2.2.1 rfl
          subst e
          rw [goes_jmp, T_ref3_ends, goes_br, if_neg (by decide)]
          have hv : rowOf n M = v_ref3_ends t points s := by
            unfold v_ref3_ends endsB
            rw [hn]
            exact rowOf_congr fun j _ => comeB_eq hok.1 (fun k j hk hj => hcl rfl k j (hltM hok k hk) hk hj) hok.2.1 j
          rw [hv]; exact .leaf
      · intro M moved hok hcl
        rw [goes_jmp, T_ref3_ends, goes_br, rowOf_length, if_pos (lt_len hkn), goes_br, if_pos (bound_len hkn), goes_br, Int.toNat_natCast, rowOf_getD hkn]
        cases hMk : M k with
        | false =>
          rw [if_pos (by decide), wrap_succ (by omega)]
          refine ih2 M moved hok fun hm k' j hk' hk1 hj => ?_
          by_cases e : k' = k
          · subst e; rw [← hok.2.2.1 hm, hMk] at hk1; cases hk1
          · exact hcl hm k' j (by omega) hk1 hj
        | true =>
          have kn : k_ref3_next t (k : Int) = true := hf
          obtain ⟨kf1, vf1⟩ := kfe k hkn
          rw [if_neg (by decide), goes_br, hn, if_pos (bound_len hkn), goes_br, if_pos kf1, goes_br, vf1]
          cases hfk : fenceAtT t k with
          | true =>
            rw [if_pos rfl, wrap_succ (by omega)]
            refine ih2 M moved hok fun hm k' j hk' hk1 hj => ?_
            by_cases e : k' = k
            · subst e; unfold stepB at hj; rw [hfk] at hj; cases hj
            · exact hcl hm k' j (by omega) hk1 hj
          | false =>
            rw [if_neg (by decide), goes_br, if_pos kn]
            have hvn : v_ref3_next t (k : Int) = rowOf n (nextB t (k : Int)) := by unfold v_ref3_next; rw [hn]
            rw [hvn]
            refine inner k hkn hfk (∀ k' j, k' < k → M0 k' = true → stepB t points k' j = true → M0 j = true) (fun M' moved' hok' hcl' => ih2 M' moved' hok' fun hm k' j hk' hk1 hj => ?_) 0 (Nat.zero_le _) M moved hMk hok (fun hm => ⟨hcl hm, fun x hx => by omega⟩)
            by_cases e : k' = k
            · subst e; exact (hcl' hm).2 j hj
            · exact (hcl' hm).1 k' j (by omega) hk1 hj
    rw [goes_jmp, T_ref3_ends, goes_br, if_pos rfl]
    exact pass 0 (Nat.zero_le _) M0 false ⟨hA, hC, fun _ => rfl, fun h => by cases h⟩ fun _ k' j h => by omega
  have kn : k_ref3_next t s = true := hf
  unfold T0_ref3_ends
  rw [goes_br, if_pos kn]
  have hvn : v_ref3_next t s = rowOf n fun j => if j < 0 then firstB t points s j else nextB t s j := by
    unfold v_ref3_next; rw [hn]
    exact rowOf_congr fun j _ => by rw [if_neg (by omega)]
  rw [hvn]
  have first : ∀ k, k ≤ n → Goes (T_ref3_ends t points s) (.jmp (.l4 (k : Int) (rowOf n fun j => if j < k then firstB t points s j else nextB t s j))) (v_ref3_ends t points s) := by
    refine down ?_ fun k hkn ih => ?_
    · rw [goes_jmp, T_ref3_ends, goes_br, rowOf_length, if_neg (by rw [lt_len_not (Nat.lt_irrefl _)]; decide)]
      rw [show (rowOf n fun j => if j < n then firstB t points s j else nextB t s j) = rowOf n (firstB t points s) from rowOf_congr fun j hj => by rw [if_pos hj]]
      exact loop _ (firstB t points s) rfl (fun j h => h) (fun j h => .start h)
    · have nx : ∀ b, b = firstB t points s k → Goes (T_ref3_ends t points s) (.jmp (.l4 ((k + 1 : Nat) : Int) ((rowOf n fun j => if j < k then firstB t points s j else nextB t s j).set k b))) (v_ref3_ends t points s) := fun b hb => by
        rw [rowOf_put]
        rw [show (rowOf n fun j => if j = k then b else if j < k then firstB t points s j else nextB t s j) = rowOf n fun j => if j < k + 1 then firstB t points s j else nextB t s j from rowOf_congr fun j _ => by
          by_cases h1 : j = k
          · subst h1; rw [if_pos rfl, if_pos (by omega), hb]
          · rw [if_neg h1]
            by_cases h2 : j < k
            · rw [if_pos h2, if_pos (by omega)]
            · rw [if_neg h2, if_neg (by omega)]]
        exact ih
      rw [goes_jmp, T_ref3_ends, goes_br, rowOf_length, if_pos (lt_len hkn), goes_br, if_pos (bound_len hkn), goes_br, Int.toNat_natCast, rowOf_getD hkn, if_neg (c := k < k) (Nat.lt_irrefl k), wrap_succ (by omega)]
      cases hN : nextB t s k with
      | true =>
        rw [if_pos rfl, goes_br, if_pos (kIn _), goes_br, if_pos (bound_len hkn), vIn]
        exact nx _ (by unfold firstB; rw [hN, Bool.true_and])
      | false =>
        rw [if_neg (by decide), goes_br, if_pos (bound_len hkn)]
        exact nx false (by unfold firstB; rw [hN, Bool.false_and])
  exact first 0 (Nat.zero_le _)
end Go.Ev
end

section
set_option linter.unusedSectionVars false
set_option linter.unusedVariables false
set_option linter.unusedSimpArgs false
set_option maxRecDepth 100000
set_option linter.unusedVariables false
open Go Go.Ev
namespace Go.Ev
noncomputable section
noncomputable def e_ref3_ends : Run := entG sg_ref3_ends R_ref3_ends (fun a => k_ref3_ends a.1 a.2.1 a.2.2.1) (fun a => v_ref3_ends a.1 a.2.1 a.2.2.1)
theorem ok_ref3_ends : EntOK Go.Proofs.Tryd.prog 26 e_ref3_ends := entG_ok (tb := tb_ref3_ends) (c := c_ref3_ends) tk_ref3_ends (by kernel_rfl) (by kernel_rfl) (by kernel_rfl) (fun a => by kernel_rfl) fun ⟨t, points, s, _⟩ hk => evF_goes (c := c_ref3_ends) (K := fun v => (R_ref3_ends v, tps (toForms sg_ref3_ends (t, points, s, ())))) (S := S_ref3_ends t points s) (by kernel_rfl) (en_ref3_ends t points s) (lp_ref3_ends t points s) (g_ref3_ends t points s hk)
end
end Go.Ev
end

section
set_option linter.unusedSectionVars false
set_option linter.unusedVariables false
set_option linter.unusedSimpArgs false
set_option maxRecDepth 100000
set_option linter.unusedVariables false
open Go Go.Ev
namespace Go.Ev
noncomputable section
/-! ### paling/palingref3.List -/
def sg_ref3_List : Sig := [(false, (.sl .bool))]
noncomputable def t_ref3_List : Tbl := []
theorem tk_ref3_List : ∀ p ∈ t_ref3_List, EntOK Go.Proofs.Tryd.prog p.1 p.2 := tbl_nil
noncomputable def c_ref3_List : Code := Go.Proofs.Tryd.f25.body.getD .skip
def tb_ref3_List : Tb := [(4, ⟨[0, 3, 4], [(4, 46)]⟩)]
inductive J_ref3_List where
  | l4 (i : Int) (out : List Int)
def T_ref3_List (is : List Bool) : J_ref3_List → JT J_ref3_List (List Int)
  | .l4 i out =>
    .br (decide (i < (Int.ofNat (List.length is))))
      (.br ((decide ((0 : Int) ≤ i)) && (decide (i < (Int.ofNat (List.length is)))))
        (.br (List.getD is (Int.toNat i) (dflt .bool))
          (.br (Nat.ble (((List.length out) + 1) * 8) limit)
            (.jmp (.l4 (IntKind.i64.wrap (i + (1 : Int))) (out ++ [i])))
          (.no))
        (.jmp (.l4 (IntKind.i64.wrap (i + (1 : Int))) out)))
      (.no))
    (.leaf out)
def T0_ref3_List (is : List Bool) : JT J_ref3_List (List Int) :=
  .jmp (.l4 (0 : Int) [])
def R_ref3_List : List Int → AV := fun (r : List Int) => .rw 3 (.int .i64) r
def S_ref3_List (is : List Bool) : J_ref3_List → Nat × St
  | .l4 i out => (4, ⟨mkTm 20 [(0, .d (.sl .bool) is), (3, .own 4 0 none), (4, .d (.int .i64) i)], [(4, 0, .row 3 (.int .i64) out false)]⟩)
theorem en_ref3_List (is : List Bool) (L : Lt) : entryA Go.Proofs.Tryd.prog (clOf t_ref3_List) tb_ref3_List Go.Proofs.Tryd.f25 c_ref3_List L (toForms sg_ref3_List (is, ())) = (T0_ref3_List is).run (fun v => some (R_ref3_List v, tps (toForms sg_ref3_List (is, ())))) fun j => L (S_ref3_List is j).1 (S_ref3_List is j).2 := by kernel_rfl
theorem lp_ref3_List (is : List Bool) : ∀ (L : Lt) (j : J_ref3_List), procOf (procsF Go.Proofs.Tryd.prog (clOf t_ref3_List) tb_ref3_List Go.Proofs.Tryd.f25 c_ref3_List (toForms sg_ref3_List (is, ()))) (S_ref3_List is j).1 L (S_ref3_List is j).2 = (T_ref3_List is j).run (fun v => some (R_ref3_List v, tps (toForms sg_ref3_List (is, ())))) fun j => L (S_ref3_List is j).1 (S_ref3_List is j).2
  | L, .l4 i out => by kernel_rfl
end
end Go.Ev
end

section
set_option linter.unusedSectionVars false
set_option linter.unusedVariables false
set_option linter.unusedSimpArgs false
/- Rising lists and lists of places: what chapters 19 to 26 say of them, over lists. -/
set_option linter.unusedVariables false
set_option linter.unusedSimpArgs false
namespace Go.Ev
open Go
/-- Which are so, rising, from k on. -/
def listFrom : Nat → List Bool → List Int
  | _, [] => []
  | k, b :: r => if b then (k : Int) :: listFrom (k + 1) r else listFrom (k + 1) r
theorem listFrom_len : ∀ (l : List Bool) (k : Nat), (listFrom k l).length ≤ l.length
  | [], _ => Nat.le_refl _
  | b :: r, k => by
    have := listFrom_len r (k + 1)
    unfold listFrom
    split <;> simp only [List.length_cons] <;> omega
theorem mem_listFrom : ∀ {l : List Bool} {k : Nat} {x : Int}, x ∈ listFrom k l ↔ ∃ i, l[i]? = some true ∧ x = ((k + i : Nat) : Int)
  | [], k, x => by simp [listFrom]
  | b :: r, k, x => by
    have ih := @mem_listFrom r (k + 1) x
    unfold listFrom
    constructor
    · intro h
      cases b with
      | true =>
        rw [if_pos rfl] at h
        rcases List.mem_cons.1 h with rfl | h
        · exact ⟨0, rfl, by simp⟩
        · obtain ⟨i, h1, h2⟩ := ih.1 h
          exact ⟨i + 1, by simpa using h1, by rw [h2]; omega⟩
      | false =>
        rw [if_neg (by decide)] at h
        obtain ⟨i, h1, h2⟩ := ih.1 h
        exact ⟨i + 1, by simpa using h1, by rw [h2]; omega⟩
    · rintro ⟨i, h1, h2⟩
      cases i with
      | zero =>
        have hb : b = true := by simpa using h1
        subst hb
        rw [if_pos rfl, h2]
        exact List.mem_cons_self ..
      | succ i =>
        have := ih.2 ⟨i, by simpa using h1, by rw [h2]; omega⟩
        split
        · exact List.mem_cons_of_mem _ this
        · exact this
/-- A list in order. -/
def risingFrom : Int → List Int → Bool
  | _, [] => true
  | p, n :: r => if n < 0 ∨ 2147483647 < n ∨ n ≤ p then false else risingFrom n r
def rising (l : List Int) : Bool := risingFrom (-1) l
theorem risingFrom_spec : ∀ {l : List Int} {p : Int}, risingFrom p l = true ↔ (∀ x ∈ l, 0 ≤ x ∧ x ≤ 2147483647 ∧ p < x) ∧ l.Pairwise (· < ·)
  | [], p => by simp [risingFrom]
  | n :: r, p => by
    have ih := @risingFrom_spec r n
    unfold risingFrom
    split
    · rename_i h
      constructor
      · intro e; cases e
      · rintro ⟨h1, _⟩
        have := h1 n (by simp)
        omega
    · rename_i h
      rw [ih, List.pairwise_cons]
      constructor
      · rintro ⟨h1, h2⟩
        refine ⟨fun x hx => ?_, fun x hx => (h1 x hx).2.2, h2⟩
        rcases List.mem_cons.1 hx with rfl | hx
        · omega
        · have := h1 x hx; omega
      · rintro ⟨h1, h2, h3⟩
        exact ⟨fun x hx => ⟨(h1 x (by simp [hx])).1, (h1 x (by simp [hx])).2.1, h2 x hx⟩, h3⟩
theorem rising_spec {l : List Int} : rising l = true ↔ (∀ x ∈ l, 0 ≤ x ∧ x ≤ 2147483647) ∧ l.Pairwise (· < ·) := by
  unfold rising
  rw [risingFrom_spec]
  constructor
  · rintro ⟨h1, h2⟩; exact ⟨fun x hx => ⟨(h1 x hx).1, (h1 x hx).2.1⟩, h2⟩
  · rintro ⟨h1, h2⟩; exact ⟨fun x hx => ⟨(h1 x hx).1, (h1 x hx).2, by have := h1 x hx; omega⟩, h2⟩
/-- A rising list is no longer than its numbers are great. -/
theorem rising_len : ∀ {l : List Int} {p : Int}, risingFrom p l = true → -1 ≤ p → p + l.length ≤ 2147483647 ∨ l = []
  | [], _, _, _ => .inr rfl
  | n :: r, p, h, hp => by
    unfold risingFrom at h
    split at h
    · cases h
    · rename_i h1
      rcases rising_len h (by omega) with h2 | h2
      · left; rw [List.length_cons]; omega
      · subst h2; left; simp; omega
theorem rising_length {l : List Int} (h : rising l = true) : l.length ≤ 2147483648 := by
  rcases rising_len h (by omega) with h | h
  · omega
  · subst h; simp
/-- Where fences come to stand. -/
def fencesFrom : Nat → List Int → List Int
  | _, [] => []
  | k, n :: r => (n + k) :: fencesFrom (k + 1) r
def fencesC (l : List Int) : List Int := if rising l then fencesFrom 0 l else []
theorem fencesFrom_len : ∀ (l : List Int) (k : Nat), (fencesFrom k l).length = l.length
  | [], _ => rfl
  | n :: r, k => by unfold fencesFrom; rw [List.length_cons, List.length_cons, fencesFrom_len r]
theorem fencesC_len (l : List Int) : (fencesC l).length ≤ l.length := by
  unfold fencesC
  split
  · rw [fencesFrom_len]; exact Nat.le_refl _
  · exact Nat.zero_le _
theorem mem_fencesFrom : ∀ {l : List Int} {k : Nat} {x : Int}, x ∈ fencesFrom k l ↔ ∃ i n, l[i]? = some n ∧ x = n + ((k + i : Nat) : Int)
  | [], k, x => by simp [fencesFrom]
  | b :: r, k, x => by
    have ih := @mem_fencesFrom r (k + 1) x
    unfold fencesFrom
    rw [List.mem_cons, ih]
    constructor
    · rintro (rfl | ⟨i, n, h1, h2⟩)
      · exact ⟨0, b, rfl, by simp⟩
      · exact ⟨i + 1, n, by simpa using h1, by rw [h2]; omega⟩
    · rintro ⟨i, n, h1, h2⟩
      cases i with
      | zero =>
        left
        have : b = n := by simpa using h1
        subst this
        rw [h2, Nat.add_zero]
      | succ i => right; exact ⟨i, n, by simpa using h1, by rw [h2]; omega⟩
/-- How many are below; how many are not above. -/
def below (l : List Int) (x : Int) : Nat := l.countP fun f => decide (f < x)
def upTo (l : List Int) (x : Int) : Nat := l.countP fun f => decide (f ≤ x)
def backC (l : List Int) (pc : Int) : Int := if pc < 0 ∨ 2147483647 < pc then pc else pc - below (fencesC l) pc
def thereC (l : List Int) (i : Int) : Int := if i < 0 ∨ 2147483647 < i ∨ rising l = false then i else i + upTo l i
end Go.Ev
end

section
set_option linter.unusedSectionVars false
set_option linter.unusedVariables false
set_option linter.unusedSimpArgs false
set_option linter.unusedVariables false
set_option linter.unusedSimpArgs false
open Go
namespace Go.Ev
def v_ref3_List (is : List Bool) : List Int := listFrom 0 is
def k_ref3_List (is : List Bool) : Bool := decide (is.length < 1099511627776)
theorem g_ref3_List (is : List Bool) (hk : k_ref3_List is = true) : Goes (T_ref3_List is) (T0_ref3_List is) (v_ref3_List is) := by
  have hn : is.length < 1099511627776 := of_decide_eq_true hk
  have loop : ∀ k, k ≤ is.length → ∀ out : List Int, out.length ≤ k → Goes (T_ref3_List is) (.jmp (.l4 (k : Int) out)) (out ++ listFrom k (is.drop k)) := by
    refine down ?_ fun k hk ih => ?_
    · intro out ho
      rw [goes_jmp]
      simp only [T_ref3_List, goes_br, lt_len_not (Nat.lt_irrefl _), List.drop_length]
      rw [show listFrom is.length [] = [] from rfl, List.append_nil]
      exact .leaf
    · intro out ho
      rw [goes_jmp, drop_cons hk]
      have b1 : Nat.ble ((out.length + 1) * 8) limit = true := Nat.ble_eq_true_of_le (by unfold limit; omega)
      simp only [T_ref3_List, goes_br, lt_len hk, nng, Bool.and_self, if_true, Int.toNat_natCast, getD_lt hk, wrap_succ (k := k) (by omega), b1]
      unfold listFrom
      split
      · have := ih (out ++ [(k : Int)]) (by rw [List.length_append, List.length_singleton]; omega)
        rw [List.append_assoc] at this
        exact this
      · exact ih out (by omega)
  have := loop 0 (Nat.zero_le _) [] (by simp)
  unfold T0_ref3_List v_ref3_List
  simpa using this
end Go.Ev
end

section
set_option linter.unusedSectionVars false
set_option linter.unusedVariables false
set_option linter.unusedSimpArgs false
set_option maxRecDepth 100000
set_option linter.unusedVariables false
open Go Go.Ev
namespace Go.Ev
noncomputable section
noncomputable def e_ref3_List : Run := entG sg_ref3_List R_ref3_List (fun a => k_ref3_List a.1) (fun a => v_ref3_List a.1)
theorem ok_ref3_List : EntOK Go.Proofs.Tryd.prog 25 e_ref3_List := entG_ok (tb := tb_ref3_List) (c := c_ref3_List) tk_ref3_List (by kernel_rfl) (by kernel_rfl) (by kernel_rfl) (fun a => by kernel_rfl) fun ⟨is, _⟩ hk => evF_goes (c := c_ref3_List) (K := fun v => (R_ref3_List v, tps (toForms sg_ref3_List (is, ())))) (S := S_ref3_List is) (by kernel_rfl) (en_ref3_List is) (lp_ref3_List is) (g_ref3_List is hk)
end
end Go.Ev
end

section
set_option linter.unusedSectionVars false
set_option linter.unusedVariables false
set_option linter.unusedSimpArgs false
set_option maxRecDepth 100000
set_option linter.unusedVariables false
open Go Go.Ev
namespace Go.Ev
noncomputable section
/-! ### paling/palingref3.Ends -/
def sg_ref3_Ends : Sig := [(true, (.sl T_api_Ins)), (false, (.sl (.int .i64))), (false, (.int .i64))]
noncomputable def t_ref3_Ends : Tbl := [(26, e_ref3_ends), (25, e_ref3_List)]
theorem tk_ref3_Ends : ∀ p ∈ t_ref3_Ends, EntOK Go.Proofs.Tryd.prog p.1 p.2 := tbl_cons ok_ref3_ends (tbl_cons ok_ref3_List (tbl_nil))
noncomputable def c_ref3_Ends : Code := Go.Proofs.Tryd.f10.body.getD .skip
def tb_ref3_Ends : Tb := []
def T_ref3_Ends (t : List (El T_api_Ins)) (points : List Int) (s : Int) : Empty → JT Empty (List Int) := fun j => nomatch j
def T0_ref3_Ends (t : List (El T_api_Ins)) (points : List Int) (s : Int) : JT Empty (List Int) :=
  .br (k_ref3_ends t points s)
    (.br (k_ref3_List (v_ref3_ends t points s))
      (.leaf (v_ref3_List (v_ref3_ends t points s)))
    (.no))
  (.no)
def v_ref3_Ends (t : List (El T_api_Ins)) (points : List Int) (s : Int) : List Int :=
  bif (k_ref3_ends t points s) then
    bif (k_ref3_List (v_ref3_ends t points s)) then
      (v_ref3_List (v_ref3_ends t points s))
    else []
  else []
def k_ref3_Ends (t : List (El T_api_Ins)) (points : List Int) (s : Int) : Bool :=
  bif (k_ref3_ends t points s) then
    bif (k_ref3_List (v_ref3_ends t points s)) then
      true
    else false
  else false
theorem g_ref3_Ends (t : List (El T_api_Ins)) (points : List Int) (s : Int) (hk : k_ref3_Ends t points s = true) : Goes (T_ref3_Ends t points s) (T0_ref3_Ends t points s) (v_ref3_Ends t points s) :=
  Goes.brk hk (fun hk =>
    Goes.brk hk (fun hk =>
      Goes.leaf) (fun hk =>
      Goes.nok hk)) (fun hk =>
    Goes.nok hk)
def R_ref3_Ends : List Int → AV := fun (r : List Int) => .rw 3 (.int .i64) r
def S_ref3_Ends (t : List (El T_api_Ins)) (points : List Int) (s : Int) : Empty → Nat × St := fun j => nomatch j
theorem en_ref3_Ends (t : List (El T_api_Ins)) (points : List Int) (s : Int) (L : Lt) : entryA Go.Proofs.Tryd.prog (clOf t_ref3_Ends) tb_ref3_Ends Go.Proofs.Tryd.f10 c_ref3_Ends L (toForms sg_ref3_Ends (t, points, s, ())) = (T0_ref3_Ends t points s).run (fun v => some (R_ref3_Ends v, tps (toForms sg_ref3_Ends (t, points, s, ())))) fun j => L (S_ref3_Ends t points s j).1 (S_ref3_Ends t points s j).2 := by kernel_rfl
theorem lp_ref3_Ends (t : List (El T_api_Ins)) (points : List Int) (s : Int) : ∀ (L : Lt) (j : Empty), procOf (procsF Go.Proofs.Tryd.prog (clOf t_ref3_Ends) tb_ref3_Ends Go.Proofs.Tryd.f10 c_ref3_Ends (toForms sg_ref3_Ends (t, points, s, ()))) (S_ref3_Ends t points s j).1 L (S_ref3_Ends t points s j).2 = (T_ref3_Ends t points s j).run (fun v => some (R_ref3_Ends v, tps (toForms sg_ref3_Ends (t, points, s, ())))) fun j => L (S_ref3_Ends t points s j).1 (S_ref3_Ends t points s j).2 := fun L j => nomatch j
noncomputable def e_ref3_Ends : Run := entG sg_ref3_Ends R_ref3_Ends (fun a => k_ref3_Ends a.1 a.2.1 a.2.2.1) (fun a => v_ref3_Ends a.1 a.2.1 a.2.2.1)
theorem ok_ref3_Ends : EntOK Go.Proofs.Tryd.prog 10 e_ref3_Ends := entG_ok (tb := tb_ref3_Ends) (c := c_ref3_Ends) tk_ref3_Ends (by kernel_rfl) (by kernel_rfl) (by kernel_rfl) (fun a => by kernel_rfl) fun ⟨t, points, s, _⟩ hk => evF_goes (c := c_ref3_Ends) (K := fun v => (R_ref3_Ends v, tps (toForms sg_ref3_Ends (t, points, s, ())))) (S := S_ref3_Ends t points s) (by kernel_rfl) (en_ref3_Ends t points s) (lp_ref3_Ends t points s) (g_ref3_Ends t points s hk)
end
end Go.Ev
end

section
set_option linter.unusedSectionVars false
set_option linter.unusedVariables false
set_option linter.unusedSimpArgs false
set_option maxRecDepth 100000
set_option linter.unusedVariables false
open Go Go.Ev
namespace Go.Ev
noncomputable section
/-! ### paling/palingbook.SameInts -/
def sg_book_SameInts : Sig := [(false, (.sl (.int .i64))), (false, (.sl (.int .i64)))]
noncomputable def t_book_SameInts : Tbl := []
theorem tk_book_SameInts : ∀ p ∈ t_book_SameInts, EntOK Go.Proofs.Tryd.prog p.1 p.2 := tbl_nil
noncomputable def c_book_SameInts : Code := Go.Proofs.Tryd.f8.body.getD .skip
def tb_book_SameInts : Tb := [(6, ⟨[0, 1, 5], []⟩)]
inductive J_book_SameInts where
  | l6 (i : Int)
def T_book_SameInts (a : List Int) (b : List Int) : J_book_SameInts → JT J_book_SameInts (Bool)
  | .l6 i =>
    .br (decide (i < (Int.ofNat (List.length a))))
      (.br ((decide ((0 : Int) ≤ i)) && (decide (i < (Int.ofNat (List.length a)))))
        (.br ((decide ((0 : Int) ≤ i)) && (decide (i < (Int.ofNat (List.length b)))))
          (.br ((List.getD a (Int.toNat i) (dflt (.int .i64))) != (List.getD b (Int.toNat i) (dflt (.int .i64))))
            (.leaf false)
          (.jmp (.l6 (IntKind.i64.wrap (i + (1 : Int))))))
        (.no))
      (.no))
    (.leaf true)
def T0_book_SameInts (a : List Int) (b : List Int) : JT J_book_SameInts (Bool) :=
  .br ((Int.ofNat (List.length a)) != (Int.ofNat (List.length b)))
    (.leaf false)
  (.jmp (.l6 (0 : Int)))
def R_book_SameInts : Bool → AV := fun (r : Bool) => .d .bool r
def S_book_SameInts (a : List Int) (b : List Int) : J_book_SameInts → Nat × St
  | .l6 i => (6, ⟨mkTm 26 [(0, .d (.sl (.int .i64)) a), (1, .d (.sl (.int .i64)) b), (5, .d (.int .i64) i)], []⟩)
theorem en_book_SameInts (a : List Int) (b : List Int) (L : Lt) : entryA Go.Proofs.Tryd.prog (clOf t_book_SameInts) tb_book_SameInts Go.Proofs.Tryd.f8 c_book_SameInts L (toForms sg_book_SameInts (a, b, ())) = (T0_book_SameInts a b).run (fun v => some (R_book_SameInts v, tps (toForms sg_book_SameInts (a, b, ())))) fun j => L (S_book_SameInts a b j).1 (S_book_SameInts a b j).2 := by kernel_rfl
theorem lp_book_SameInts (a : List Int) (b : List Int) : ∀ (L : Lt) (j : J_book_SameInts), procOf (procsF Go.Proofs.Tryd.prog (clOf t_book_SameInts) tb_book_SameInts Go.Proofs.Tryd.f8 c_book_SameInts (toForms sg_book_SameInts (a, b, ()))) (S_book_SameInts a b j).1 L (S_book_SameInts a b j).2 = (T_book_SameInts a b j).run (fun v => some (R_book_SameInts v, tps (toForms sg_book_SameInts (a, b, ())))) fun j => L (S_book_SameInts a b j).1 (S_book_SameInts a b j).2
  | L, .l6 i => by kernel_rfl
end
end Go.Ev
end

section
set_option linter.unusedSectionVars false
set_option linter.unusedVariables false
set_option linter.unusedSimpArgs false
set_option linter.unusedVariables false
set_option linter.unusedSimpArgs false
open Go
namespace Go.Ev
theorem intB_eq {a b : Int} : (a == b) = decide (a = b) := by rw [Bool.eq_iff_iff]; simp

def v_book_SameInts (a b : List Int) : Bool := decide (a = b)
def k_book_SameInts (a b : List Int) : Bool := decide (a.length < 4611686018427387904)
theorem g_book_SameInts (a b : List Int) (hk : k_book_SameInts a b = true) : Goes (T_book_SameInts a b) (T0_book_SameInts a b) (v_book_SameInts a b) := by
  have hn : a.length < 4611686018427387904 := of_decide_eq_true hk
  have loop : a.length = b.length → ∀ k, k ≤ a.length → Goes (T_book_SameInts a b) (.jmp (.l6 (k : Int))) (decide (a.drop k = b.drop k)) := by
    intro he
    refine down ?_ fun k hk ih => ?_
    · rw [goes_jmp]
      simp [T_book_SameInts, goes_br, goes_leaf, he]
    · rw [goes_jmp]
      have hkb : k < b.length := he ▸ hk
      simp only [T_book_SameInts, goes_br, lt_len hk, lt_len hkb, nng, Bool.and_self, if_true, Int.toNat_natCast, getD_lt hk, getD_lt hkb, wrap_succ (k := k) (by omega)]
      rw [drop_cons hk, drop_cons hkb]
      split
      · rename_i h1
        have h2 : (! decide (a[k] = b[k])) = true := (congrArg Bool.not intB_eq).symm.trans h1
        have h3 : ¬ a[k] = b[k] := by simpa using h2
        rw [decide_eq_false (fun e => h3 (List.cons.inj e).1)]
        exact .leaf
      · rename_i h1
        have h2 : ¬ (! decide (a[k] = b[k])) = true := fun h => h1 ((congrArg Bool.not intB_eq).trans h)
        have h3 : a[k] = b[k] := by simpa using h2
        rw [show decide (a[k] :: List.drop (k + 1) a = b[k] :: List.drop (k + 1) b) = decide (List.drop (k + 1) a = List.drop (k + 1) b) from decide_eq_decide.2 ⟨fun e => (List.cons.inj e).2, fun e => by rw [h3, e]⟩]
        exact ih
  unfold T0_book_SameInts v_book_SameInts
  rw [goes_br]
  by_cases h : a.length = b.length
  · have := loop h 0 (Nat.zero_le _)
    simpa [h] using this
  · have : a ≠ b := fun e => h (congrArg _ e)
    rw [if_pos (by simp; omega), decide_eq_false this]
    exact .leaf

end Go.Ev
end

section
set_option linter.unusedSectionVars false
set_option linter.unusedVariables false
set_option linter.unusedSimpArgs false
set_option maxRecDepth 100000
set_option linter.unusedVariables false
open Go Go.Ev
namespace Go.Ev
noncomputable section
noncomputable def e_book_SameInts : Run := entG sg_book_SameInts R_book_SameInts (fun a => k_book_SameInts a.1 a.2.1) (fun a => v_book_SameInts a.1 a.2.1)
theorem ok_book_SameInts : EntOK Go.Proofs.Tryd.prog 8 e_book_SameInts := entG_ok (tb := tb_book_SameInts) (c := c_book_SameInts) tk_book_SameInts (by kernel_rfl) (by kernel_rfl) (by kernel_rfl) (fun a => by kernel_rfl) fun ⟨a, b, _⟩ hk => evF_goes (c := c_book_SameInts) (K := fun v => (R_book_SameInts v, tps (toForms sg_book_SameInts (a, b, ())))) (S := S_book_SameInts a b) (by kernel_rfl) (en_book_SameInts a b) (lp_book_SameInts a b) (g_book_SameInts a b hk)
end
end Go.Ev
end

section
set_option linter.unusedSectionVars false
set_option linter.unusedVariables false
set_option linter.unusedSimpArgs false
set_option maxRecDepth 100000
set_option linter.unusedVariables false
open Go Go.Ev
namespace Go.Ev
noncomputable section
/-! ### slices.Index[[]int,int] -/
def sg_slices_Index___int_int_ : Sig := [(false, (.sl (.int .i64))), (false, (.int .i64))]
noncomputable def t_slices_Index___int_int_ : Tbl := []
theorem tk_slices_Index___int_int_ : ∀ p ∈ t_slices_Index___int_int_, EntOK Go.Proofs.Tryd.prog p.1 p.2 := tbl_nil
noncomputable def c_slices_Index___int_int_ : Code := Go.Proofs.Tryd.f40.body.getD .skip
def tb_slices_Index___int_int_ : Tb := [(3, ⟨[0, 1, 7, 8], []⟩)]
inductive J_slices_Index___int_int_ where
  | l3 (h : Int)
def T_slices_Index___int_int_ (s : List Int) (v_ : Int) : J_slices_Index___int_int_ → JT J_slices_Index___int_int_ (Int)
  | .l3 h =>
    .br (decide (h < (Int.ofNat (List.length s))))
      (.br ((decide ((0 : Int) ≤ h)) && (decide (h < (Int.ofNat (List.length s)))))
        (.br (v_ == (List.getD s (Int.toNat h) (dflt (.int .i64))))
          (.leaf h)
        (.jmp (.l3 (IntKind.i64.wrap (h + (1 : Int))))))
      (.no))
    (.leaf (-1 : Int))
def T0_slices_Index___int_int_ (s : List Int) (v_ : Int) : JT J_slices_Index___int_int_ (Int) :=
  .jmp (.l3 (0 : Int))
def R_slices_Index___int_int_ : Int → AV := fun (r : Int) => .d (.int .i64) r
def S_slices_Index___int_int_ (s : List Int) (v_ : Int) : J_slices_Index___int_int_ → Nat × St
  | .l3 h => (3, ⟨mkTm 19 [(0, .d (.sl (.int .i64)) s), (1, .d (.int .i64) v_), (7, .d (.int .i64) (Int.ofNat (List.length s))), (8, .d (.int .i64) h)], []⟩)
theorem en_slices_Index___int_int_ (s : List Int) (v_ : Int) (L : Lt) : entryA Go.Proofs.Tryd.prog (clOf t_slices_Index___int_int_) tb_slices_Index___int_int_ Go.Proofs.Tryd.f40 c_slices_Index___int_int_ L (toForms sg_slices_Index___int_int_ (s, v_, ())) = (T0_slices_Index___int_int_ s v_).run (fun v => some (R_slices_Index___int_int_ v, tps (toForms sg_slices_Index___int_int_ (s, v_, ())))) fun j => L (S_slices_Index___int_int_ s v_ j).1 (S_slices_Index___int_int_ s v_ j).2 := by kernel_rfl
theorem lp_slices_Index___int_int_ (s : List Int) (v_ : Int) : ∀ (L : Lt) (j : J_slices_Index___int_int_), procOf (procsF Go.Proofs.Tryd.prog (clOf t_slices_Index___int_int_) tb_slices_Index___int_int_ Go.Proofs.Tryd.f40 c_slices_Index___int_int_ (toForms sg_slices_Index___int_int_ (s, v_, ()))) (S_slices_Index___int_int_ s v_ j).1 L (S_slices_Index___int_int_ s v_ j).2 = (T_slices_Index___int_int_ s v_ j).run (fun v => some (R_slices_Index___int_int_ v, tps (toForms sg_slices_Index___int_int_ (s, v_, ())))) fun j => L (S_slices_Index___int_int_ s v_ j).1 (S_slices_Index___int_int_ s v_ j).2
  | L, .l3 h => by kernel_rfl
end
end Go.Ev
end

section
set_option linter.unusedSectionVars false
set_option linter.unusedVariables false
set_option linter.unusedSimpArgs false
set_option linter.unusedVariables false
set_option linter.unusedSimpArgs false
open Go
namespace Go.Ev
def indexI (v : Int) : List Int → Nat → Int
  | [], _ => -1
  | x :: r, k => if v = x then (k : Int) else indexI v r (k + 1)
theorem indexI_ge {v : Int} : ∀ {l : List Int} {k : Nat}, decide (indexI v l k ≥ 0) = l.contains v
  | [], k => rfl
  | x :: r, k => by
    unfold indexI
    rw [List.contains_cons]
    by_cases h : v = x
    · subst h; rw [if_pos rfl]; simp
    · rw [if_neg h, indexI_ge]
      have : (v == x) = false := by simpa using h
      rw [this, Bool.false_or]
def v_slices_Index___int_int_ (s : List Int) (v : Int) : Int := indexI v s 0
def k_slices_Index___int_int_ (s : List Int) (v : Int) : Bool := decide (s.length < 4611686018427387904)
theorem g_slices_Index___int_int_ (s : List Int) (v : Int) (hk : k_slices_Index___int_int_ s v = true) : Goes (T_slices_Index___int_int_ s v) (T0_slices_Index___int_int_ s v) (v_slices_Index___int_int_ s v) := by
  have hn : s.length < 4611686018427387904 := of_decide_eq_true hk
  have loop : ∀ k, k ≤ s.length → Goes (T_slices_Index___int_int_ s v) (.jmp (.l3 (k : Int))) (indexI v (s.drop k) k) := by
    refine down ?_ fun k hk ih => ?_
    · rw [goes_jmp, T_slices_Index___int_int_, goes_br, if_neg (by rw [lt_len_not (Nat.lt_irrefl _)]; decide), List.drop_length]
      exact .leaf
    · have hd : s.getD k (dflt (.int .i64)) = s[k] := getD_lt hk
      rw [goes_jmp, T_slices_Index___int_int_, goes_br, if_pos (lt_len hk), goes_br, if_pos (bound_len hk), goes_br, Int.toNat_natCast, hd, drop_cons hk, indexI, wrap_succ (by omega)]
      by_cases h : v = s[k]
      · rw [if_pos h, if_pos (by simpa using h)]; exact .leaf
      · rw [if_neg h, if_neg (by simpa using h)]; exact ih
  exact loop 0 (Nat.zero_le _)
end Go.Ev
end

section
set_option linter.unusedSectionVars false
set_option linter.unusedVariables false
set_option linter.unusedSimpArgs false
set_option maxRecDepth 100000
set_option linter.unusedVariables false
open Go Go.Ev
namespace Go.Ev
noncomputable section
noncomputable def e_slices_Index___int_int_ : Run := entG sg_slices_Index___int_int_ R_slices_Index___int_int_ (fun a => k_slices_Index___int_int_ a.1 a.2.1) (fun a => v_slices_Index___int_int_ a.1 a.2.1)
theorem ok_slices_Index___int_int_ : EntOK Go.Proofs.Tryd.prog 40 e_slices_Index___int_int_ := entG_ok (tb := tb_slices_Index___int_int_) (c := c_slices_Index___int_int_) tk_slices_Index___int_int_ (by kernel_rfl) (by kernel_rfl) (by kernel_rfl) (fun a => by kernel_rfl) fun ⟨s, v_, _⟩ hk => evF_goes (c := c_slices_Index___int_int_) (K := fun v => (R_slices_Index___int_int_ v, tps (toForms sg_slices_Index___int_int_ (s, v_, ())))) (S := S_slices_Index___int_int_ s v_) (by kernel_rfl) (en_slices_Index___int_int_ s v_) (lp_slices_Index___int_int_ s v_) (g_slices_Index___int_int_ s v_ hk)
end
end Go.Ev
end

section
set_option linter.unusedSectionVars false
set_option linter.unusedVariables false
set_option linter.unusedSimpArgs false
set_option maxRecDepth 100000
set_option linter.unusedVariables false
open Go Go.Ev
namespace Go.Ev
noncomputable section
/-! ### slices.Contains[[]int,int] -/
def sg_slices_Contains___int_int_ : Sig := [(false, (.sl (.int .i64))), (false, (.int .i64))]
noncomputable def t_slices_Contains___int_int_ : Tbl := [(40, e_slices_Index___int_int_)]
theorem tk_slices_Contains___int_int_ : ∀ p ∈ t_slices_Contains___int_int_, EntOK Go.Proofs.Tryd.prog p.1 p.2 := tbl_cons ok_slices_Index___int_int_ (tbl_nil)
noncomputable def c_slices_Contains___int_int_ : Code := Go.Proofs.Tryd.f27.body.getD .skip
def tb_slices_Contains___int_int_ : Tb := []
def T_slices_Contains___int_int_ (s : List Int) (v_ : Int) : Empty → JT Empty (Bool) := fun j => nomatch j
def T0_slices_Contains___int_int_ (s : List Int) (v_ : Int) : JT Empty (Bool) :=
  .br (k_slices_Index___int_int_ s v_)
    (.leaf (decide ((v_slices_Index___int_int_ s v_) ≥ (0 : Int))))
  (.no)
def v_slices_Contains___int_int_ (s : List Int) (v_ : Int) : Bool :=
  bif (k_slices_Index___int_int_ s v_) then
    (decide ((v_slices_Index___int_int_ s v_) ≥ (0 : Int)))
  else false
def k_slices_Contains___int_int_ (s : List Int) (v_ : Int) : Bool :=
  bif (k_slices_Index___int_int_ s v_) then
    true
  else false
theorem g_slices_Contains___int_int_ (s : List Int) (v_ : Int) (hk : k_slices_Contains___int_int_ s v_ = true) : Goes (T_slices_Contains___int_int_ s v_) (T0_slices_Contains___int_int_ s v_) (v_slices_Contains___int_int_ s v_) :=
  Goes.brk hk (fun hk =>
    Goes.leaf) (fun hk =>
    Goes.nok hk)
def R_slices_Contains___int_int_ : Bool → AV := fun (r : Bool) => .d .bool r
def S_slices_Contains___int_int_ (s : List Int) (v_ : Int) : Empty → Nat × St := fun j => nomatch j
theorem en_slices_Contains___int_int_ (s : List Int) (v_ : Int) (L : Lt) : entryA Go.Proofs.Tryd.prog (clOf t_slices_Contains___int_int_) tb_slices_Contains___int_int_ Go.Proofs.Tryd.f27 c_slices_Contains___int_int_ L (toForms sg_slices_Contains___int_int_ (s, v_, ())) = (T0_slices_Contains___int_int_ s v_).run (fun v => some (R_slices_Contains___int_int_ v, tps (toForms sg_slices_Contains___int_int_ (s, v_, ())))) fun j => L (S_slices_Contains___int_int_ s v_ j).1 (S_slices_Contains___int_int_ s v_ j).2 := by kernel_rfl
theorem lp_slices_Contains___int_int_ (s : List Int) (v_ : Int) : ∀ (L : Lt) (j : Empty), procOf (procsF Go.Proofs.Tryd.prog (clOf t_slices_Contains___int_int_) tb_slices_Contains___int_int_ Go.Proofs.Tryd.f27 c_slices_Contains___int_int_ (toForms sg_slices_Contains___int_int_ (s, v_, ()))) (S_slices_Contains___int_int_ s v_ j).1 L (S_slices_Contains___int_int_ s v_ j).2 = (T_slices_Contains___int_int_ s v_ j).run (fun v => some (R_slices_Contains___int_int_ v, tps (toForms sg_slices_Contains___int_int_ (s, v_, ())))) fun j => L (S_slices_Contains___int_int_ s v_ j).1 (S_slices_Contains___int_int_ s v_ j).2 := fun L j => nomatch j
noncomputable def e_slices_Contains___int_int_ : Run := entG sg_slices_Contains___int_int_ R_slices_Contains___int_int_ (fun a => k_slices_Contains___int_int_ a.1 a.2.1) (fun a => v_slices_Contains___int_int_ a.1 a.2.1)
theorem ok_slices_Contains___int_int_ : EntOK Go.Proofs.Tryd.prog 27 e_slices_Contains___int_int_ := entG_ok (tb := tb_slices_Contains___int_int_) (c := c_slices_Contains___int_int_) tk_slices_Contains___int_int_ (by kernel_rfl) (by kernel_rfl) (by kernel_rfl) (fun a => by kernel_rfl) fun ⟨s, v_, _⟩ hk => evF_goes (c := c_slices_Contains___int_int_) (K := fun v => (R_slices_Contains___int_int_ v, tps (toForms sg_slices_Contains___int_int_ (s, v_, ())))) (S := S_slices_Contains___int_int_ s v_) (by kernel_rfl) (en_slices_Contains___int_int_ s v_) (lp_slices_Contains___int_int_ s v_) (g_slices_Contains___int_int_ s v_ hk)
end
end Go.Ev
end

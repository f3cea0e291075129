/- Part of the proof of: A point more opens no way, none leads to a point, and with a point ahead of each that follows there is none: for every input the law answers true. -/
import Derived.Shelf.Slices.In.SortNone
import Derived.Shelf.Sort.Plain
import Derived.Test.YtcojpeeoodchoaaDoorCon0
section
set_option linter.unusedSectionVars false
set_option linter.unusedVariables false
set_option linter.unusedSimpArgs false
set_option maxRecDepth 100000
set_option linter.unusedVariables false
open Go Go.Ev
namespace Go.Ev
noncomputable section
/-! ### paling/valid.Find -/
def sg_valid_Find : Sig := [(true, (.sl T_api_Ins)), (false, .str)]
noncomputable def t_valid_Find : Tbl := []
theorem tk_valid_Find : ∀ p ∈ t_valid_Find, EntOK Go.Proofs.Tryd.prog p.1 p.2 := tbl_nil
noncomputable def c_valid_Find : Code := Go.Proofs.Tryd.f29.body.getD .skip
def tb_valid_Find : Tb := [(3, ⟨[1, 10, 11, 12], []⟩), (9, ⟨[1, 5, 10, 11, 12, 18, 19, 20], []⟩)]
inductive J_valid_Find where
  | l3 (h : Int)
  | l9 (h : List ByteArray) (h1 : Int) (h2 : Int) (k : Int) (h3 : Int)
def T_valid_Find (t : List (El T_api_Ins)) (label : ByteArray) : J_valid_Find → JT J_valid_Find (Int)
  | .l3 h =>
    .br (decide (h < (Int.ofNat (List.length t))))
      (.br ((decide ((0 : Int) ≤ h)) && (decide (h < (Int.ofNat (List.length t)))))
        (.jmp (.l9 (List.getD t (Int.toNat h) (dflt T_api_Ins)).2.2.2.2.2.2 (Int.ofNat (List.length (List.getD t (Int.toNat h) (dflt T_api_Ins)).2.2.2.2.2.2)) (0 : Int) h h))
      (.no))
    (.leaf (-1 : Int))
  | .l9 h h1 h2 k h3 =>
    .br (decide (h2 < h1))
      (.br ((decide ((0 : Int) ≤ h2)) && (decide (h2 < (Int.ofNat (List.length h)))))
        (.br (eqB (List.getD h (Int.toNat h2) (dflt .str)) label)
          (.leaf k)
        (.jmp (.l9 h h1 (IntKind.i64.wrap (h2 + (1 : Int))) k h3)))
      (.no))
    (.jmp (.l3 (IntKind.i64.wrap (h3 + (1 : Int)))))
def T0_valid_Find (t : List (El T_api_Ins)) (label : ByteArray) : JT J_valid_Find (Int) :=
  .jmp (.l3 (0 : Int))
def R_valid_Find : Int → AV := fun (r : Int) => .d (.int .i64) r
def S_valid_Find (t : List (El T_api_Ins)) (label : ByteArray) : J_valid_Find → Nat × St
  | .l3 h => (3, ⟨mkTm 30 [(1, .d .str label), (10, .d (.sl T_api_Ins) t), (11, .d (.int .i64) (Int.ofNat (List.length t))), (12, .d (.int .i64) h)], []⟩)
  | .l9 h h1 h2 k h3 => (9, ⟨mkTm 30 [(1, .d .str label), (5, .d (.int .i64) k), (10, .d (.sl T_api_Ins) t), (11, .d (.int .i64) (Int.ofNat (List.length t))), (12, .d (.int .i64) h3), (18, .d (.sl .str) h), (19, .d (.int .i64) h1), (20, .d (.int .i64) h2)], []⟩)
theorem en_valid_Find (t : List (El T_api_Ins)) (label : ByteArray) (L : Lt) : entryA Go.Proofs.Tryd.prog (clOf t_valid_Find) tb_valid_Find Go.Proofs.Tryd.f29 c_valid_Find L (toForms sg_valid_Find (t, label, ())) = (T0_valid_Find t label).run (fun v => some (R_valid_Find v, tps (toForms sg_valid_Find (t, label, ())))) fun j => L (S_valid_Find t label j).1 (S_valid_Find t label j).2 := by kernel_rfl
theorem lp_valid_Find (t : List (El T_api_Ins)) (label : ByteArray) : ∀ (L : Lt) (j : J_valid_Find), procOf (procsF Go.Proofs.Tryd.prog (clOf t_valid_Find) tb_valid_Find Go.Proofs.Tryd.f29 c_valid_Find (toForms sg_valid_Find (t, label, ()))) (S_valid_Find t label j).1 L (S_valid_Find t label j).2 = (T_valid_Find t label j).run (fun v => some (R_valid_Find v, tps (toForms sg_valid_Find (t, label, ())))) fun j => L (S_valid_Find t label j).1 (S_valid_Find t label j).2
  | L, .l3 h => by kernel_rfl
  | L, .l9 h h1 h2 k h3 => by kernel_rfl
end
end Go.Ev
end

section
set_option linter.unusedSectionVars false
set_option linter.unusedVariables false
set_option linter.unusedSimpArgs false
set_option linter.unusedVariables false
set_option linter.unusedSimpArgs false
open Go
namespace Go.Ev
def v_valid_Find (t : List (El T_api_Ins)) (label : ByteArray) : Int := findI label t 0
def k_valid_Find (t : List (El T_api_Ins)) (label : ByteArray) : Bool := decide (t.length < 1099511627776) && t.all fun i => decide (i.2.2.2.2.2.2.length < 1099511627776)
theorem g_valid_Find (t : List (El T_api_Ins)) (label : ByteArray) (hk : k_valid_Find t label = true) : Goes (T_valid_Find t label) (T0_valid_Find t label) (v_valid_Find t label) := by
  unfold k_valid_Find at hk
  simp only [Bool.and_eq_true, decide_eq_true_eq, List.all_eq_true] at hk
  obtain ⟨hn, hl⟩ := hk
  have loop : ∀ k, k ≤ t.length → Goes (T_valid_Find t label) (.jmp (.l3 (k : Int))) (findI label (t.drop k) k) := by
    refine down ?_ fun k hk ih => ?_
    · rw [goes_jmp]
      simp only [T_valid_Find, goes_br, lt_len_not (Nat.lt_irrefl _), goes_leaf, List.drop_length]
      simp [findI]
    · have hli := hl t[k] (List.getElem_mem hk)
      rw [goes_jmp]
      simp only [T_valid_Find, goes_br, lt_len hk, nng, Bool.and_self, if_true, Int.toNat_natCast, getD_lt hk]
      rw [drop_cons hk]
      unfold findI
      generalize t[k].2.2.2.2.2.2 = ls at hli
      have inner : ∀ j, j ≤ ls.length → Goes (T_valid_Find t label) (.jmp (.l9 ls (Int.ofNat ls.length) (j : Int) (k : Int) (k : Int))) (if (ls.drop j).contains label then (k : Int) else findI label (t.drop (k + 1)) (k + 1)) := by
        refine down ?_ fun j hj ihj => ?_
        · rw [goes_jmp]
          simp only [T_valid_Find, goes_br, lt_len_not (Nat.lt_irrefl _), wrap_succ (k := k) (by omega), List.drop_length]
          simpa using ih
        · rw [goes_jmp]
          simp only [T_valid_Find, goes_br, lt_len hj, nng, Bool.and_self, if_true, Int.toNat_natCast, getD_lt hj, wrap_succ (k := j) (by omega), eqB_iff]
          rw [drop_cons hj, List.contains_cons]
          by_cases h : ls[j] = label
          · rw [if_pos h]; subst h; simp [goes_leaf]
          · rw [if_neg h, beq_false_of_ne (Ne.symm h), Bool.false_or]
            exact ihj
      simpa using inner 0 (Nat.zero_le _)
  unfold T0_valid_Find v_valid_Find
  simpa using loop 0 (Nat.zero_le _)
end Go.Ev
end

section
set_option linter.unusedSectionVars false
set_option linter.unusedVariables false
set_option linter.unusedSimpArgs false
set_option maxRecDepth 100000
set_option linter.unusedVariables false
open Go Go.Ev
namespace Go.Ev
noncomputable section
noncomputable def e_valid_Find : Run := entG sg_valid_Find R_valid_Find (fun a => k_valid_Find a.1 a.2.1) (fun a => v_valid_Find a.1 a.2.1)
theorem ok_valid_Find : EntOK Go.Proofs.Tryd.prog 29 e_valid_Find := entG_ok (tb := tb_valid_Find) (c := c_valid_Find) tk_valid_Find (by kernel_rfl) (by kernel_rfl) (by kernel_rfl) (fun a => by kernel_rfl) fun ⟨t, label, _⟩ hk => evF_goes (c := c_valid_Find) (K := fun v => (R_valid_Find v, tps (toForms sg_valid_Find (t, label, ())))) (S := S_valid_Find t label) (by kernel_rfl) (en_valid_Find t label) (lp_valid_Find t label) (g_valid_Find t label hk)
end
end Go.Ev
end

section
set_option linter.unusedSectionVars false
set_option linter.unusedVariables false
set_option linter.unusedSimpArgs false
set_option maxRecDepth 100000
set_option linter.unusedVariables false
open Go Go.Ev
namespace Go.Ev
noncomputable section
/-! ### paling/flow.Next -/
def sg_flow_Next : Sig := [(true, (.sl T_api_Ins)), (false, (.int .i64))]
noncomputable def t_flow_Next : Tbl := [(28, e_ins_Leads), (29, e_valid_Find)]
theorem tk_flow_Next : ∀ p ∈ t_flow_Next, EntOK Go.Proofs.Tryd.prog p.1 p.2 := tbl_cons ok_ins_Leads (tbl_cons ok_valid_Find (tbl_nil))
noncomputable def c_flow_Next : Code := Go.Proofs.Tryd.f15.body.getD .skip
def tb_flow_Next : Tb := [(12, ⟨[1, 5, 8, 55, 68, 76], [(9, 46)]⟩), (14, ⟨[5, 8, 78], []⟩), (hintK, ⟨[], [(1, 46)]⟩)]
inductive J_flow_Next where
  | l12 (to_ : Int) (out : List Int) (h : Bool)
  | l14 (to_ : Int) (out : List Int) (h : Bool)
def T_flow_Next (t : List (El T_api_Ins)) (i : Int) : J_flow_Next → JT J_flow_Next (List Int)
  | .l12 to_ out h =>
    .br h
      (.br (Nat.ble (((List.length out) + 1) * 8) limit)
        (.br (decide (to_ > i))
          (.br ((Int.ofNat (List.length (out ++ [(IntKind.i64.wrap (i + (1 : Int)))]))) == (0 : Int))
            (.jmp (.l14 to_ (out ++ [(IntKind.i64.wrap (i + (1 : Int)))]) true))
          (.br ((decide ((0 : Int) ≤ (IntKind.i64.wrap ((Int.ofNat (List.length (out ++ [(IntKind.i64.wrap (i + (1 : Int)))]))) - (1 : Int))))) && (decide ((IntKind.i64.wrap ((Int.ofNat (List.length (out ++ [(IntKind.i64.wrap (i + (1 : Int)))]))) - (1 : Int))) < (Int.ofNat (List.length (out ++ [(IntKind.i64.wrap (i + (1 : Int)))]))))))
            (.jmp (.l14 to_ (out ++ [(IntKind.i64.wrap (i + (1 : Int)))]) ((List.getD (out ++ [(IntKind.i64.wrap (i + (1 : Int)))]) (Int.toNat (IntKind.i64.wrap ((Int.ofNat (List.length (out ++ [(IntKind.i64.wrap (i + (1 : Int)))]))) - (1 : Int)))) (dflt (.int .i64))) != to_)))
          (.no)))
        (.jmp (.l14 to_ (out ++ [(IntKind.i64.wrap (i + (1 : Int)))]) false)))
      (.no))
    (.br (decide (to_ > i))
      (.br ((Int.ofNat (List.length out)) == (0 : Int))
        (.jmp (.l14 to_ out true))
      (.br ((decide ((0 : Int) ≤ (IntKind.i64.wrap ((Int.ofNat (List.length out)) - (1 : Int))))) && (decide ((IntKind.i64.wrap ((Int.ofNat (List.length out)) - (1 : Int))) < (Int.ofNat (List.length out)))))
        (.jmp (.l14 to_ out ((List.getD out (Int.toNat (IntKind.i64.wrap ((Int.ofNat (List.length out)) - (1 : Int)))) (dflt (.int .i64))) != to_)))
      (.no)))
    (.jmp (.l14 to_ out false)))
  | .l14 to_ out h =>
    .br h
      (.br (Nat.ble (((List.length out) + 1) * 8) limit)
        (.leaf (out ++ [to_]))
      (.no))
    (.leaf out)
def T0_flow_Next (t : List (El T_api_Ins)) (i : Int) : JT J_flow_Next (List Int) :=
  .br (decide (i < (0 : Int)))
    (.leaf [])
  (.br (decide (i ≥ (Int.ofNat (List.length t))))
    (.leaf [])
  (.br ((decide ((0 : Int) ≤ i)) && (decide (i < (Int.ofNat (List.length t)))))
    (.br (k_ins_Leads (List.getD t (Int.toNat i) (dflt T_api_Ins)))
      (.br (v_ins_Leads (List.getD t (Int.toNat i) (dflt T_api_Ins))).2
        (.br ((decide ((0 : Int) ≤ i)) && (decide (i < (Int.ofNat (List.length t)))))
          (.br (k_valid_Find t (List.getD t (Int.toNat i) (dflt T_api_Ins)).2.2.2.2.2.1)
            (.br (decide ((v_valid_Find t (List.getD t (Int.toNat i) (dflt T_api_Ins)).2.2.2.2.2.1) ≥ (0 : Int)))
              (.br (decide ((v_valid_Find t (List.getD t (Int.toNat i) (dflt T_api_Ins)).2.2.2.2.2.1) ≤ i))
                (.br (v_ins_Leads (List.getD t (Int.toNat i) (dflt T_api_Ins))).1
                  (.jmp (.l12 (v_valid_Find t (List.getD t (Int.toNat i) (dflt T_api_Ins)).2.2.2.2.2.1) [(v_valid_Find t (List.getD t (Int.toNat i) (dflt T_api_Ins)).2.2.2.2.2.1)] (decide ((IntKind.i64.wrap (i + (1 : Int))) < (Int.ofNat (List.length t))))))
                (.jmp (.l12 (v_valid_Find t (List.getD t (Int.toNat i) (dflt T_api_Ins)).2.2.2.2.2.1) [(v_valid_Find t (List.getD t (Int.toNat i) (dflt T_api_Ins)).2.2.2.2.2.1)] false)))
              (.br (v_ins_Leads (List.getD t (Int.toNat i) (dflt T_api_Ins))).1
                (.jmp (.l12 (v_valid_Find t (List.getD t (Int.toNat i) (dflt T_api_Ins)).2.2.2.2.2.1) [] (decide ((IntKind.i64.wrap (i + (1 : Int))) < (Int.ofNat (List.length t))))))
              (.jmp (.l12 (v_valid_Find t (List.getD t (Int.toNat i) (dflt T_api_Ins)).2.2.2.2.2.1) [] false))))
            (.br (v_ins_Leads (List.getD t (Int.toNat i) (dflt T_api_Ins))).1
              (.jmp (.l12 (v_valid_Find t (List.getD t (Int.toNat i) (dflt T_api_Ins)).2.2.2.2.2.1) [] (decide ((IntKind.i64.wrap (i + (1 : Int))) < (Int.ofNat (List.length t))))))
            (.jmp (.l12 (v_valid_Find t (List.getD t (Int.toNat i) (dflt T_api_Ins)).2.2.2.2.2.1) [] false))))
          (.no))
        (.no))
      (.br (v_ins_Leads (List.getD t (Int.toNat i) (dflt T_api_Ins))).1
        (.jmp (.l12 (-1 : Int) [] (decide ((IntKind.i64.wrap (i + (1 : Int))) < (Int.ofNat (List.length t))))))
      (.jmp (.l12 (-1 : Int) [] false))))
    (.no))
  (.no)))
def v_flow_Next_l14 (t : List (El T_api_Ins)) (i : Int) (to_ : Int) (out : List Int) (h : Bool) : List Int :=
  bif h then
    bif (Nat.ble (((List.length out) + 1) * 8) limit) then
      (out ++ [to_])
    else []
  else out
def k_flow_Next_l14 (t : List (El T_api_Ins)) (i : Int) (to_ : Int) (out : List Int) (h : Bool) : Bool :=
  bif h then
    bif (Nat.ble (((List.length out) + 1) * 8) limit) then
      true
    else false
  else true
theorem g_flow_Next_l14 (t : List (El T_api_Ins)) (i : Int) (to_ : Int) (out : List Int) (h : Bool) (hk : k_flow_Next_l14 t i to_ out h = true) : Goes (T_flow_Next t i) (.jmp (.l14 to_ out h)) (v_flow_Next_l14 t i to_ out h) :=
  Goes.jmp (Goes.brk hk (fun hk =>
    Goes.brk hk (fun hk =>
      Goes.leaf) (fun hk =>
      Goes.nok hk)) (fun hk =>
    Goes.leaf))
def v_flow_Next_l12 (t : List (El T_api_Ins)) (i : Int) (to_ : Int) (out : List Int) (h : Bool) : List Int :=
  bif h then
    bif (Nat.ble (((List.length out) + 1) * 8) limit) then
      bif (decide (to_ > i)) then
        bif ((Int.ofNat (List.length (out ++ [(IntKind.i64.wrap (i + (1 : Int)))]))) == (0 : Int)) then
          v_flow_Next_l14 t i to_ (out ++ [(IntKind.i64.wrap (i + (1 : Int)))]) true
        else bif ((decide ((0 : Int) ≤ (IntKind.i64.wrap ((Int.ofNat (List.length (out ++ [(IntKind.i64.wrap (i + (1 : Int)))]))) - (1 : Int))))) && (decide ((IntKind.i64.wrap ((Int.ofNat (List.length (out ++ [(IntKind.i64.wrap (i + (1 : Int)))]))) - (1 : Int))) < (Int.ofNat (List.length (out ++ [(IntKind.i64.wrap (i + (1 : Int)))])))))) then
          v_flow_Next_l14 t i to_ (out ++ [(IntKind.i64.wrap (i + (1 : Int)))]) ((List.getD (out ++ [(IntKind.i64.wrap (i + (1 : Int)))]) (Int.toNat (IntKind.i64.wrap ((Int.ofNat (List.length (out ++ [(IntKind.i64.wrap (i + (1 : Int)))]))) - (1 : Int)))) (dflt (.int .i64))) != to_)
        else []
      else v_flow_Next_l14 t i to_ (out ++ [(IntKind.i64.wrap (i + (1 : Int)))]) false
    else []
  else bif (decide (to_ > i)) then
    bif ((Int.ofNat (List.length out)) == (0 : Int)) then
      v_flow_Next_l14 t i to_ out true
    else bif ((decide ((0 : Int) ≤ (IntKind.i64.wrap ((Int.ofNat (List.length out)) - (1 : Int))))) && (decide ((IntKind.i64.wrap ((Int.ofNat (List.length out)) - (1 : Int))) < (Int.ofNat (List.length out))))) then
      v_flow_Next_l14 t i to_ out ((List.getD out (Int.toNat (IntKind.i64.wrap ((Int.ofNat (List.length out)) - (1 : Int)))) (dflt (.int .i64))) != to_)
    else []
  else v_flow_Next_l14 t i to_ out false
def k_flow_Next_l12 (t : List (El T_api_Ins)) (i : Int) (to_ : Int) (out : List Int) (h : Bool) : Bool :=
  bif h then
    bif (Nat.ble (((List.length out) + 1) * 8) limit) then
      bif (decide (to_ > i)) then
        bif ((Int.ofNat (List.length (out ++ [(IntKind.i64.wrap (i + (1 : Int)))]))) == (0 : Int)) then
          k_flow_Next_l14 t i to_ (out ++ [(IntKind.i64.wrap (i + (1 : Int)))]) true
        else bif ((decide ((0 : Int) ≤ (IntKind.i64.wrap ((Int.ofNat (List.length (out ++ [(IntKind.i64.wrap (i + (1 : Int)))]))) - (1 : Int))))) && (decide ((IntKind.i64.wrap ((Int.ofNat (List.length (out ++ [(IntKind.i64.wrap (i + (1 : Int)))]))) - (1 : Int))) < (Int.ofNat (List.length (out ++ [(IntKind.i64.wrap (i + (1 : Int)))])))))) then
          k_flow_Next_l14 t i to_ (out ++ [(IntKind.i64.wrap (i + (1 : Int)))]) ((List.getD (out ++ [(IntKind.i64.wrap (i + (1 : Int)))]) (Int.toNat (IntKind.i64.wrap ((Int.ofNat (List.length (out ++ [(IntKind.i64.wrap (i + (1 : Int)))]))) - (1 : Int)))) (dflt (.int .i64))) != to_)
        else false
      else k_flow_Next_l14 t i to_ (out ++ [(IntKind.i64.wrap (i + (1 : Int)))]) false
    else false
  else bif (decide (to_ > i)) then
    bif ((Int.ofNat (List.length out)) == (0 : Int)) then
      k_flow_Next_l14 t i to_ out true
    else bif ((decide ((0 : Int) ≤ (IntKind.i64.wrap ((Int.ofNat (List.length out)) - (1 : Int))))) && (decide ((IntKind.i64.wrap ((Int.ofNat (List.length out)) - (1 : Int))) < (Int.ofNat (List.length out))))) then
      k_flow_Next_l14 t i to_ out ((List.getD out (Int.toNat (IntKind.i64.wrap ((Int.ofNat (List.length out)) - (1 : Int)))) (dflt (.int .i64))) != to_)
    else false
  else k_flow_Next_l14 t i to_ out false
theorem g_flow_Next_l12 (t : List (El T_api_Ins)) (i : Int) (to_ : Int) (out : List Int) (h : Bool) (hk : k_flow_Next_l12 t i to_ out h = true) : Goes (T_flow_Next t i) (.jmp (.l12 to_ out h)) (v_flow_Next_l12 t i to_ out h) :=
  Goes.jmp (Goes.brk hk (fun hk =>
    Goes.brk hk (fun hk =>
      Goes.brk hk (fun hk =>
        Goes.brk hk (fun hk =>
          g_flow_Next_l14 t i to_ (out ++ [(IntKind.i64.wrap (i + (1 : Int)))]) true hk) (fun hk =>
          Goes.brk hk (fun hk =>
            g_flow_Next_l14 t i to_ (out ++ [(IntKind.i64.wrap (i + (1 : Int)))]) ((List.getD (out ++ [(IntKind.i64.wrap (i + (1 : Int)))]) (Int.toNat (IntKind.i64.wrap ((Int.ofNat (List.length (out ++ [(IntKind.i64.wrap (i + (1 : Int)))]))) - (1 : Int)))) (dflt (.int .i64))) != to_) hk) (fun hk =>
            Goes.nok hk))) (fun hk =>
        g_flow_Next_l14 t i to_ (out ++ [(IntKind.i64.wrap (i + (1 : Int)))]) false hk)) (fun hk =>
      Goes.nok hk)) (fun hk =>
    Goes.brk hk (fun hk =>
      Goes.brk hk (fun hk =>
        g_flow_Next_l14 t i to_ out true hk) (fun hk =>
        Goes.brk hk (fun hk =>
          g_flow_Next_l14 t i to_ out ((List.getD out (Int.toNat (IntKind.i64.wrap ((Int.ofNat (List.length out)) - (1 : Int)))) (dflt (.int .i64))) != to_) hk) (fun hk =>
          Goes.nok hk))) (fun hk =>
      g_flow_Next_l14 t i to_ out false hk)))
def u_flow_Next (t : List (El T_api_Ins)) (i : Int) : List Int :=
  bif (decide (i < (0 : Int))) then
    []
  else bif (decide (i ≥ (Int.ofNat (List.length t)))) then
    []
  else bif ((decide ((0 : Int) ≤ i)) && (decide (i < (Int.ofNat (List.length t))))) then
    bif (k_ins_Leads (List.getD t (Int.toNat i) (dflt T_api_Ins))) then
      bif (v_ins_Leads (List.getD t (Int.toNat i) (dflt T_api_Ins))).2 then
        bif ((decide ((0 : Int) ≤ i)) && (decide (i < (Int.ofNat (List.length t))))) then
          bif (k_valid_Find t (List.getD t (Int.toNat i) (dflt T_api_Ins)).2.2.2.2.2.1) then
            bif (decide ((v_valid_Find t (List.getD t (Int.toNat i) (dflt T_api_Ins)).2.2.2.2.2.1) ≥ (0 : Int))) then
              bif (decide ((v_valid_Find t (List.getD t (Int.toNat i) (dflt T_api_Ins)).2.2.2.2.2.1) ≤ i)) then
                bif (v_ins_Leads (List.getD t (Int.toNat i) (dflt T_api_Ins))).1 then
                  v_flow_Next_l12 t i (v_valid_Find t (List.getD t (Int.toNat i) (dflt T_api_Ins)).2.2.2.2.2.1) [(v_valid_Find t (List.getD t (Int.toNat i) (dflt T_api_Ins)).2.2.2.2.2.1)] (decide ((IntKind.i64.wrap (i + (1 : Int))) < (Int.ofNat (List.length t))))
                else v_flow_Next_l12 t i (v_valid_Find t (List.getD t (Int.toNat i) (dflt T_api_Ins)).2.2.2.2.2.1) [(v_valid_Find t (List.getD t (Int.toNat i) (dflt T_api_Ins)).2.2.2.2.2.1)] false
              else bif (v_ins_Leads (List.getD t (Int.toNat i) (dflt T_api_Ins))).1 then
                v_flow_Next_l12 t i (v_valid_Find t (List.getD t (Int.toNat i) (dflt T_api_Ins)).2.2.2.2.2.1) [] (decide ((IntKind.i64.wrap (i + (1 : Int))) < (Int.ofNat (List.length t))))
              else v_flow_Next_l12 t i (v_valid_Find t (List.getD t (Int.toNat i) (dflt T_api_Ins)).2.2.2.2.2.1) [] false
            else bif (v_ins_Leads (List.getD t (Int.toNat i) (dflt T_api_Ins))).1 then
              v_flow_Next_l12 t i (v_valid_Find t (List.getD t (Int.toNat i) (dflt T_api_Ins)).2.2.2.2.2.1) [] (decide ((IntKind.i64.wrap (i + (1 : Int))) < (Int.ofNat (List.length t))))
            else v_flow_Next_l12 t i (v_valid_Find t (List.getD t (Int.toNat i) (dflt T_api_Ins)).2.2.2.2.2.1) [] false
          else []
        else []
      else bif (v_ins_Leads (List.getD t (Int.toNat i) (dflt T_api_Ins))).1 then
        v_flow_Next_l12 t i (-1 : Int) [] (decide ((IntKind.i64.wrap (i + (1 : Int))) < (Int.ofNat (List.length t))))
      else v_flow_Next_l12 t i (-1 : Int) [] false
    else []
  else []
def ku_flow_Next (t : List (El T_api_Ins)) (i : Int) : Bool :=
  bif (decide (i < (0 : Int))) then
    true
  else bif (decide (i ≥ (Int.ofNat (List.length t)))) then
    true
  else bif ((decide ((0 : Int) ≤ i)) && (decide (i < (Int.ofNat (List.length t))))) then
    bif (k_ins_Leads (List.getD t (Int.toNat i) (dflt T_api_Ins))) then
      bif (v_ins_Leads (List.getD t (Int.toNat i) (dflt T_api_Ins))).2 then
        bif ((decide ((0 : Int) ≤ i)) && (decide (i < (Int.ofNat (List.length t))))) then
          bif (k_valid_Find t (List.getD t (Int.toNat i) (dflt T_api_Ins)).2.2.2.2.2.1) then
            bif (decide ((v_valid_Find t (List.getD t (Int.toNat i) (dflt T_api_Ins)).2.2.2.2.2.1) ≥ (0 : Int))) then
              bif (decide ((v_valid_Find t (List.getD t (Int.toNat i) (dflt T_api_Ins)).2.2.2.2.2.1) ≤ i)) then
                bif (v_ins_Leads (List.getD t (Int.toNat i) (dflt T_api_Ins))).1 then
                  k_flow_Next_l12 t i (v_valid_Find t (List.getD t (Int.toNat i) (dflt T_api_Ins)).2.2.2.2.2.1) [(v_valid_Find t (List.getD t (Int.toNat i) (dflt T_api_Ins)).2.2.2.2.2.1)] (decide ((IntKind.i64.wrap (i + (1 : Int))) < (Int.ofNat (List.length t))))
                else k_flow_Next_l12 t i (v_valid_Find t (List.getD t (Int.toNat i) (dflt T_api_Ins)).2.2.2.2.2.1) [(v_valid_Find t (List.getD t (Int.toNat i) (dflt T_api_Ins)).2.2.2.2.2.1)] false
              else bif (v_ins_Leads (List.getD t (Int.toNat i) (dflt T_api_Ins))).1 then
                k_flow_Next_l12 t i (v_valid_Find t (List.getD t (Int.toNat i) (dflt T_api_Ins)).2.2.2.2.2.1) [] (decide ((IntKind.i64.wrap (i + (1 : Int))) < (Int.ofNat (List.length t))))
              else k_flow_Next_l12 t i (v_valid_Find t (List.getD t (Int.toNat i) (dflt T_api_Ins)).2.2.2.2.2.1) [] false
            else bif (v_ins_Leads (List.getD t (Int.toNat i) (dflt T_api_Ins))).1 then
              k_flow_Next_l12 t i (v_valid_Find t (List.getD t (Int.toNat i) (dflt T_api_Ins)).2.2.2.2.2.1) [] (decide ((IntKind.i64.wrap (i + (1 : Int))) < (Int.ofNat (List.length t))))
            else k_flow_Next_l12 t i (v_valid_Find t (List.getD t (Int.toNat i) (dflt T_api_Ins)).2.2.2.2.2.1) [] false
          else false
        else false
      else bif (v_ins_Leads (List.getD t (Int.toNat i) (dflt T_api_Ins))).1 then
        k_flow_Next_l12 t i (-1 : Int) [] (decide ((IntKind.i64.wrap (i + (1 : Int))) < (Int.ofNat (List.length t))))
      else k_flow_Next_l12 t i (-1 : Int) [] false
    else false
  else false
theorem gu_flow_Next (t : List (El T_api_Ins)) (i : Int) (hk : ku_flow_Next t i = true) : Goes (T_flow_Next t i) (T0_flow_Next t i) (u_flow_Next t i) :=
  Goes.brk hk (fun hk =>
    Goes.leaf) (fun hk =>
    Goes.brk hk (fun hk =>
      Goes.leaf) (fun hk =>
      Goes.brk hk (fun hk =>
        Goes.brk hk (fun hk =>
          Goes.brk hk (fun hk =>
            Goes.brk hk (fun hk =>
              Goes.brk hk (fun hk =>
                Goes.brk hk (fun hk =>
                  Goes.brk hk (fun hk =>
                    Goes.brk hk (fun hk =>
                      g_flow_Next_l12 t i (v_valid_Find t (List.getD t (Int.toNat i) (dflt T_api_Ins)).2.2.2.2.2.1) [(v_valid_Find t (List.getD t (Int.toNat i) (dflt T_api_Ins)).2.2.2.2.2.1)] (decide ((IntKind.i64.wrap (i + (1 : Int))) < (Int.ofNat (List.length t)))) hk) (fun hk =>
                      g_flow_Next_l12 t i (v_valid_Find t (List.getD t (Int.toNat i) (dflt T_api_Ins)).2.2.2.2.2.1) [(v_valid_Find t (List.getD t (Int.toNat i) (dflt T_api_Ins)).2.2.2.2.2.1)] false hk)) (fun hk =>
                    Goes.brk hk (fun hk =>
                      g_flow_Next_l12 t i (v_valid_Find t (List.getD t (Int.toNat i) (dflt T_api_Ins)).2.2.2.2.2.1) [] (decide ((IntKind.i64.wrap (i + (1 : Int))) < (Int.ofNat (List.length t)))) hk) (fun hk =>
                      g_flow_Next_l12 t i (v_valid_Find t (List.getD t (Int.toNat i) (dflt T_api_Ins)).2.2.2.2.2.1) [] false hk))) (fun hk =>
                  Goes.brk hk (fun hk =>
                    g_flow_Next_l12 t i (v_valid_Find t (List.getD t (Int.toNat i) (dflt T_api_Ins)).2.2.2.2.2.1) [] (decide ((IntKind.i64.wrap (i + (1 : Int))) < (Int.ofNat (List.length t)))) hk) (fun hk =>
                    g_flow_Next_l12 t i (v_valid_Find t (List.getD t (Int.toNat i) (dflt T_api_Ins)).2.2.2.2.2.1) [] false hk))) (fun hk =>
                Goes.nok hk)) (fun hk =>
              Goes.nok hk)) (fun hk =>
            Goes.brk hk (fun hk =>
              g_flow_Next_l12 t i (-1 : Int) [] (decide ((IntKind.i64.wrap (i + (1 : Int))) < (Int.ofNat (List.length t)))) hk) (fun hk =>
              g_flow_Next_l12 t i (-1 : Int) [] false hk))) (fun hk =>
          Goes.nok hk)) (fun hk =>
        Goes.nok hk)))
def R_flow_Next : List Int → AV := fun (r : List Int) => .rw 3 (.int .i64) r
def S_flow_Next (t : List (El T_api_Ins)) (i : Int) : J_flow_Next → Nat × St
  | .l12 to_ out h => (12, ⟨mkTm 84 [(1, .d (.int .i64) i), (5, .d (.int .i64) to_), (8, .own 9 0 none), (55, .d .bool h)], [(9, 0, .row 3 (.int .i64) out false)]⟩)
  | .l14 to_ out h => (14, ⟨mkTm 84 [(5, .d (.int .i64) to_), (8, .own 9 0 none), (78, .d .bool h)], [(9, 0, .row 3 (.int .i64) out false)]⟩)
theorem en_flow_Next (t : List (El T_api_Ins)) (i : Int) (L : Lt) : entryA Go.Proofs.Tryd.prog (clOf t_flow_Next) tb_flow_Next Go.Proofs.Tryd.f15 c_flow_Next L (toForms sg_flow_Next (t, i, ())) = (T0_flow_Next t i).run (fun v => some (R_flow_Next v, tps (toForms sg_flow_Next (t, i, ())))) fun j => L (S_flow_Next t i j).1 (S_flow_Next t i j).2 := by kernel_rfl
theorem lp_flow_Next (t : List (El T_api_Ins)) (i : Int) : ∀ (L : Lt) (j : J_flow_Next), procOf (procsF Go.Proofs.Tryd.prog (clOf t_flow_Next) tb_flow_Next Go.Proofs.Tryd.f15 c_flow_Next (toForms sg_flow_Next (t, i, ()))) (S_flow_Next t i j).1 L (S_flow_Next t i j).2 = (T_flow_Next t i j).run (fun v => some (R_flow_Next v, tps (toForms sg_flow_Next (t, i, ())))) fun j => L (S_flow_Next t i j).1 (S_flow_Next t i j).2
  | L, .l12 to_ out h => by kernel_rfl
  | L, .l14 to_ out h => by kernel_rfl
end
end Go.Ev
end

section
set_option linter.unusedSectionVars false
set_option linter.unusedVariables false
set_option linter.unusedSimpArgs false
/- What a set of small numbers has. -/
set_option linter.unusedVariables false
open Go
namespace Go.Ev

theorem wrapU_lt {n : Nat} (h : n < 2 ^ 64) : IntKind.u64.wrap (n : Int) = (n : Int) := by
  unfold IntKind.wrap
  simp only [IntKind.signed, IntKind.bits, Bool.false_and, Bool.false_eq_true, if_false]
  exact Int.emod_eq_of_lt (by omega) (by exact_mod_cast h)
theorem ofIntU {n : Nat} : BitVec.ofInt 64 (n : Int) = BitVec.ofNat 64 n := BitVec.ofInt_natCast 64 n
theorem bitAnd_eq {a b : Nat} (ha : a < 2 ^ 64) (hb : b < 2 ^ 64) : bitAnd IntKind.u64 (a : Int) (b : Int) = ((a &&& b : Nat) : Int) := by
  unfold bitAnd
  show IntKind.u64.wrap (((BitVec.ofInt 64 (a : Int) &&& BitVec.ofInt 64 (b : Int)).toNat : Nat) : Int) = _
  rw [ofIntU, ofIntU, BitVec.toNat_and, BitVec.toNat_ofNat, BitVec.toNat_ofNat, Nat.mod_eq_of_lt ha, Nat.mod_eq_of_lt hb]
  exact wrapU_lt (Nat.lt_of_le_of_lt Nat.and_le_left ha)
theorem bitOr_eq {a b : Nat} (ha : a < 2 ^ 64) (hb : b < 2 ^ 64) : bitOr IntKind.u64 (a : Int) (b : Int) = ((a ||| b : Nat) : Int) := by
  unfold bitOr
  show IntKind.u64.wrap (((BitVec.ofInt 64 (a : Int) ||| BitVec.ofInt 64 (b : Int)).toNat : Nat) : Int) = _
  rw [ofIntU, ofIntU, BitVec.toNat_or, BitVec.toNat_ofNat, BitVec.toNat_ofNat, Nat.mod_eq_of_lt ha, Nat.mod_eq_of_lt hb]
  exact wrapU_lt (Nat.or_lt_two_pow ha hb)
theorem two_pow_int (j : Nat) : (2 : Int) ^ j = ((2 ^ j : Nat) : Int) := by simp
theorem bitE_eq {w j : Nat} (hw : w < 2 ^ 64) (hj : j < 64) : bitE (w : Int) (j : Int) = w.testBit j := by
  unfold bitE
  rw [wrapU_small hj, Int.toNat_natCast, show min j (IntKind.u64).bits = j from Nat.min_eq_left (by show j ≤ 64; omega), two_pow_int, Int.fdiv_eq_ediv_of_nonneg _ (Int.natCast_nonneg _), ← Int.natCast_ediv]
  rw [show (1 : Int) = ((1 : Nat) : Int) from rfl, bitAnd_eq (Nat.lt_of_le_of_lt (Nat.div_le_self _ _) hw) (by decide), Nat.and_one_is_mod, Nat.testBit_eq_decide_div_mod_eq]
  by_cases h : w / 2 ^ j % 2 = 1
  · rw [h]; simp
  · have : w / 2 ^ j % 2 = 0 := by omega
    rw [this]; simp
theorem withBit_eq {w j : Nat} (hw : w < 2 ^ 64) (hj : j < 64) : withBit (w : Int) (j : Int) = ((w ||| 2 ^ j : Nat) : Int) := by
  unfold withBit
  have hp : 2 ^ j < 2 ^ 64 := Nat.pow_lt_pow_right (by decide) hj
  rw [wrapU_small hj, Int.toNat_natCast, show min j (IntKind.u64).bits = j from Nat.min_eq_left (by show j ≤ 64; omega), two_pow_int, Int.one_mul, wrapU_lt hp, bitOr_eq hw hp]

/-! ### Maps -/
theorem mget_mput_self (k v : Int) : ∀ m : List (Int × Int), mget (kt := .int .i64) k (mput (kt := .int .i64) k v m) = some v
  | [] => by simp [mput, mget, keyEq]
  | (x, u) :: r => by
    by_cases h : k = x
    · subst h; simp [mput, mget, keyEq]
    · have hb : keyEq (.int .i64) k x = false := by show (k == x) = false; simpa using h
      simp only [mput, hb, cond_false, mget]
      exact mget_mput_self k v r
theorem mget_mput_other {k k' : Int} (v : Int) (h : k' ≠ k) : ∀ m : List (Int × Int), mget (kt := .int .i64) k' (mput (kt := .int .i64) k v m) = mget (kt := .int .i64) k' m
  | [] => by
    have hb : keyEq (.int .i64) k' k = false := by show (k' == k) = false; simpa using h
    simp [mput, mget, hb]
  | (x, u) :: r => by
    by_cases hx : k = x
    · subst hx
      have hb : keyEq (.int .i64) k' k = false := by show (k' == k) = false; simpa using h
      have hb2 : keyEq (.int .i64) k k = true := by show (k == k) = true; simp
      simp only [mput, hb2, cond_true, mget, hb, cond_false]
    · have hb : keyEq (.int .i64) k x = false := by show (k == x) = false; simpa using hx
      simp only [mput, hb, cond_false, mget, mget_mput_other v h r]
theorem mget_mem_int {k v : Int} : ∀ {m : List (Int × Int)}, mget (kt := .int .i64) k m = some v → (k, v) ∈ m
  | [], h => by cases h
  | (x, u) :: r, h => by
    by_cases hx : k = x
    · subst hx
      have hb2 : keyEq (.int .i64) k k = true := by show (k == k) = true; simp
      simp only [mget, hb2, cond_true, Option.some.injEq] at h
      subst h
      simp
    · have hb : keyEq (.int .i64) k x = false := by show (k == x) = false; simpa using hx
      simp only [mget, hb, cond_false] at h
      exact List.mem_cons_of_mem _ (mget_mem_int h)
theorem mget_none_int {k : Int} : ∀ {m : List (Int × Int)}, mget (kt := .int .i64) k m = none → k ∉ m.map Prod.fst
  | [], _ => by simp
  | (x, u) :: r, h => by
    by_cases hx : k = x
    · subst hx
      have hb2 : keyEq (.int .i64) k k = true := by show (k == k) = true; simp
      simp only [mget, hb2, cond_true] at h
      cases h
    · have hb : keyEq (.int .i64) k x = false := by show (k == x) = false; simpa using hx
      simp only [mget, hb, cond_false] at h
      simp only [List.map_cons, List.mem_cons, not_or]
      exact ⟨hx, mget_none_int h⟩
theorem mput_mem {k v : Int} {p : Int × Int} : ∀ {m : List (Int × Int)}, p ∈ mput (kt := .int .i64) k v m → p = (k, v) ∨ p ∈ m
  | [], h => by simp [mput] at h; exact .inl h
  | (x, u) :: r, h => by
    by_cases hx : k = x
    · subst hx
      have hb2 : keyEq (.int .i64) k k = true := by show (k == k) = true; simp
      simp only [mput, hb2, cond_true] at h
      rcases List.mem_cons.1 h with h | h
      · exact .inl h
      · exact .inr (List.mem_cons_of_mem _ h)
    · have hb : keyEq (.int .i64) k x = false := by show (k == x) = false; simpa using hx
      simp only [mput, hb, cond_false] at h
      rcases List.mem_cons.1 h with h | h
      · exact .inr (by rw [h]; simp)
      · exact (mput_mem h).imp id (List.mem_cons_of_mem _)
theorem mput_len {k v : Int} : ∀ {m : List (Int × Int)}, (mput (kt := .int .i64) k v m).length ≤ m.length + 1
  | [] => by simp [mput]
  | (x, u) :: r => by
    have := @mput_len k v r
    simp only [mput]
    cases keyEq (.int .i64) k x <;> simp <;> omega

theorem mput_keys_int {k v : Int} : ∀ {m : List (Int × Int)}, (mput (kt := .int .i64) k v m).map Prod.fst = if k ∈ m.map Prod.fst then m.map Prod.fst else m.map Prod.fst ++ [k]
  | [] => by simp [mput]
  | (x, u) :: r => by
    by_cases hx : k = x
    · subst hx
      have hb2 : keyEq (.int .i64) k k = true := by show (k == k) = true; simp
      simp only [mput, hb2, cond_true]
      simp
    · have hb : keyEq (.int .i64) k x = false := by show (k == x) = false; simpa using hx
      simp only [mput, hb, cond_false, List.map_cons, List.mem_cons, hx, false_or]
      rw [@mput_keys_int k v r]
      by_cases h : k ∈ r.map Prod.fst
      · rw [if_pos h, if_pos h]
      · rw [if_neg h, if_neg h]; rfl
theorem mput_nodup_int {k v : Int} {m : List (Int × Int)} (h : (m.map Prod.fst).Nodup) : ((mput (kt := .int .i64) k v m).map Prod.fst).Nodup := by
  rw [mput_keys_int]
  split
  · exact h
  · rename_i hk
    rw [List.nodup_append]
    exact ⟨h, by simp, fun a ha b hb e => by simp at hb; subst hb; subst e; exact hk ha⟩
theorem strict_len : ∀ {l : List Int} {a b : Int}, l.Pairwise (· < ·) → (∀ x ∈ l, a ≤ x ∧ x < b) → a ≤ b → (l.length : Int) ≤ b - a
  | [], a, b, _, _, h => by simp; omega
  | y :: l, a, b, hp, hb, h => by
    rw [List.pairwise_cons] at hp
    have hy := hb y (by simp)
    have := strict_len (l := l) (a := y + 1) (b := b) hp.2 (fun x hx => ⟨hp.1 x hx, (hb x (List.mem_cons_of_mem _ hx)).2⟩) (by omega)
    simp
    omega

/-! ### Sets -/
structure SetOK (s : Int × List (Int × Int)) (n : Nat) (M : Nat → Bool) : Prop where
  size : s.1 = n
  nodup : (s.2.map Prod.fst).Nodup
  words : ∀ p ∈ s.2, ∃ k w : Nat, p = ((k : Int), (w : Int)) ∧ k * 64 < n ∧ w < 2 ^ 64
  bits : ∀ k j : Nat, j < 64 → (wordAt s.2 (k : Int)).toNat.testBit j = M (k * 64 + j)
  lt : ∀ i, M i = true → i < n

theorem SetOK.new (n : Nat) : SetOK ((n : Int), []) n fun _ => false := ⟨rfl, List.nodup_nil, fun p hp => by simp at hp, fun k j _ => by simp [wordAt, mget], fun i h => by cases h⟩
variable {s : Int × List (Int × Int)} {n : Nat} {M : Nat → Bool}
theorem SetOK.word (h : SetOK s n M) (k : Nat) : ∃ w : Nat, wordAt s.2 (k : Int) = (w : Int) ∧ w < 2 ^ 64 := by
  unfold wordAt
  cases hg : mget (kt := .int .i64) (k : Int) s.2 with
  | none => exact ⟨0, rfl, by decide⟩
  | some v =>
    obtain ⟨k', w, e, _, hw⟩ := h.words _ (mget_mem_int hg)
    simp only [Prod.mk.injEq] at e
    exact ⟨w, e.2, hw⟩
theorem placeOf_nat {i : Nat} (hi : i < 4611686018427387904) : placeOf (i : Int) = ((i / 64 : Nat) : Int) := by
  unfold placeOf
  rw [show Int.tdiv (i : Int) 64 = ((i / 64 : Nat) : Int) from rfl, wrap_i64 (by omega) (by omega)]
theorem SetOK.has (h : SetOK s n M) (hn : n < 4611686018427387904) (i : Int) : hasS s i = (decide (0 ≤ i) && M i.toNat) := by
  unfold hasS
  rw [h.size]
  by_cases h0 : 0 ≤ i
  · obtain ⟨j, rfl⟩ := Int.eq_ofNat_of_zero_le h0
    by_cases h1 : j < n
    · rw [decide_eq_true (show (j : Int) ≥ 0 from h0), decide_eq_true (show (j : Int) < (n : Int) by omega), Bool.true_and, Bool.true_and, Bool.true_and, placeOf_nat (by omega)]
      obtain ⟨w, hw, hlt⟩ := h.word (j / 64)
      have hb := h.bits (j / 64) (j % 64) (Nat.mod_lt _ (by decide))
      rw [hw, show Int.tmod (j : Int) 64 = ((j % 64 : Nat) : Int) from rfl, bitE_eq hlt (Nat.mod_lt _ (by decide))]
      rw [hw, Int.toNat_natCast] at hb
      rw [hb, Int.toNat_natCast, Nat.div_add_mod' j 64]
    · rw [decide_eq_false (show ¬ (j : Int) < (n : Int) by omega), Bool.false_and, Bool.and_false]
      have : M (j : Int).toNat = false := by
        rw [Int.toNat_natCast]
        cases hm : M j with
        | true => exact absurd (h.lt j hm) h1
        | false => rfl
      rw [this, Bool.and_false]
  · rw [decide_eq_false (show ¬ i ≥ 0 from h0), Bool.false_and, Bool.false_and]
theorem SetOK.put (h : SetOK s n M) (hn : n < 4611686018427387904) {i : Nat} (hi : i < n) (hM : M i = false) :
    (putS s i).1 = true ∧ SetOK (putS s i).2 n fun j => M j || (j == i) := by
  have hno : ¬ ((i : Int) < 0 ∨ s.1 ≤ (i : Int) ∨ hasS s (i : Int) = true) := by
    rw [h.has hn, h.size, Int.toNat_natCast, hM]
    simp
    omega
  unfold putS
  rw [if_neg hno, placeOf_nat (by omega), show Int.tmod (i : Int) 64 = ((i % 64 : Nat) : Int) from rfl]
  refine ⟨rfl, ?_⟩
  obtain ⟨w, hw, hlt⟩ := h.word (i / 64)
  have hj : i % 64 < 64 := Nat.mod_lt _ (by decide)
  have hp : 2 ^ (i % 64) < 2 ^ 64 := Nat.pow_lt_pow_right (by decide) hj
  rw [hw, withBit_eq hlt hj]
  have hw2 : w ||| 2 ^ (i % 64) < 2 ^ 64 := Nat.or_lt_two_pow hlt hp
  refine ⟨h.size, mput_nodup_int h.nodup, fun p hp => ?_, fun k j hj2 => ?_, fun k hk => ?_⟩
  · rcases mput_mem hp with rfl | hp
    · exact ⟨i / 64, _, rfl, by omega, hw2⟩
    · exact h.words p hp
  · unfold wordAt
    by_cases hk : k = i / 64
    · subst hk
      simp only
      rw [mget_mput_self, Option.getD_some, Int.toNat_natCast, Nat.testBit_or, Nat.testBit_two_pow]
      have hb := h.bits (i / 64) j hj2
      rw [hw, Int.toNat_natCast] at hb
      rw [hb]
      congr 1
      rw [Bool.eq_iff_iff]
      simp
      omega
    · simp only
      rw [mget_mput_other _ (by omega)]
      have hb := h.bits k j hj2
      unfold wordAt at hb
      rw [hb]
      have : (k * 64 + j == i) = false := by simp; omega
      rw [this, Bool.or_false]
  · simp only [Bool.or_eq_true, beq_iff_eq] at hk
    rcases hk with hk | hk
    · exact h.lt k hk
    · omega
theorem SetOK.put_no (h : SetOK s n M) (hn : n < 4611686018427387904) {i : Int} (hi : ¬ (0 ≤ i ∧ i < n ∧ M i.toNat = false)) : putS s i = (false, s) := by
  unfold putS
  rw [if_pos]
  rw [h.has hn, h.size]
  by_cases h0 : i < 0
  · exact .inl h0
  · by_cases h1 : (n : Int) ≤ i
    · exact .inr (.inl h1)
    · refine .inr (.inr ?_)
      have : ¬ M i.toNat = false := fun hf => hi ⟨by omega, by omega, hf⟩
      rw [Bool.not_eq_false] at this
      rw [this, decide_eq_true (by omega)]; rfl

theorem strict_ext : ∀ {l m : List Int}, l.Pairwise (· < ·) → m.Pairwise (· < ·) → (∀ x, x ∈ l ↔ x ∈ m) → l = m
  | [], [], _, _, _ => rfl
  | [], b :: m, _, _, h => by have := (h b).2 (by simp); simp at this
  | a :: l, [], _, _, h => by have := (h a).1 (by simp); simp at this
  | a :: l, b :: m, hl, hm, h => by
    rw [List.pairwise_cons] at hl hm
    have hab : a = b := by
      have h1 := (h a).1 (by simp)
      have h2 := (h b).2 (by simp)
      rcases List.mem_cons.1 h1 with h1 | h1
      · exact h1
      · rcases List.mem_cons.1 h2 with h2 | h2
        · exact h2.symm
        · have := hm.1 a h1; have := hl.1 b h2; omega
    subst hab
    rw [strict_ext hl.2 hm.2 fun x => ⟨fun hx => ?_, fun hx => ?_⟩]
    · have := hl.1 x hx
      rcases List.mem_cons.1 ((h x).1 (List.mem_cons_of_mem _ hx)) with e | e
      · omega
      · exact e
    · have := hm.1 x hx
      rcases List.mem_cons.1 ((h x).2 (List.mem_cons_of_mem _ hx)) with e | e
      · omega
      · exact e

/-- What is so of the first numbers. -/
def listOf (n : Nat) (M : Nat → Bool) : List Int := ((List.range n).filter M).map Int.ofNat
theorem listOf_mem {x : Int} : x ∈ listOf n M ↔ ∃ i : Nat, i < n ∧ M i = true ∧ x = (i : Int) := by
  unfold listOf
  simp only [List.mem_map, List.mem_filter, List.mem_range]
  constructor
  · rintro ⟨i, ⟨h1, h2⟩, rfl⟩; exact ⟨i, h1, h2, rfl⟩
  · rintro ⟨i, h1, h2, rfl⟩; exact ⟨i, ⟨h1, h2⟩, rfl⟩
theorem listOf_strict : (listOf n M).Pairwise (· < ·) := by
  unfold listOf
  rw [List.pairwise_map]
  refine (List.Pairwise.filter M List.pairwise_lt_range).imp fun {a b} h => ?_
  show (a : Int) < (b : Int)
  omega
theorem listOf_congr {M' : Nat → Bool} (h : ∀ i, i < n → M i = M' i) : listOf n M = listOf n M' := by
  unfold listOf
  congr 1
  exact List.filter_congr fun i hi => h i (List.mem_range.1 hi)
theorem SetOK.list (h : SetOK s n M) (hn : n < 4611686018427387904) : listS s = listOf n M := by
  have hkey : ∀ k ∈ s.2.map Prod.fst, ∃ k' : Nat, k = (k' : Int) ∧ k' * 64 < n := fun k hk => by
    obtain ⟨p, hp, rfl⟩ := List.mem_map.1 hk
    obtain ⟨k', w, e, h1, _⟩ := h.words p hp
    exact ⟨k', by rw [e], h1⟩
  have hwl : ∀ k : Nat, k * 64 < n → ∀ x, x ∈ wordList s.2 (k : Int) 0 64 ↔ ∃ j : Nat, j < 64 ∧ M (k * 64 + j) = true ∧ x = ((k * 64 + j : Nat) : Int) := fun k hk x => by
    obtain ⟨w, hw, hlt⟩ := h.word k
    unfold wordList
    rw [hw]
    simp only [List.mem_map, List.mem_filter, List.mem_range'_1]
    have hnum : ∀ j : Nat, j < 64 → numE (k : Int) (j : Int) = ((k * 64 + j : Nat) : Int) := fun j hj => by
      unfold numE
      rw [wrap_i64 (n := (k : Int) * 64) (by omega) (by omega), wrap_i64 (by omega) (by omega)]
      omega
    have hbit : ∀ j : Nat, j < 64 → bitE (w : Int) (j : Int) = M (k * 64 + j) := fun j hj => by
      rw [bitE_eq hlt hj]
      have := h.bits k j hj
      rwa [hw, Int.toNat_natCast] at this
    constructor
    · rintro ⟨j, ⟨hj, hb⟩, rfl⟩
      exact ⟨j, by omega, by rw [← hbit j (by omega)]; exact hb, hnum j (by omega)⟩
    · rintro ⟨j, hj, hb, rfl⟩
      exact ⟨j, ⟨by omega, by rw [hbit j hj]; exact hb⟩, hnum j hj⟩
  have hmem : ∀ {k : Int}, k ∈ (s.2.map Prod.fst).mergeSort (fun x y => decide (x ≤ y)) ↔ k ∈ s.2.map Prod.fst := List.mem_mergeSort
  have tr : ∀ a b c : Int, decide (a ≤ b) = true → decide (b ≤ c) = true → decide (a ≤ c) = true := fun a b c h1 h2 => by simp at *; omega
  have to : ∀ a b : Int, (decide (a ≤ b) || decide (b ≤ a)) = true := fun a b => by simp; omega
  have hs1 := List.pairwise_mergeSort tr to (s.2.map Prod.fst)
  have hs2 : ((s.2.map Prod.fst).mergeSort (fun x y => decide (x ≤ y))).Nodup := (List.mergeSort_perm _ _).nodup_iff.2 h.nodup
  have hst : ((s.2.map Prod.fst).mergeSort (fun x y => decide (x ≤ y))).Pairwise (· < ·) := (hs1.and hs2).imp fun {a b} h => by
    have h1 := h.1; have h2 := h.2; simp at h1; omega
  refine strict_ext ?_ listOf_strict fun x => ?_
  · unfold listS listAt
    rw [List.pairwise_flatMap]
    refine ⟨fun k hk => ?_, ?_⟩
    · obtain ⟨k', rfl, hk'⟩ := hkey k (hmem.1 hk)
      unfold wordList
      rw [List.pairwise_map]
      have hp : ((List.range' 0 64).filter fun i => bitE (wordAt s.2 (k' : Int)) (i : Nat)).Pairwise (· < ·) := List.Pairwise.filter _ (List.pairwise_lt_range' (step := 1) (s := 0) (n := 64) (by omega))
      refine (List.Pairwise.and_mem.1 hp).imp fun {a b} h => ?_
      obtain ⟨ha, hb, hab⟩ := h
      have ha' := (List.mem_range'_1.1 (List.mem_filter.1 ha).1)
      have hb' := (List.mem_range'_1.1 (List.mem_filter.1 hb).1)
      unfold numE
      rw [wrap_i64 (n := (k' : Int) * 64) (by omega) (by omega), wrap_i64 (by omega) (by omega), wrap_i64 (by omega) (by omega)]
      omega
    · refine (List.Pairwise.and_mem.1 hst).imp fun {a b} hab => ?_
      obtain ⟨ha, hb, hlt⟩ := hab
      obtain ⟨a', rfl, ha'⟩ := hkey a (hmem.1 ha)
      obtain ⟨b', rfl, hb'⟩ := hkey b (hmem.1 hb)
      intro x hx y hy
      obtain ⟨j, hj, _, rfl⟩ := (hwl a' ha' x).1 hx
      obtain ⟨j', hj', _, rfl⟩ := (hwl b' hb' y).1 hy
      omega
  · unfold listS listAt
    rw [listOf_mem, List.mem_flatMap]
    constructor
    · rintro ⟨k, hk, hx⟩
      obtain ⟨k', rfl, hk'⟩ := hkey k (hmem.1 hk)
      obtain ⟨j, hj, hM, rfl⟩ := (hwl k' hk' x).1 hx
      exact ⟨_, h.lt _ hM, hM, rfl⟩
    · rintro ⟨i, hi, hM, rfl⟩
      have hb := h.bits (i / 64) (i % 64) (Nat.mod_lt _ (by decide))
      rw [Nat.div_add_mod' i 64, hM] at hb
      refine ⟨((i / 64 : Nat) : Int), hmem.2 ?_, (hwl (i / 64) (by omega) _).2 ⟨i % 64, Nat.mod_lt _ (by decide), by rw [Nat.div_add_mod' i 64]; exact hM, by rw [Nat.div_add_mod' i 64]⟩⟩
      unfold wordAt at hb
      cases hg : mget (kt := .int .i64) ((i / 64 : Nat) : Int) s.2 with
      | none => rw [hg] at hb; simp at hb
      | some v => exact List.mem_map.2 ⟨_, mget_mem_int hg, rfl⟩
/-- So many words. -/
theorem SetOK.few (h : SetOK s n M) : s.2.length ≤ (n + 63) / 64 := by
  have tr : ∀ a b c : Int, decide (a ≤ b) = true → decide (b ≤ c) = true → decide (a ≤ c) = true := fun a b c h1 h2 => by simp at *; omega
  have to : ∀ a b : Int, (decide (a ≤ b) || decide (b ≤ a)) = true := fun a b => by simp; omega
  have hs1 := List.pairwise_mergeSort tr to (s.2.map Prod.fst)
  have hs2 : ((s.2.map Prod.fst).mergeSort (fun x y => decide (x ≤ y))).Nodup := (List.mergeSort_perm _ _).nodup_iff.2 h.nodup
  have hst : ((s.2.map Prod.fst).mergeSort (fun x y => decide (x ≤ y))).Pairwise (· < ·) := (hs1.and hs2).imp fun {a b} h => by
    have h1 := h.1; have h2 := h.2; simp at h1; omega
  have := strict_len (a := 0) (b := (((n + 63) / 64 : Nat) : Int)) hst (fun x hx => by
    obtain ⟨p, hp, rfl⟩ := List.mem_map.1 (List.mem_mergeSort.1 hx)
    obtain ⟨k', w, e, h1, _⟩ := h.words p hp
    rw [e]
    exact ⟨by simp, by simp; omega⟩) (by omega)
  simp at this
  omega
end Go.Ev
end

section
set_option linter.unusedSectionVars false
set_option linter.unusedVariables false
set_option linter.unusedSimpArgs false
/- What follows an instruction: over lists. -/
set_option maxRecDepth 100000
set_option linter.unusedVariables false
set_option linter.unusedSimpArgs false
open Go
namespace Go.Ev

def flowOK (t : List (El T_api_Ins)) : Bool := decide (t.length < 1099511627776) && t.all fun i => smallText i.2.2.2.2.2.1 && decide (i.2.2.2.2.2.2.length < 1099511627776)
theorem flowOK_len {t : List (El T_api_Ins)} (h : flowOK t = true) : t.length < 1099511627776 := by
  unfold flowOK at h; rw [Bool.and_eq_true] at h; exact of_decide_eq_true h.1
theorem flowOK_text {t : List (El T_api_Ins)} (h : flowOK t = true) {i : El T_api_Ins} (hi : i ∈ t) : smallText i.2.2.2.2.2.1 = true := by
  unfold flowOK at h
  rw [Bool.and_eq_true] at h
  have := List.all_eq_true.1 h.2 i hi
  rw [Bool.and_eq_true] at this
  exact this.1
theorem flowOK_find {t : List (El T_api_Ins)} (h : flowOK t = true) : (decide (t.length < 1099511627776) && t.all fun i => decide (i.2.2.2.2.2.2.length < 1099511627776)) = true := by
  unfold flowOK at h
  rw [Bool.and_eq_true] at h ⊢
  refine ⟨h.1, List.all_eq_true.2 fun i hi => ?_⟩
  have := List.all_eq_true.1 h.2 i hi
  rw [Bool.and_eq_true] at this
  exact this.2
theorem findI_lt {label : ByteArray} : ∀ {t : List (El T_api_Ins)} {k : Nat}, findI label t k < ((k + t.length : Nat) : Int) ∨ findI label t k = -1
  | [], k => .inr rfl
  | x :: r, k => by
    unfold findI
    split
    · left; simp; omega
    · rcases @findI_lt label r (k + 1) with h | h
      · left; simp only [List.length_cons]; omega
      · exact .inr h
theorem findI_ge {label : ByteArray} : ∀ {t : List (El T_api_Ins)} {k : Nat}, findI label t k = -1 ∨ (k : Int) ≤ findI label t k
  | [], k => .inl rfl
  | x :: r, k => by
    unfold findI
    split
    · right; omega
    · rcases @findI_ge label r (k + 1) with h | h
      · exact .inl h
      · right; omega

/-- Where one instruction leads: on, and to. -/
def onOf (t : List (El T_api_Ins)) (i : Nat) : Bool := (v_ins_Leads (t.getD i (dflt T_api_Ins))).1
def toOf (t : List (El T_api_Ins)) (i : Nat) : Int := if (v_ins_Leads (t.getD i (dflt T_api_Ins))).2 then findI (t.getD i (dflt T_api_Ins)).2.2.2.2.2.1 t 0 else -1
theorem toOf_lt {t : List (El T_api_Ins)} {i : Nat} : -1 ≤ toOf t i ∧ (toOf t i < (t.length : Int)) := by
  unfold toOf
  split
  · have h1 := @findI_lt (t.getD i (dflt T_api_Ins)).2.2.2.2.2.1 t 0
    have h2 := @findI_ge (t.getD i (dflt T_api_Ins)).2.2.2.2.2.1 t 0
    rw [Nat.zero_add] at h1
    omega
  · omega
/-- Does j follow i? -/
def nextB (t : List (El T_api_Ins)) (i : Int) (j : Nat) : Bool :=
  decide (0 ≤ i ∧ i < (t.length : Int) ∧ j < t.length) && ((onOf t i.toNat && decide ((j : Int) = i + 1)) || decide (toOf t i.toNat = (j : Int)))

theorem nextB_lt {t : List (El T_api_Ins)} {i : Int} {j : Nat} (h : nextB t i j = true) : j < t.length := by
  unfold nextB at h
  rw [Bool.and_eq_true] at h
  exact (of_decide_eq_true h.1).2.2

/-- The code's list. -/
def nextL (n : Nat) (on : Bool) (to i : Int) : List Int :=
  (if 0 ≤ to ∧ to ≤ i then [to] else []) ++ ((if on = true ∧ i + 1 < (n : Int) then [i + 1] else []) ++ (if to > i ∧ ¬ (on = true ∧ i + 1 < (n : Int) ∧ to = i + 1) then [to] else []))
theorem nextL_strict {n : Nat} {on : Bool} {to i : Int} : (nextL n on to i).Pairwise (· < ·) := by
  unfold nextL
  by_cases h1 : 0 ≤ to ∧ to ≤ i
  · rw [if_pos h1, if_neg (c := to > i ∧ _) (fun h => by omega)]
    by_cases h2 : on = true ∧ i + 1 < (n : Int)
    · rw [if_pos h2]; simp; omega
    · rw [if_neg h2]; simp
  · rw [if_neg h1]
    by_cases h2 : on = true ∧ i + 1 < (n : Int)
    · rw [if_pos h2]
      by_cases h3 : to > i ∧ ¬ (on = true ∧ i + 1 < (n : Int) ∧ to = i + 1)
      · rw [if_pos h3]
        have : to ≠ i + 1 := fun e => h3.2 ⟨h2.1, h2.2, e⟩
        simp; omega
      · rw [if_neg h3]; simp
    · rw [if_neg h2]
      by_cases h3 : to > i ∧ ¬ (on = true ∧ i + 1 < (n : Int) ∧ to = i + 1)
      · rw [if_pos h3]; simp
      · rw [if_neg h3]; simp
theorem nextL_eq {t : List (El T_api_Ins)} {i : Nat} (hi : i < t.length) : nextL t.length (onOf t i) (toOf t i) (i : Int) = listOf t.length (nextB t (i : Int)) := by
  refine strict_ext nextL_strict listOf_strict fun x => ?_
  rw [listOf_mem]
  have hb : ∀ j : Nat, nextB t (i : Int) j = true ↔ j < t.length ∧ ((onOf t i = true ∧ (j : Int) = (i : Int) + 1) ∨ toOf t i = (j : Int)) := fun j => by
    unfold nextB
    rw [Int.toNat_natCast]
    simp only [Bool.and_eq_true, Bool.or_eq_true, decide_eq_true_eq]
    constructor
    · rintro ⟨⟨_, _, h⟩, h2⟩; exact ⟨h, h2⟩
    · rintro ⟨h, h2⟩; exact ⟨⟨by omega, by omega, h⟩, h2⟩
  have ht := @toOf_lt t i
  unfold nextL
  constructor
  · intro h
    simp only [List.mem_append] at h
    rcases h with h | h | h
    · split at h
      · rename_i hc
        simp at h
        subst h
        exact ⟨(toOf t i).toNat, by omega, (hb _).2 ⟨by omega, .inr (by omega)⟩, by omega⟩
      · simp at h
    · split at h
      · rename_i hc
        simp at h
        subst h
        exact ⟨i + 1, by omega, (hb _).2 ⟨by omega, .inl ⟨hc.1, by omega⟩⟩, by omega⟩
      · simp at h
    · split at h
      · rename_i hc
        simp at h
        subst h
        exact ⟨(toOf t i).toNat, by omega, (hb _).2 ⟨by omega, .inr (by omega)⟩, by omega⟩
      · simp at h
  · rintro ⟨j, hj, hM, rfl⟩
    obtain ⟨_, h⟩ := (hb j).1 hM
    simp only [List.mem_append]
    rcases h with ⟨h1, h2⟩ | h
    · right; left
      rw [if_pos ⟨h1, by omega⟩]; simp; omega
    · by_cases hle : toOf t i ≤ (i : Int)
      · left; rw [if_pos ⟨by omega, hle⟩]; simp; omega
      · right
        by_cases hc : onOf t i = true ∧ (i : Int) + 1 < (t.length : Int) ∧ toOf t i = (i : Int) + 1
        · left; rw [if_pos ⟨hc.1, hc.2.1⟩]; simp; omega
        · right; rw [if_pos ⟨by omega, hc⟩]; simp; omega
end Go.Ev
end

section
set_option linter.unusedSectionVars false
set_option linter.unusedVariables false
set_option linter.unusedSimpArgs false
set_option maxRecDepth 100000
set_option linter.unusedVariables false
set_option linter.unusedSimpArgs false
open Go
namespace Go.Ev
def v_flow_Next (t : List (El T_api_Ins)) (i : Int) : List Int := listOf t.length (nextB t i)
def k_flow_Next (t : List (El T_api_Ins)) (i : Int) : Bool := flowOK t
theorem nextB_out {t : List (El T_api_Ins)} {i : Int} (h : ¬ (0 ≤ i ∧ i < (t.length : Int))) : listOf t.length (nextB t i) = [] := by
  unfold listOf
  rw [List.map_eq_nil_iff, List.filter_eq_nil_iff]
  intro j _ hb
  unfold nextB at hb
  rw [Bool.and_eq_true] at hb
  have := of_decide_eq_true hb.1
  exact h ⟨this.1, this.2.1⟩
theorem g_flow_Next (t : List (El T_api_Ins)) (i : Int) (hk : k_flow_Next t i = true) : Goes (T_flow_Next t i) (T0_flow_Next t i) (v_flow_Next t i) := by
  have hlen := flowOK_len hk
  unfold T0_flow_Next v_flow_Next
  rw [goes_br]
  by_cases h0 : i < 0
  · rw [if_pos (decide_eq_true h0), nextB_out (fun h => by omega)]; exact .leaf
  rw [if_neg (by simpa using h0), goes_br]
  obtain ⟨j, rfl⟩ := Int.eq_ofNat_of_zero_le (show 0 ≤ i by omega)
  by_cases h1 : (t.length : Int) ≤ (j : Int)
  · rw [if_pos (decide_eq_true (show (j : Int) ≥ Int.ofNat t.length from h1)), nextB_out (fun h => by omega)]; exact .leaf
  have hj : j < t.length := by omega
  rw [if_neg (by simp; omega), goes_br, if_pos (bound_len hj), goes_br, Int.toNat_natCast]
  rw [← nextL_eq hj]
  have hmem : t.getD j (dflt T_api_Ins) ∈ t := by rw [getD_lt hj]; exact List.getElem_mem hj
  have kl : k_ins_Leads (t.getD j (dflt T_api_Ins)) = true := k_leads (flowOK_text hk hmem)
  have kf : k_valid_Find t (t.getD j (dflt T_api_Ins)).2.2.2.2.2.1 = true := flowOK_find hk
  have vf : v_valid_Find t (t.getD j (dflt T_api_Ins)).2.2.2.2.2.1 = findI (t.getD j (dflt T_api_Ins)).2.2.2.2.2.1 t 0 := rfl
  rw [if_pos kl]
  have hw : IntKind.i64.wrap ((j : Int) + 1) = (j : Int) + 1 := by rw [wrap_i64 (by omega) (by omega)]
  -- the last label
  have l14 : ∀ (to : Int) (out : List Int) (h : Bool), out.length ≤ 3 → Goes (T_flow_Next t (j : Int)) (.jmp (.l14 to out h)) (out ++ if h = true then [to] else []) := by
    intro to out h ho
    rw [goes_jmp, T_flow_Next, goes_br]
    cases h with
    | true =>
      rw [if_pos rfl, goes_br, if_pos (Nat.ble_eq_true_of_le (by unfold limit; omega)), if_pos rfl]; exact .leaf
    | false => rw [if_neg (by decide), if_neg (by decide), List.append_nil]; exact .leaf
  have last : ∀ (out : List Int) (x : Int), out.length ≤ 1 → (decide ((0 : Int) ≤ IntKind.i64.wrap (Int.ofNat (out ++ [x]).length - 1)) && decide (IntKind.i64.wrap (Int.ofNat (out ++ [x]).length - 1) < Int.ofNat (out ++ [x]).length)) = true ∧ List.getD (out ++ [x]) (IntKind.i64.wrap (Int.ofNat (out ++ [x]).length - 1)).toNat (dflt (.int .i64)) = x := by
    intro out x ho
    have e : IntKind.i64.wrap (Int.ofNat (out ++ [x]).length - 1) = (out.length : Int) := by
      rw [List.length_append, List.length_singleton, wrap_i64 (by simp <;> omega) (by simp <;> omega)]
      simp
    rw [e]
    refine ⟨by simp; omega, ?_⟩
    rw [Int.toNat_natCast]
    simp [List.getD]
  have l12 : ∀ (to : Int) (h : Bool), -1 ≤ to → (h = true → (j : Int) + 1 < t.length) → Goes (T_flow_Next t (j : Int)) (.jmp (.l12 to (if 0 ≤ to ∧ to ≤ (j : Int) then [to] else []) h)) (nextL t.length h to (j : Int)) := by
    intro to h hto hh
    rw [goes_jmp, T_flow_Next]
    unfold nextL
    generalize hout : (if 0 ≤ to ∧ to ≤ (j : Int) then [to] else []) = out
    have hol : out.length ≤ 1 := by rw [← hout]; split <;> simp
    rw [goes_br]
    cases h with
    | true =>
      rw [if_pos rfl, goes_br, if_pos (Nat.ble_eq_true_of_le (by unfold limit; omega)), goes_br, hw]
      have hin := hh rfl
      obtain ⟨b1, b2⟩ := last out ((j : Int) + 1) hol
      rw [if_pos (show true = true ∧ (j : Int) + 1 < (t.length : Int) from ⟨rfl, hin⟩)]
      by_cases hgt : to > (j : Int)
      · rw [if_pos (decide_eq_true hgt), goes_br, if_neg (by simp; omega), goes_br, if_pos b1, b2]
        have := l14 to (out ++ [(j : Int) + 1]) ((j : Int) + 1 != to) (by simp; omega)
        rw [List.append_assoc] at this
        by_cases he : to = (j : Int) + 1
        · rw [if_neg (by simp [he]), List.append_nil] at this
          rw [if_neg (fun h => h.2 ⟨rfl, hin, he⟩), List.append_nil]
          exact this
        · rw [if_pos (by simp; omega)] at this
          rw [if_pos ⟨hgt, fun h => he h.2.2⟩]
          exact this
      · rw [if_neg (by simpa using hgt), if_neg (fun h => hgt h.1), List.append_nil]
        have := l14 to (out ++ [(j : Int) + 1]) false (by simp; omega)
        rwa [if_neg (by decide), List.append_nil] at this
    | false =>
      rw [if_neg (by decide), goes_br, if_neg (c := false = true ∧ (j : Int) + 1 < (t.length : Int)) (fun h => by cases h.1), List.nil_append]
      by_cases hgt : to > (j : Int)
      · have he : out = [] := by rw [← hout, if_neg (fun h => by omega)]
        subst he
        rw [if_pos (decide_eq_true hgt), goes_br, if_pos (show (Int.ofNat ([] : List Int).length == 0) = true from rfl), if_pos ⟨hgt, fun h => by cases h.1⟩]
        have := l14 to [] true (by simp)
        rwa [if_pos rfl] at this
      · rw [if_neg (by simpa using hgt), if_neg (fun h => hgt h.1), List.append_nil]
        have := l14 to out false (by omega)
        rwa [if_neg (by decide), List.append_nil] at this
  have key : ∀ (on : Bool) (to : Int), nextL t.length (bif on then decide ((j : Int) + 1 < Int.ofNat t.length) else false) to (j : Int) = nextL t.length on to (j : Int) := by
    intro on to
    cases on with
    | false => rfl
    | true =>
      show nextL t.length (decide ((j : Int) + 1 < Int.ofNat t.length)) to (j : Int) = nextL t.length true to (j : Int)
      by_cases hin : (j : Int) + 1 < (t.length : Int)
      · rw [decide_eq_true (show (j : Int) + 1 < Int.ofNat t.length from hin)]
      · rw [decide_eq_false (show ¬ (j : Int) + 1 < Int.ofNat t.length from hin)]
        unfold nextL
        rw [if_neg (c := false = true ∧ (j : Int) + 1 < (t.length : Int)) (fun h => by cases h.1), if_neg (c := true = true ∧ (j : Int) + 1 < (t.length : Int)) (fun h => hin h.2)]
        by_cases hgt : to > (j : Int)
        · rw [if_pos (c := to > (j : Int) ∧ ¬ (false = true ∧ (j : Int) + 1 < (t.length : Int) ∧ to = (j : Int) + 1)) ⟨hgt, fun h => by cases h.1⟩, if_pos (c := to > (j : Int) ∧ ¬ (true = true ∧ (j : Int) + 1 < (t.length : Int) ∧ to = (j : Int) + 1)) ⟨hgt, fun h => hin h.2.1⟩]
        · rw [if_neg (c := to > (j : Int) ∧ ¬ (false = true ∧ (j : Int) + 1 < (t.length : Int) ∧ to = (j : Int) + 1)) (fun h => hgt h.1), if_neg (c := to > (j : Int) ∧ ¬ (true = true ∧ (j : Int) + 1 < (t.length : Int) ∧ to = (j : Int) + 1)) (fun h => hgt h.1)]
  have both : ∀ (on : Bool) (to : Int) (out : List Int), -1 ≤ to → out = (if 0 ≤ to ∧ to ≤ (j : Int) then [to] else []) → Goes (T_flow_Next t (j : Int)) (.br on (.jmp (.l12 to out (decide (IntKind.i64.wrap ((j : Int) + 1) < Int.ofNat t.length)))) (.jmp (.l12 to out false))) (nextL t.length on to (j : Int)) := by
    intro on to out hto hout
    subst hout
    rw [goes_br, ← key, hw]
    cases on with
    | true =>
      rw [if_pos rfl, cond_true]
      exact l12 to _ hto fun h => of_decide_eq_true h
    | false =>
      rw [if_neg (by decide), cond_false]
      exact l12 to _ hto fun h => by cases h
  have hr := @toOf_lt t j
  rw [goes_br]
  unfold onOf
  by_cases hjmp : (v_ins_Leads (t.getD j (dflt T_api_Ins))).2 = true
  · have hto : toOf t j = findI (t.getD j (dflt T_api_Ins)).2.2.2.2.2.1 t 0 := by unfold toOf; rw [if_pos hjmp]
    rw [hto] at hr
    rw [if_pos hjmp, goes_br, if_pos (bound_len hj), goes_br, if_pos kf, goes_br, vf, hto]
    generalize findI (t.getD j (dflt T_api_Ins)).2.2.2.2.2.1 t 0 = to at hr
    by_cases h2 : to ≥ 0
    · rw [if_pos (decide_eq_true h2), goes_br]
      by_cases h3 : to ≤ (j : Int)
      · rw [if_pos (decide_eq_true h3)]
        exact both _ to _ hr.1 (by rw [if_pos ⟨h2, h3⟩])
      · rw [if_neg (by simpa using h3)]
        exact both _ to _ hr.1 (by rw [if_neg (fun h => h3 h.2)])
    · rw [if_neg (by simpa using h2)]
      exact both _ to _ hr.1 (by rw [if_neg (fun h => h2 h.1)])
  · have hto : toOf t j = -1 := by unfold toOf; rw [if_neg hjmp]
    rw [if_neg hjmp, hto]
    exact both _ (-1) _ (by omega) (by rw [if_neg (fun h => by omega)])
end Go.Ev
end

section
set_option linter.unusedSectionVars false
set_option linter.unusedVariables false
set_option linter.unusedSimpArgs false
set_option maxRecDepth 100000
set_option linter.unusedVariables false
open Go Go.Ev
namespace Go.Ev
noncomputable section
noncomputable def e_flow_Next : Run := entG sg_flow_Next R_flow_Next (fun a => k_flow_Next a.1 a.2.1) (fun a => v_flow_Next a.1 a.2.1)
theorem ok_flow_Next : EntOK Go.Proofs.Tryd.prog 15 e_flow_Next := entG_ok (tb := tb_flow_Next) (c := c_flow_Next) tk_flow_Next (by kernel_rfl) (by kernel_rfl) (by kernel_rfl) (fun a => by kernel_rfl) fun ⟨t, i, _⟩ hk => evF_goes (c := c_flow_Next) (K := fun v => (R_flow_Next v, tps (toForms sg_flow_Next (t, i, ())))) (S := S_flow_Next t i) (by kernel_rfl) (en_flow_Next t i) (lp_flow_Next t i) (g_flow_Next t i hk)
end
end Go.Ev
end

section
set_option linter.unusedSectionVars false
set_option linter.unusedVariables false
set_option linter.unusedSimpArgs false
set_option maxRecDepth 100000
set_option linter.unusedVariables false
open Go Go.Ev
namespace Go.Ev
noncomputable section
/-! ### paling/ins.Locked -/
def sg_ins_Locked : Sig := [(true, T_api_Ins)]
noncomputable def t_ins_Locked : Tbl := [(36, e_ins_Right)]
theorem tk_ins_Locked : ∀ p ∈ t_ins_Locked, EntOK Go.Proofs.Tryd.prog p.1 p.2 := tbl_cons ok_ins_Right (tbl_nil)
noncomputable def c_ins_Locked : Code := Go.Proofs.Tryd.f37.body.getD .skip
def tb_ins_Locked : Tb := []
def T_ins_Locked (i : El T_api_Ins) : Empty → JT Empty (Bool) := fun j => nomatch j
def T0_ins_Locked (i : El T_api_Ins) : JT Empty (Bool) :=
  .br (k_ins_Right i)
    (.br ((v_ins_Right i) == (0 : Int))
      (.br (i.1 == (8 : Int))
        (.leaf true)
      (.leaf i.2.1))
    (.leaf false))
  (.no)
def v_ins_Locked (i : El T_api_Ins) : Bool :=
  bif (k_ins_Right i) then
    bif ((v_ins_Right i) == (0 : Int)) then
      bif (i.1 == (8 : Int)) then
        true
      else i.2.1
    else false
  else false
def k_ins_Locked (i : El T_api_Ins) : Bool :=
  bif (k_ins_Right i) then
    bif ((v_ins_Right i) == (0 : Int)) then
      bif (i.1 == (8 : Int)) then
        true
      else true
    else true
  else false
theorem g_ins_Locked (i : El T_api_Ins) (hk : k_ins_Locked i = true) : Goes (T_ins_Locked i) (T0_ins_Locked i) (v_ins_Locked i) :=
  Goes.brk hk (fun hk =>
    Goes.brk hk (fun hk =>
      Goes.brk hk (fun hk =>
        Goes.leaf) (fun hk =>
        Goes.leaf)) (fun hk =>
      Goes.leaf)) (fun hk =>
    Goes.nok hk)
def R_ins_Locked : Bool → AV := fun (r : Bool) => .d .bool r
def S_ins_Locked (i : El T_api_Ins) : Empty → Nat × St := fun j => nomatch j
theorem en_ins_Locked (i : El T_api_Ins) (L : Lt) : entryA Go.Proofs.Tryd.prog (clOf t_ins_Locked) tb_ins_Locked Go.Proofs.Tryd.f37 c_ins_Locked L (toForms sg_ins_Locked (i, ())) = (T0_ins_Locked i).run (fun v => some (R_ins_Locked v, tps (toForms sg_ins_Locked (i, ())))) fun j => L (S_ins_Locked i j).1 (S_ins_Locked i j).2 := by kernel_rfl
theorem lp_ins_Locked (i : El T_api_Ins) : ∀ (L : Lt) (j : Empty), procOf (procsF Go.Proofs.Tryd.prog (clOf t_ins_Locked) tb_ins_Locked Go.Proofs.Tryd.f37 c_ins_Locked (toForms sg_ins_Locked (i, ()))) (S_ins_Locked i j).1 L (S_ins_Locked i j).2 = (T_ins_Locked i j).run (fun v => some (R_ins_Locked v, tps (toForms sg_ins_Locked (i, ())))) fun j => L (S_ins_Locked i j).1 (S_ins_Locked i j).2 := fun L j => nomatch j
noncomputable def e_ins_Locked : Run := entG sg_ins_Locked R_ins_Locked (fun a => k_ins_Locked a.1) (fun a => v_ins_Locked a.1)
theorem ok_ins_Locked : EntOK Go.Proofs.Tryd.prog 37 e_ins_Locked := entG_ok (tb := tb_ins_Locked) (c := c_ins_Locked) tk_ins_Locked (by kernel_rfl) (by kernel_rfl) (by kernel_rfl) (fun a => by kernel_rfl) fun ⟨i, _⟩ hk => evF_goes (c := c_ins_Locked) (K := fun v => (R_ins_Locked v, tps (toForms sg_ins_Locked (i, ())))) (S := S_ins_Locked i) (by kernel_rfl) (en_ins_Locked i) (lp_ins_Locked i) (g_ins_Locked i hk)
end
end Go.Ev
end

section
set_option linter.unusedSectionVars false
set_option linter.unusedVariables false
set_option linter.unusedSimpArgs false
set_option maxRecDepth 100000
set_option linter.unusedVariables false
open Go Go.Ev
namespace Go.Ev
noncomputable section
/-! ### paling/ins.Fence -/
def sg_ins_Fence : Sig := [(true, T_api_Ins)]
noncomputable def t_ins_Fence : Tbl := [(36, e_ins_Right), (37, e_ins_Locked)]
theorem tk_ins_Fence : ∀ p ∈ t_ins_Fence, EntOK Go.Proofs.Tryd.prog p.1 p.2 := tbl_cons ok_ins_Right (tbl_cons ok_ins_Locked (tbl_nil))
noncomputable def c_ins_Fence : Code := Go.Proofs.Tryd.f23.body.getD .skip
def tb_ins_Fence : Tb := []
def T_ins_Fence (i : El T_api_Ins) : Empty → JT Empty (Bool) := fun j => nomatch j
def T0_ins_Fence (i : El T_api_Ins) : JT Empty (Bool) :=
  .br (k_ins_Right i)
    (.br ((v_ins_Right i) == (0 : Int))
      (.br (i.1 == (12 : Int))
        (.leaf true)
      (.br (k_ins_Locked i)
        (.leaf (v_ins_Locked i))
      (.no)))
    (.br (k_ins_Locked i)
      (.leaf (v_ins_Locked i))
    (.no)))
  (.no)
def v_ins_Fence (i : El T_api_Ins) : Bool :=
  bif (k_ins_Right i) then
    bif ((v_ins_Right i) == (0 : Int)) then
      bif (i.1 == (12 : Int)) then
        true
      else bif (k_ins_Locked i) then
        (v_ins_Locked i)
      else false
    else bif (k_ins_Locked i) then
      (v_ins_Locked i)
    else false
  else false
def k_ins_Fence (i : El T_api_Ins) : Bool :=
  bif (k_ins_Right i) then
    bif ((v_ins_Right i) == (0 : Int)) then
      bif (i.1 == (12 : Int)) then
        true
      else bif (k_ins_Locked i) then
        true
      else false
    else bif (k_ins_Locked i) then
      true
    else false
  else false
theorem g_ins_Fence (i : El T_api_Ins) (hk : k_ins_Fence i = true) : Goes (T_ins_Fence i) (T0_ins_Fence i) (v_ins_Fence i) :=
  Goes.brk hk (fun hk =>
    Goes.brk hk (fun hk =>
      Goes.brk hk (fun hk =>
        Goes.leaf) (fun hk =>
        Goes.brk hk (fun hk =>
          Goes.leaf) (fun hk =>
          Goes.nok hk))) (fun hk =>
      Goes.brk hk (fun hk =>
        Goes.leaf) (fun hk =>
        Goes.nok hk))) (fun hk =>
    Goes.nok hk)
def R_ins_Fence : Bool → AV := fun (r : Bool) => .d .bool r
def S_ins_Fence (i : El T_api_Ins) : Empty → Nat × St := fun j => nomatch j
theorem en_ins_Fence (i : El T_api_Ins) (L : Lt) : entryA Go.Proofs.Tryd.prog (clOf t_ins_Fence) tb_ins_Fence Go.Proofs.Tryd.f23 c_ins_Fence L (toForms sg_ins_Fence (i, ())) = (T0_ins_Fence i).run (fun v => some (R_ins_Fence v, tps (toForms sg_ins_Fence (i, ())))) fun j => L (S_ins_Fence i j).1 (S_ins_Fence i j).2 := by kernel_rfl
theorem lp_ins_Fence (i : El T_api_Ins) : ∀ (L : Lt) (j : Empty), procOf (procsF Go.Proofs.Tryd.prog (clOf t_ins_Fence) tb_ins_Fence Go.Proofs.Tryd.f23 c_ins_Fence (toForms sg_ins_Fence (i, ()))) (S_ins_Fence i j).1 L (S_ins_Fence i j).2 = (T_ins_Fence i j).run (fun v => some (R_ins_Fence v, tps (toForms sg_ins_Fence (i, ())))) fun j => L (S_ins_Fence i j).1 (S_ins_Fence i j).2 := fun L j => nomatch j
noncomputable def e_ins_Fence : Run := entG sg_ins_Fence R_ins_Fence (fun a => k_ins_Fence a.1) (fun a => v_ins_Fence a.1)
theorem ok_ins_Fence : EntOK Go.Proofs.Tryd.prog 23 e_ins_Fence := entG_ok (tb := tb_ins_Fence) (c := c_ins_Fence) tk_ins_Fence (by kernel_rfl) (by kernel_rfl) (by kernel_rfl) (fun a => by kernel_rfl) fun ⟨i, _⟩ hk => evF_goes (c := c_ins_Fence) (K := fun v => (R_ins_Fence v, tps (toForms sg_ins_Fence (i, ())))) (S := S_ins_Fence i) (by kernel_rfl) (en_ins_Fence i) (lp_ins_Fence i) (g_ins_Fence i hk)
end
end Go.Ev
end

section
set_option linter.unusedSectionVars false
set_option linter.unusedVariables false
set_option linter.unusedSimpArgs false
set_option maxRecDepth 100000
set_option linter.unusedVariables false
open Go Go.Ev
namespace Go.Ev
noncomputable section
/-! ### (*paling/bits.Set).List -/
def sg_bits_Set_List_t : PSig := [.obj 74 [(.d (.int .i64)), (.m (.int .i64) (.int .u64))]]
noncomputable def t_bits_Set_List_t : Tbl := []
theorem tk_bits_Set_List_t : ∀ p ∈ t_bits_Set_List_t, EntOK Go.Proofs.Tryd.prog p.1 p.2 := tbl_nil
noncomputable def c_bits_Set_List_t : Code := match Go.Proofs.Tryd.f24.body with
  | some (.seq _ (.seq _ (.seq _ (.seq _ (.seq _ d))))) => d
  | _ => .skip
def tb_bits_Set_List_t : Tb := [(2, ⟨[0, 4, 26, 27, 28], [(5, 46)]⟩), (8, ⟨[0, 4, 7, 8, 26, 27, 28], [(5, 46)]⟩)]
inductive J_bits_Set_List_t where
  | l2 (h : Int) (h1 : List Int) (h2 : Int) (out : List Int)
  | l8 (k : Int) (h : Int) (h1 : List Int) (i : Int) (out : List Int) (h2 : Int)
def T_bits_Set_List_t (s : Int × List (Int × Int)) (places : List Int) : J_bits_Set_List_t → JT J_bits_Set_List_t ((List Int) × Int × List (Int × Int))
  | .l2 h h1 h2 out =>
    .br (decide (h2 < h))
      (.br ((decide ((0 : Int) ≤ h2)) && (decide (h2 < (Int.ofNat (List.length h1)))))
        (.jmp (.l8 (List.getD h1 (Int.toNat h2) (dflt (.int .i64))) h h1 (0 : Int) out h2))
      (.no))
    (.leaf (out, s))
  | .l8 k h h1 i out h2 =>
    .br (decide (i < (64 : Int)))
      (.br (decide ((IntKind.u64.wrap i) < (0 : Int)))
        (.no)
      (.br ((bitAnd IntKind.u64 (Int.fdiv (Option.getD (mget (kt := (.int .i64)) k s.2) (0 : Int)) (2 ^ (min (Int.toNat (IntKind.u64.wrap i)) (IntKind.u64).bits))) (1 : Int)) == (1 : Int))
        (.br (Nat.ble (((List.length out) + 1) * 8) limit)
          (.jmp (.l8 k h h1 (IntKind.i64.wrap (i + (1 : Int))) (out ++ [(IntKind.i64.wrap ((IntKind.i64.wrap (k * (64 : Int))) + i))]) h2))
        (.no))
      (.jmp (.l8 k h h1 (IntKind.i64.wrap (i + (1 : Int))) out h2))))
    (.jmp (.l2 h h1 (IntKind.i64.wrap (h2 + (1 : Int))) out))
def T0_bits_Set_List_t (s : Int × List (Int × Int)) (places : List Int) : JT J_bits_Set_List_t ((List Int) × Int × List (Int × Int)) :=
  .jmp (.l2 (Int.ofNat (List.length places)) places (0 : Int) [])
def K_bits_Set_List_t : (List Int) × Int × List (Int × Int) → Ans := fun (r : (List Int) × Int × List (Int × Int)) => (.rw 3 (.int .i64) r.1, [.bx 74 [.d (.int .i64) r.2.1, .mv (.int .i64) (.int .u64) r.2.2]])
def S_bits_Set_List_t (s : Int × List (Int × Int)) (places : List Int) : J_bits_Set_List_t → Nat × St
  | .l2 h h1 h2 out => (2, ⟨mkTm 56 [(0, .pt 1 0 0), (4, .own 5 0 none), (26, .own 27 0 none), (27, .d (.int .i64) h), (28, .d (.int .i64) h2)], [(1, 0, .box 74 [.d (.int .i64) s.1, .mp 1026 0] (some 0)), (5, 0, .row 3 (.int .i64) out false), (27, 0, .row 3 (.int .i64) h1 false), (1026, 0, .map (.int .i64) (.int .u64) s.2)]⟩)
  | .l8 k h h1 i out h2 => (8, ⟨mkTm 56 [(0, .pt 1 0 0), (4, .own 5 0 none), (7, .d (.int .i64) k), (8, .d (.int .i64) i), (26, .own 27 0 none), (27, .d (.int .i64) h), (28, .d (.int .i64) h2)], [(1, 0, .box 74 [.d (.int .i64) s.1, .mp 1026 0] (some 0)), (5, 0, .row 3 (.int .i64) out false), (27, 0, .row 3 (.int .i64) h1 false), (1026, 0, .map (.int .i64) (.int .u64) s.2)]⟩)
def S0_bits_Set_List_t (s : Int × List (Int × Int)) (places : List Int) : St := ⟨mkTm 56 [(0, .pt 1 0 0), (3, .own 4 0 none), (4, .nil)], [(1, 0, .box 74 [.d (.int .i64) s.1, .mp 1026 0] (some 0)), (4, 0, .row 3 (.int .i64) places false), (1026, 0, .map (.int .i64) (.int .u64) s.2)]⟩
theorem en_bits_Set_List_t (s : Int × List (Int × Int)) (places : List Int) (L : Lt) : evC Go.Proofs.Tryd.prog (clOf t_bits_Set_List_t) tb_bits_Set_List_t L c_bits_Set_List_t 0 (finA Go.Proofs.Tryd.prog tb_bits_Set_List_t Go.Proofs.Tryd.f24 (toPs sg_bits_Set_List_t (s, ()))) (fun _ _ => none) (finA Go.Proofs.Tryd.prog tb_bits_Set_List_t Go.Proofs.Tryd.f24 (toPs sg_bits_Set_List_t (s, ()))) (S0_bits_Set_List_t s places) = (T0_bits_Set_List_t s places).run (fun v => some (K_bits_Set_List_t v)) fun j => L (S_bits_Set_List_t s places j).1 (S_bits_Set_List_t s places j).2 := by kernel_rfl
noncomputable def ps_bits_Set_List_t (s : Int × List (Int × Int)) (places : List Int) : List (Nat × (Lt → Kt)) := procs Go.Proofs.Tryd.prog (clOf t_bits_Set_List_t) tb_bits_Set_List_t c_bits_Set_List_t 0 (fun _ => (finA Go.Proofs.Tryd.prog tb_bits_Set_List_t Go.Proofs.Tryd.f24 (toPs sg_bits_Set_List_t (s, ())))) (fun _ _ _ => none) (fun _ => (finA Go.Proofs.Tryd.prog tb_bits_Set_List_t Go.Proofs.Tryd.f24 (toPs sg_bits_Set_List_t (s, ()))))
theorem lp_bits_Set_List_t (s : Int × List (Int × Int)) (places : List Int) : ∀ (L : Lt) (j : J_bits_Set_List_t), procOf (ps_bits_Set_List_t s places) (S_bits_Set_List_t s places j).1 L (S_bits_Set_List_t s places j).2 = (T_bits_Set_List_t s places j).run (fun v => some (K_bits_Set_List_t v)) fun j => L (S_bits_Set_List_t s places j).1 (S_bits_Set_List_t s places j).2
  | L, .l2 h h1 h2 out => by kernel_rfl
  | L, .l8 k h h1 i out h2 => by kernel_rfl
end
end Go.Ev
end

section
set_option linter.unusedSectionVars false
set_option linter.unusedVariables false
set_option linter.unusedSimpArgs false
set_option linter.unusedVariables false
set_option linter.unusedSimpArgs false
open Go
namespace Go.Ev
theorem g_bits_Set_List_t (s : Int × List (Int × Int)) (places : List Int) (hk : Nat.ble (places.length * 512) limit = true) : Goes (T_bits_Set_List_t s places) (T0_bits_Set_List_t s places) (listAt s.2 places, s) := by
  have hlim : places.length * 512 ≤ limit := Nat.le_of_ble_eq_true hk
  have hn : places.length < 4611686018427387904 := by unfold limit at hlim; omega
  -- within a word
  have inner : ∀ (k : Int) (j : Nat), j < places.length → ∀ (i : Nat), i ≤ 64 → ∀ (out : List Int) r, (out.length + (64 - i)) * 8 ≤ limit →
      Goes (T_bits_Set_List_t s places) (.jmp (.l2 (Int.ofNat (List.length places)) places ((j + 1 : Nat) : Int) (out ++ wordList s.2 k i (64 - i)))) r →
      Goes (T_bits_Set_List_t s places) (.jmp (.l8 k (Int.ofNat (List.length places)) places (i : Int) out (j : Int))) r := by
    intro k j hj
    refine down ?_ fun i hi ih => ?_
    · intro out r _ h
      rw [goes_jmp]
      have e : decide (((64 : Nat) : Int) < (64 : Int)) = false := by decide
      simp only [T_bits_Set_List_t, goes_br, e, Bool.false_eq_true, if_false, wrap_succ (k := j) (by omega)]
      simpa [wordList] using h
    · intro out r hl h
      rw [goes_jmp]
      have e : decide ((i : Int) < (64 : Int)) = true := decide_eq_true (by omega)
      have hw := wrapU_small hi
      have e2 : decide ((i : Int) < (0 : Int)) = false := decide_eq_false (by omega)
      have hcons : wordList s.2 k i (64 - i) = (if bitE (wordAt s.2 k) (i : Nat) then [numE k (i : Nat)] else []) ++ wordList s.2 k (i + 1) (64 - (i + 1)) := by
        unfold wordList
        rw [show 64 - i = (64 - (i + 1)) + 1 by omega, List.range'_succ, List.filter_cons]
        split <;> simp
      rw [hcons] at h
      have hb : ((bitAnd IntKind.u64 (Int.fdiv (Option.getD (mget (kt := (.int .i64)) k s.2) (0 : Int)) (2 ^ (min (Int.toNat (IntKind.u64.wrap (i : Int))) (IntKind.u64).bits))) (1 : Int)) == (1 : Int)) = bitE (wordAt s.2 k) (i : Nat) := rfl
      unfold T_bits_Set_List_t
      rw [goes_br, if_pos e, goes_br, if_neg (by rw [hw, e2]; decide), goes_br, hb, wrap_succ (k := i) (by omega)]
      by_cases hbit : bitE (wordAt s.2 k) (i : Nat) = true
      · rw [if_pos hbit]
        rw [if_pos hbit] at h
        rw [goes_br, if_pos (Nat.ble_eq_true_of_le (by omega))]
        refine ih (out ++ [numE k (i : Nat)]) r (by simp; omega) ?_
        simpa using h
      · rw [if_neg hbit]
        rw [if_neg hbit, List.nil_append] at h
        exact ih out r (by omega) h
  have outer : ∀ j, j ≤ places.length → ∀ out : List Int, (out.length + (places.length - j) * 64) * 8 ≤ limit →
      Goes (T_bits_Set_List_t s places) (.jmp (.l2 (Int.ofNat (List.length places)) places (j : Int) out)) (out ++ listAt s.2 (places.drop j), s) := by
    refine down ?_ fun j hj ih => ?_
    · intro out _
      rw [goes_jmp]
      simp only [T_bits_Set_List_t, goes_br, lt_len_not (Nat.lt_irrefl _), List.drop_length, Bool.false_eq_true, if_false]
      rw [show out ++ listAt s.2 [] = out by simp [listAt]]
      exact .leaf
    · intro out hl
      rw [goes_jmp, drop_cons hj]
      simp only [T_bits_Set_List_t, goes_br, lt_len hj, nng, Bool.and_self, if_true, Int.toNat_natCast, getD_lt hj]
      have hwl := wordList_length s.2 places[j] 0 64
      refine inner places[j] j hj 0 (by omega) out _ (by omega) ?_
      have := ih (out ++ wordList s.2 places[j] 0 64) (by rw [List.length_append]; omega)
      rw [show out ++ listAt s.2 (places[j] :: places.drop (j + 1)) = (out ++ wordList s.2 places[j] 0 64) ++ listAt s.2 (places.drop (j + 1)) by simp only [listAt, List.flatMap_cons, List.append_assoc]]
      exact this
  have := outer 0 (Nat.zero_le _) [] (by simp; omega)
  simpa [T0_bits_Set_List_t] using this
end Go.Ev
end

section
set_option linter.unusedSectionVars false
set_option linter.unusedVariables false
set_option linter.unusedSimpArgs false
set_option maxRecDepth 100000
set_option linter.unusedVariables false
open Go Go.Ev
namespace Go.Ev
/-! ### slices.Sort of numbers: by the library's contract -/
def renSort : Go.Shelf.Ren := ⟨fun n => if n = 189 then 38 else if n = 125 then 47 else if n = 257 then 46 else if n = 128 then 75 else if n = 129 then 76 else if n = 294 then 66 else if n = 295 then 67 else if n = 296 then 68 else if n = 297 then 69 else if n = 298 then 70 else if n = 299 then 71 else if n = 216 then 72 else if n = 300 then 73 else if n = 301 then 74 else if n = 328 then 89 else if n = 329 then 90 else if n = 330 then 91 else if n = 331 then 92 else if n = 332 then 93 else if n = 215 then 94 else if n = 343 then 100 else n,
  fun n => if n = 28 then 23 else if n = 46 then 77 else if n = 51 then 103 else if n = 53 then 76 else if n = 183 then 95 else if n = 182 then 94 else if n = 131 then 100 else if n = 218 then 123 else if n = 222 then 127 else if n = 228 then 137 else if n = 229 then 118 else n,
  fun n => n⟩
theorem renSort_lays : Go.Proofs.Lays.n189 Go.Proofs.Tryd.prog renSort where
  mixed := by kernel_rfl
  f125 := by kernel_rfl
  f128 := by kernel_rfl
  f129 := by kernel_rfl
  f189 := by kernel_rfl
  f215 := by kernel_rfl
  f216 := by kernel_rfl
  f257 := by kernel_rfl
  f294 := by kernel_rfl
  f295 := by kernel_rfl
  f296 := by kernel_rfl
  f297 := by kernel_rfl
  f298 := by kernel_rfl
  f299 := by kernel_rfl
  f300 := by kernel_rfl
  f301 := by kernel_rfl
  f328 := by kernel_rfl
  f329 := by kernel_rfl
  f330 := by kernel_rfl
  f331 := by kernel_rfl
  f332 := by kernel_rfl
  f343 := by kernel_rfl
  t0 := by kernel_rfl
  a0 := fun w => by kernel_rfl
  z0 := fun w => by kernel_rfl
  v0 := fun w => by kernel_rfl
  t3 := by kernel_rfl
  a3 := fun w => by kernel_rfl
  z3 := fun w => by kernel_rfl
  v3 := fun w => by kernel_rfl
  t4 := by kernel_rfl
  a4 := fun w => by kernel_rfl
  z4 := fun w => by kernel_rfl
  v4 := fun w => by kernel_rfl
  t5 := by kernel_rfl
  a5 := fun w => by kernel_rfl
  z5 := fun w => by kernel_rfl
  v5 := fun w => by kernel_rfl
  t9 := by kernel_rfl
  a9 := fun w => by kernel_rfl
  z9 := fun w => by kernel_rfl
  v9 := fun w => by kernel_rfl
  t28 := by kernel_rfl
  a28 := fun w => by kernel_rfl
  z28 := fun w => by kernel_rfl
  v28 := fun w => by kernel_rfl
  t46 := by kernel_rfl
  a46 := fun w => by kernel_rfl
  z46 := fun w => by kernel_rfl
  v46 := fun w => by kernel_rfl
  t51 := by kernel_rfl
  a51 := fun w => by kernel_rfl
  z51 := fun w => by kernel_rfl
  v51 := fun w => by kernel_rfl
  t53 := by kernel_rfl
  a53 := fun w => by kernel_rfl
  z53 := fun w => by kernel_rfl
  v53 := fun w => by kernel_rfl
  t131 := by kernel_rfl
  a131 := fun w => by kernel_rfl
  z131 := fun w => by kernel_rfl
  v131 := fun w => by kernel_rfl
  t182 := by kernel_rfl
  a182 := fun w => by kernel_rfl
  z182 := fun w => by kernel_rfl
  v182 := fun w => by kernel_rfl
  t183 := by kernel_rfl
  a183 := fun w => by kernel_rfl
  z183 := fun w => by kernel_rfl
  v183 := fun w => by kernel_rfl
  t218 := by kernel_rfl
  a218 := fun w => by kernel_rfl
  z218 := fun w => by kernel_rfl
  v218 := fun w => by kernel_rfl
  t222 := by kernel_rfl
  a222 := fun w => by kernel_rfl
  z222 := fun w => by kernel_rfl
  v222 := fun w => by kernel_rfl
  t228 := by kernel_rfl
  a228 := fun w => by kernel_rfl
  z228 := fun w => by kernel_rfl
  v228 := fun w => by kernel_rfl
  t229 := by kernel_rfl
  a229 := fun w => by kernel_rfl
  z229 := fun w => by kernel_rfl
  v229 := fun w => by kernel_rfl

theorem sortOK : SortOK Go.Proofs.Tryd.prog 38 := ⟨fun blk off cap zs w h1 h2 h3 => Go.Proofs.Any.slices_Sort_int renSort_lays blk off cap zs w h1 h2 h3, fun p cap w => Go.Proofs.Any.slices_Sort_int_none renSort_lays p cap w⟩
end Go.Ev
end

section
set_option linter.unusedSectionVars false
set_option linter.unusedVariables false
set_option linter.unusedSimpArgs false
set_option maxRecDepth 100000
set_option linter.unusedVariables false
open Go Go.Ev
namespace Go.Ev
/-! ### (*bits.Set).List: by hand: the keys in whatever order, sorted -/
def sg_bits_Set_List : PSig := [.obj 74 [(.d (.int .i64)), (.m (.int .i64) (.int .u64))]]
def v_bits_Set_List (s : Int × List (Int × Int)) : (List Int) × Int × List (Int × Int) := (listS s, s)
def k_bits_Set_List (s : Int × List (Int × Int)) : Bool := Nat.ble (s.2.length * 512) limit
def K_bits_Set_List : (List Int) × Int × List (Int × Int) → Ans := K_bits_Set_List_t

section
abbrev SetL := List (El (.int .i64) × El (.int .u64))
noncomputable def setListBody : Code := Go.Proofs.Tryd.f24.body.getD .skip
noncomputable def setListR : Code := fstC (sndC (sndC (sndC setListBody)))
noncomputable def setListX : RangeText := rangeText (sndC setListR)
noncomputable def setListSort : Code := fstC (sndC (sndC (sndC (sndC setListBody))))
def setLab1 : Lab := ⟨[0, 3, 4], []⟩
def setLab2 : Lab := ⟨[0, 3, 4, 15], [(4, 46)]⟩
def setObs (s : Int × SetL) (ps : List (El (.int .i64))) : List (Id × Nat × Obj) := [(1, 0, .box 74 [.d (.int .i64) s.1, .mp 1026 0] (some 0)), (4, 0, .row 3 (.int .i64) ps false), (1026, 0, .gone (some 1000))]
def setK (s : Int × SetL) (v : Value) (ps : List (El (.int .i64))) : St := ⟨mkTm 56 [(0, .pt 1 0 0), (3, .own 4 0 none), (4, .nil), (15, .cst v)], setObs s ps⟩
def setI (s : Int × SetL) (v : Value) (done : SetL) : St := setK s v (done.map Prod.fst)
def setT (s : Int × SetL) (v : Value) (done : SetL) (e : El (.int .i64) × El (.int .u64)) : St := ((setI s v done).put (some 16) (.tu [mkB true, .d (.int .i64) e.1, .d (.int .u64) e.2])).put (some 17) (mkB true)
def setU (s : Int × SetL) (v : Value) (done : SetL) (e : El (.int .i64) × El (.int .u64)) : St := (((setT s v done e).put (some 18) (.tu [.d (.int .i64) e.1, .d (.int .u64) e.2])).put (some 19) (.d (.int .i64) e.1)).put (some 5) (.d (.int .i64) e.1)
def setE (s : Int × SetL) (v : Value) (done : SetL) : St := ((setI s v done).put (some 16) (.tu [mkB false])).put (some 17) (mkB false)
/-- ahead of the range: after the first parts; with the map at hand -/
def setA (s : Int × SetL) : St := ⟨mkTm 56 [(0, .pt 1 0 0)], [(1, 0, .box 74 [.d (.int .i64) s.1, .mp 1026 0] (some 0)), (1026, 0, .map (.int .i64) (.int .u64) s.2)]⟩
def setC (s : Int × SetL) : St := ⟨mkTm 56 [(0, .pt 1 0 0), (3, .nil), (4, .nil)], [(1, 0, .box 74 [.d (.int .i64) s.1, .mp 1026 0] (some 0)), (1026, 0, .map (.int .i64) (.int .u64) s.2)]⟩
def setM (s : Int × SetL) : St := ((((setC s).put (some 11) (.pt 1 0 0)).put (some 12) (.pt 1 0 0)).put (some 13) (.pt 1 0 1)).put (some 14) (.mp 1026 0)

theorem setListX_ok : setListX.OK := ⟨by kernel_rfl, by kernel_rfl, by kernel_rfl, by kernel_rfl, by kernel_rfl, by kernel_rfl, by kernel_rfl, by kernel_rfl, by kernel_rfl⟩
theorem setList_round (s : Int × SetL) (v : Value) (done : SetL) (e : El (.int .i64) × El (.int .u64)) (L : Lt) (k : Kt) (x : Nat → Kt) (r : Kt) :
    evC Go.Proofs.Tryd.prog (clOf []) [] L setListX.cr 0 (fun t => k (norm Go.Proofs.Tryd.prog setLab2 t)) x r (setU s v done e) = bif Nat.ble (((done.map Prod.fst).length + 1) * 8) limit then k (setK s v (done.map Prod.fst ++ [e.1])) else none := by kernel_rfl
theorem setList_ev (s : Int × SetL) (hk : k_bits_Set_List s = true) : RangeEv Go.Proofs.Tryd.prog (clOf []) setListX s.2 setLab2 1026 1000 (setI s) (setE s) (setT s) (setU s) where
  it := fun v done => by kernel_rfl
  r1 := fun v done e k => by kernel_rfl
  rt := fun v done e => by kernel_rfl
  re := fun v done e => by kernel_rfl
  r2 := fun v done e k => by kernel_rfl
  r3 := fun v done e rest hp L k x r => by
    have hl := hp.length_eq
    simp only [List.length_append, List.length_cons] at hl
    have hlim : s.2.length * 512 ≤ limit := Nat.le_of_ble_eq_true hk
    rw [setList_round, List.length_map, Nat.ble_eq_true_of_le (by omega), cond_true]
    unfold setI
    rw [List.map_append]
    rfl
  f1 := fun v done k => by kernel_rfl
  ft := fun v done => by kernel_rfl
theorem setList_body : setListBody = .seq (fstC setListBody) (.seq (fstC (sndC setListBody)) (.seq (fstC (sndC (sndC setListBody))) (.seq (.seq (.region (ridC (fstC setListR)) (ropsC (fstC setListR)) false) setListX.code) (.seq (.region (ridC setListSort) (ropsC setListSort) false) c_bits_Set_List_t)))) := by kernel_rfl
theorem setList_a (s : Int × SetL) (L : Lt) (k : Kt) (x : Nat → Kt) (r : Kt) : evC Go.Proofs.Tryd.prog (clOf []) [] L (fstC setListBody) 0 (fun t => k (norm Go.Proofs.Tryd.prog setLab1 t)) x r (setA s) = k (setA s) := by kernel_rfl
theorem setList_b (s : Int × SetL) (L : Lt) (k : Kt) (x : Nat → Kt) (r : Kt) : evC Go.Proofs.Tryd.prog (clOf []) [] L (fstC (sndC setListBody)) 0 (fun t => k (norm Go.Proofs.Tryd.prog setLab1 t)) x r (setA s) = k (setA s) := by kernel_rfl
theorem setList_c (s : Int × SetL) (L : Lt) (k : Kt) (x : Nat → Kt) (r : Kt) : evC Go.Proofs.Tryd.prog (clOf []) [] L (fstC (sndC (sndC setListBody))) 0 (fun t => k (norm Go.Proofs.Tryd.prog setLab1 t)) x r (setA s) = k (setC s) := by kernel_rfl
def mapKV (P : Program) (T : TypeId) : TypeId × TypeId := match P.underlying T with | some (.map K V) => (K, V) | _ => (0, 0)

theorem callOK_bits_Set_List (s : Int × SetL) (hk : k_bits_Set_List s = true) : CallOK Go.Proofs.Tryd.prog 24 (toPs sg_bits_Set_List (s, ())) (K_bits_Set_List (v_bits_Set_List s)) := by
  obtain ⟨hcl, hdet⟩ := clOf_ok (P := Go.Proofs.Tryd.prog) tbl_nil
  have hlim : s.2.length * 512 ≤ limit := Nat.le_of_ble_eq_true hk
  refine callOK_of_wp (tb := tb_bits_Set_List_t) (fn := Go.Proofs.Tryd.f24) (c := setListBody) (vs := [.pt 1 0 0]) (st := ⟨[], [(1, 0, .box 74 [.d (.int .i64) s.1, .mp 1026 0] (some 0)), (1026, 0, .map (.int .i64) (.int .u64) s.2)]⟩) (by kernel_rfl) (by kernel_rfl) (by kernel_rfl) ?_
  intro _ Mod F0 w0 a w hr
  have hr : Rel Mod F0 w0 (setA s) a w := hr
  rw [setList_body]
  refine wp_seq (piece hcl hdet (norm Go.Proofs.Tryd.prog setLab1) (fun h => norm_rel h) (setList_a s) hr fun a w hr => ?_)
  refine wp_seq (piece hcl hdet (norm Go.Proofs.Tryd.prog setLab1) (fun h => norm_rel h) (setList_b s) hr fun a w hr => ?_)
  refine wp_seq (piece hcl hdet (norm Go.Proofs.Tryd.prog setLab1) (fun h => norm_rel h) (setList_c s) hr fun a w hr => ?_)
  -- the range
  refine wp_seq (wp_seq (wp_region ?_))
  rw [show List.range (ropsC (fstC setListR)).size = [0, 1, 2, 3, 4] from by kernel_rfl]
  refine evOp hcl (o := opC (fstC setListR) 0) (st1 := (setC s).put (some 11) (.pt 1 0 0)) (by kernel_rfl) (by kernel_rfl) (fun k => by kernel_rfl) hr fun a w hr => ?_
  refine evOp hcl (o := opC (fstC setListR) 1) (st1 := ((setC s).put (some 11) (.pt 1 0 0)).put (some 12) (.pt 1 0 0)) (by kernel_rfl) (by kernel_rfl) (fun k => by kernel_rfl) hr fun a w hr => ?_
  refine evOp hcl (o := opC (fstC setListR) 2) (st1 := (((setC s).put (some 11) (.pt 1 0 0)).put (some 12) (.pt 1 0 0)).put (some 13) (.pt 1 0 1)) (by kernel_rfl) (by kernel_rfl) (fun k => by kernel_rfl) hr fun a w hr => ?_
  refine evOp hcl (o := opC (fstC setListR) 3) (st1 := setM s) (by kernel_rfl) (by kernel_rfl) (fun k => by kernel_rfl) hr fun a w hr => ?_
  refine handOp (o := opC (fstC setListR) 4) (by kernel_rfl) (by kernel_rfl) ?_
  refine rangeLoop (tm := 14) (idm0 := 1026) (ver0 := 0) (T := (match (opC (fstC setListR) 4).op with | .range T _ => T | _ => 0)) (K := (mapKV Go.Proofs.Tryd.prog (match (opC (fstC setListR) 4).op with | .range T _ => T | _ => 0)).1) (V := (mapKV Go.Proofs.Tryd.prog (match (opC (fstC setListR) 4).op with | .range T _ => T | _ => 0)).2)
    hcl hdet setListX_ok rfl rfl (setList_ev s hk) (by kernel_rfl) (by kernel_rfl) (by kernel_rfl) (by kernel_rfl) (by kernel_rfl) (by kernel_rfl) (fun v => by kernel_rfl) (fun v done => by kernel_rfl) (fun v done => by kernel_rfl) hr ?_
  intro v done a w hperm hr
  -- the sort
  have hr : Rel Mod F0 w0 (S0_bits_Set_List_t s (done.map Prod.fst)) a w := norm_rel (P := Go.Proofs.Tryd.prog) (lab := setLab1) hr
  refine wp_seq (wp_region ?_)
  rw [show List.range (ropsC setListSort).size = [0, 1] from by kernel_rfl]
  refine evOp hcl (o := opC setListSort 0) (st1 := (S0_bits_Set_List_t s (done.map Prod.fst)).put (some 24) (.own 4 0 none)) (by kernel_rfl) (by kernel_rfl) (fun k => by kernel_rfl) hr fun a w hr => ?_
  refine handOp (o := opC setListSort 1) (by kernel_rfl) (by kernel_rfl) ?_
  refine sortStep (ts := 24) (id := 4) (ver := 0) (E := 3) (l := done.map Prod.fst) (c := (match (opC setListSort 1).op with | .call c => c | _ => default)) (fn := Go.Proofs.Tryd.f38) (body := Go.Proofs.Tryd.f38.body.getD .skip) (by kernel_rfl) (by kernel_rfl) (by kernel_rfl) (by kernel_rfl) (by kernel_rfl) (by kernel_rfl) (by kernel_rfl) (by kernel_rfl) sortOK (by
    rw [List.length_map, hperm.length_eq]
    unfold limit at hlim
    omega) hr fun a w hr => ?_
  have hr : Rel Mod F0 w0 (S0_bits_Set_List_t s (sorted (done.map Prod.fst))) a w := norm_rel (P := Go.Proofs.Tryd.prog) (lab := setLab1) hr
  rw [sorted_perm (hperm.map Prod.fst)] at hr
  have hg := g_bits_Set_List_t s (sorted (s.2.map Prod.fst)) (by rw [List.length_mergeSort, List.length_map]; exact hk)
  exact tailStep hcl hdet (ps := ps_bits_Set_List_t s (sorted (s.2.map Prod.fst))) rfl (by kernel_rfl) (en_bits_Set_List_t s _) (lp_bits_Set_List_t s _) hg hr
end
noncomputable def e_bits_Set_List : Run := entO sg_bits_Set_List K_bits_Set_List (fun a => k_bits_Set_List a.1) (fun a => v_bits_Set_List a.1)
theorem ok_bits_Set_List : EntOK Go.Proofs.Tryd.prog 24 e_bits_Set_List := entO_hand (noRun_ok (known_of (fn := Go.Proofs.Tryd.f24) (c := setListBody) (by kernel_rfl) (by kernel_rfl) (by kernel_rfl))) fun a h => callOK_bits_Set_List a.1 h
end Go.Ev
end

section
set_option linter.unusedSectionVars false
set_option linter.unusedVariables false
set_option linter.unusedSimpArgs false
set_option maxRecDepth 100000
set_option linter.unusedVariables false
open Go Go.Ev
namespace Go.Ev
noncomputable section
/-! ### paling/road.Ends -/
def sg_road_Ends : Sig := [(true, (.sl T_api_Ins)), (false, (.sl (.int .i64))), (false, (.int .i64))]
noncomputable def t_road_Ends : Tbl := [(20, e_bits_New), (21, e_bits_Set_Put), (15, e_flow_Next), (22, e_bits_Set_Has), (23, e_ins_Fence), (24, e_bits_Set_List)]
theorem tk_road_Ends : ∀ p ∈ t_road_Ends, EntOK Go.Proofs.Tryd.prog p.1 p.2 := tbl_cons ok_bits_New (tbl_cons ok_bits_Set_Put (tbl_cons ok_flow_Next (tbl_cons ok_bits_Set_Has (tbl_cons ok_ins_Fence (tbl_cons ok_bits_Set_List (tbl_nil))))))
noncomputable def c_road_Ends : Code := Go.Proofs.Tryd.f9.body.getD .skip
def tb_road_Ends : Tb := [(4, ⟨[2, 3, 7, 8, 23, 24, 25], []⟩), (11, ⟨[3, 7, 8, 11], [(1000000000000000000000000000000000000000000000000000000000012, 1)]⟩), (17, ⟨[3, 7, 8, 11, 51, 52, 53], [(1000000000000000000000000000000000000000000000000000000000012, 1)]⟩)]
inductive J_road_Ends where
  | l4 (h : Int) (closed : Int) (closed1 : List (Int × Int))
  | l11 (closed : Int) (closed1 : List (Int × Int)) (len : Nat) (seen : Int) (open_ : List Int) (seen1 : List (Int × Int))
  | l17 (closed : Int) (closed1 : List (Int × Int)) (len : Nat) (h : Int) (seen : Int) (open_ : List Int) (seen1 : List (Int × Int)) (h1 : Int) (h2 : List Int)
def T_road_Ends (t : List (El T_api_Ins)) (points : List Int) (s : Int) : J_road_Ends → JT J_road_Ends (List Int)
  | .l4 h closed closed1 =>
    .br (decide (h < (Int.ofNat (List.length points))))
      (.br ((decide ((0 : Int) ≤ h)) && (decide (h < (Int.ofNat (List.length points)))))
        (.jmp (.l4 (IntKind.i64.wrap (h + (1 : Int))) (v_bits_Set_Put (closed, closed1) (List.getD points (Int.toNat h) (dflt (.int .i64)))).2.1 (v_bits_Set_Put (closed, closed1) (List.getD points (Int.toNat h) (dflt (.int .i64)))).2.2))
      (.no))
    (.jmp (.l11 closed closed1 1 (v_bits_New (Int.ofNat (List.length t))).1 [s] (v_bits_New (Int.ofNat (List.length t))).2))
  | .l11 closed closed1 len seen open_ seen1 =>
    .br (decide ((Int.ofNat len) > (0 : Int)))
      (.br ((decide ((0 : Int) ≤ (IntKind.i64.wrap ((Int.ofNat len) - (1 : Int))))) && (decide ((IntKind.i64.wrap ((Int.ofNat len) - (1 : Int))) < (Int.ofNat len))))
        (.br ((decide ((0 : Int) ≤ (IntKind.i64.wrap ((Int.ofNat len) - (1 : Int))))) && (decide ((IntKind.i64.wrap ((Int.ofNat len) - (1 : Int))) ≤ (Int.ofNat len))))
          (.br (k_flow_Next t (List.getD open_ (Int.toNat (IntKind.i64.wrap ((Int.ofNat len) - (1 : Int)))) (dflt (.int .i64))))
            (.jmp (.l17 closed closed1 (Int.toNat (IntKind.i64.wrap ((Int.ofNat len) - (1 : Int)))) (0 : Int) seen open_ seen1 (Int.ofNat (List.length (v_flow_Next t (List.getD open_ (Int.toNat (IntKind.i64.wrap ((Int.ofNat len) - (1 : Int)))) (dflt (.int .i64)))))) (v_flow_Next t (List.getD open_ (Int.toNat (IntKind.i64.wrap ((Int.ofNat len) - (1 : Int)))) (dflt (.int .i64))))))
          (.no))
        (.no))
      (.no))
    (.br (k_bits_Set_List (seen, seen1))
      (.leaf (v_bits_Set_List (seen, seen1)).1)
    (.no))
  | .l17 closed closed1 len h seen open_ seen1 h1 h2 =>
    .br (decide (h < h1))
      (.br ((decide ((0 : Int) ≤ h)) && (decide (h < (Int.ofNat (List.length h2)))))
        (.br (! (v_bits_Set_Has (closed, closed1) (List.getD h2 (Int.toNat h) (dflt (.int .i64)))).1)
          (.br (v_bits_Set_Put (seen, seen1) (List.getD h2 (Int.toNat h) (dflt (.int .i64)))).1
            (.br ((decide ((0 : Int) ≤ (List.getD h2 (Int.toNat h) (dflt (.int .i64))))) && (decide ((List.getD h2 (Int.toNat h) (dflt (.int .i64))) < (Int.ofNat (List.length t)))))
              (.br (k_ins_Fence (List.getD t (Int.toNat (List.getD h2 (Int.toNat h) (dflt (.int .i64)))) (dflt T_api_Ins)))
                (.br (! (v_ins_Fence (List.getD t (Int.toNat (List.getD h2 (Int.toNat h) (dflt (.int .i64)))) (dflt T_api_Ins))))
                  (.br (Nat.ble (((List.length (List.take len open_)) + 1) * 8) limit)
                    (.jmp (.l17 (v_bits_Set_Has (closed, closed1) (List.getD h2 (Int.toNat h) (dflt (.int .i64)))).2.1 (v_bits_Set_Has (closed, closed1) (List.getD h2 (Int.toNat h) (dflt (.int .i64)))).2.2 (List.length ((List.take len open_) ++ [(List.getD h2 (Int.toNat h) (dflt (.int .i64)))])) (IntKind.i64.wrap (h + (1 : Int))) (v_bits_Set_Put (seen, seen1) (List.getD h2 (Int.toNat h) (dflt (.int .i64)))).2.1 ((List.take len open_) ++ [(List.getD h2 (Int.toNat h) (dflt (.int .i64)))]) (v_bits_Set_Put (seen, seen1) (List.getD h2 (Int.toNat h) (dflt (.int .i64)))).2.2 h1 h2))
                  (.no))
                (.jmp (.l17 (v_bits_Set_Has (closed, closed1) (List.getD h2 (Int.toNat h) (dflt (.int .i64)))).2.1 (v_bits_Set_Has (closed, closed1) (List.getD h2 (Int.toNat h) (dflt (.int .i64)))).2.2 len (IntKind.i64.wrap (h + (1 : Int))) (v_bits_Set_Put (seen, seen1) (List.getD h2 (Int.toNat h) (dflt (.int .i64)))).2.1 open_ (v_bits_Set_Put (seen, seen1) (List.getD h2 (Int.toNat h) (dflt (.int .i64)))).2.2 h1 h2)))
              (.no))
            (.no))
          (.jmp (.l17 (v_bits_Set_Has (closed, closed1) (List.getD h2 (Int.toNat h) (dflt (.int .i64)))).2.1 (v_bits_Set_Has (closed, closed1) (List.getD h2 (Int.toNat h) (dflt (.int .i64)))).2.2 len (IntKind.i64.wrap (h + (1 : Int))) (v_bits_Set_Put (seen, seen1) (List.getD h2 (Int.toNat h) (dflt (.int .i64)))).2.1 open_ (v_bits_Set_Put (seen, seen1) (List.getD h2 (Int.toNat h) (dflt (.int .i64)))).2.2 h1 h2)))
        (.jmp (.l17 (v_bits_Set_Has (closed, closed1) (List.getD h2 (Int.toNat h) (dflt (.int .i64)))).2.1 (v_bits_Set_Has (closed, closed1) (List.getD h2 (Int.toNat h) (dflt (.int .i64)))).2.2 len (IntKind.i64.wrap (h + (1 : Int))) seen open_ seen1 h1 h2)))
      (.no))
    (.jmp (.l11 closed closed1 len seen open_ seen1))
def T0_road_Ends (t : List (El T_api_Ins)) (points : List Int) (s : Int) : JT J_road_Ends (List Int) :=
  .jmp (.l4 (0 : Int) (v_bits_New (Int.ofNat (List.length t))).1 (v_bits_New (Int.ofNat (List.length t))).2)
def R_road_Ends : List Int → AV := fun (r : List Int) => .rw 3 (.int .i64) r
def S_road_Ends (t : List (El T_api_Ins)) (points : List Int) (s : Int) : J_road_Ends → Nat × St
  | .l4 h closed closed1 => (4, ⟨mkTm 82 [(2, .d (.int .i64) s), (3, .pt 4 0 0), (7, .pt 8 0 0), (8, .pt 9 0 0), (23, .d (.sl (.int .i64)) points), (24, .d (.int .i64) (Int.ofNat (List.length points))), (25, .d (.int .i64) h)], [(4, 0, .box 32 [.d (.sl T_api_Ins) t] none), (8, 0, .box 74 [.d (.int .i64) closed, .mp 8194 0] none), (9, 0, .box 74 [.d (.int .i64) (v_bits_New (Int.ofNat (List.length t))).1, .mp 9218 0] none), (8194, 0, .map (.int .i64) (.int .u64) closed1), (9218, 0, .map (.int .i64) (.int .u64) (v_bits_New (Int.ofNat (List.length t))).2)]⟩)
  | .l11 closed closed1 len seen open_ seen1 => (11, ⟨mkTm 82 [(3, .pt 4 0 0), (7, .pt 8 0 0), (8, .pt 9 0 0), (11, .own 12 0 (some len))], [(4, 0, .box 32 [.d (.sl T_api_Ins) t] none), (8, 0, .box 74 [.d (.int .i64) closed, .mp 8194 0] none), (9, 0, .box 74 [.d (.int .i64) seen, .mp 9218 0] none), (12, 0, .row 3 (.int .i64) open_ false), (8194, 0, .map (.int .i64) (.int .u64) closed1), (9218, 0, .map (.int .i64) (.int .u64) seen1)]⟩)
  | .l17 closed closed1 len h seen open_ seen1 h1 h2 => (17, ⟨mkTm 82 [(3, .pt 4 0 0), (7, .pt 8 0 0), (8, .pt 9 0 0), (11, .own 12 0 (some len)), (51, .own 52 0 none), (52, .d (.int .i64) h1), (53, .d (.int .i64) h)], [(4, 0, .box 32 [.d (.sl T_api_Ins) t] none), (8, 0, .box 74 [.d (.int .i64) closed, .mp 8194 0] none), (9, 0, .box 74 [.d (.int .i64) seen, .mp 9218 0] none), (12, 0, .row 3 (.int .i64) open_ false), (52, 0, .row 3 (.int .i64) h2 false), (8194, 0, .map (.int .i64) (.int .u64) closed1), (9218, 0, .map (.int .i64) (.int .u64) seen1)]⟩)
theorem en_road_Ends (t : List (El T_api_Ins)) (points : List Int) (s : Int) (L : Lt) : entryA Go.Proofs.Tryd.prog (clOf t_road_Ends) tb_road_Ends Go.Proofs.Tryd.f9 c_road_Ends L (toForms sg_road_Ends (t, points, s, ())) = (T0_road_Ends t points s).run (fun v => some (R_road_Ends v, tps (toForms sg_road_Ends (t, points, s, ())))) fun j => L (S_road_Ends t points s j).1 (S_road_Ends t points s j).2 := by kernel_rfl
theorem lp_road_Ends (t : List (El T_api_Ins)) (points : List Int) (s : Int) : ∀ (L : Lt) (j : J_road_Ends), procOf (procsF Go.Proofs.Tryd.prog (clOf t_road_Ends) tb_road_Ends Go.Proofs.Tryd.f9 c_road_Ends (toForms sg_road_Ends (t, points, s, ()))) (S_road_Ends t points s j).1 L (S_road_Ends t points s j).2 = (T_road_Ends t points s j).run (fun v => some (R_road_Ends v, tps (toForms sg_road_Ends (t, points, s, ())))) fun j => L (S_road_Ends t points s j).1 (S_road_Ends t points s j).2
  | L, .l4 h closed closed1 => by kernel_rfl
  | L, .l11 closed closed1 len seen open_ seen1 => by kernel_rfl
  | L, .l17 closed closed1 len h seen open_ seen1 h1 h2 => by kernel_rfl
end
end Go.Ev
end

section
set_option linter.unusedSectionVars false
set_option linter.unusedVariables false
set_option linter.unusedSimpArgs false
/- Where one comes to, over steps of numbers. -/
set_option linter.unusedVariables false
open Go
namespace Go.Ev

inductive Come (N : Nat → Nat → Bool) (A : Nat → Bool) : Nat → Prop
  | start {j : Nat} : A j = true → Come N A j
  | step {k j : Nat} : Come N A k → N k j = true → Come N A j
noncomputable def comeB (N : Nat → Nat → Bool) (A : Nat → Bool) (j : Nat) : Bool := @decide (Come N A j) (Classical.propDecidable _)
theorem comeB_iff {N : Nat → Nat → Bool} {A : Nat → Bool} {j : Nat} : comeB N A j = true ↔ Come N A j := @decide_eq_true_iff _ (Classical.propDecidable _)
/-- What holds the start, is closed, and is come to, is it. -/
theorem comeB_eq {N : Nat → Nat → Bool} {A M : Nat → Bool} (h1 : ∀ j, A j = true → M j = true) (h2 : ∀ k j, M k = true → N k j = true → M j = true) (h3 : ∀ j, M j = true → Come N A j) (j : Nat) : M j = comeB N A j := by
  rw [Bool.eq_iff_iff, comeB_iff]
  refine ⟨h3 j, fun h => ?_⟩
  induction h with
  | start h => exact h1 _ h
  | step _ h ih => exact h2 _ _ ih h
theorem come_lt {N : Nat → Nat → Bool} {A : Nat → Bool} {n : Nat} (hA : ∀ j, A j = true → j < n) (hN : ∀ k j, N k j = true → j < n) {j : Nat} (h : Come N A j) : j < n := by
  cases h with
  | start h => exact hA _ h
  | step _ h => exact hN _ _ h
theorem come_mono {N N' : Nat → Nat → Bool} {A A' : Nat → Bool} (hA : ∀ j, A j = true → A' j = true) (hN : ∀ k j, N k j = true → N' k j = true) {j : Nat} (h : Come N A j) : Come N' A' j := by
  induction h with
  | start h => exact .start (hA _ h)
  | step _ h ih => exact .step ih (hN _ _ h)

/-- How many. -/
def card (n : Nat) (M : Nat → Bool) : Nat := (List.range n).countP M
theorem card_le {n : Nat} {M : Nat → Bool} : card n M ≤ n := by
  have := List.countP_le_length (p := M) (l := List.range n)
  simpa [card] using this
theorem card_add {M : Nat → Bool} {i : Nat} (hM : M i = false) : ∀ {n : Nat}, i < n → card n (fun j => M j || (j == i)) = card n M + 1 := by
  intro n
  induction n with
  | zero => intro h; omega
  | succ n ih =>
    intro h
    unfold card at *
    rw [List.range_succ, List.countP_append, List.countP_append]
    by_cases hi : i = n
    · subst hi
      have e : (List.range i).countP (fun j => M j || (j == i)) = (List.range i).countP M := List.countP_congr fun j hj => by
        have := List.mem_range.1 hj
        have : (j == i) = false := by simp; omega
        rw [this, Bool.or_false]
      rw [e]
      simp [hM]
    · rw [ih (by omega)]
      have : (n == i) = false := by simp; omega
      simp [this]
      omega
theorem listOf_length {n : Nat} {M : Nat → Bool} : (listOf n M).length = card n M := by
  unfold listOf card
  rw [List.length_map, List.countP_eq_length_filter]
end Go.Ev
end

section
set_option linter.unusedSectionVars false
set_option linter.unusedVariables false
set_option linter.unusedSimpArgs false
/- To which instructions one comes. -/
set_option linter.unusedVariables false
open Go
namespace Go.Ev
/-- Does one come from i to j? -/
noncomputable def fromB (t : List (El T_api_Ins)) (i : Int) (j : Nat) : Bool := comeB (fun k j => nextB t (k : Int) j) (nextB t i) j
theorem fromB_lt {t : List (El T_api_Ins)} {i : Int} {j : Nat} (h : fromB t i j = true) : j < t.length := come_lt (fun j => nextB_lt) (fun k j => nextB_lt) (comeB_iff.1 h)
end Go.Ev
end

section
set_option linter.unusedSectionVars false
set_option linter.unusedVariables false
set_option linter.unusedSimpArgs false
/- What is a fence: the guard. -/
set_option maxRecDepth 100000
set_option linter.unusedVariables false
set_option linter.unusedSimpArgs false
open Go
namespace Go.Ev
theorem k_fence {i : El T_api_Ins} (h : smallText i.2.2.2.2.2.1 = true) : k_ins_Fence i = true := by
  have h0 : k_ins_Right i = true := h
  have a : k_ins_Locked i = true := by unfold k_ins_Locked; simp only [h0, cond_true, Bool.cond_self]
  unfold k_ins_Fence
  simp only [h0, a, cond_true, Bool.cond_self]
end Go.Ev
end

section
set_option linter.unusedSectionVars false
set_option linter.unusedVariables false
set_option linter.unusedSimpArgs false
/- Free ways. -/
set_option linter.unusedVariables false
open Go
namespace Go.Ev
def fenceAtT (t : List (El T_api_Ins)) (k : Nat) : Bool := v_ins_Fence (t.getD k (dflt T_api_Ins))
/-- A step past what is no fence, to what is no point. -/
def stepB (t : List (El T_api_Ins)) (points : List Int) (k j : Nat) : Bool := !fenceAtT t k && (nextB t (k : Int) j && !points.contains (j : Int))
def firstB (t : List (El T_api_Ins)) (points : List Int) (s : Int) (j : Nat) : Bool := nextB t s j && !points.contains (j : Int)
noncomputable def endsB (t : List (El T_api_Ins)) (points : List Int) (s : Int) (j : Nat) : Bool := comeB (stepB t points) (firstB t points s) j
theorem stepB_lt {t : List (El T_api_Ins)} {points : List Int} {k j : Nat} (h : stepB t points k j = true) : j < t.length := by
  unfold stepB at h
  simp only [Bool.and_eq_true] at h
  exact nextB_lt h.2.1
theorem firstB_lt {t : List (El T_api_Ins)} {points : List Int} {s : Int} {j : Nat} (h : firstB t points s j = true) : j < t.length := by
  unfold firstB at h
  simp only [Bool.and_eq_true] at h
  exact nextB_lt h.1
theorem endsB_lt {t : List (El T_api_Ins)} {points : List Int} {s : Int} {j : Nat} (h : endsB t points s j = true) : j < t.length := come_lt (fun j => firstB_lt) (fun k j => stepB_lt) (comeB_iff.1 h)
end Go.Ev
end

section
set_option linter.unusedSectionVars false
set_option linter.unusedVariables false
set_option linter.unusedSimpArgs false
set_option maxRecDepth 100000
set_option linter.unusedVariables false
set_option linter.unusedSimpArgs false
open Go
namespace Go.Ev
noncomputable def v_road_Ends (t : List (El T_api_Ins)) (points : List Int) (s : Int) : List Int := listOf t.length (endsB t points s)
def k_road_Ends (t : List (El T_api_Ins)) (points : List Int) (s : Int) : Bool := flowOK t && decide (points.length < 4611686018427387904)
def goB (t : List (El T_api_Ins)) (points : List Int) (x : Int) (j : Nat) : Bool := nextB t x j && !points.contains (j : Int)
def nodeP (t : List (El T_api_Ins)) (s : Int) (M : Nat → Bool) (x : Int) : Prop := x = s ∨ ∃ j : Nat, x = (j : Int) ∧ M j = true ∧ fenceAtT t j = false
structure EInv (t : List (El T_api_Ins)) (points : List Int) (s : Int) (M : Nat → Bool) (o : List Int) (x0 : Int) (r : List Int) : Prop where
  a : ∀ j, M j = true → Come (stepB t points) (firstB t points s) j
  b : ∀ x ∈ o, nodeP t s M x
  c : ∀ x, nodeP t s M x → x ∈ o ∨ ∀ j, goB t points x j = true → M j = true ∨ (x = x0 ∧ (j : Int) ∈ r)
  d : o.length ≤ card t.length M + 1
theorem take_pred' {l : List Int} {n : Nat} (h : n + 1 ≤ l.length) : l.take (n + 1) = l.take n ++ [l.getD n 0] := by
  have hn : n < l.length := by omega
  rw [List.take_succ_eq_append_getElem hn, getD_lt hn]
theorem g_road_Ends (t : List (El T_api_Ins)) (points : List Int) (s : Int) (hk : k_road_Ends t points s = true) : Goes (T_road_Ends t points s) (T0_road_Ends t points s) (v_road_Ends t points s) := by
  unfold k_road_Ends at hk
  rw [Bool.and_eq_true] at hk
  obtain ⟨hf, hpl⟩ := hk
  have hpl := of_decide_eq_true hpl
  have hlen := flowOK_len hf
  generalize hn : t.length = n at hlen
  have kfe : ∀ k, k < n → k_ins_Fence (List.getD t k (dflt T_api_Ins)) = true := fun k hk => by
    have hmem : t.getD k (dflt T_api_Ins) ∈ t := by rw [getD_lt (by omega)]; exact List.getElem_mem (by omega)
    exact k_fence (flowOK_text hf hmem)
  -- the main part
  have main : ∀ (C : Nat → Bool) (cl : Int × List (Int × Int)), SetOK cl n C → (∀ j, j < n → C j = points.contains (j : Int)) → ∀ m, ∀ (M : Nat → Bool) (se : Int × List (Int × Int)) (open_ : List Int) (len : Nat), len ≤ open_.length → 2 * (n - card n M) + len = m → SetOK se n M →
      (∀ j, M j = true → Come (stepB t points) (firstB t points s) j) → (∀ x ∈ open_.take len, nodeP t s M x) → (∀ x, nodeP t s M x → x ∈ open_.take len ∨ ∀ j, goB t points x j = true → M j = true) → len ≤ card n M + 1 →
      Goes (T_road_Ends t points s) (.jmp (.l11 cl.1 cl.2 len se.1 open_ se.2)) (v_road_Ends t points s) := by
    intro C cl hcl hC m
    induction m using Nat.strongRecOn with
    | _ m ih =>
    intro M se open_ len hl hm hs h1 h2 h3 h5
    cases len with
    | zero =>
      rw [goes_jmp, T_road_Ends, goes_br, if_neg (by decide)]
      have hkl : k_bits_Set_List (se.1, se.2) = true := Nat.ble_eq_true_of_le (by have := hs.few; unfold limit; show se.2.length * 512 ≤ _; omega)
      rw [goes_br, if_pos hkl]
      have hv : (v_bits_Set_List (se.1, se.2)).1 = v_road_Ends t points s := by
        show listS se = _
        rw [hs.list (by omega)]
        unfold v_road_Ends endsB
        rw [hn]
        refine listOf_congr fun j _ => comeB_eq (fun j hj => ?_) (fun k j hk hj => ?_) h1 j
        · rcases h3 s (.inl rfl) with h | h
          · simp at h
          · exact h j hj
        · unfold stepB at hj
          rw [Bool.and_eq_true] at hj
          rcases h3 (k : Int) (.inr ⟨k, rfl, hk, by simpa using hj.1⟩) with h | h
          · simp at h
          · exact h j hj.2
      rw [hv]; exact .leaf
    | succ len =>
      have hc := @card_le n M
      have e : IntKind.i64.wrap (Int.ofNat (len + 1) - 1) = (len : Int) := by
        rw [wrap_i64 (by simp <;> omega) (by simp <;> omega)]; simp
      have g1 : decide (Int.ofNat (len + 1) > (0 : Int)) = true := decide_eq_true (by simp <;> omega)
      have g2 : (decide ((0 : Int) ≤ (len : Int)) && decide ((len : Int) < Int.ofNat (len + 1))) = true := bound_len (by omega)
      have g3 : (decide ((0 : Int) ≤ (len : Int)) && decide ((len : Int) ≤ Int.ofNat (len + 1))) = true := by simp; omega
      rw [goes_jmp, T_road_Ends, e, goes_br, if_pos g1, goes_br, if_pos g2, goes_br, if_pos g3, Int.toNat_natCast]
      have htk := take_pred' hl
      generalize hx0 : open_.getD len 0 = x0 at htk
      have hd : open_.getD len (dflt (.int .i64)) = x0 := hx0
      rw [hd]
      have kn : k_flow_Next t x0 = true := hf
      rw [goes_br, if_pos kn]
      have hnode := h2 x0 (by rw [htk]; simp)
      generalize hr : v_flow_Next t x0 = r
      have hrm : ∀ y ∈ r, ∃ j : Nat, j < n ∧ nextB t x0 j = true ∧ y = (j : Int) := fun y hy => by
        rw [← hr] at hy
        unfold v_flow_Next at hy
        rw [hn] at hy
        exact listOf_mem.1 hy
      have hrl : r.length ≤ n := by rw [← hr]; unfold v_flow_Next; rw [listOf_length, hn]; exact card_le
      have hin : ∀ j : Nat, nextB t x0 j = true → (j : Int) ∈ r := fun j hj => by rw [← hr]; exact listOf_mem.2 ⟨j, nextB_lt hj, hj, rfl⟩
      have inner : ∀ h, h ≤ r.length → ∀ (M1 : Nat → Bool) (se1 : Int × List (Int × Int)) (op1 : List Int) (len1 : Nat), len1 ≤ op1.length → 2 * (n - card n M1) + len1 < m → SetOK se1 n M1 → nodeP t s M1 x0 →
          (∀ j, M1 j = true → Come (stepB t points) (firstB t points s) j) → (∀ x ∈ op1.take len1, nodeP t s M1 x) → (∀ x, nodeP t s M1 x → x ∈ op1.take len1 ∨ ∀ j, goB t points x j = true → M1 j = true ∨ (x = x0 ∧ (j : Int) ∈ r.drop h)) → len1 ≤ card n M1 + 1 →
          Goes (T_road_Ends t points s) (.jmp (.l17 cl.1 cl.2 len1 (h : Int) se1.1 op1 se1.2 (Int.ofNat r.length) r)) (v_road_Ends t points s) := by
        refine down ?_ fun h hh ih2 => ?_
        · intro M1 se1 op1 len1 i1 i2 i3 i4 i5 i6 i7 i8
          rw [goes_jmp, T_road_Ends, goes_br, if_neg (by rw [lt_len_not (Nat.lt_irrefl _)]; decide)]
          refine ih _ i2 M1 se1 op1 len1 i1 rfl i3 i5 i6 (fun x hx => (i7 x hx).imp id fun h j hj => (h j hj).resolve_right (by simp)) i8
        · intro M1 se1 op1 len1 i1 i2 i3 i4 i5 i6 i7 i8
          obtain ⟨y, hy, hyN, hxy⟩ := hrm r[h] (List.getElem_mem hh)
          have hdy : List.getD r h (dflt (.int .i64)) = (y : Int) := by rw [← hxy]; exact getD_lt hh
          have hhas : (v_bits_Set_Has (cl.1, cl.2) (y : Int)).1 = points.contains (y : Int) := by
            show hasS cl (y : Int) = _
            rw [hcl.has (by omega), Int.toNat_natCast, decide_eq_true (by omega), Bool.true_and, hC y hy]
          have hhas2 : (v_bits_Set_Has (cl.1, cl.2) (y : Int)).2 = cl := rfl
          have hput : v_bits_Set_Put (se1.1, se1.2) (y : Int) = putS se1 (y : Int) := rfl
          have hdr : ∀ z, z ∈ r.drop h ↔ z = (y : Int) ∨ z ∈ r.drop (h + 1) := fun z => by rw [drop_cons hh, List.mem_cons, hxy]
          rw [goes_jmp, T_road_Ends, goes_br, if_pos (lt_len hh), goes_br, if_pos (bound_len hh), goes_br, Int.toNat_natCast, hdy, hhas, hhas2, hput, wrap_succ (by omega)]
          -- nothing is done with y
          have skip : (goB t points x0 y = true → M1 y = true) → Goes (T_road_Ends t points s) (.jmp (.l17 cl.1 cl.2 len1 ((h + 1 : Nat) : Int) se1.1 op1 se1.2 (Int.ofNat r.length) r)) (v_road_Ends t points s) := fun hsk =>
            ih2 M1 se1 op1 len1 i1 i2 i3 i4 i5 i6 (fun x hx => (i7 x hx).imp id fun hg j hj => by
              rcases hg j hj with h | ⟨hx0, h⟩
              · exact .inl h
              · rcases (hdr _).1 h with h | h
                · have : j = y := by omega
                  subst this
                  rw [hx0] at hj
                  exact .inl (hsk hj)
                · exact .inr ⟨hx0, h⟩) i8
          cases hpt : points.contains (y : Int) with
          | true =>
            rw [if_neg (by decide)]
            exact skip fun h => by unfold goB at h; rw [hpt, Bool.not_true, Bool.and_false] at h; cases h
          | false =>
            rw [if_pos (by decide), goes_br]
            cases hMy : M1 y with
            | true =>
              have hno := i3.put_no (by omega) (i := (y : Int)) (fun h => by rw [Int.toNat_natCast, hMy] at h; cases h.2.2)
              rw [hno, if_neg (by simp)]
              exact skip fun _ => hMy
            | false =>
              obtain ⟨p1, p2⟩ := i3.put (by omega) hy hMy
              have hgo : goB t points x0 y = true := by unfold goB; rw [hyN, hpt]; rfl
              have hcome : Come (stepB t points) (firstB t points s) y := by
                rcases i4 with h | ⟨k, hk, hMk, hfk⟩
                · subst h; exact .start hgo
                · subst hk; exact .step (i5 k hMk) (by unfold stepB; rw [hfk]; exact hgo)
              have hcard := card_add hMy hy
              have hcl2 := @card_le n (fun k => M1 k || (k == y))
              have mono : ∀ x, nodeP t s M1 x → nodeP t s (fun k => M1 k || (k == y)) x := fun x hx => hx.imp id fun ⟨k, h1, h2, h3⟩ => ⟨k, h1, by show (M1 k || (k == y)) = true; rw [h2]; rfl, h3⟩
              have hcc : ∀ k, (M1 k || (k == y)) = true → Come (stepB t points) (firstB t points s) k := fun k hk => by
                simp only [Bool.or_eq_true, beq_iff_eq] at hk
                rcases hk with hk | hk
                · exact i5 k hk
                · subst hk; exact hcome
              have keep : ∀ (o : List Int), (∀ x ∈ op1.take len1, x ∈ o) → (fenceAtT t y = false → (y : Int) ∈ o) → ∀ x, nodeP t s (fun k => M1 k || (k == y)) x → x ∈ o ∨ ∀ j, goB t points x j = true → (M1 j || (j == y)) = true ∨ (x = x0 ∧ (j : Int) ∈ r.drop (h + 1)) := fun o ho hyo x hx => by
                have old : nodeP t s M1 x → x ∈ o ∨ ∀ j, goB t points x j = true → (M1 j || (j == y)) = true ∨ (x = x0 ∧ (j : Int) ∈ r.drop (h + 1)) := fun hx => by
                  rcases i7 x hx with h | h
                  · exact .inl (ho x h)
                  · refine .inr fun j hj => ?_
                    rcases h j hj with h | ⟨hx0, h⟩
                    · exact .inl (by rw [h]; rfl)
                    · rcases (hdr _).1 h with h | h
                      · have : j = y := by omega
                        subst this; exact .inl (by simp)
                      · exact .inr ⟨hx0, h⟩
                rcases hx with hx | ⟨k, hk, hMk, hfk⟩
                · exact old (.inl hx)
                · have hMk : (M1 k || (k == y)) = true := hMk
                  simp only [Bool.or_eq_true, beq_iff_eq] at hMk
                  rcases hMk with hMk | hMk
                  · exact old (.inr ⟨k, hk, hMk, hfk⟩)
                  · subst hMk; subst hk; exact .inl (hyo hfk)
              have vf : v_ins_Fence (List.getD t y (dflt T_api_Ins)) = fenceAtT t y := rfl
              rw [p1, if_pos rfl, goes_br, hn, if_pos (bound_len hy), goes_br, Int.toNat_natCast, if_pos (kfe y hy), goes_br, vf]
              cases hfy : fenceAtT t y with
              | true =>
                rw [if_neg (by decide)]
                exact ih2 _ _ op1 len1 i1 (by omega) p2 (mono x0 i4) hcc (fun x hx => mono x (i6 x hx)) (keep _ (fun x hx => hx) (fun h => by rw [hfy] at h; cases h)) (by omega)
              | false =>
                have htl : (op1.take len1).length = len1 := by rw [List.length_take]; omega
                rw [if_pos (by decide), goes_br, if_pos (Nat.ble_eq_true_of_le (by rw [htl]; unfold limit; omega))]
                have htake : (op1.take len1 ++ [(y : Int)]).take (op1.take len1 ++ [(y : Int)]).length = op1.take len1 ++ [(y : Int)] := List.take_length
                have hl2 : (op1.take len1 ++ [(y : Int)]).length = len1 + 1 := by rw [List.length_append, htl]; rfl
                refine ih2 _ _ (op1.take len1 ++ [(y : Int)]) _ (Nat.le_refl _) (by omega) p2 (mono x0 i4) hcc (fun x hx => ?_) ?_ (by omega)
                · rw [htake, List.mem_append] at hx
                  rcases hx with hx | hx
                  · exact mono x (i6 x hx)
                  · simp only [List.mem_singleton] at hx
                    exact .inr ⟨y, hx, by simp, hfy⟩
                · rw [htake]
                  exact keep _ (fun x hx => List.mem_append_left _ hx) (fun _ => List.mem_append_right _ (by simp))
      refine inner 0 (Nat.zero_le _) M se open_ len (by omega) (by omega) hs hnode h1 (fun x hx => h2 x (by rw [htk]; simp [hx])) (fun x hx => ?_) (by omega)
      rcases h3 x hx with h | h
      · rw [htk, List.mem_append] at h
        rcases h with h | h
        · exact .inl h
        · simp only [List.mem_singleton] at h
          refine .inr fun j hj => .inr ⟨h, ?_⟩
          subst h
          unfold goB at hj
          rw [Bool.and_eq_true] at hj
          rw [List.drop_zero]
          exact hin j hj.1
      · exact .inr fun j hj => .inl (h j hj)
  have hnew : v_bits_New (Int.ofNat (List.length t)) = ((n : Int), []) := by
    rw [hn]
    unfold v_bits_New
    simp
    omega
  have first : ∀ h, h ≤ points.length → ∀ (C : Nat → Bool) (cl : Int × List (Int × Int)), SetOK cl n C → (∀ j : Nat, j < n → ((C j = true ∨ (j : Int) ∈ points.drop h) ↔ (j : Int) ∈ points)) → Goes (T_road_Ends t points s) (.jmp (.l4 (h : Int) cl.1 cl.2)) (v_road_Ends t points s) := by
    refine down ?_ fun h hh ih => ?_
    · intro C cl hcl hC
      rw [goes_jmp, T_road_Ends, goes_br, if_neg (by rw [lt_len_not (Nat.lt_irrefl _)]; decide), hnew]
      refine main C cl hcl (fun j hj => ?_) _ (fun _ => false) ((n : Int), []) [s] 1 (by simp) rfl (SetOK.new n) (fun j h => by cases h) (fun x hx => .inl (by simpa using hx)) (fun x hx => .inl ?_) (by omega)
      · have := hC j hj
        rw [List.drop_length] at this
        rw [Bool.eq_iff_iff, List.contains_iff_mem, ← this]
        simp
      · rcases hx with hx | ⟨j, _, h, _⟩
        · simpa using hx
        · cases h
    · intro C cl hcl hC
      rw [goes_jmp, T_road_Ends, goes_br, if_pos (lt_len hh), goes_br, if_pos (bound_len hh), Int.toNat_natCast, wrap_succ (by omega)]
      have hd : points.getD h (dflt (.int .i64)) = points[h] := getD_lt hh
      rw [hd]
      have hput : v_bits_Set_Put (cl.1, cl.2) points[h] = putS cl points[h] := rfl
      rw [hput]
      have hdr : ∀ z, z ∈ points.drop h ↔ z = points[h] ∨ z ∈ points.drop (h + 1) := fun z => by rw [drop_cons hh, List.mem_cons]
      generalize points[h] = x at hdr
      by_cases hx : 0 ≤ x ∧ x < n ∧ C x.toNat = false
      · obtain ⟨y, rfl⟩ := Int.eq_ofNat_of_zero_le hx.1
        rw [Int.toNat_natCast] at hx
        obtain ⟨_, p2⟩ := hcl.put (by omega) (show y < n by omega) hx.2.2
        refine ih _ _ p2 fun j hj => ?_
        rw [← hC j hj, hdr]
        simp only [Bool.or_eq_true, beq_iff_eq]
        constructor
        · rintro ((h | h) | h)
          · exact .inl h
          · exact .inr (.inl (by omega))
          · exact .inr (.inr h)
        · rintro (h | h | h)
          · exact .inl (.inl h)
          · exact .inl (.inr (by omega))
          · exact .inr h
      · rw [hcl.put_no (by omega) hx]
        refine ih C cl hcl fun j hj => ?_
        rw [← hC j hj, hdr]
        constructor
        · rintro (h | h)
          · exact .inl h
          · exact .inr (.inr h)
        · rintro (h | h | h)
          · exact .inl h
          · left
            cases hCj : C j with
            | true => rfl
            | false => exact absurd ⟨by omega, by omega, by rw [← h, Int.toNat_natCast]; exact hCj⟩ hx
          · exact .inr h
  unfold T0_road_Ends
  rw [hnew]
  exact first 0 (Nat.zero_le _) (fun _ => false) ((n : Int), []) (SetOK.new n) fun j _ => by simp
end Go.Ev
end

section
set_option linter.unusedSectionVars false
set_option linter.unusedVariables false
set_option linter.unusedSimpArgs false
set_option maxRecDepth 100000
set_option linter.unusedVariables false
open Go Go.Ev
namespace Go.Ev
noncomputable section
noncomputable def e_road_Ends : Run := entG sg_road_Ends R_road_Ends (fun a => k_road_Ends a.1 a.2.1 a.2.2.1) (fun a => v_road_Ends a.1 a.2.1 a.2.2.1)
theorem ok_road_Ends : EntOK Go.Proofs.Tryd.prog 9 e_road_Ends := entG_ok (tb := tb_road_Ends) (c := c_road_Ends) tk_road_Ends (by kernel_rfl) (by kernel_rfl) (by kernel_rfl) (fun a => by kernel_rfl) fun ⟨t, points, s, _⟩ hk => evF_goes (c := c_road_Ends) (K := fun v => (R_road_Ends v, tps (toForms sg_road_Ends (t, points, s, ())))) (S := S_road_Ends t points s) (by kernel_rfl) (en_road_Ends t points s) (lp_road_Ends t points s) (g_road_Ends t points s hk)
end
end Go.Ev
end

section
set_option linter.unusedSectionVars false
set_option linter.unusedVariables false
set_option linter.unusedSimpArgs false
set_option maxRecDepth 100000
set_option linter.unusedVariables false
open Go Go.Ev
namespace Go.Ev
noncomputable section
/-! ### paling/palingref3.In -/
def sg_ref3_In : Sig := [(false, (.sl (.int .i64))), (false, (.int .i64))]
noncomputable def t_ref3_In : Tbl := []
theorem tk_ref3_In : ∀ p ∈ t_ref3_In, EntOK Go.Proofs.Tryd.prog p.1 p.2 := tbl_nil
noncomputable def c_ref3_In : Code := Go.Proofs.Tryd.f12.body.getD .skip
def tb_ref3_In : Tb := [(3, ⟨[0, 1, 5], []⟩)]
inductive J_ref3_In where
  | l3 (i : Int)
def T_ref3_In (l : List Int) (n : Int) : J_ref3_In → JT J_ref3_In (Bool)
  | .l3 i =>
    .br (decide (i < (Int.ofNat (List.length l))))
      (.br ((decide ((0 : Int) ≤ i)) && (decide (i < (Int.ofNat (List.length l)))))
        (.br ((List.getD l (Int.toNat i) (dflt (.int .i64))) == n)
          (.leaf true)
        (.jmp (.l3 (IntKind.i64.wrap (i + (1 : Int))))))
      (.no))
    (.leaf false)
def T0_ref3_In (l : List Int) (n : Int) : JT J_ref3_In (Bool) :=
  .jmp (.l3 (0 : Int))
def R_ref3_In : Bool → AV := fun (r : Bool) => .d .bool r
def S_ref3_In (l : List Int) (n : Int) : J_ref3_In → Nat × St
  | .l3 i => (3, ⟨mkTm 18 [(0, .d (.sl (.int .i64)) l), (1, .d (.int .i64) n), (5, .d (.int .i64) i)], []⟩)
theorem en_ref3_In (l : List Int) (n : Int) (L : Lt) : entryA Go.Proofs.Tryd.prog (clOf t_ref3_In) tb_ref3_In Go.Proofs.Tryd.f12 c_ref3_In L (toForms sg_ref3_In (l, n, ())) = (T0_ref3_In l n).run (fun v => some (R_ref3_In v, tps (toForms sg_ref3_In (l, n, ())))) fun j => L (S_ref3_In l n j).1 (S_ref3_In l n j).2 := by kernel_rfl
theorem lp_ref3_In (l : List Int) (n : Int) : ∀ (L : Lt) (j : J_ref3_In), procOf (procsF Go.Proofs.Tryd.prog (clOf t_ref3_In) tb_ref3_In Go.Proofs.Tryd.f12 c_ref3_In (toForms sg_ref3_In (l, n, ()))) (S_ref3_In l n j).1 L (S_ref3_In l n j).2 = (T_ref3_In l n j).run (fun v => some (R_ref3_In v, tps (toForms sg_ref3_In (l, n, ())))) fun j => L (S_ref3_In l n j).1 (S_ref3_In l n j).2
  | L, .l3 i => by kernel_rfl
end
end Go.Ev
end

section
set_option linter.unusedSectionVars false
set_option linter.unusedVariables false
set_option linter.unusedSimpArgs false
set_option linter.unusedVariables false
set_option linter.unusedSimpArgs false
open Go
namespace Go.Ev
def v_ref3_In (l : List Int) (n : Int) : Bool := l.contains n
def k_ref3_In (l : List Int) (n : Int) : Bool := decide (l.length < 4611686018427387904)
theorem g_ref3_In (l : List Int) (n : Int) (hk : k_ref3_In l n = true) : Goes (T_ref3_In l n) (T0_ref3_In l n) (v_ref3_In l n) := by
  have hn : l.length < 4611686018427387904 := of_decide_eq_true hk
  have loop : ∀ k, k ≤ l.length → Goes (T_ref3_In l n) (.jmp (.l3 (k : Int))) ((l.drop k).contains n) := by
    refine down ?_ fun k hk ih => ?_
    · rw [goes_jmp]
      simp only [T_ref3_In, goes_br, lt_len_not (Nat.lt_irrefl _), goes_leaf, List.drop_length]
      simp
    · rw [goes_jmp]
      simp only [T_ref3_In, goes_br, lt_len hk, nng, Bool.and_self, if_true, Int.toNat_natCast, getD_lt hk, wrap_succ (k := k) (by omega)]
      rw [drop_cons hk, List.contains_cons]
      cases h : (l[k] == n) with
      | true =>
        have : (n == l[k]) = true := by simp at h ⊢; exact h.symm
        rw [this]; simp [goes_leaf]
      | false =>
        have : (n == l[k]) = false := by simp at h ⊢; exact fun e => h e.symm
        rw [this]; simpa using ih
  unfold T0_ref3_In v_ref3_In
  simpa using loop 0 (Nat.zero_le _)
end Go.Ev
end

section
set_option linter.unusedSectionVars false
set_option linter.unusedVariables false
set_option linter.unusedSimpArgs false
set_option maxRecDepth 100000
set_option linter.unusedVariables false
open Go Go.Ev
namespace Go.Ev
noncomputable section
noncomputable def e_ref3_In : Run := entG sg_ref3_In R_ref3_In (fun a => k_ref3_In a.1 a.2.1) (fun a => v_ref3_In a.1 a.2.1)
theorem ok_ref3_In : EntOK Go.Proofs.Tryd.prog 12 e_ref3_In := entG_ok (tb := tb_ref3_In) (c := c_ref3_In) tk_ref3_In (by kernel_rfl) (by kernel_rfl) (by kernel_rfl) (fun a => by kernel_rfl) fun ⟨l, n, _⟩ hk => evF_goes (c := c_ref3_In) (K := fun v => (R_ref3_In v, tps (toForms sg_ref3_In (l, n, ())))) (S := S_ref3_In l n) (by kernel_rfl) (en_ref3_In l n) (lp_ref3_In l n) (g_ref3_In l n hk)
end
end Go.Ev
end

section
set_option linter.unusedSectionVars false
set_option linter.unusedVariables false
set_option linter.unusedSimpArgs false
set_option maxRecDepth 100000
set_option linter.unusedVariables false
open Go Go.Ev
namespace Go.Ev
noncomputable section
/-! ### slices.Index[[]int,int] -/
def sg_slices_Index___int_int_ : Sig := [(false, (.sl (.int .i64))), (false, (.int .i64))]
noncomputable def t_slices_Index___int_int_ : Tbl := []
theorem tk_slices_Index___int_int_ : ∀ p ∈ t_slices_Index___int_int_, EntOK Go.Proofs.Tryd.prog p.1 p.2 := tbl_nil
noncomputable def c_slices_Index___int_int_ : Code := Go.Proofs.Tryd.f40.body.getD .skip
def tb_slices_Index___int_int_ : Tb := [(3, ⟨[0, 1, 7, 8], []⟩)]
inductive J_slices_Index___int_int_ where
  | l3 (h : Int)
def T_slices_Index___int_int_ (s : List Int) (v_ : Int) : J_slices_Index___int_int_ → JT J_slices_Index___int_int_ (Int)
  | .l3 h =>
    .br (decide (h < (Int.ofNat (List.length s))))
      (.br ((decide ((0 : Int) ≤ h)) && (decide (h < (Int.ofNat (List.length s)))))
        (.br (v_ == (List.getD s (Int.toNat h) (dflt (.int .i64))))
          (.leaf h)
        (.jmp (.l3 (IntKind.i64.wrap (h + (1 : Int))))))
      (.no))
    (.leaf (-1 : Int))
def T0_slices_Index___int_int_ (s : List Int) (v_ : Int) : JT J_slices_Index___int_int_ (Int) :=
  .jmp (.l3 (0 : Int))
def R_slices_Index___int_int_ : Int → AV := fun (r : Int) => .d (.int .i64) r
def S_slices_Index___int_int_ (s : List Int) (v_ : Int) : J_slices_Index___int_int_ → Nat × St
  | .l3 h => (3, ⟨mkTm 19 [(0, .d (.sl (.int .i64)) s), (1, .d (.int .i64) v_), (7, .d (.int .i64) (Int.ofNat (List.length s))), (8, .d (.int .i64) h)], []⟩)
theorem en_slices_Index___int_int_ (s : List Int) (v_ : Int) (L : Lt) : entryA Go.Proofs.Tryd.prog (clOf t_slices_Index___int_int_) tb_slices_Index___int_int_ Go.Proofs.Tryd.f40 c_slices_Index___int_int_ L (toForms sg_slices_Index___int_int_ (s, v_, ())) = (T0_slices_Index___int_int_ s v_).run (fun v => some (R_slices_Index___int_int_ v, tps (toForms sg_slices_Index___int_int_ (s, v_, ())))) fun j => L (S_slices_Index___int_int_ s v_ j).1 (S_slices_Index___int_int_ s v_ j).2 := by kernel_rfl
theorem lp_slices_Index___int_int_ (s : List Int) (v_ : Int) : ∀ (L : Lt) (j : J_slices_Index___int_int_), procOf (procsF Go.Proofs.Tryd.prog (clOf t_slices_Index___int_int_) tb_slices_Index___int_int_ Go.Proofs.Tryd.f40 c_slices_Index___int_int_ (toForms sg_slices_Index___int_int_ (s, v_, ()))) (S_slices_Index___int_int_ s v_ j).1 L (S_slices_Index___int_int_ s v_ j).2 = (T_slices_Index___int_int_ s v_ j).run (fun v => some (R_slices_Index___int_int_ v, tps (toForms sg_slices_Index___int_int_ (s, v_, ())))) fun j => L (S_slices_Index___int_int_ s v_ j).1 (S_slices_Index___int_int_ s v_ j).2
  | L, .l3 h => by kernel_rfl
end
end Go.Ev
end

section
set_option linter.unusedSectionVars false
set_option linter.unusedVariables false
set_option linter.unusedSimpArgs false
set_option linter.unusedVariables false
set_option linter.unusedSimpArgs false
open Go
namespace Go.Ev
def indexI (v : Int) : List Int → Nat → Int
  | [], _ => -1
  | x :: r, k => if v = x then (k : Int) else indexI v r (k + 1)
theorem indexI_ge {v : Int} : ∀ {l : List Int} {k : Nat}, decide (indexI v l k ≥ 0) = l.contains v
  | [], k => rfl
  | x :: r, k => by
    unfold indexI
    rw [List.contains_cons]
    by_cases h : v = x
    · subst h; rw [if_pos rfl]; simp
    · rw [if_neg h, indexI_ge]
      have : (v == x) = false := by simpa using h
      rw [this, Bool.false_or]
def v_slices_Index___int_int_ (s : List Int) (v : Int) : Int := indexI v s 0
def k_slices_Index___int_int_ (s : List Int) (v : Int) : Bool := decide (s.length < 4611686018427387904)
theorem g_slices_Index___int_int_ (s : List Int) (v : Int) (hk : k_slices_Index___int_int_ s v = true) : Goes (T_slices_Index___int_int_ s v) (T0_slices_Index___int_int_ s v) (v_slices_Index___int_int_ s v) := by
  have hn : s.length < 4611686018427387904 := of_decide_eq_true hk
  have loop : ∀ k, k ≤ s.length → Goes (T_slices_Index___int_int_ s v) (.jmp (.l3 (k : Int))) (indexI v (s.drop k) k) := by
    refine down ?_ fun k hk ih => ?_
    · rw [goes_jmp, T_slices_Index___int_int_, goes_br, if_neg (by rw [lt_len_not (Nat.lt_irrefl _)]; decide), List.drop_length]
      exact .leaf
    · have hd : s.getD k (dflt (.int .i64)) = s[k] := getD_lt hk
      rw [goes_jmp, T_slices_Index___int_int_, goes_br, if_pos (lt_len hk), goes_br, if_pos (bound_len hk), goes_br, Int.toNat_natCast, hd, drop_cons hk, indexI, wrap_succ (by omega)]
      by_cases h : v = s[k]
      · rw [if_pos h, if_pos (by simpa using h)]; exact .leaf
      · rw [if_neg h, if_neg (by simpa using h)]; exact ih
  exact loop 0 (Nat.zero_le _)
end Go.Ev
end

section
set_option linter.unusedSectionVars false
set_option linter.unusedVariables false
set_option linter.unusedSimpArgs false
set_option maxRecDepth 100000
set_option linter.unusedVariables false
open Go Go.Ev
namespace Go.Ev
noncomputable section
noncomputable def e_slices_Index___int_int_ : Run := entG sg_slices_Index___int_int_ R_slices_Index___int_int_ (fun a => k_slices_Index___int_int_ a.1 a.2.1) (fun a => v_slices_Index___int_int_ a.1 a.2.1)
theorem ok_slices_Index___int_int_ : EntOK Go.Proofs.Tryd.prog 40 e_slices_Index___int_int_ := entG_ok (tb := tb_slices_Index___int_int_) (c := c_slices_Index___int_int_) tk_slices_Index___int_int_ (by kernel_rfl) (by kernel_rfl) (by kernel_rfl) (fun a => by kernel_rfl) fun ⟨s, v_, _⟩ hk => evF_goes (c := c_slices_Index___int_int_) (K := fun v => (R_slices_Index___int_int_ v, tps (toForms sg_slices_Index___int_int_ (s, v_, ())))) (S := S_slices_Index___int_int_ s v_) (by kernel_rfl) (en_slices_Index___int_int_ s v_) (lp_slices_Index___int_int_ s v_) (g_slices_Index___int_int_ s v_ hk)
end
end Go.Ev
end

section
set_option linter.unusedSectionVars false
set_option linter.unusedVariables false
set_option linter.unusedSimpArgs false
set_option maxRecDepth 100000
set_option linter.unusedVariables false
open Go Go.Ev
namespace Go.Ev
noncomputable section
/-! ### slices.Contains[[]int,int] -/
def sg_slices_Contains___int_int_ : Sig := [(false, (.sl (.int .i64))), (false, (.int .i64))]
noncomputable def t_slices_Contains___int_int_ : Tbl := [(40, e_slices_Index___int_int_)]
theorem tk_slices_Contains___int_int_ : ∀ p ∈ t_slices_Contains___int_int_, EntOK Go.Proofs.Tryd.prog p.1 p.2 := tbl_cons ok_slices_Index___int_int_ (tbl_nil)
noncomputable def c_slices_Contains___int_int_ : Code := Go.Proofs.Tryd.f27.body.getD .skip
def tb_slices_Contains___int_int_ : Tb := []
def T_slices_Contains___int_int_ (s : List Int) (v_ : Int) : Empty → JT Empty (Bool) := fun j => nomatch j
def T0_slices_Contains___int_int_ (s : List Int) (v_ : Int) : JT Empty (Bool) :=
  .br (k_slices_Index___int_int_ s v_)
    (.leaf (decide ((v_slices_Index___int_int_ s v_) ≥ (0 : Int))))
  (.no)
def v_slices_Contains___int_int_ (s : List Int) (v_ : Int) : Bool :=
  bif (k_slices_Index___int_int_ s v_) then
    (decide ((v_slices_Index___int_int_ s v_) ≥ (0 : Int)))
  else false
def k_slices_Contains___int_int_ (s : List Int) (v_ : Int) : Bool :=
  bif (k_slices_Index___int_int_ s v_) then
    true
  else false
theorem g_slices_Contains___int_int_ (s : List Int) (v_ : Int) (hk : k_slices_Contains___int_int_ s v_ = true) : Goes (T_slices_Contains___int_int_ s v_) (T0_slices_Contains___int_int_ s v_) (v_slices_Contains___int_int_ s v_) :=
  Goes.brk hk (fun hk =>
    Goes.leaf) (fun hk =>
    Goes.nok hk)
def R_slices_Contains___int_int_ : Bool → AV := fun (r : Bool) => .d .bool r
def S_slices_Contains___int_int_ (s : List Int) (v_ : Int) : Empty → Nat × St := fun j => nomatch j
theorem en_slices_Contains___int_int_ (s : List Int) (v_ : Int) (L : Lt) : entryA Go.Proofs.Tryd.prog (clOf t_slices_Contains___int_int_) tb_slices_Contains___int_int_ Go.Proofs.Tryd.f27 c_slices_Contains___int_int_ L (toForms sg_slices_Contains___int_int_ (s, v_, ())) = (T0_slices_Contains___int_int_ s v_).run (fun v => some (R_slices_Contains___int_int_ v, tps (toForms sg_slices_Contains___int_int_ (s, v_, ())))) fun j => L (S_slices_Contains___int_int_ s v_ j).1 (S_slices_Contains___int_int_ s v_ j).2 := by kernel_rfl
theorem lp_slices_Contains___int_int_ (s : List Int) (v_ : Int) : ∀ (L : Lt) (j : Empty), procOf (procsF Go.Proofs.Tryd.prog (clOf t_slices_Contains___int_int_) tb_slices_Contains___int_int_ Go.Proofs.Tryd.f27 c_slices_Contains___int_int_ (toForms sg_slices_Contains___int_int_ (s, v_, ()))) (S_slices_Contains___int_int_ s v_ j).1 L (S_slices_Contains___int_int_ s v_ j).2 = (T_slices_Contains___int_int_ s v_ j).run (fun v => some (R_slices_Contains___int_int_ v, tps (toForms sg_slices_Contains___int_int_ (s, v_, ())))) fun j => L (S_slices_Contains___int_int_ s v_ j).1 (S_slices_Contains___int_int_ s v_ j).2 := fun L j => nomatch j
noncomputable def e_slices_Contains___int_int_ : Run := entG sg_slices_Contains___int_int_ R_slices_Contains___int_int_ (fun a => k_slices_Contains___int_int_ a.1 a.2.1) (fun a => v_slices_Contains___int_int_ a.1 a.2.1)
theorem ok_slices_Contains___int_int_ : EntOK Go.Proofs.Tryd.prog 27 e_slices_Contains___int_int_ := entG_ok (tb := tb_slices_Contains___int_int_) (c := c_slices_Contains___int_int_) tk_slices_Contains___int_int_ (by kernel_rfl) (by kernel_rfl) (by kernel_rfl) (fun a => by kernel_rfl) fun ⟨s, v_, _⟩ hk => evF_goes (c := c_slices_Contains___int_int_) (K := fun v => (R_slices_Contains___int_int_ v, tps (toForms sg_slices_Contains___int_int_ (s, v_, ())))) (S := S_slices_Contains___int_int_ s v_) (by kernel_rfl) (en_slices_Contains___int_int_ s v_) (lp_slices_Contains___int_int_ s v_) (g_slices_Contains___int_int_ s v_ hk)
end
end Go.Ev
end

section
set_option linter.unusedSectionVars false
set_option linter.unusedVariables false
set_option linter.unusedSimpArgs false
set_option maxRecDepth 100000
set_option linter.unusedVariables false
open Go Go.Ev
namespace Go.Ev
noncomputable section
/-! ### paling/road.Free -/
def sg_road_Free : Sig := [(true, (.sl T_api_Ins)), (false, (.sl (.int .i64))), (false, (.int .i64)), (false, (.int .i64))]
noncomputable def t_road_Free : Tbl := [(9, e_road_Ends), (27, e_slices_Contains___int_int_)]
theorem tk_road_Free : ∀ p ∈ t_road_Free, EntOK Go.Proofs.Tryd.prog p.1 p.2 := tbl_cons ok_road_Ends (tbl_cons ok_slices_Contains___int_int_ (tbl_nil))
noncomputable def c_road_Free : Code := Go.Proofs.Tryd.f11.body.getD .skip
def tb_road_Free : Tb := []
def T_road_Free (t : List (El T_api_Ins)) (points : List Int) (s : Int) (l : Int) : Empty → JT Empty (Bool) := fun j => nomatch j
def T0_road_Free (t : List (El T_api_Ins)) (points : List Int) (s : Int) (l : Int) : JT Empty (Bool) :=
  .br (k_road_Ends t points s)
    (.br (k_slices_Contains___int_int_ (v_road_Ends t points s) l)
      (.leaf (v_slices_Contains___int_int_ (v_road_Ends t points s) l))
    (.no))
  (.no)
def v_road_Free (t : List (El T_api_Ins)) (points : List Int) (s : Int) (l : Int) : Bool :=
  bif (k_road_Ends t points s) then
    bif (k_slices_Contains___int_int_ (v_road_Ends t points s) l) then
      (v_slices_Contains___int_int_ (v_road_Ends t points s) l)
    else false
  else false
def k_road_Free (t : List (El T_api_Ins)) (points : List Int) (s : Int) (l : Int) : Bool :=
  bif (k_road_Ends t points s) then
    bif (k_slices_Contains___int_int_ (v_road_Ends t points s) l) then
      true
    else false
  else false
theorem g_road_Free (t : List (El T_api_Ins)) (points : List Int) (s : Int) (l : Int) (hk : k_road_Free t points s l = true) : Goes (T_road_Free t points s l) (T0_road_Free t points s l) (v_road_Free t points s l) :=
  Goes.brk hk (fun hk =>
    Goes.brk hk (fun hk =>
      Goes.leaf) (fun hk =>
      Goes.nok hk)) (fun hk =>
    Goes.nok hk)
def R_road_Free : Bool → AV := fun (r : Bool) => .d .bool r
def S_road_Free (t : List (El T_api_Ins)) (points : List Int) (s : Int) (l : Int) : Empty → Nat × St := fun j => nomatch j
theorem en_road_Free (t : List (El T_api_Ins)) (points : List Int) (s : Int) (l : Int) (L : Lt) : entryA Go.Proofs.Tryd.prog (clOf t_road_Free) tb_road_Free Go.Proofs.Tryd.f11 c_road_Free L (toForms sg_road_Free (t, points, s, l, ())) = (T0_road_Free t points s l).run (fun v => some (R_road_Free v, tps (toForms sg_road_Free (t, points, s, l, ())))) fun j => L (S_road_Free t points s l j).1 (S_road_Free t points s l j).2 := by kernel_rfl
theorem lp_road_Free (t : List (El T_api_Ins)) (points : List Int) (s : Int) (l : Int) : ∀ (L : Lt) (j : Empty), procOf (procsF Go.Proofs.Tryd.prog (clOf t_road_Free) tb_road_Free Go.Proofs.Tryd.f11 c_road_Free (toForms sg_road_Free (t, points, s, l, ()))) (S_road_Free t points s l j).1 L (S_road_Free t points s l j).2 = (T_road_Free t points s l j).run (fun v => some (R_road_Free v, tps (toForms sg_road_Free (t, points, s, l, ())))) fun j => L (S_road_Free t points s l j).1 (S_road_Free t points s l j).2 := fun L j => nomatch j
noncomputable def e_road_Free : Run := entG sg_road_Free R_road_Free (fun a => k_road_Free a.1 a.2.1 a.2.2.1 a.2.2.2.1) (fun a => v_road_Free a.1 a.2.1 a.2.2.1 a.2.2.2.1)
theorem ok_road_Free : EntOK Go.Proofs.Tryd.prog 11 e_road_Free := entG_ok (tb := tb_road_Free) (c := c_road_Free) tk_road_Free (by kernel_rfl) (by kernel_rfl) (by kernel_rfl) (fun a => by kernel_rfl) fun ⟨t, points, s, l, _⟩ hk => evF_goes (c := c_road_Free) (K := fun v => (R_road_Free v, tps (toForms sg_road_Free (t, points, s, l, ())))) (S := S_road_Free t points s l) (by kernel_rfl) (en_road_Free t points s l) (lp_road_Free t points s l) (g_road_Free t points s l hk)
end
end Go.Ev
end

section
set_option linter.unusedSectionVars false
set_option linter.unusedVariables false
set_option linter.unusedSimpArgs false
set_option maxRecDepth 100000
set_option linter.unusedVariables false
open Go Go.Ev
namespace Go.Ev
noncomputable section
/-! ### paling/palingbook.SameInts -/
def sg_book_SameInts : Sig := [(false, (.sl (.int .i64))), (false, (.sl (.int .i64)))]
noncomputable def t_book_SameInts : Tbl := []
theorem tk_book_SameInts : ∀ p ∈ t_book_SameInts, EntOK Go.Proofs.Tryd.prog p.1 p.2 := tbl_nil
noncomputable def c_book_SameInts : Code := Go.Proofs.Tryd.f8.body.getD .skip
def tb_book_SameInts : Tb := [(6, ⟨[0, 1, 5], []⟩)]
inductive J_book_SameInts where
  | l6 (i : Int)
def T_book_SameInts (a : List Int) (b : List Int) : J_book_SameInts → JT J_book_SameInts (Bool)
  | .l6 i =>
    .br (decide (i < (Int.ofNat (List.length a))))
      (.br ((decide ((0 : Int) ≤ i)) && (decide (i < (Int.ofNat (List.length a)))))
        (.br ((decide ((0 : Int) ≤ i)) && (decide (i < (Int.ofNat (List.length b)))))
          (.br ((List.getD a (Int.toNat i) (dflt (.int .i64))) != (List.getD b (Int.toNat i) (dflt (.int .i64))))
            (.leaf false)
          (.jmp (.l6 (IntKind.i64.wrap (i + (1 : Int))))))
        (.no))
      (.no))
    (.leaf true)
def T0_book_SameInts (a : List Int) (b : List Int) : JT J_book_SameInts (Bool) :=
  .br ((Int.ofNat (List.length a)) != (Int.ofNat (List.length b)))
    (.leaf false)
  (.jmp (.l6 (0 : Int)))
def R_book_SameInts : Bool → AV := fun (r : Bool) => .d .bool r
def S_book_SameInts (a : List Int) (b : List Int) : J_book_SameInts → Nat × St
  | .l6 i => (6, ⟨mkTm 26 [(0, .d (.sl (.int .i64)) a), (1, .d (.sl (.int .i64)) b), (5, .d (.int .i64) i)], []⟩)
theorem en_book_SameInts (a : List Int) (b : List Int) (L : Lt) : entryA Go.Proofs.Tryd.prog (clOf t_book_SameInts) tb_book_SameInts Go.Proofs.Tryd.f8 c_book_SameInts L (toForms sg_book_SameInts (a, b, ())) = (T0_book_SameInts a b).run (fun v => some (R_book_SameInts v, tps (toForms sg_book_SameInts (a, b, ())))) fun j => L (S_book_SameInts a b j).1 (S_book_SameInts a b j).2 := by kernel_rfl
theorem lp_book_SameInts (a : List Int) (b : List Int) : ∀ (L : Lt) (j : J_book_SameInts), procOf (procsF Go.Proofs.Tryd.prog (clOf t_book_SameInts) tb_book_SameInts Go.Proofs.Tryd.f8 c_book_SameInts (toForms sg_book_SameInts (a, b, ()))) (S_book_SameInts a b j).1 L (S_book_SameInts a b j).2 = (T_book_SameInts a b j).run (fun v => some (R_book_SameInts v, tps (toForms sg_book_SameInts (a, b, ())))) fun j => L (S_book_SameInts a b j).1 (S_book_SameInts a b j).2
  | L, .l6 i => by kernel_rfl
end
end Go.Ev
end

section
set_option linter.unusedSectionVars false
set_option linter.unusedVariables false
set_option linter.unusedSimpArgs false
set_option linter.unusedVariables false
set_option linter.unusedSimpArgs false
open Go
namespace Go.Ev
theorem intB_eq {a b : Int} : (a == b) = decide (a = b) := by rw [Bool.eq_iff_iff]; simp

def v_book_SameInts (a b : List Int) : Bool := decide (a = b)
def k_book_SameInts (a b : List Int) : Bool := decide (a.length < 4611686018427387904)
theorem g_book_SameInts (a b : List Int) (hk : k_book_SameInts a b = true) : Goes (T_book_SameInts a b) (T0_book_SameInts a b) (v_book_SameInts a b) := by
  have hn : a.length < 4611686018427387904 := of_decide_eq_true hk
  have loop : a.length = b.length → ∀ k, k ≤ a.length → Goes (T_book_SameInts a b) (.jmp (.l6 (k : Int))) (decide (a.drop k = b.drop k)) := by
    intro he
    refine down ?_ fun k hk ih => ?_
    · rw [goes_jmp]
      simp [T_book_SameInts, goes_br, goes_leaf, he]
    · rw [goes_jmp]
      have hkb : k < b.length := he ▸ hk
      simp only [T_book_SameInts, goes_br, lt_len hk, lt_len hkb, nng, Bool.and_self, if_true, Int.toNat_natCast, getD_lt hk, getD_lt hkb, wrap_succ (k := k) (by omega)]
      rw [drop_cons hk, drop_cons hkb]
      split
      · rename_i h1
        have h2 : (! decide (a[k] = b[k])) = true := (congrArg Bool.not intB_eq).symm.trans h1
        have h3 : ¬ a[k] = b[k] := by simpa using h2
        rw [decide_eq_false (fun e => h3 (List.cons.inj e).1)]
        exact .leaf
      · rename_i h1
        have h2 : ¬ (! decide (a[k] = b[k])) = true := fun h => h1 ((congrArg Bool.not intB_eq).trans h)
        have h3 : a[k] = b[k] := by simpa using h2
        rw [show decide (a[k] :: List.drop (k + 1) a = b[k] :: List.drop (k + 1) b) = decide (List.drop (k + 1) a = List.drop (k + 1) b) from decide_eq_decide.2 ⟨fun e => (List.cons.inj e).2, fun e => by rw [h3, e]⟩]
        exact ih
  unfold T0_book_SameInts v_book_SameInts
  rw [goes_br]
  by_cases h : a.length = b.length
  · have := loop h 0 (Nat.zero_le _)
    simpa [h] using this
  · have : a ≠ b := fun e => h (congrArg _ e)
    rw [if_pos (by simp; omega), decide_eq_false this]
    exact .leaf

end Go.Ev
end

section
set_option linter.unusedSectionVars false
set_option linter.unusedVariables false
set_option linter.unusedSimpArgs false
set_option maxRecDepth 100000
set_option linter.unusedVariables false
open Go Go.Ev
namespace Go.Ev
noncomputable section
noncomputable def e_book_SameInts : Run := entG sg_book_SameInts R_book_SameInts (fun a => k_book_SameInts a.1 a.2.1) (fun a => v_book_SameInts a.1 a.2.1)
theorem ok_book_SameInts : EntOK Go.Proofs.Tryd.prog 8 e_book_SameInts := entG_ok (tb := tb_book_SameInts) (c := c_book_SameInts) tk_book_SameInts (by kernel_rfl) (by kernel_rfl) (by kernel_rfl) (fun a => by kernel_rfl) fun ⟨a, b, _⟩ hk => evF_goes (c := c_book_SameInts) (K := fun v => (R_book_SameInts v, tps (toForms sg_book_SameInts (a, b, ())))) (S := S_book_SameInts a b) (by kernel_rfl) (en_book_SameInts a b) (lp_book_SameInts a b) (g_book_SameInts a b hk)
end
end Go.Ev
end

section
set_option linter.unusedSectionVars false
set_option linter.unusedVariables false
set_option linter.unusedSimpArgs false
set_option maxRecDepth 100000
set_option linter.unusedVariables false
open Go Go.Ev
namespace Go.Ev
noncomputable section
/-! ### paling/palinglaw21.alive -/
def sg_law21_alive : Sig := []
noncomputable def t_law21_alive : Tbl := [(11, e_road_Free), (9, e_road_Ends), (8, e_book_SameInts)]
theorem tk_law21_alive : ∀ p ∈ t_law21_alive, EntOK Go.Proofs.Tryd.prog p.1 p.2 := tbl_cons ok_road_Free (tbl_cons ok_road_Ends (tbl_cons ok_book_SameInts (tbl_nil)))
noncomputable def c_law21_alive : Code := Go.Proofs.Tryd.f13.body.getD .skip
def tb_law21_alive : Tb := []
def T_law21_alive : Empty → JT Empty (Bool) := fun j => nomatch j
def T0_law21_alive : JT Empty (Bool) :=
  .br (k_road_Free [((1 : Int), (false, ((0 : Int), (((3 : Int), ((0 : Int), ((0 : Int), (0 : Int)))), (((2 : Int), ((0 : Int), ((0 : Int), (1 : Int)))), ((bs []), [])))))), ((1 : Int), (false, ((0 : Int), (((1 : Int), ((0 : Int), ((0 : Int), (0 : Int)))), (((3 : Int), ((0 : Int), ((0 : Int), (0 : Int)))), ((bs []), [])))))), ((14 : Int), (false, ((0 : Int), (((0 : Int), ((0 : Int), ((0 : Int), (0 : Int)))), (((0 : Int), ((0 : Int), ((0 : Int), (0 : Int)))), ((bs []), []))))))] [] (0 : Int) (1 : Int))
    (.br (v_road_Free [((1 : Int), (false, ((0 : Int), (((3 : Int), ((0 : Int), ((0 : Int), (0 : Int)))), (((2 : Int), ((0 : Int), ((0 : Int), (1 : Int)))), ((bs []), [])))))), ((1 : Int), (false, ((0 : Int), (((1 : Int), ((0 : Int), ((0 : Int), (0 : Int)))), (((3 : Int), ((0 : Int), ((0 : Int), (0 : Int)))), ((bs []), [])))))), ((14 : Int), (false, ((0 : Int), (((0 : Int), ((0 : Int), ((0 : Int), (0 : Int)))), (((0 : Int), ((0 : Int), ((0 : Int), (0 : Int)))), ((bs []), []))))))] [] (0 : Int) (1 : Int))
      (.br (k_road_Free [((1 : Int), (false, ((0 : Int), (((3 : Int), ((0 : Int), ((0 : Int), (0 : Int)))), (((2 : Int), ((0 : Int), ((0 : Int), (1 : Int)))), ((bs []), [])))))), ((1 : Int), (false, ((0 : Int), (((1 : Int), ((0 : Int), ((0 : Int), (0 : Int)))), (((3 : Int), ((0 : Int), ((0 : Int), (0 : Int)))), ((bs []), [])))))), ((14 : Int), (false, ((0 : Int), (((0 : Int), ((0 : Int), ((0 : Int), (0 : Int)))), (((0 : Int), ((0 : Int), ((0 : Int), (0 : Int)))), ((bs []), []))))))] [(1 : Int)] (0 : Int) (1 : Int))
        (.br (! (v_road_Free [((1 : Int), (false, ((0 : Int), (((3 : Int), ((0 : Int), ((0 : Int), (0 : Int)))), (((2 : Int), ((0 : Int), ((0 : Int), (1 : Int)))), ((bs []), [])))))), ((1 : Int), (false, ((0 : Int), (((1 : Int), ((0 : Int), ((0 : Int), (0 : Int)))), (((3 : Int), ((0 : Int), ((0 : Int), (0 : Int)))), ((bs []), [])))))), ((14 : Int), (false, ((0 : Int), (((0 : Int), ((0 : Int), ((0 : Int), (0 : Int)))), (((0 : Int), ((0 : Int), ((0 : Int), (0 : Int)))), ((bs []), []))))))] [(1 : Int)] (0 : Int) (1 : Int)))
          (.br (k_road_Free [((1 : Int), (false, ((0 : Int), (((3 : Int), ((0 : Int), ((0 : Int), (0 : Int)))), (((2 : Int), ((0 : Int), ((0 : Int), (1 : Int)))), ((bs []), [])))))), ((1 : Int), (false, ((0 : Int), (((1 : Int), ((0 : Int), ((0 : Int), (0 : Int)))), (((3 : Int), ((0 : Int), ((0 : Int), (0 : Int)))), ((bs []), [])))))), ((14 : Int), (false, ((0 : Int), (((0 : Int), ((0 : Int), ((0 : Int), (0 : Int)))), (((0 : Int), ((0 : Int), ((0 : Int), (0 : Int)))), ((bs []), []))))))] [] (1 : Int) (0 : Int))
            (.br (! (v_road_Free [((1 : Int), (false, ((0 : Int), (((3 : Int), ((0 : Int), ((0 : Int), (0 : Int)))), (((2 : Int), ((0 : Int), ((0 : Int), (1 : Int)))), ((bs []), [])))))), ((1 : Int), (false, ((0 : Int), (((1 : Int), ((0 : Int), ((0 : Int), (0 : Int)))), (((3 : Int), ((0 : Int), ((0 : Int), (0 : Int)))), ((bs []), [])))))), ((14 : Int), (false, ((0 : Int), (((0 : Int), ((0 : Int), ((0 : Int), (0 : Int)))), (((0 : Int), ((0 : Int), ((0 : Int), (0 : Int)))), ((bs []), []))))))] [] (1 : Int) (0 : Int)))
              (.br (k_road_Ends [((1 : Int), (false, ((0 : Int), (((3 : Int), ((0 : Int), ((0 : Int), (0 : Int)))), (((2 : Int), ((0 : Int), ((0 : Int), (1 : Int)))), ((bs []), [])))))), ((1 : Int), (false, ((0 : Int), (((1 : Int), ((0 : Int), ((0 : Int), (0 : Int)))), (((3 : Int), ((0 : Int), ((0 : Int), (0 : Int)))), ((bs []), [])))))), ((14 : Int), (false, ((0 : Int), (((0 : Int), ((0 : Int), ((0 : Int), (0 : Int)))), (((0 : Int), ((0 : Int), ((0 : Int), (0 : Int)))), ((bs []), []))))))] [(2 : Int)] (0 : Int))
                (.br (k_book_SameInts (v_road_Ends [((1 : Int), (false, ((0 : Int), (((3 : Int), ((0 : Int), ((0 : Int), (0 : Int)))), (((2 : Int), ((0 : Int), ((0 : Int), (1 : Int)))), ((bs []), [])))))), ((1 : Int), (false, ((0 : Int), (((1 : Int), ((0 : Int), ((0 : Int), (0 : Int)))), (((3 : Int), ((0 : Int), ((0 : Int), (0 : Int)))), ((bs []), [])))))), ((14 : Int), (false, ((0 : Int), (((0 : Int), ((0 : Int), ((0 : Int), (0 : Int)))), (((0 : Int), ((0 : Int), ((0 : Int), (0 : Int)))), ((bs []), []))))))] [(2 : Int)] (0 : Int)) [(1 : Int)])
                  (.leaf (v_book_SameInts (v_road_Ends [((1 : Int), (false, ((0 : Int), (((3 : Int), ((0 : Int), ((0 : Int), (0 : Int)))), (((2 : Int), ((0 : Int), ((0 : Int), (1 : Int)))), ((bs []), [])))))), ((1 : Int), (false, ((0 : Int), (((1 : Int), ((0 : Int), ((0 : Int), (0 : Int)))), (((3 : Int), ((0 : Int), ((0 : Int), (0 : Int)))), ((bs []), [])))))), ((14 : Int), (false, ((0 : Int), (((0 : Int), ((0 : Int), ((0 : Int), (0 : Int)))), (((0 : Int), ((0 : Int), ((0 : Int), (0 : Int)))), ((bs []), []))))))] [(2 : Int)] (0 : Int)) [(1 : Int)]))
                (.no))
              (.no))
            (.leaf false))
          (.no))
        (.leaf false))
      (.no))
    (.leaf false))
  (.no)
def v_law21_alive : Bool :=
  bif (k_road_Free [((1 : Int), (false, ((0 : Int), (((3 : Int), ((0 : Int), ((0 : Int), (0 : Int)))), (((2 : Int), ((0 : Int), ((0 : Int), (1 : Int)))), ((bs []), [])))))), ((1 : Int), (false, ((0 : Int), (((1 : Int), ((0 : Int), ((0 : Int), (0 : Int)))), (((3 : Int), ((0 : Int), ((0 : Int), (0 : Int)))), ((bs []), [])))))), ((14 : Int), (false, ((0 : Int), (((0 : Int), ((0 : Int), ((0 : Int), (0 : Int)))), (((0 : Int), ((0 : Int), ((0 : Int), (0 : Int)))), ((bs []), []))))))] [] (0 : Int) (1 : Int)) then
    bif (v_road_Free [((1 : Int), (false, ((0 : Int), (((3 : Int), ((0 : Int), ((0 : Int), (0 : Int)))), (((2 : Int), ((0 : Int), ((0 : Int), (1 : Int)))), ((bs []), [])))))), ((1 : Int), (false, ((0 : Int), (((1 : Int), ((0 : Int), ((0 : Int), (0 : Int)))), (((3 : Int), ((0 : Int), ((0 : Int), (0 : Int)))), ((bs []), [])))))), ((14 : Int), (false, ((0 : Int), (((0 : Int), ((0 : Int), ((0 : Int), (0 : Int)))), (((0 : Int), ((0 : Int), ((0 : Int), (0 : Int)))), ((bs []), []))))))] [] (0 : Int) (1 : Int)) then
      bif (k_road_Free [((1 : Int), (false, ((0 : Int), (((3 : Int), ((0 : Int), ((0 : Int), (0 : Int)))), (((2 : Int), ((0 : Int), ((0 : Int), (1 : Int)))), ((bs []), [])))))), ((1 : Int), (false, ((0 : Int), (((1 : Int), ((0 : Int), ((0 : Int), (0 : Int)))), (((3 : Int), ((0 : Int), ((0 : Int), (0 : Int)))), ((bs []), [])))))), ((14 : Int), (false, ((0 : Int), (((0 : Int), ((0 : Int), ((0 : Int), (0 : Int)))), (((0 : Int), ((0 : Int), ((0 : Int), (0 : Int)))), ((bs []), []))))))] [(1 : Int)] (0 : Int) (1 : Int)) then
        bif (! (v_road_Free [((1 : Int), (false, ((0 : Int), (((3 : Int), ((0 : Int), ((0 : Int), (0 : Int)))), (((2 : Int), ((0 : Int), ((0 : Int), (1 : Int)))), ((bs []), [])))))), ((1 : Int), (false, ((0 : Int), (((1 : Int), ((0 : Int), ((0 : Int), (0 : Int)))), (((3 : Int), ((0 : Int), ((0 : Int), (0 : Int)))), ((bs []), [])))))), ((14 : Int), (false, ((0 : Int), (((0 : Int), ((0 : Int), ((0 : Int), (0 : Int)))), (((0 : Int), ((0 : Int), ((0 : Int), (0 : Int)))), ((bs []), []))))))] [(1 : Int)] (0 : Int) (1 : Int))) then
          bif (k_road_Free [((1 : Int), (false, ((0 : Int), (((3 : Int), ((0 : Int), ((0 : Int), (0 : Int)))), (((2 : Int), ((0 : Int), ((0 : Int), (1 : Int)))), ((bs []), [])))))), ((1 : Int), (false, ((0 : Int), (((1 : Int), ((0 : Int), ((0 : Int), (0 : Int)))), (((3 : Int), ((0 : Int), ((0 : Int), (0 : Int)))), ((bs []), [])))))), ((14 : Int), (false, ((0 : Int), (((0 : Int), ((0 : Int), ((0 : Int), (0 : Int)))), (((0 : Int), ((0 : Int), ((0 : Int), (0 : Int)))), ((bs []), []))))))] [] (1 : Int) (0 : Int)) then
            bif (! (v_road_Free [((1 : Int), (false, ((0 : Int), (((3 : Int), ((0 : Int), ((0 : Int), (0 : Int)))), (((2 : Int), ((0 : Int), ((0 : Int), (1 : Int)))), ((bs []), [])))))), ((1 : Int), (false, ((0 : Int), (((1 : Int), ((0 : Int), ((0 : Int), (0 : Int)))), (((3 : Int), ((0 : Int), ((0 : Int), (0 : Int)))), ((bs []), [])))))), ((14 : Int), (false, ((0 : Int), (((0 : Int), ((0 : Int), ((0 : Int), (0 : Int)))), (((0 : Int), ((0 : Int), ((0 : Int), (0 : Int)))), ((bs []), []))))))] [] (1 : Int) (0 : Int))) then
              bif (k_road_Ends [((1 : Int), (false, ((0 : Int), (((3 : Int), ((0 : Int), ((0 : Int), (0 : Int)))), (((2 : Int), ((0 : Int), ((0 : Int), (1 : Int)))), ((bs []), [])))))), ((1 : Int), (false, ((0 : Int), (((1 : Int), ((0 : Int), ((0 : Int), (0 : Int)))), (((3 : Int), ((0 : Int), ((0 : Int), (0 : Int)))), ((bs []), [])))))), ((14 : Int), (false, ((0 : Int), (((0 : Int), ((0 : Int), ((0 : Int), (0 : Int)))), (((0 : Int), ((0 : Int), ((0 : Int), (0 : Int)))), ((bs []), []))))))] [(2 : Int)] (0 : Int)) then
                bif (k_book_SameInts (v_road_Ends [((1 : Int), (false, ((0 : Int), (((3 : Int), ((0 : Int), ((0 : Int), (0 : Int)))), (((2 : Int), ((0 : Int), ((0 : Int), (1 : Int)))), ((bs []), [])))))), ((1 : Int), (false, ((0 : Int), (((1 : Int), ((0 : Int), ((0 : Int), (0 : Int)))), (((3 : Int), ((0 : Int), ((0 : Int), (0 : Int)))), ((bs []), [])))))), ((14 : Int), (false, ((0 : Int), (((0 : Int), ((0 : Int), ((0 : Int), (0 : Int)))), (((0 : Int), ((0 : Int), ((0 : Int), (0 : Int)))), ((bs []), []))))))] [(2 : Int)] (0 : Int)) [(1 : Int)]) then
                  (v_book_SameInts (v_road_Ends [((1 : Int), (false, ((0 : Int), (((3 : Int), ((0 : Int), ((0 : Int), (0 : Int)))), (((2 : Int), ((0 : Int), ((0 : Int), (1 : Int)))), ((bs []), [])))))), ((1 : Int), (false, ((0 : Int), (((1 : Int), ((0 : Int), ((0 : Int), (0 : Int)))), (((3 : Int), ((0 : Int), ((0 : Int), (0 : Int)))), ((bs []), [])))))), ((14 : Int), (false, ((0 : Int), (((0 : Int), ((0 : Int), ((0 : Int), (0 : Int)))), (((0 : Int), ((0 : Int), ((0 : Int), (0 : Int)))), ((bs []), []))))))] [(2 : Int)] (0 : Int)) [(1 : Int)])
                else false
              else false
            else false
          else false
        else false
      else false
    else false
  else false
def k_law21_alive : Bool :=
  bif (k_road_Free [((1 : Int), (false, ((0 : Int), (((3 : Int), ((0 : Int), ((0 : Int), (0 : Int)))), (((2 : Int), ((0 : Int), ((0 : Int), (1 : Int)))), ((bs []), [])))))), ((1 : Int), (false, ((0 : Int), (((1 : Int), ((0 : Int), ((0 : Int), (0 : Int)))), (((3 : Int), ((0 : Int), ((0 : Int), (0 : Int)))), ((bs []), [])))))), ((14 : Int), (false, ((0 : Int), (((0 : Int), ((0 : Int), ((0 : Int), (0 : Int)))), (((0 : Int), ((0 : Int), ((0 : Int), (0 : Int)))), ((bs []), []))))))] [] (0 : Int) (1 : Int)) then
    bif (v_road_Free [((1 : Int), (false, ((0 : Int), (((3 : Int), ((0 : Int), ((0 : Int), (0 : Int)))), (((2 : Int), ((0 : Int), ((0 : Int), (1 : Int)))), ((bs []), [])))))), ((1 : Int), (false, ((0 : Int), (((1 : Int), ((0 : Int), ((0 : Int), (0 : Int)))), (((3 : Int), ((0 : Int), ((0 : Int), (0 : Int)))), ((bs []), [])))))), ((14 : Int), (false, ((0 : Int), (((0 : Int), ((0 : Int), ((0 : Int), (0 : Int)))), (((0 : Int), ((0 : Int), ((0 : Int), (0 : Int)))), ((bs []), []))))))] [] (0 : Int) (1 : Int)) then
      bif (k_road_Free [((1 : Int), (false, ((0 : Int), (((3 : Int), ((0 : Int), ((0 : Int), (0 : Int)))), (((2 : Int), ((0 : Int), ((0 : Int), (1 : Int)))), ((bs []), [])))))), ((1 : Int), (false, ((0 : Int), (((1 : Int), ((0 : Int), ((0 : Int), (0 : Int)))), (((3 : Int), ((0 : Int), ((0 : Int), (0 : Int)))), ((bs []), [])))))), ((14 : Int), (false, ((0 : Int), (((0 : Int), ((0 : Int), ((0 : Int), (0 : Int)))), (((0 : Int), ((0 : Int), ((0 : Int), (0 : Int)))), ((bs []), []))))))] [(1 : Int)] (0 : Int) (1 : Int)) then
        bif (! (v_road_Free [((1 : Int), (false, ((0 : Int), (((3 : Int), ((0 : Int), ((0 : Int), (0 : Int)))), (((2 : Int), ((0 : Int), ((0 : Int), (1 : Int)))), ((bs []), [])))))), ((1 : Int), (false, ((0 : Int), (((1 : Int), ((0 : Int), ((0 : Int), (0 : Int)))), (((3 : Int), ((0 : Int), ((0 : Int), (0 : Int)))), ((bs []), [])))))), ((14 : Int), (false, ((0 : Int), (((0 : Int), ((0 : Int), ((0 : Int), (0 : Int)))), (((0 : Int), ((0 : Int), ((0 : Int), (0 : Int)))), ((bs []), []))))))] [(1 : Int)] (0 : Int) (1 : Int))) then
          bif (k_road_Free [((1 : Int), (false, ((0 : Int), (((3 : Int), ((0 : Int), ((0 : Int), (0 : Int)))), (((2 : Int), ((0 : Int), ((0 : Int), (1 : Int)))), ((bs []), [])))))), ((1 : Int), (false, ((0 : Int), (((1 : Int), ((0 : Int), ((0 : Int), (0 : Int)))), (((3 : Int), ((0 : Int), ((0 : Int), (0 : Int)))), ((bs []), [])))))), ((14 : Int), (false, ((0 : Int), (((0 : Int), ((0 : Int), ((0 : Int), (0 : Int)))), (((0 : Int), ((0 : Int), ((0 : Int), (0 : Int)))), ((bs []), []))))))] [] (1 : Int) (0 : Int)) then
            bif (! (v_road_Free [((1 : Int), (false, ((0 : Int), (((3 : Int), ((0 : Int), ((0 : Int), (0 : Int)))), (((2 : Int), ((0 : Int), ((0 : Int), (1 : Int)))), ((bs []), [])))))), ((1 : Int), (false, ((0 : Int), (((1 : Int), ((0 : Int), ((0 : Int), (0 : Int)))), (((3 : Int), ((0 : Int), ((0 : Int), (0 : Int)))), ((bs []), [])))))), ((14 : Int), (false, ((0 : Int), (((0 : Int), ((0 : Int), ((0 : Int), (0 : Int)))), (((0 : Int), ((0 : Int), ((0 : Int), (0 : Int)))), ((bs []), []))))))] [] (1 : Int) (0 : Int))) then
              bif (k_road_Ends [((1 : Int), (false, ((0 : Int), (((3 : Int), ((0 : Int), ((0 : Int), (0 : Int)))), (((2 : Int), ((0 : Int), ((0 : Int), (1 : Int)))), ((bs []), [])))))), ((1 : Int), (false, ((0 : Int), (((1 : Int), ((0 : Int), ((0 : Int), (0 : Int)))), (((3 : Int), ((0 : Int), ((0 : Int), (0 : Int)))), ((bs []), [])))))), ((14 : Int), (false, ((0 : Int), (((0 : Int), ((0 : Int), ((0 : Int), (0 : Int)))), (((0 : Int), ((0 : Int), ((0 : Int), (0 : Int)))), ((bs []), []))))))] [(2 : Int)] (0 : Int)) then
                bif (k_book_SameInts (v_road_Ends [((1 : Int), (false, ((0 : Int), (((3 : Int), ((0 : Int), ((0 : Int), (0 : Int)))), (((2 : Int), ((0 : Int), ((0 : Int), (1 : Int)))), ((bs []), [])))))), ((1 : Int), (false, ((0 : Int), (((1 : Int), ((0 : Int), ((0 : Int), (0 : Int)))), (((3 : Int), ((0 : Int), ((0 : Int), (0 : Int)))), ((bs []), [])))))), ((14 : Int), (false, ((0 : Int), (((0 : Int), ((0 : Int), ((0 : Int), (0 : Int)))), (((0 : Int), ((0 : Int), ((0 : Int), (0 : Int)))), ((bs []), []))))))] [(2 : Int)] (0 : Int)) [(1 : Int)]) then
                  true
                else false
              else false
            else true
          else false
        else true
      else false
    else true
  else false
theorem g_law21_alive (hk : k_law21_alive = true) : Goes (T_law21_alive) (T0_law21_alive) (v_law21_alive) :=
  Goes.brk hk (fun hk =>
    Goes.brk hk (fun hk =>
      Goes.brk hk (fun hk =>
        Goes.brk hk (fun hk =>
          Goes.brk hk (fun hk =>
            Goes.brk hk (fun hk =>
              Goes.brk hk (fun hk =>
                Goes.brk hk (fun hk =>
                  Goes.leaf) (fun hk =>
                  Goes.nok hk)) (fun hk =>
                Goes.nok hk)) (fun hk =>
              Goes.leaf)) (fun hk =>
            Goes.nok hk)) (fun hk =>
          Goes.leaf)) (fun hk =>
        Goes.nok hk)) (fun hk =>
      Goes.leaf)) (fun hk =>
    Goes.nok hk)
def R_law21_alive : Bool → AV := fun (r : Bool) => .d .bool r
def S_law21_alive : Empty → Nat × St := fun j => nomatch j
theorem en_law21_alive (L : Lt) : entryA Go.Proofs.Tryd.prog (clOf t_law21_alive) tb_law21_alive Go.Proofs.Tryd.f13 c_law21_alive L (toForms sg_law21_alive (())) = (T0_law21_alive).run (fun v => some (R_law21_alive v, tps (toForms sg_law21_alive (())))) fun j => L (S_law21_alive j).1 (S_law21_alive j).2 := by kernel_rfl
theorem lp_law21_alive : ∀ (L : Lt) (j : Empty), procOf (procsF Go.Proofs.Tryd.prog (clOf t_law21_alive) tb_law21_alive Go.Proofs.Tryd.f13 c_law21_alive (toForms sg_law21_alive (()))) (S_law21_alive j).1 L (S_law21_alive j).2 = (T_law21_alive j).run (fun v => some (R_law21_alive v, tps (toForms sg_law21_alive (())))) fun j => L (S_law21_alive j).1 (S_law21_alive j).2 := fun L j => nomatch j
noncomputable def e_law21_alive : Run := entG sg_law21_alive R_law21_alive (fun a => k_law21_alive) (fun a => v_law21_alive)
theorem ok_law21_alive : EntOK Go.Proofs.Tryd.prog 13 e_law21_alive := entG_ok (tb := tb_law21_alive) (c := c_law21_alive) tk_law21_alive (by kernel_rfl) (by kernel_rfl) (by kernel_rfl) (fun a => by kernel_rfl) fun _ hk => evF_goes (c := c_law21_alive) (K := fun v => (R_law21_alive v, tps (toForms sg_law21_alive (())))) (S := S_law21_alive) (by kernel_rfl) (en_law21_alive) (lp_law21_alive) (g_law21_alive hk)
theorem co_law21_alive (hk : k_law21_alive = true) : CallOK Go.Proofs.Tryd.prog 13 (toForms sg_law21_alive (())) (R_law21_alive (v_law21_alive), tps (toForms sg_law21_alive (()))) := by
  obtain ⟨h1, h2⟩ := clOf_ok tk_law21_alive
  obtain ⟨n, hn⟩ := evF_goes (c := c_law21_alive) (K := fun v => (R_law21_alive v, tps (toForms sg_law21_alive (())))) (S := S_law21_alive) (by kernel_rfl) (en_law21_alive) (lp_law21_alive) (g_law21_alive hk)
  exact evF_sound (f := 13) (c := c_law21_alive) h1 h2 (by kernel_rfl) (by kernel_rfl) (by kernel_rfl) hn
end
end Go.Ev
end

section
set_option linter.unusedSectionVars false
set_option linter.unusedVariables false
set_option linter.unusedSimpArgs false
set_option maxRecDepth 100000
set_option linter.unusedVariables false
open Go Go.Ev
namespace Go.Ev
noncomputable section
/-! ### paling/palinglaw21.RoadFewer -/
def sg_law21_RoadFewer : Sig := [(false, (.sl T_book_Act)), (false, (.sl (.int .i64))), (false, (.int .i64)), (false, (.int .i64))]
noncomputable def t_law21_RoadFewer : Tbl := [(6, e_book_Prog), (14, e_book_Ints), (7, e_book_Pick), (9, e_road_Ends), (12, e_ref3_In), (15, e_flow_Next), (13, e_law21_alive)]
theorem tk_law21_RoadFewer : ∀ p ∈ t_law21_RoadFewer, EntOK Go.Proofs.Tryd.prog p.1 p.2 := tbl_cons ok_book_Prog (tbl_cons ok_book_Ints (tbl_cons ok_book_Pick (tbl_cons ok_road_Ends (tbl_cons ok_ref3_In (tbl_cons ok_flow_Next (tbl_cons ok_law21_alive (tbl_nil)))))))
noncomputable def c_law21_RoadFewer : Code := Go.Proofs.Tryd.f4.body.getD .skip
def tb_law21_RoadFewer : Tb := [(8, ⟨[2, 3, 10, 11, 12, 13], [(10000000000000000000000000000000000000000000000000000000000012, 1), (10000000000000000000000000000000000000000000000000000000000013, 1)]⟩)]
inductive J_law21_RoadFewer where
  | l8 (more1 : Int) (s1 : Int) (few : List Int) (many : List Int) (t : List (El T_api_Ins)) (i : Int)
def T_law21_RoadFewer (l : List (El T_book_Act)) (points : List Int) (more : Int) (s : Int) : J_law21_RoadFewer → JT J_law21_RoadFewer (Bool)
  | .l8 more1 s1 few many t i =>
    .br (decide (i < (Int.ofNat (List.length few))))
      (.br ((decide ((0 : Int) ≤ i)) && (decide (i < (Int.ofNat (List.length few)))))
        (.br (k_ref3_In many (List.getD few (Int.toNat i) (dflt (.int .i64))))
          (.br (! (v_ref3_In many (List.getD few (Int.toNat i) (dflt (.int .i64)))))
            (.leaf false)
          (.br ((decide ((0 : Int) ≤ i)) && (decide (i < (Int.ofNat (List.length few)))))
            (.br ((List.getD few (Int.toNat i) (dflt (.int .i64))) == more1)
              (.leaf false)
            (.jmp (.l8 more1 s1 few many t (IntKind.i64.wrap (i + (1 : Int))))))
          (.no)))
        (.no))
      (.no))
    (.br (k_flow_Next t s1)
      (.br (k_road_Ends t (v_flow_Next t s1) s1)
        (.br ((Int.ofNat (List.length (v_road_Ends t (v_flow_Next t s1) s1))) == (0 : Int))
          (.br k_law21_alive
            (.leaf v_law21_alive)
          (.no))
        (.leaf false))
      (.no))
    (.no))
def T0_law21_RoadFewer (l : List (El T_book_Act)) (points : List Int) (more : Int) (s : Int) : JT J_law21_RoadFewer (Bool) :=
  .br (k_book_Prog [l] (1 : Int) (9 : Int))
    (.br (decide ((0 : Int) < (Int.ofNat (List.length (v_book_Prog [l] (1 : Int) (9 : Int)).2))))
      (.br (k_book_Ints points (20 : Int))
        (.br (k_book_Pick s (Int.ofNat (List.length (List.getD (v_book_Prog [l] (1 : Int) (9 : Int)).2 0 (dflt (.sl T_api_Ins))))))
          (.br (k_book_Pick more (Int.ofNat (List.length (List.getD (v_book_Prog [l] (1 : Int) (9 : Int)).2 0 (dflt (.sl T_api_Ins))))))
            (.br (Nat.ble ((List.length (v_book_Ints points (20 : Int))) * 8) limit)
              (.br (Nat.ble (((List.length (v_book_Ints points (20 : Int))) + 1) * 8) limit)
                (.br (k_road_Ends (List.getD (v_book_Prog [l] (1 : Int) (9 : Int)).2 0 (dflt (.sl T_api_Ins))) ((v_book_Ints points (20 : Int)) ++ [(v_book_Pick more (Int.ofNat (List.length (List.getD (v_book_Prog [l] (1 : Int) (9 : Int)).2 0 (dflt (.sl T_api_Ins))))))]) (v_book_Pick s (Int.ofNat (List.length (List.getD (v_book_Prog [l] (1 : Int) (9 : Int)).2 0 (dflt (.sl T_api_Ins)))))))
                  (.br (k_road_Ends (List.getD (v_book_Prog [l] (1 : Int) (9 : Int)).2 0 (dflt (.sl T_api_Ins))) (v_book_Ints points (20 : Int)) (v_book_Pick s (Int.ofNat (List.length (List.getD (v_book_Prog [l] (1 : Int) (9 : Int)).2 0 (dflt (.sl T_api_Ins)))))))
                    (.jmp (.l8 (v_book_Pick more (Int.ofNat (List.length (List.getD (v_book_Prog [l] (1 : Int) (9 : Int)).2 0 (dflt (.sl T_api_Ins)))))) (v_book_Pick s (Int.ofNat (List.length (List.getD (v_book_Prog [l] (1 : Int) (9 : Int)).2 0 (dflt (.sl T_api_Ins)))))) (v_road_Ends (List.getD (v_book_Prog [l] (1 : Int) (9 : Int)).2 0 (dflt (.sl T_api_Ins))) ((v_book_Ints points (20 : Int)) ++ [(v_book_Pick more (Int.ofNat (List.length (List.getD (v_book_Prog [l] (1 : Int) (9 : Int)).2 0 (dflt (.sl T_api_Ins))))))]) (v_book_Pick s (Int.ofNat (List.length (List.getD (v_book_Prog [l] (1 : Int) (9 : Int)).2 0 (dflt (.sl T_api_Ins))))))) (v_road_Ends (List.getD (v_book_Prog [l] (1 : Int) (9 : Int)).2 0 (dflt (.sl T_api_Ins))) (v_book_Ints points (20 : Int)) (v_book_Pick s (Int.ofNat (List.length (List.getD (v_book_Prog [l] (1 : Int) (9 : Int)).2 0 (dflt (.sl T_api_Ins))))))) (List.getD (v_book_Prog [l] (1 : Int) (9 : Int)).2 0 (dflt (.sl T_api_Ins))) (0 : Int)))
                  (.no))
                (.no))
              (.no))
            (.no))
          (.no))
        (.no))
      (.no))
    (.no))
  (.no)
def R_law21_RoadFewer : Bool → AV := fun (r : Bool) => .d .bool r
def S_law21_RoadFewer (l : List (El T_book_Act)) (points : List Int) (more : Int) (s : Int) : J_law21_RoadFewer → Nat × St
  | .l8 more1 s1 few many t i => (8, ⟨mkTm 77 [(2, .d (.int .i64) more1), (3, .d (.int .i64) s1), (10, .pt 11 0 0), (11, .d (.sl (.int .i64)) few), (12, .d (.sl (.int .i64)) many), (13, .d (.int .i64) i)], [(11, 0, .box 32 [.d (.sl T_api_Ins) t] none)]⟩)
theorem en_law21_RoadFewer (l : List (El T_book_Act)) (points : List Int) (more : Int) (s : Int) (L : Lt) : entryA Go.Proofs.Tryd.prog (clOf t_law21_RoadFewer) tb_law21_RoadFewer Go.Proofs.Tryd.f4 c_law21_RoadFewer L (toForms sg_law21_RoadFewer (l, points, more, s, ())) = (T0_law21_RoadFewer l points more s).run (fun v => some (R_law21_RoadFewer v, tps (toForms sg_law21_RoadFewer (l, points, more, s, ())))) fun j => L (S_law21_RoadFewer l points more s j).1 (S_law21_RoadFewer l points more s j).2 := by kernel_rfl
theorem lp_law21_RoadFewer (l : List (El T_book_Act)) (points : List Int) (more : Int) (s : Int) : ∀ (L : Lt) (j : J_law21_RoadFewer), procOf (procsF Go.Proofs.Tryd.prog (clOf t_law21_RoadFewer) tb_law21_RoadFewer Go.Proofs.Tryd.f4 c_law21_RoadFewer (toForms sg_law21_RoadFewer (l, points, more, s, ()))) (S_law21_RoadFewer l points more s j).1 L (S_law21_RoadFewer l points more s j).2 = (T_law21_RoadFewer l points more s j).run (fun v => some (R_law21_RoadFewer v, tps (toForms sg_law21_RoadFewer (l, points, more, s, ())))) fun j => L (S_law21_RoadFewer l points more s j).1 (S_law21_RoadFewer l points more s j).2
  | L, .l8 more1 s1 few many t i => by kernel_rfl
end
end Go.Ev
end

section
set_option linter.unusedSectionVars false
set_option linter.unusedVariables false
set_option linter.unusedSimpArgs false
/- The programs that the book makes may be. -/
set_option maxRecDepth 100000
set_option linter.unusedVariables false
set_option linter.unusedSimpArgs false
namespace Go.Ev
open Go
theorem setL_right (i : El T_api_Ins) (ls : List ByteArray) : v_ins_Right (setL i ls) = v_ins_Right i := rfl
theorem setL_to (i : El T_api_Ins) (ls : List ByteArray) : (setL i ls).2.2.2.2.2.1 = i.2.2.2.2.2.1 := rfl
theorem place_book {th : List (List (El T_api_Ins))} {k r s n : Int} (h : k = 3 ∨ k = 4 → placeOK k s n = true) : placeC (symsB, th) (k, (r, (s, n))) = 0 := by
  show placeN 3 _ k s n = 0
  unfold placeN
  by_cases hk : k = 3 ∨ k = 4
  · rw [if_pos hk]
    have := h hk
    unfold placeOK at this
    simp only [Bool.and_eq_true, decide_eq_true_eq, Bool.or_eq_true, beq_iff_eq] at this
    obtain ⟨h0, h3, hn⟩ := this
    rw [if_neg (by omega)]
    have hs : s = 0 ∨ s = 1 ∨ s = 2 := by omega
    rcases hs with rfl | rfl | rfl
    · rw [if_neg]
      rintro ⟨h1, h2⟩
      have h2 : (1 : Int) ≤ n := h2
      rcases hn with hn | hn
      · omega
      · have hn : n < (1 : Int) := hn
        omega
    · rw [if_neg]
      rintro ⟨h1, h2⟩
      have h2 : (2 : Int) ≤ n := h2
      rcases hn with hn | hn
      · omega
      · have hn : n < (2 : Int) := hn
        omega
    · rw [if_neg]
      rintro ⟨h1, h2⟩
      have h2 : (1 : Int) ≤ n := h2
      rcases hn with hn | hn
      · omega
      · have hn : n < (1 : Int) := hn
        omega
  · rw [if_neg hk]
theorem insC_book {th : List (List (El T_api_Ins))} {many : Int} {i : El T_api_Ins} (h : BookOK many i) (ls : List ByteArray) : insC (symsB, th) (setL i ls) = 0 := by
  have hA : placeC (symsB, th) i.2.2.2.1 = 0 := place_book (k := i.2.2.2.1.1) (r := i.2.2.2.1.2.1) (s := i.2.2.2.1.2.2.1) (n := i.2.2.2.1.2.2.2) h.placeA
  have hB : placeC (symsB, th) i.2.2.2.2.1 = 0 := place_book (k := i.2.2.2.2.1.1) (r := i.2.2.2.2.1.2.1) (s := i.2.2.2.2.1.2.2.1) (n := i.2.2.2.2.1.2.2.2) h.placeB
  unfold insC
  rw [setL_right, h.right]
  show (if (0 : Int) ≠ 0 then _ else if placeC (symsB, th) i.2.2.2.1 ≠ 0 then _ else placeC (symsB, th) i.2.2.2.2.1) = 0
  rw [hA, hB]
  rfl
theorem scanI_lab {p : El T_api_Prog} {K : List ByteArray → Int} : ∀ (x : List (El T_api_Ins)) (k : Nat) (seen : List ByteArray),
    (∀ (j : Nat) (i : El T_api_Ins), x[j]? = some i → (i.2.2.2.2.2.2 = [] ∨ i.2.2.2.2.2.2 = [v_book_label ((k + j : Nat) : Int)]) ∧ insC p i = 0) → (∀ l ∈ seen, ∃ k', k' < k ∧ l = v_book_label (k' : Int)) → k + x.length ≤ 100 → scanI p K seen x = K (seen ++ labels x)
  | [], k, seen, _, _, _ => by simp [scanI, labels]
  | i :: r, k, seen, h, hs, hk => by
    obtain ⟨hl, hi⟩ := h 0 i rfl
    rw [List.length_cons] at hk
    have hr := fun seen' hs' => scanI_lab (K := K) r (k + 1) seen' (fun j y hy => by
      have := h (j + 1) y (by simpa using hy)
      rwa [show k + (j + 1) = k + 1 + j by omega] at this) hs' (by omega)
    unfold scanI
    rcases hl with hl | hl
    · rw [hl]
      unfold scanL
      rw [hi]
      simp only [ne_eq, not_true_eq_false, if_false]
      rw [hr seen fun l hl => by obtain ⟨k', h1, h2⟩ := hs l hl; exact ⟨k', by omega, h2⟩]
      unfold labels
      rw [List.flatMap_cons, hl, List.nil_append]
    · rw [hl, Nat.add_zero]
      unfold scanL
      rw [if_neg (by rw [(label_right (k := (k : Int)) (by omega) (by omega)).1]; decide)]
      have hns : seen.contains (v_book_label (k : Int)) = false := by
        rw [Bool.eq_false_iff]
        intro hc
        rw [List.contains_iff_mem] at hc
        obtain ⟨k', h1, h2⟩ := hs _ hc
        have := label_inj (by omega) (by omega) h2
        omega
      rw [if_neg (by rw [hns]; decide)]
      unfold scanL
      rw [hi]
      simp only [ne_eq, not_true_eq_false, if_false]
      rw [hr _ fun l hl => by
        rcases List.mem_append.1 hl with hl | hl
        · obtain ⟨k', h1, h2⟩ := hs l hl; exact ⟨k', by omega, h2⟩
        · rw [List.mem_singleton] at hl; exact ⟨k, by omega, hl⟩]
      unfold labels
      rw [List.flatMap_cons, hl, Nat.add_zero, List.append_assoc]
theorem jumpC_lab {seen : List ByteArray} : ∀ {x : List (El T_api_Ins)}, (∀ i ∈ x, ((i.1 == (10 : Int)) || (i.1 == (11 : Int))) = true → seen.contains i.2.2.2.2.2.1 = true) → jumpC seen x = 0
  | [], _ => rfl
  | i :: r, h => by
    unfold jumpC
    have ih := jumpC_lab fun j hj => h j (List.mem_cons_of_mem _ hj)
    by_cases hj : ((i.1 == (10 : Int)) || (i.1 == (11 : Int))) = true
    · rw [if_pos hj, if_pos (h i (List.mem_cons_self ..) hj)]; exact ih
    · rw [if_neg hj]; exact ih
/-- What stands in a thread of the book. -/
theorem threadB_get {a : List (El T_book_Act)} {n : Nat} (hn : n ≤ 90) (ha : n ≤ a.length) {k : Nat} {i : El T_api_Ins} (h : (threadB a n)[k]? = some i) :
    (k < n ∧ ∃ x, (baseT a n)[k]? = some x ∧ BookOK ((n + 1 : Nat) : Int) x ∧ i = setL x (if sAt (baseT a n) n k then [v_book_label (k : Int)] else [])) ∨ (k = n ∧ i = setL (bare 14) (if sAt (baseT a n) n k then [v_book_label (k : Int)] else [])) := by
  have hl := baseT_len a n ha
  obtain ⟨hk, he⟩ := List.getElem?_eq_some_iff.1 h
  unfold threadB at hk he
  rw [withL_get hk] at he
  rw [withL_len, hl] at hk
  by_cases hkn : k < n
  · obtain ⟨x, h1, h2⟩ := baseT_book hn hkn ha
    obtain ⟨h3, h4⟩ := List.getElem?_eq_some_iff.1 h1
    rw [h4] at he
    exact .inl ⟨hkn, _, h1, h2, he.symm⟩
  · have hkn : k = n := by omega
    subst hkn
    have : (baseT a k)[k]'(by omega) = bare 14 := by
      unfold baseT
      rw [List.getElem_append_right (by simp; omega)]
      simp
    rw [this] at he
    exact .inr ⟨rfl, he.symm⟩
theorem bare14_book (many : Int) (ls : List ByteArray) {th : List (List (El T_api_Ins))} : insC (symsB, th) (setL (bare 14) ls) = 0 := by
  unfold insC
  rw [setL_right, bare_right (.inr (.inr rfl))]
  rfl
theorem labels_get {x : List (El T_api_Ins)} {k : Nat} {i : El T_api_Ins} {l : ByteArray} (h : x[k]? = some i) (hl : l ∈ i.2.2.2.2.2.2) : (labels x).contains l = true := by
  rw [List.contains_iff_mem]
  unfold labels
  exact List.mem_flatMap.2 ⟨i, List.mem_of_getElem? h, hl⟩
theorem threadC_book {a : List (El T_book_Act)} {n : Nat} (hn : n ≤ 90) (ha : n ≤ a.length) {th : List (List (El T_api_Ins))} : threadC (symsB, th) (threadB a n) = 0 := by
  have hlen : (threadB a n).length = n + 1 := by unfold threadB; rw [withL_len, baseT_len a n ha]
  unfold threadC
  have hc := countM_le (threadB a n)
  rw [if_neg (by omega), scanI_lab (threadB a n) 0 [] (fun j i h => by
    rw [Nat.zero_add]
    rcases threadB_get hn ha h with ⟨_, x, _, hx, rfl⟩ | ⟨_, rfl⟩
    · refine ⟨?_, insC_book hx _⟩
      show (if _ then [v_book_label (j : Int)] else []) = [] ∨ (if _ then [v_book_label (j : Int)] else []) = [v_book_label (j : Int)]
      split
      · exact .inr rfl
      · exact .inl rfl
    · refine ⟨?_, bare14_book 0 _⟩
      show (if _ then [v_book_label (j : Int)] else []) = [] ∨ (if _ then [v_book_label (j : Int)] else []) = [v_book_label (j : Int)]
      split
      · exact .inr rfl
      · exact .inl rfl) (fun l hl => by cases hl) (by omega)]
  rw [List.nil_append, endC_eq (by omega)]
  have hlast : (threadB a n)[(threadB a n).length - 1]? = some ((threadB a n)[(threadB a n).length - 1]'(by omega)) := List.getElem?_eq_getElem (by omega)
  have h14 : (((threadB a n)[(threadB a n).length - 1]'(by omega)).1 == (10 : Int) || ((threadB a n)[(threadB a n).length - 1]'(by omega)).1 == (14 : Int)) = true := by
    rcases threadB_get hn ha hlast with ⟨h1, _⟩ | ⟨_, h2⟩
    · omega
    · rw [h2]; rfl
  rw [if_pos h14]
  refine jumpC_lab fun i hi hj => ?_
  obtain ⟨k, hk⟩ := List.getElem?_of_mem hi
  rcases threadB_get hn ha hk with ⟨hkn, x, hx, hb, rfl⟩ | ⟨_, rfl⟩
  · rw [setL_to]
    rcases hb.to with ⟨h1, h2, _⟩ | ⟨_, m, m0, m1, e⟩
    · exfalso
      have hj : ((x.1 == (10 : Int)) || (x.1 == (11 : Int))) = true := hj
      simp only [Bool.or_eq_true, beq_iff_eq] at hj
      rcases hj with hj | hj
      · exact h1 hj
      · exact h2 hj
    · rw [e]
      obtain ⟨q, rfl⟩ : ∃ q : Nat, m = (q : Int) := ⟨m.toNat, by omega⟩
      have hqn : q < n + 1 := by omega
      have hq : (threadB a n)[q]? = some ((threadB a n)[q]'(by omega)) := List.getElem?_eq_getElem (by omega)
      have hs : sAt (baseT a n) n q = true := by
        unfold sAt
        rw [List.any_eq_true]
        exact ⟨x, List.mem_of_getElem? (i := k) (by rw [List.getElem?_take, if_pos hkn]; exact hx), decide_eq_true e⟩
      refine labels_get hq ?_
      rcases threadB_get hn ha hq with ⟨_, y, _, _, h2⟩ | ⟨_, h2⟩
      · rw [h2, hs]; exact List.mem_singleton.2 rfl
      · rw [h2, hs]; exact List.mem_singleton.2 rfl
  · cases hj
theorem small_book {a : List (El T_book_Act)} {n : Nat} (hn : n ≤ 90) (ha : n ≤ a.length) : smallThread (threadB a n) = true := by
  have hlen : (threadB a n).length = n + 1 := by unfold threadB; rw [withL_len, baseT_len a n ha]
  have hlab : ∀ i ∈ threadB a n, smallText i.2.2.2.2.2.1 = true ∧ i.2.2.2.2.2.2.length ≤ 1 ∧ ∀ l ∈ i.2.2.2.2.2.2, smallText l = true := fun i hi => by
    obtain ⟨k, hk⟩ := List.getElem?_of_mem hi
    have hkl := (List.getElem?_eq_some_iff.1 hk).1
    have hls : ∀ b : Bool, (if b = true then [v_book_label (k : Int)] else []).length ≤ 1 ∧ ∀ l ∈ (if b = true then [v_book_label (k : Int)] else []), smallText l = true := fun b => by
      cases b with
      | false => exact ⟨by simp, fun l hl => by simp at hl⟩
      | true => exact ⟨by simp, fun l hl => by
          rw [if_pos rfl, List.mem_singleton] at hl
          rw [hl]; exact (label_right (by omega) (by omega)).2⟩
    rcases threadB_get hn ha hk with ⟨hkn, x, hx, hb, rfl⟩ | ⟨_, rfl⟩
    · exact ⟨hb.small (by omega), hls _⟩
    · exact ⟨(by decide : smallText (bs []) = true), hls _⟩
  have := labels_le (t := threadB a n) (n := 1) fun i hi => (hlab i hi).2.1
  unfold smallThread
  simp only [Bool.and_eq_true, decide_eq_true_eq, List.all_eq_true]
  exact ⟨by omega, by omega, fun i hi => ⟨(hlab i hi).1, (hlab i hi).2.2⟩⟩
theorem symsC_book (K : Int) : symsC K [] symsB = K := by kernel_rfl
theorem thsC_zero {p : El T_api_Prog} : ∀ {th : List (List (El T_api_Ins))}, (∀ t ∈ th, threadC p t = 0) → thsC p th = 0
  | [], _ => rfl
  | t :: r, h => by
    unfold thsC
    rw [h t (List.mem_cons_self ..)]
    simp only [ne_eq, not_true_eq_false, if_false]
    exact thsC_zero fun x hx => h x (List.mem_cons_of_mem _ hx)
theorem book_valid (l : List (List (El T_book_Act))) {threads many : Int} (h0 : 0 ≤ threads) (h1 : threads ≤ 64) (m0 : 0 ≤ many) (m1 : many ≤ 90) : checkC (v_book_Prog l threads many) = 0 ∧ smallProg (v_book_Prog l threads many) = true ∧ k_book_Prog l threads many = true := by
  refine ⟨?_, ?_, ?_⟩
  · unfold checkC v_book_Prog
    show (if 64 < symsB.length ∨ 64 < ((l.take threads.toNat).map fun a => threadB a (min a.length many.toNat)).length then (10 : Int) else symsC (thsC _ ((l.take threads.toNat).map fun a => threadB a (min a.length many.toNat))) [] symsB) = 0
    rw [if_neg, symsC_book]
    · exact thsC_zero fun t ht => by
        obtain ⟨a, _, rfl⟩ := List.mem_map.1 ht
        exact threadC_book (by omega) (by omega)
    · rw [List.length_map, List.length_take]
      have : symsB.length = 3 := rfl
      omega
  · unfold smallProg v_book_Prog
    simp only [Bool.and_eq_true, List.all_eq_true]
    refine ⟨?_, fun t ht => ?_⟩
    · have : symsB.all (fun s => smallText s.1) = true := by decide +kernel
      rw [List.all_eq_true] at this
      exact this
    · obtain ⟨a, _, rfl⟩ := List.mem_map.1 ht
      exact small_book (by omega) (by omega)
  · unfold k_book_Prog
    simp only [Bool.and_eq_true, decide_eq_true_eq]
    omega
end Go.Ev
end

section
set_option linter.unusedSectionVars false
set_option linter.unusedVariables false
set_option linter.unusedSimpArgs false
/- The one thread that the book makes. -/
set_option maxRecDepth 100000
set_option linter.unusedVariables false
set_option linter.unusedSimpArgs false
open Go
namespace Go.Ev
theorem small_flow' {t : List (El T_api_Ins)} (h : smallThread t = true) : flowOK t = true := by
  unfold smallThread at h
  simp only [Bool.and_eq_true, List.all_eq_true, decide_eq_true_eq] at h
  unfold flowOK
  simp only [Bool.and_eq_true, List.all_eq_true, decide_eq_true_eq]
  refine ⟨h.1, fun i hi => ⟨(h.2.2 i hi).1, ?_⟩⟩
  have := labels_mem hi
  omega
theorem book_one (l : List (El T_book_Act)) {many : Int} (m0 : 0 ≤ many) (m1 : many ≤ 90) : ∃ t : List (El T_api_Ins), (v_book_Prog [l] (1 : Int) many).2 = [t] ∧ 1 ≤ t.length ∧ (t.length : Int) ≤ many + 1 ∧ smallThread t = true ∧ flowOK t = true ∧ k_book_Prog [l] (1 : Int) many = true := by
  obtain ⟨_, hs, hk⟩ := book_valid [l] (threads := 1) (many := many) (by omega) (by omega) m0 m1
  have e : (v_book_Prog [l] (1 : Int) many).2 = [threadB l (min l.length many.toNat)] := rfl
  have hl : (threadB l (min l.length many.toNat)).length = min l.length many.toNat + 1 := by unfold threadB; rw [withL_len, baseT_len l _ (Nat.min_le_left _ _)]
  have hsm : smallThread (threadB l (min l.length many.toNat)) = true := by
    unfold smallProg at hs
    rw [Bool.and_eq_true, e] at hs
    exact List.all_eq_true.1 hs.2 _ (by simp)
  exact ⟨_, e, by omega, by omega, hsm, small_flow' hsm, hk⟩
end Go.Ev
end

section
set_option linter.unusedSectionVars false
set_option linter.unusedVariables false
set_option linter.unusedSimpArgs false
/- Free ways: the program's own answers. -/
set_option maxRecDepth 100000
set_option linter.unusedVariables false
set_option linter.unusedSimpArgs false
open Go
namespace Go.Ev
theorem listOf_le {n : Nat} {M : Nat → Bool} : (listOf n M).length ≤ n := by rw [listOf_length]; exact card_le
theorem listOf_contains {n : Nat} {M : Nat → Bool} {x : Int} : (listOf n M).contains x = (decide (0 ≤ x ∧ x < (n : Int)) && M x.toNat) := by
  rw [Bool.eq_iff_iff, List.contains_iff_mem, listOf_mem]
  simp only [Bool.and_eq_true, decide_eq_true_eq]
  constructor
  · rintro ⟨i, h1, h2, rfl⟩; exact ⟨by omega, by rw [Int.toNat_natCast]; exact h2⟩
  · rintro ⟨h1, h2⟩; exact ⟨x.toNat, by omega, h2, by omega⟩
theorem same_self {l : List Int} (h : l.length < 1099511627776) : k_book_SameInts l l = true ∧ v_book_SameInts l l = true := ⟨decide_eq_true (by omega), decide_eq_true rfl⟩
theorem ends_road {t : List (El T_api_Ins)} {points : List Int} (h : flowOK t = true) (hp : points.length < 4611686018427387904) (s : Int) :
    k_road_Ends t points s = true ∧ k_book_SameInts (v_road_Ends t points s) (v_road_Ends t points s) = true ∧ v_book_SameInts (v_road_Ends t points s) (v_road_Ends t points s) = true := by
  have k1 : k_road_Ends t points s = true := by unfold k_road_Ends; rw [h, decide_eq_true hp]; rfl
  have hl := flowOK_len h
  exact ⟨k1, same_self (by unfold v_road_Ends; have := @listOf_le t.length (endsB t points s); omega)⟩
theorem free_road {t : List (El T_api_Ins)} {points : List Int} (h : flowOK t = true) (hp : points.length < 4611686018427387904) (s l : Int) :
    k_road_Free t points s l = true ∧ v_road_Free t points s l = (decide (0 ≤ l ∧ l < (t.length : Int)) && endsB t points s l.toNat) := by
  obtain ⟨k1, _⟩ := ends_road h hp s
  have hl := flowOK_len h
  have ki : k_slices_Index___int_int_ (v_road_Ends t points s) l = true := decide_eq_true (by unfold v_road_Ends; have := @listOf_le t.length (endsB t points s); omega)
  have vr : v_road_Free t points s l = (decide (0 ≤ l ∧ l < (t.length : Int)) && endsB t points s l.toNat) := by
    unfold v_road_Free k_slices_Contains___int_int_ v_slices_Contains___int_int_
    rw [k1, ki]
    simp only [cond_true]
    unfold v_slices_Index___int_int_
    rw [indexI_ge]
    unfold v_road_Ends
    exact listOf_contains
  refine ⟨?_, vr⟩
  unfold k_road_Free k_slices_Contains___int_int_; rw [k1, ki]; rfl
end Go.Ev
end

section
set_option linter.unusedSectionVars false
set_option linter.unusedVariables false
set_option linter.unusedSimpArgs false
/- The first call's text of law21_alive. -/
set_option maxRecDepth 100000
open Go
namespace Go.Ev
noncomputable section
def lit_law21_alive : List (El T_api_Ins) := [((1 : Int), (false, ((0 : Int), (((3 : Int), ((0 : Int), ((0 : Int), (0 : Int)))), (((2 : Int), ((0 : Int), ((0 : Int), (1 : Int)))), ((bs []), [])))))), ((1 : Int), (false, ((0 : Int), (((1 : Int), ((0 : Int), ((0 : Int), (0 : Int)))), (((3 : Int), ((0 : Int), ((0 : Int), (0 : Int)))), ((bs []), [])))))), ((14 : Int), (false, ((0 : Int), (((0 : Int), ((0 : Int), ((0 : Int), (0 : Int)))), (((0 : Int), ((0 : Int), ((0 : Int), (0 : Int)))), ((bs []), []))))))]
def ka_law21_alive (t : List (El T_api_Ins)) : Bool :=
  bif (k_road_Free t [] (0 : Int) (1 : Int)) then
    bif (v_road_Free t [] (0 : Int) (1 : Int)) then
      bif (k_road_Free t [(1 : Int)] (0 : Int) (1 : Int)) then
        bif (! (v_road_Free t [(1 : Int)] (0 : Int) (1 : Int))) then
          bif (k_road_Free t [] (1 : Int) (0 : Int)) then
            bif (! (v_road_Free t [] (1 : Int) (0 : Int))) then
              bif (k_road_Ends t [(2 : Int)] (0 : Int)) then
                bif (k_book_SameInts (v_road_Ends t [(2 : Int)] (0 : Int)) [(1 : Int)]) then
                  true
                else false
              else false
            else true
          else false
        else true
      else false
    else true
  else false
def va_law21_alive (t : List (El T_api_Ins)) : Bool :=
  bif (k_road_Free t [] (0 : Int) (1 : Int)) then
    bif (v_road_Free t [] (0 : Int) (1 : Int)) then
      bif (k_road_Free t [(1 : Int)] (0 : Int) (1 : Int)) then
        bif (! (v_road_Free t [(1 : Int)] (0 : Int) (1 : Int))) then
          bif (k_road_Free t [] (1 : Int) (0 : Int)) then
            bif (! (v_road_Free t [] (1 : Int) (0 : Int))) then
              bif (k_road_Ends t [(2 : Int)] (0 : Int)) then
                bif (k_book_SameInts (v_road_Ends t [(2 : Int)] (0 : Int)) [(1 : Int)]) then
                  (v_book_SameInts (v_road_Ends t [(2 : Int)] (0 : Int)) [(1 : Int)])
                else false
              else false
            else false
          else false
        else false
      else false
    else false
  else false
theorem ka_law21_alive_eq : k_law21_alive = ka_law21_alive lit_law21_alive := rfl
theorem va_law21_alive_eq : v_law21_alive = va_law21_alive lit_law21_alive := rfl
end
end Go.Ev
end

section
set_option linter.unusedSectionVars false
set_option linter.unusedVariables false
set_option linter.unusedSimpArgs false
/- Chapter 21's first calls. -/
set_option maxRecDepth 100000
set_option linter.unusedVariables false
set_option linter.unusedSimpArgs false
open Go
namespace Go.Ev
theorem alive21 : k_law21_alive = true ∧ v_law21_alive = true := by
  rw [ka_law21_alive_eq, va_law21_alive_eq]
  have hk : flowOK lit_law21_alive = true := by decide +kernel
  have hl3 : lit_law21_alive.length = 3 := rfl
  have nx : ∀ i, i < 3 → ∀ j, j < 3 → nextB lit_law21_alive ((i : Nat) : Int) j = decide (j = i + 1) := by decide +kernel
  have hlt : ∀ (k j : Nat), nextB lit_law21_alive (k : Int) j = true → j < 3 ∧ k < 3 := fun k j h => by
    refine ⟨nextB_lt h, ?_⟩
    unfold nextB at h
    rw [Bool.and_eq_true] at h
    have := (of_decide_eq_true h.1).2.1
    rw [hl3] at this
    omega
  have nx1 : ∀ (k j : Nat), nextB lit_law21_alive (k : Int) j = true → j = k + 1 ∧ j < 3 := fun k j h => by
    obtain ⟨h1, h2⟩ := hlt k j h
    rw [nx k h2 j h1] at h
    exact ⟨of_decide_eq_true h, h1⟩
  have first : ∀ {points : List Int} {s j : Nat}, firstB lit_law21_alive points (s : Int) j = true → j = s + 1 ∧ j < 3 ∧ points.contains (j : Int) = false := fun {points s j} h => by
    unfold firstB at h
    rw [Bool.and_eq_true] at h
    obtain ⟨h1, h2⟩ := nx1 s j h.1
    exact ⟨h1, h2, by simpa using h.2⟩
  have step : ∀ {points : List Int} {k j : Nat}, stepB lit_law21_alive points k j = true → j = k + 1 ∧ j < 3 ∧ points.contains (j : Int) = false := fun {points k j} h => by
    unfold stepB at h
    rw [Bool.and_eq_true, Bool.and_eq_true] at h
    obtain ⟨h1, h2⟩ := nx1 k j h.2.1
    exact ⟨h1, h2, by simpa using h.2.2⟩
  have e1 : endsB lit_law21_alive [] ((0 : Nat) : Int) 1 = true := comeB_iff.2 (.start (by decide +kernel))
  have e2 : ∀ j, endsB lit_law21_alive [1] ((0 : Nat) : Int) j = false := fun j => by
    refine (comeB_eq (M := fun _ => false) (fun j hj => ?_) (fun k j hk => by cases hk) (fun j hj => by cases hj) j).symm
    obtain ⟨h1, _, h3⟩ := first hj
    subst h1
    exact absurd h3 (by decide)
  have e3 : endsB lit_law21_alive [] ((1 : Nat) : Int) 0 = false := by
    have := (comeB_eq (N := stepB lit_law21_alive []) (A := firstB lit_law21_alive [] ((1 : Nat) : Int)) (M := fun j => decide (j = 2)) (fun j hj => ?_) (fun k j hk hj => ?_) (fun j hj => ?_) 0).symm
    · exact this
    · obtain ⟨h1, _⟩ := first hj; exact decide_eq_true (by omega)
    · obtain ⟨h1, h2, _⟩ := step hj
      have := of_decide_eq_true hk
      omega
    · have := of_decide_eq_true hj
      subst this
      exact .start (by decide +kernel)
  have e4 : ∀ j, endsB lit_law21_alive [2] ((0 : Nat) : Int) j = decide (j = 1) := fun j => by
    refine (comeB_eq (M := fun j => decide (j = 1)) (fun j hj => ?_) (fun k j hk hj => ?_) (fun j hj => ?_) j).symm
    · obtain ⟨h1, _⟩ := first hj; exact decide_eq_true (by omega)
    · obtain ⟨h1, h2, h3⟩ := step hj
      have := of_decide_eq_true hk
      subst this
      subst h1
      exact absurd h3 (by decide)
    · have := of_decide_eq_true hj
      subst this
      exact .start (by decide +kernel)
  obtain ⟨a1, a2⟩ := free_road (points := []) hk (by simp) 0 1
  obtain ⟨b1, b2⟩ := free_road (points := [1]) hk (by simp) 0 1
  obtain ⟨c1, c2⟩ := free_road (points := []) hk (by simp) 1 0
  obtain ⟨d1, d3, d4⟩ := ends_road (points := [2]) hk (by simp) 0
  have a3 : v_road_Free lit_law21_alive [] 0 1 = true := by
    rw [a2, hl3, show endsB lit_law21_alive [] 0 (Int.toNat 1) = true from e1]; rfl
  have b3 : v_road_Free lit_law21_alive [1] 0 1 = false := by
    rw [b2, show endsB lit_law21_alive [1] 0 (Int.toNat 1) = false from e2 1, Bool.and_false]
  have c3 : v_road_Free lit_law21_alive [] 1 0 = false := by
    rw [c2, show endsB lit_law21_alive [] 1 (Int.toNat 0) = false from e3, Bool.and_false]
  have d2 : v_road_Ends lit_law21_alive [2] 0 = [1] := by
    unfold v_road_Ends
    rw [show endsB lit_law21_alive [2] 0 = fun j => decide (j = 1) from funext e4, hl3]
    rfl
  rw [d2] at d3 d4
  unfold ka_law21_alive va_law21_alive
  rw [a1, a3, b1, b3, c1, c3, d1, d2]
  exact ⟨by decide +kernel, by decide +kernel⟩
end Go.Ev
end

section
set_option linter.unusedSectionVars false
set_option linter.unusedVariables false
set_option linter.unusedSimpArgs false
/- Few numbers. -/
set_option maxRecDepth 100000
set_option linter.unusedVariables false
set_option linter.unusedSimpArgs false
open Go
namespace Go.Ev
theorem ints_ok (l : List Int) : k_book_Ints l 20 = true ∧ (v_book_Ints l 20).length ≤ 20 := by
  have h0 : (0 : Int) ≤ minI (Int.ofNat l.length) 20 := by unfold minI; split <;> simp
  have h1 : minI (Int.ofNat l.length) 20 ≤ Int.ofNat l.length := by unfold minI; split <;> simp at * <;> omega
  have h2 : minI (Int.ofNat l.length) 20 ≤ 20 := by unfold minI; split <;> simp at * <;> omega
  have hl : (List.take (Int.toNat (minI (Int.ofNat l.length) 20)) l).length ≤ 20 := by rw [List.length_take]; omega
  have hb : Nat.ble ((List.take (Int.toNat (minI (Int.ofNat l.length) 20)) l).length * 8) limit = true := Nat.ble_eq_true_of_le (by unfold limit; omega)
  unfold k_book_Ints v_book_Ints
  simp only [decide_eq_true h0, decide_eq_true h1, hb, Bool.and_self, Bool.and_true, cond_true, true_and, Int.le_refl, decide_true]
  first | exact hl | (refine ⟨?_, ?_⟩ <;> first | rfl | exact hl)
end Go.Ev
end

section
set_option linter.unusedSectionVars false
set_option linter.unusedVariables false
set_option linter.unusedSimpArgs false
set_option maxRecDepth 100000
set_option linter.unusedVariables false
set_option linter.unusedSimpArgs false
open Go
namespace Go.Ev
def v_law21_RoadFewer (l : List (El T_book_Act)) (points : List Int) (more s : Int) : Bool := true
def k_law21_RoadFewer (l : List (El T_book_Act)) (points : List Int) (more s : Int) : Bool := true
theorem ends_point {t : List (El T_api_Ins)} {points : List Int} {s : Int} {j : Nat} (h : endsB t points s j = true) : points.contains (j : Int) = false := by
  have h := comeB_iff.1 h
  cases h with
  | start h => unfold firstB at h; simp only [Bool.and_eq_true] at h; simpa using h.2
  | step _ h => unfold stepB at h; simp only [Bool.and_eq_true] at h; simpa using h.2.2
theorem ends_mono {t : List (El T_api_Ins)} {p q : List Int} {s : Int} {j : Nat} (hpq : ∀ x, x ∈ p → x ∈ q) (h : endsB t q s j = true) : endsB t p s j = true := by
  have hc : ∀ x : Int, q.contains x = false → p.contains x = false := fun x hx => by
    rw [← Bool.not_eq_true, List.contains_iff_mem] at hx ⊢
    exact fun h => hx (hpq x h)
  refine comeB_iff.2 (come_mono (fun j hj => ?_) (fun k j hj => ?_) (comeB_iff.1 h))
  · unfold firstB at hj ⊢
    simp only [Bool.and_eq_true, Bool.not_eq_true'] at hj ⊢
    exact ⟨hj.1, hc _ hj.2⟩
  · unfold stepB at hj ⊢
    simp only [Bool.and_eq_true, Bool.not_eq_true'] at hj ⊢
    exact ⟨hj.1, hj.2.1, hc _ hj.2.2⟩
theorem ends_none {t : List (El T_api_Ins)} {s : Int} : v_road_Ends t (v_flow_Next t s) s = [] := by
  have : ∀ j, ¬ Come (stepB t (v_flow_Next t s)) (firstB t (v_flow_Next t s) s) j := fun j h => by
    induction h with
    | @start j h =>
      unfold firstB at h
      simp only [Bool.and_eq_true, Bool.not_eq_true'] at h
      have h2 := h.2
      rw [← Bool.not_eq_true, List.contains_iff_mem] at h2
      exact h2 (listOf_mem.2 ⟨j, nextB_lt h.1, h.1, rfl⟩)
    | step _ _ ih => exact ih
  unfold v_road_Ends
  rw [List.eq_nil_iff_forall_not_mem]
  intro x hx
  obtain ⟨j, _, hj, _⟩ := listOf_mem.1 hx
  exact this j (comeB_iff.1 hj)
theorem g_law21_RoadFewer (l : List (El T_book_Act)) (points : List Int) (more s : Int) (hk : k_law21_RoadFewer l points more s = true) : Goes (T_law21_RoadFewer l points more s) (T0_law21_RoadFewer l points more s) (v_law21_RoadFewer l points more s) := by
  obtain ⟨T, hT⟩ : ∃ T, T = T_law21_RoadFewer l points more s := ⟨_, rfl⟩
  obtain ⟨ka, va⟩ := alive21
  obtain ⟨t, hP, ht1, ht2, _, hf, kp⟩ := book_one l (many := 9) (by omega) (by omega)
  have hg : List.getD (v_book_Prog [l] (1 : Int) (9 : Int)).2 0 (dflt (.sl T_api_Ins)) = t := by rw [hP]; rfl
  have hlen := flowOK_len hf
  obtain ⟨ki, hi⟩ := ints_ok points
  obtain ⟨ks, s0, s1⟩ := pick_lt (n := s) (m := Int.ofNat t.length) (by simp; omega) (by simp; omega)
  obtain ⟨km, m0, m1⟩ := pick_lt (n := more) (m := Int.ofNat t.length) (by simp; omega) (by simp; omega)
  rw [← hT]
  unfold T0_law21_RoadFewer v_law21_RoadFewer
  rw [hg, hP, goes_br, if_pos kp, goes_br, if_pos (by simp), goes_br, if_pos ki, goes_br, if_pos ks, goes_br, if_pos km]
  generalize v_book_Ints points 20 = ps at *
  generalize v_book_Pick s (Int.ofNat t.length) = s at *
  generalize v_book_Pick more (Int.ofNat t.length) = more at *
  obtain ⟨a1, _⟩ := ends_road (points := ps ++ [more]) hf (by simp; omega) s
  obtain ⟨b1, _⟩ := ends_road (points := ps) hf (by omega) s
  have hN : (v_flow_Next t s).length ≤ t.length := listOf_le
  obtain ⟨c1, _⟩ := ends_road (points := v_flow_Next t s) hf (by omega) s
  rw [goes_br, if_pos (Nat.ble_eq_true_of_le (by unfold limit; omega)), goes_br, if_pos (Nat.ble_eq_true_of_le (by unfold limit; omega)), goes_br, if_pos a1, goes_br, if_pos b1]
  have hfl : (v_road_Ends t (ps ++ [more]) s).length ≤ t.length := listOf_le
  have hml : (v_road_Ends t ps s).length ≤ t.length := listOf_le
  have loop : ∀ i, i ≤ (v_road_Ends t (ps ++ [more]) s).length → Goes T (.jmp (.l8 more s (v_road_Ends t (ps ++ [more]) s) (v_road_Ends t ps s) t (i : Int))) true := by
    refine down ?_ fun i hi ih => ?_
    · rw [goes_jmp, hT, T_law21_RoadFewer, ← hT, goes_br, if_neg (by rw [lt_len_not (Nat.lt_irrefl _)]; decide), goes_br, if_pos (show k_flow_Next t s = true from hf), goes_br, if_pos c1, ends_none, goes_br, if_pos (by rfl), goes_br, if_pos ka, va]
      exact .leaf
    · have hx := List.getElem_mem hi
      obtain ⟨j, hj, hej, hxe⟩ := listOf_mem.1 hx
      have kin : k_ref3_In (v_road_Ends t ps s) (List.getD (v_road_Ends t (ps ++ [more]) s) i (dflt (.int .i64))) = true := decide_eq_true (by omega)
      have vin : v_ref3_In (v_road_Ends t ps s) (List.getD (v_road_Ends t (ps ++ [more]) s) i (dflt (.int .i64))) = true := by
        rw [getD_lt hi, hxe]
        show List.contains _ _ = true
        rw [List.contains_iff_mem]
        exact listOf_mem.2 ⟨j, hj, ends_mono (fun x hx => List.mem_append_left _ hx) hej, rfl⟩
      have hne : ((List.getD (v_road_Ends t (ps ++ [more]) s) i (dflt (.int .i64))) == more) = false := by
        rw [getD_lt hi, hxe]
        have := ends_point hej
        rw [← Bool.not_eq_true, List.contains_iff_mem] at this
        simp only [List.mem_append, List.mem_singleton, not_or] at this
        simpa using this.2
      rw [goes_jmp, hT, T_law21_RoadFewer, ← hT, goes_br, if_pos (lt_len hi), goes_br, if_pos (bound_len hi), goes_br, Int.toNat_natCast, if_pos kin, goes_br, vin, if_neg (by decide), goes_br, if_pos (bound_len hi), goes_br, hne, if_neg (by decide), wrap_succ (by omega)]
      exact ih
  exact loop 0 (Nat.zero_le _)
end Go.Ev
end

section
set_option linter.unusedSectionVars false
set_option linter.unusedVariables false
set_option linter.unusedSimpArgs false
set_option maxRecDepth 100000
set_option linter.unusedVariables false
open Go Go.Ev
namespace Go.Ev
noncomputable section
noncomputable def e_law21_RoadFewer : Run := entG sg_law21_RoadFewer R_law21_RoadFewer (fun a => k_law21_RoadFewer a.1 a.2.1 a.2.2.1 a.2.2.2.1) (fun a => v_law21_RoadFewer a.1 a.2.1 a.2.2.1 a.2.2.2.1)
theorem ok_law21_RoadFewer : EntOK Go.Proofs.Tryd.prog 4 e_law21_RoadFewer := entG_ok (tb := tb_law21_RoadFewer) (c := c_law21_RoadFewer) tk_law21_RoadFewer (by kernel_rfl) (by kernel_rfl) (by kernel_rfl) (fun a => by kernel_rfl) fun ⟨l, points, more, s, _⟩ hk => evF_goes (c := c_law21_RoadFewer) (K := fun v => (R_law21_RoadFewer v, tps (toForms sg_law21_RoadFewer (l, points, more, s, ())))) (S := S_law21_RoadFewer l points more s) (by kernel_rfl) (en_law21_RoadFewer l points more s) (lp_law21_RoadFewer l points more s) (g_law21_RoadFewer l points more s hk)
theorem co_law21_RoadFewer (l : List (El T_book_Act)) (points : List Int) (more : Int) (s : Int) (hk : k_law21_RoadFewer l points more s = true) : CallOK Go.Proofs.Tryd.prog 4 (toForms sg_law21_RoadFewer (l, points, more, s, ())) (R_law21_RoadFewer (v_law21_RoadFewer l points more s), tps (toForms sg_law21_RoadFewer (l, points, more, s, ()))) := by
  obtain ⟨h1, h2⟩ := clOf_ok tk_law21_RoadFewer
  obtain ⟨n, hn⟩ := evF_goes (c := c_law21_RoadFewer) (K := fun v => (R_law21_RoadFewer v, tps (toForms sg_law21_RoadFewer (l, points, more, s, ())))) (S := S_law21_RoadFewer l points more s) (by kernel_rfl) (en_law21_RoadFewer l points more s) (lp_law21_RoadFewer l points more s) (g_law21_RoadFewer l points more s hk)
  exact evF_sound (f := 4) (c := c_law21_RoadFewer) h1 h2 (by kernel_rfl) (by kernel_rfl) (by kernel_rfl) hn
end
end Go.Ev
end

section
set_option linter.unusedSectionVars false
set_option linter.unusedVariables false
set_option linter.unusedSimpArgs false
set_option maxRecDepth 100000
set_option linter.unusedVariables false
namespace Go.Ev
open Go
theorem call_law21_RoadFewer (a : Args sg_law21_RoadFewer) (ha : smallArgs sg_law21_RoadFewer a) : CallOK Go.Proofs.Tryd.prog fid_law21_RoadFewer (toForms sg_law21_RoadFewer a) (.d .bool true, tps (toForms sg_law21_RoadFewer a)) := by
  obtain ⟨l, points, more, s, _⟩ := a
  exact co_law21_RoadFewer l points more s rfl
end Go.Ev
end

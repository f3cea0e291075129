/- Part of the proof of: For every acts and number: one comes to what follows, and to where one comes from there, and to no other. -/
import Derived.Test.YtebfmdhfhicmlaaDoorCon1
section
set_option linter.unusedSectionVars false
set_option linter.unusedVariables false
set_option linter.unusedSimpArgs false
set_option maxRecDepth 100000
set_option linter.unusedVariables false
set_option linter.unusedSimpArgs false
open Go
namespace Go.Ev
noncomputable def v_ref3_from (t : List (El T_api_Ins)) (i : Int) : List Bool := rowOf t.length (fromB t i)
def k_ref3_from (t : List (El T_api_Ins)) (i : Int) : Bool := flowOK t
theorem g_ref3_from (t : List (El T_api_Ins)) (i : Int) (hk : k_ref3_from t i = true) : Goes (T_ref3_from t i) (T0_ref3_from t i) (v_ref3_from t i) := by
  have hlen := flowOK_len hk
  generalize hn : t.length = n at hlen
  -- what holds on the way
  let OK : (Nat → Bool) → (Nat → Bool) → Bool → Prop := fun M0 M moved => (∀ j, nextB t i j = true → M j = true) ∧ (∀ j, M j = true → Come (fun k j => nextB t (k : Int) j) (nextB t i) j) ∧ (moved = false → M = M0) ∧ (moved = true → card n M0 < card n M)
  have hltM : ∀ {M0 M moved}, OK M0 M moved → ∀ j, M j = true → j < n := fun h j hj => by
    have := come_lt (n := t.length) (fun j => nextB_lt) (fun k j => nextB_lt) (h.2.1 j hj)
    omega
  have loop : ∀ m, ∀ M : Nat → Bool, n - card n M = m → (∀ j, nextB t i j = true → M j = true) → (∀ j, M j = true → Come (fun k j => nextB t (k : Int) j) (nextB t i) j) → Goes (T_ref3_from t i) (.jmp (.l4 true (rowOf n M))) (v_ref3_from t i) := by
    intro m
    induction m using Nat.strongRecOn with
    | _ m ih =>
    intro M0 hm hA hC
    -- within an instruction's row
    have inner : ∀ k, k < n → ∀ Z : Prop, (∀ M moved, OK M0 M moved → (moved = false → Z ∧ ∀ j, nextB t (k : Int) j = true → M0 j = true) → Goes (T_ref3_from t i) (.jmp (.l9 ((k + 1 : Nat) : Int) moved (rowOf n M))) (v_ref3_from t i)) →
        ∀ j, j ≤ n → ∀ M moved, M k = true → OK M0 M moved → (moved = false → Z ∧ ∀ x, x < j → nextB t (k : Int) x = true → M0 x = true) → Goes (T_ref3_from t i) (.jmp (.l17 (k : Int) (rowOf n (nextB t (k : Int))) moved (j : Int) (rowOf n M))) (v_ref3_from t i) := by
      intro k hkn Z hz
      refine down ?_ fun j hj ih2 => ?_
      · intro M moved hMk hok hcl
        rw [goes_jmp, T_ref3_from, goes_br, rowOf_length, if_neg (by rw [lt_len_not (Nat.lt_irrefl _)]; decide), wrap_succ (by omega)]
        exact hz M moved hok fun hm => ⟨(hcl hm).1, fun j hj => (hcl hm).2 j (by have := nextB_lt hj; omega) hj⟩
      · intro M moved hMk hok hcl
        rw [goes_jmp, T_ref3_from, goes_br, rowOf_length, if_pos (lt_len hj), goes_br, rowOf_length, if_pos (bound_len hj), goes_br, Int.toNat_natCast, rowOf_getD hj, wrap_succ (by omega)]
        by_cases hN : nextB t (k : Int) j = true
        · rw [if_pos hN, goes_br, if_pos (bound_len hj), goes_br, rowOf_getD hj]
          cases hMj : M j with
          | true =>
            rw [if_neg (by decide)]
            refine ih2 M moved hMk hok fun hm => ⟨(hcl hm).1, fun x hx hxN => ?_⟩
            by_cases hxj : x = j
            · subst hxj; rw [← hok.2.2.1 hm]; exact hMj
            · exact (hcl hm).2 x (by omega) hxN
          | false =>
            rw [if_pos (by decide), goes_br, if_pos (bound_len hj), rowOf_set]
            have hca := card_add hMj hj
            refine ih2 (fun x => M x || (x == j)) true (by rw [hMk]; rfl) ⟨fun x hx => (show (M x || (x == j)) = true by rw [hok.1 x hx]; rfl), fun x hx => ?_, fun h => (by cases h), fun _ => ?_⟩ (fun h => by cases h)
            · simp only [Bool.or_eq_true, beq_iff_eq] at hx
              rcases hx with hx | hx
              · exact hok.2.1 x hx
              · subst hx; exact .step (hok.2.1 k hMk) hN
            · cases moved with
              | true => have := hok.2.2.2 rfl; omega
              | false => rw [hok.2.2.1 rfl] at hca; rw [hok.2.2.1 rfl]; omega
        · rw [if_neg hN]
          refine ih2 M moved hMk hok fun hm => ⟨(hcl hm).1, fun x hx hxN => ?_⟩
          by_cases hxj : x = j
          · subst hxj; exact absurd hxN hN
          · exact (hcl hm).2 x (by omega) hxN
    have pass : ∀ k, k ≤ n → ∀ M moved, OK M0 M moved → (moved = false → ∀ k' j, k' < k → M0 k' = true → nextB t (k' : Int) j = true → M0 j = true) → Goes (T_ref3_from t i) (.jmp (.l9 (k : Int) moved (rowOf n M))) (v_ref3_from t i) := by
      refine down ?_ fun k hkn ih2 => ?_
      · intro M moved hok hcl
        rw [goes_jmp, T_ref3_from, goes_br, rowOf_length, if_neg (by rw [lt_len_not (Nat.lt_irrefl _)]; decide)]
        cases moved with
        | true =>
          have h1 := hok.2.2.2 rfl
          have h2 := @card_le n M
          exact ih (n - card n M) (by omega) M rfl hok.1 hok.2.1
        | false =>
          have e := hok.2.2.1 rfl
          subst e
          rw [goes_jmp, T_ref3_from, goes_br, if_neg (by decide)]
          have hv : rowOf n M = v_ref3_from t i := by
            unfold v_ref3_from fromB
            rw [hn]
            exact rowOf_congr fun j _ => comeB_eq hok.1 (fun k j hk hj => hcl rfl k j (hltM hok k hk) hk hj) hok.2.1 j
          rw [hv]; exact .leaf
      · intro M moved hok hcl
        rw [goes_jmp, T_ref3_from, goes_br, rowOf_length, if_pos (lt_len hkn), goes_br, if_pos (bound_len hkn), goes_br, Int.toNat_natCast, rowOf_getD hkn]
        cases hMk : M k with
        | false =>
          rw [if_pos (by decide), wrap_succ (by omega)]
          refine ih2 M moved hok fun hm k' j hk' hk1 hj => ?_
          by_cases e : k' = k
          · subst e; rw [← hok.2.2.1 hm, hMk] at hk1; cases hk1
          · exact hcl hm k' j (by omega) hk1 hj
        | true =>
          have kn : k_ref3_next t (k : Int) = true := hk
          rw [if_neg (by decide), goes_br, if_pos kn]
          have hvn : v_ref3_next t (k : Int) = rowOf n (nextB t (k : Int)) := by unfold v_ref3_next; rw [hn]
          rw [hvn]
          refine inner k hkn (∀ k' j, k' < k → M0 k' = true → nextB t (k' : Int) j = true → M0 j = true) (fun M' moved' hok' hcl' => ih2 M' moved' hok' fun hm k' j hk' hk1 hj => ?_) 0 (Nat.zero_le _) M moved hMk hok (fun hm => ⟨hcl hm, fun x hx => by omega⟩)
          by_cases e : k' = k
          · subst e; exact (hcl' hm).2 j hj
          · exact (hcl' hm).1 k' j (by omega) hk1 hj
    rw [goes_jmp, T_ref3_from, goes_br, if_pos rfl]
    exact pass 0 (Nat.zero_le _) M0 false ⟨hA, hC, fun _ => rfl, fun h => by cases h⟩ fun _ k' j h => by omega
  have kn : k_ref3_next t i = true := hk
  unfold T0_ref3_from
  rw [goes_br, if_pos kn]
  have hvn : v_ref3_next t i = rowOf n (nextB t i) := by unfold v_ref3_next; rw [hn]
  rw [hvn]
  exact loop _ (nextB t i) rfl (fun j h => h) (fun j h => .start h)
end Go.Ev
end

section
set_option linter.unusedSectionVars false
set_option linter.unusedVariables false
set_option linter.unusedSimpArgs false
set_option maxRecDepth 100000
set_option linter.unusedVariables false
open Go Go.Ev
namespace Go.Ev
noncomputable section
noncomputable def e_ref3_from : Run := entG sg_ref3_from R_ref3_from (fun a => k_ref3_from a.1 a.2.1) (fun a => v_ref3_from a.1 a.2.1)
theorem ok_ref3_from : EntOK Go.Proofs.Tryd.prog 47 e_ref3_from := entG_ok (tb := tb_ref3_from) (c := c_ref3_from) tk_ref3_from (by kernel_rfl) (by kernel_rfl) (by kernel_rfl) (fun a => by kernel_rfl) fun ⟨t, i, _⟩ hk => evF_goes (c := c_ref3_from) (K := fun v => (R_ref3_from v, tps (toForms sg_ref3_from (t, i, ())))) (S := S_ref3_from t i) (by kernel_rfl) (en_ref3_from t i) (lp_ref3_from t i) (g_ref3_from t i hk)
end
end Go.Ev
end

section
set_option linter.unusedSectionVars false
set_option linter.unusedVariables false
set_option linter.unusedSimpArgs false
set_option maxRecDepth 100000
set_option linter.unusedVariables false
open Go Go.Ev
namespace Go.Ev
noncomputable section
/-! ### paling/palingref3.Dead -/
def sg_ref3_Dead : Sig := [(true, (.sl T_api_Ins))]
noncomputable def t_ref3_Dead : Tbl := [(47, e_ref3_from), (19, e_ref3_List)]
theorem tk_ref3_Dead : ∀ p ∈ t_ref3_Dead, EntOK Go.Proofs.Tryd.prog p.1 p.2 := tbl_cons ok_ref3_from (tbl_cons ok_ref3_List (tbl_nil))
noncomputable def c_ref3_Dead : Code := Go.Proofs.Tryd.f32.body.getD .skip
def tb_ref3_Dead : Tb := [(4, ⟨[3, 4], []⟩)]
inductive J_ref3_Dead where
  | l4 (i : Int) (is : List Bool)
def T_ref3_Dead (t : List (El T_api_Ins)) : J_ref3_Dead → JT J_ref3_Dead (List Int)
  | .l4 i is =>
    .br (decide (i < (Int.ofNat (List.length is))))
      (.br (decide (i > (0 : Int)))
        (.br ((decide ((0 : Int) ≤ i)) && (decide (i < (Int.ofNat (List.length is)))))
          (.br ((decide ((0 : Int) ≤ i)) && (decide (i < (Int.ofNat (List.length is)))))
            (.jmp (.l4 (IntKind.i64.wrap (i + (1 : Int))) (List.set is (Int.toNat i) (! (List.getD is (Int.toNat i) (dflt .bool))))))
          (.no))
        (.no))
      (.br ((decide ((0 : Int) ≤ i)) && (decide (i < (Int.ofNat (List.length is)))))
        (.jmp (.l4 (IntKind.i64.wrap (i + (1 : Int))) (List.set is (Int.toNat i) false)))
      (.no)))
    (.br (k_ref3_List is)
      (.leaf (v_ref3_List is))
    (.no))
def T0_ref3_Dead (t : List (El T_api_Ins)) : JT J_ref3_Dead (List Int) :=
  .br (k_ref3_from t (0 : Int))
    (.jmp (.l4 (0 : Int) (v_ref3_from t (0 : Int))))
  (.no)
def R_ref3_Dead : List Int → AV := fun (r : List Int) => .rw 3 (.int .i64) r
def S_ref3_Dead (t : List (El T_api_Ins)) : J_ref3_Dead → Nat × St
  | .l4 i is => (4, ⟨mkTm 27 [(3, .own 4 0 none), (4, .d (.int .i64) i)], [(4, 0, .row 4 .bool is false)]⟩)
theorem en_ref3_Dead (t : List (El T_api_Ins)) (L : Lt) : entryA Go.Proofs.Tryd.prog (clOf t_ref3_Dead) tb_ref3_Dead Go.Proofs.Tryd.f32 c_ref3_Dead L (toForms sg_ref3_Dead (t, ())) = (T0_ref3_Dead t).run (fun v => some (R_ref3_Dead v, tps (toForms sg_ref3_Dead (t, ())))) fun j => L (S_ref3_Dead t j).1 (S_ref3_Dead t j).2 := by kernel_rfl
theorem lp_ref3_Dead (t : List (El T_api_Ins)) : ∀ (L : Lt) (j : J_ref3_Dead), procOf (procsF Go.Proofs.Tryd.prog (clOf t_ref3_Dead) tb_ref3_Dead Go.Proofs.Tryd.f32 c_ref3_Dead (toForms sg_ref3_Dead (t, ()))) (S_ref3_Dead t j).1 L (S_ref3_Dead t j).2 = (T_ref3_Dead t j).run (fun v => some (R_ref3_Dead v, tps (toForms sg_ref3_Dead (t, ())))) fun j => L (S_ref3_Dead t j).1 (S_ref3_Dead t j).2
  | L, .l4 i is => by kernel_rfl
end
end Go.Ev
end

section
set_option linter.unusedSectionVars false
set_option linter.unusedVariables false
set_option linter.unusedSimpArgs false
set_option maxRecDepth 100000
set_option linter.unusedVariables false
set_option linter.unusedSimpArgs false
open Go
namespace Go.Ev
theorem listFrom_row (M : Nat → Bool) : ∀ n k : Nat, listFrom k ((List.range' k n).map M) = ((List.range' k n).filter M).map Int.ofNat
  | 0, k => rfl
  | n + 1, k => by
    rw [List.range'_succ, List.map_cons, List.filter_cons]
    unfold listFrom
    rw [listFrom_row M n (k + 1)]
    cases M k <;> simp
theorem list_row {n : Nat} {M : Nat → Bool} : listFrom 0 (rowOf n M) = listOf n M := by
  have := listFrom_row M n 0
  unfold rowOf listOf
  rw [List.range_eq_range']
  exact this
noncomputable def v_ref3_Dead (t : List (El T_api_Ins)) : List Int := listOf t.length fun k => decide (0 < k) && !fromB t 0 k
def k_ref3_Dead (t : List (El T_api_Ins)) : Bool := flowOK t
theorem g_ref3_Dead (t : List (El T_api_Ins)) (hk : k_ref3_Dead t = true) : Goes (T_ref3_Dead t) (T0_ref3_Dead t) (v_ref3_Dead t) := by
  have hlen := flowOK_len hk
  have kf : k_ref3_from t 0 = true := hk
  generalize hn : t.length = n at hlen
  have loop : ∀ k, k ≤ n → Goes (T_ref3_Dead t) (.jmp (.l4 (k : Int) (rowOf n fun j => if j < k then (decide (0 < j) && !fromB t 0 j) else fromB t 0 j))) (v_ref3_Dead t) := by
    refine down ?_ fun k hkn ih => ?_
    · rw [goes_jmp, T_ref3_Dead, goes_br, rowOf_length, if_neg (by rw [lt_len_not (Nat.lt_irrefl _)]; decide)]
      have kl : k_ref3_List (rowOf n fun j => if j < n then (decide (0 < j) && !fromB t 0 j) else fromB t 0 j) = true := decide_eq_true (by rw [rowOf_length]; exact hlen)
      rw [goes_br, if_pos kl]
      have e : v_ref3_List (rowOf n fun j => if j < n then (decide (0 < j) && !fromB t 0 j) else fromB t 0 j) = v_ref3_Dead t := by
        show listFrom 0 _ = _
        rw [list_row]
        unfold v_ref3_Dead
        rw [hn]
        exact listOf_congr fun i hi => by rw [if_pos hi]
      rw [e]; exact .leaf
    · rw [goes_jmp, T_ref3_Dead, goes_br, rowOf_length, if_pos (lt_len hkn), goes_br, wrap_succ (by omega)]
      have nx : ∀ b, b = (decide (0 < k) && !fromB t 0 k) → Goes (T_ref3_Dead t) (.jmp (.l4 ((k + 1 : Nat) : Int) ((rowOf n fun j => if j < k then (decide (0 < j) && !fromB t 0 j) else fromB t 0 j).set k b))) (v_ref3_Dead t) := fun b hb => by
        rw [rowOf_put]
        rw [show (rowOf n fun j => if j = k then b else if j < k then (decide (0 < j) && !fromB t 0 j) else fromB t 0 j) = rowOf n fun j => if j < k + 1 then (decide (0 < j) && !fromB t 0 j) else fromB t 0 j from rowOf_congr fun j _ => by
          by_cases h1 : j = k
          · subst h1; rw [if_pos rfl, if_pos (by omega), hb]
          · rw [if_neg h1]
            by_cases h2 : j < k
            · rw [if_pos h2, if_pos (by omega)]
            · rw [if_neg h2, if_neg (by omega)]]
        exact ih
      by_cases h0 : k = 0
      · rw [if_neg (by simp; omega), goes_br, if_pos (bound_len hkn), Int.toNat_natCast]
        exact nx false (by simp [h0])
      · rw [if_pos (by simp; omega), goes_br, if_pos (bound_len hkn), goes_br, if_pos (bound_len hkn), Int.toNat_natCast, rowOf_getD hkn, if_neg (by omega)]
        exact nx _ (by rw [decide_eq_true (by omega), Bool.true_and])
  unfold T0_ref3_Dead
  rw [goes_br, if_pos kf]
  have hv : v_ref3_from t 0 = rowOf n fun j => if j < 0 then (decide (0 < j) && !fromB t 0 j) else fromB t 0 j := by
    unfold v_ref3_from
    rw [hn]
    exact rowOf_congr fun j _ => by rw [if_neg (by omega)]
  rw [hv]
  exact loop 0 (Nat.zero_le _)
end Go.Ev
end

section
set_option linter.unusedSectionVars false
set_option linter.unusedVariables false
set_option linter.unusedSimpArgs false
/- The first call's text of law20_alive. -/
set_option maxRecDepth 100000
open Go
namespace Go.Ev
noncomputable section
def lit_law20_alive : List (El T_api_Ins) := [((13 : Int), (false, ((0 : Int), (((0 : Int), ((0 : Int), ((0 : Int), (0 : Int)))), (((0 : Int), ((0 : Int), ((0 : Int), (0 : Int)))), ((bs []), [(bs [97])])))))), ((10 : Int), (false, ((0 : Int), (((0 : Int), ((0 : Int), ((0 : Int), (0 : Int)))), (((0 : Int), ((0 : Int), ((0 : Int), (0 : Int)))), ((bs [97]), [])))))), ((14 : Int), (false, ((0 : Int), (((0 : Int), ((0 : Int), ((0 : Int), (0 : Int)))), (((0 : Int), ((0 : Int), ((0 : Int), (0 : Int)))), ((bs []), []))))))]
def ka_law20_alive (t : List (El T_api_Ins)) : Bool :=
  bif (k_flow_Next t (1 : Int)) then
    bif (k_book_SameInts (v_flow_Next t (1 : Int)) [(0 : Int)]) then
      bif (v_book_SameInts (v_flow_Next t (1 : Int)) [(0 : Int)]) then
        bif (k_flow_From t (0 : Int)) then
          bif (k_book_SameInts (v_flow_From t (0 : Int)) [(0 : Int), (1 : Int)]) then
            bif (v_book_SameInts (v_flow_From t (0 : Int)) [(0 : Int), (1 : Int)]) then
              bif (k_flow_Dead t) then
                bif (k_book_SameInts (v_flow_Dead t) [(2 : Int)]) then
                  bif (v_book_SameInts (v_flow_Dead t) [(2 : Int)]) then
                    bif (k_flow_Next t (3 : Int)) then
                      true
                    else false
                  else true
                else false
              else false
            else true
          else false
        else false
      else true
    else false
  else false
def va_law20_alive (t : List (El T_api_Ins)) : Bool :=
  bif (k_flow_Next t (1 : Int)) then
    bif (k_book_SameInts (v_flow_Next t (1 : Int)) [(0 : Int)]) then
      bif (v_book_SameInts (v_flow_Next t (1 : Int)) [(0 : Int)]) then
        bif (k_flow_From t (0 : Int)) then
          bif (k_book_SameInts (v_flow_From t (0 : Int)) [(0 : Int), (1 : Int)]) then
            bif (v_book_SameInts (v_flow_From t (0 : Int)) [(0 : Int), (1 : Int)]) then
              bif (k_flow_Dead t) then
                bif (k_book_SameInts (v_flow_Dead t) [(2 : Int)]) then
                  bif (v_book_SameInts (v_flow_Dead t) [(2 : Int)]) then
                    bif (k_flow_Next t (3 : Int)) then
                      ((Int.ofNat (List.length (v_flow_Next t (3 : Int)))) == (0 : Int))
                    else false
                  else false
                else false
              else false
            else false
          else false
        else false
      else false
    else false
  else false
theorem ka_law20_alive_eq : k_law20_alive = ka_law20_alive lit_law20_alive := rfl
theorem va_law20_alive_eq : v_law20_alive = va_law20_alive lit_law20_alive := rfl
end
end Go.Ev
end

section
set_option linter.unusedSectionVars false
set_option linter.unusedVariables false
set_option linter.unusedSimpArgs false
set_option maxRecDepth 100000
set_option linter.unusedVariables false
open Go Go.Ev
namespace Go.Ev
noncomputable section
/-! ### paling/palingref3.Next -/
def sg_ref3_Next : Sig := [(true, (.sl T_api_Ins)), (false, (.int .i64))]
noncomputable def t_ref3_Next : Tbl := [(46, e_ref3_next), (19, e_ref3_List)]
theorem tk_ref3_Next : ∀ p ∈ t_ref3_Next, EntOK Go.Proofs.Tryd.prog p.1 p.2 := tbl_cons ok_ref3_next (tbl_cons ok_ref3_List (tbl_nil))
noncomputable def c_ref3_Next : Code := Go.Proofs.Tryd.f30.body.getD .skip
def tb_ref3_Next : Tb := []
def T_ref3_Next (t : List (El T_api_Ins)) (i : Int) : Empty → JT Empty (List Int) := fun j => nomatch j
def T0_ref3_Next (t : List (El T_api_Ins)) (i : Int) : JT Empty (List Int) :=
  .br (k_ref3_next t i)
    (.br (k_ref3_List (v_ref3_next t i))
      (.leaf (v_ref3_List (v_ref3_next t i)))
    (.no))
  (.no)
def v_ref3_Next (t : List (El T_api_Ins)) (i : Int) : List Int :=
  bif (k_ref3_next t i) then
    bif (k_ref3_List (v_ref3_next t i)) then
      (v_ref3_List (v_ref3_next t i))
    else []
  else []
def k_ref3_Next (t : List (El T_api_Ins)) (i : Int) : Bool :=
  bif (k_ref3_next t i) then
    bif (k_ref3_List (v_ref3_next t i)) then
      true
    else false
  else false
theorem g_ref3_Next (t : List (El T_api_Ins)) (i : Int) (hk : k_ref3_Next t i = true) : Goes (T_ref3_Next t i) (T0_ref3_Next t i) (v_ref3_Next t i) :=
  Goes.brk hk (fun hk =>
    Goes.brk hk (fun hk =>
      Goes.leaf) (fun hk =>
      Goes.nok hk)) (fun hk =>
    Goes.nok hk)
def R_ref3_Next : List Int → AV := fun (r : List Int) => .rw 3 (.int .i64) r
def S_ref3_Next (t : List (El T_api_Ins)) (i : Int) : Empty → Nat × St := fun j => nomatch j
theorem en_ref3_Next (t : List (El T_api_Ins)) (i : Int) (L : Lt) : entryA Go.Proofs.Tryd.prog (clOf t_ref3_Next) tb_ref3_Next Go.Proofs.Tryd.f30 c_ref3_Next L (toForms sg_ref3_Next (t, i, ())) = (T0_ref3_Next t i).run (fun v => some (R_ref3_Next v, tps (toForms sg_ref3_Next (t, i, ())))) fun j => L (S_ref3_Next t i j).1 (S_ref3_Next t i j).2 := by kernel_rfl
theorem lp_ref3_Next (t : List (El T_api_Ins)) (i : Int) : ∀ (L : Lt) (j : Empty), procOf (procsF Go.Proofs.Tryd.prog (clOf t_ref3_Next) tb_ref3_Next Go.Proofs.Tryd.f30 c_ref3_Next (toForms sg_ref3_Next (t, i, ()))) (S_ref3_Next t i j).1 L (S_ref3_Next t i j).2 = (T_ref3_Next t i j).run (fun v => some (R_ref3_Next v, tps (toForms sg_ref3_Next (t, i, ())))) fun j => L (S_ref3_Next t i j).1 (S_ref3_Next t i j).2 := fun L j => nomatch j
noncomputable def e_ref3_Next : Run := entG sg_ref3_Next R_ref3_Next (fun a => k_ref3_Next a.1 a.2.1) (fun a => v_ref3_Next a.1 a.2.1)
theorem ok_ref3_Next : EntOK Go.Proofs.Tryd.prog 30 e_ref3_Next := entG_ok (tb := tb_ref3_Next) (c := c_ref3_Next) tk_ref3_Next (by kernel_rfl) (by kernel_rfl) (by kernel_rfl) (fun a => by kernel_rfl) fun ⟨t, i, _⟩ hk => evF_goes (c := c_ref3_Next) (K := fun v => (R_ref3_Next v, tps (toForms sg_ref3_Next (t, i, ())))) (S := S_ref3_Next t i) (by kernel_rfl) (en_ref3_Next t i) (lp_ref3_Next t i) (g_ref3_Next t i hk)
end
end Go.Ev
end

section
set_option linter.unusedSectionVars false
set_option linter.unusedVariables false
set_option linter.unusedSimpArgs false
set_option maxRecDepth 100000
set_option linter.unusedVariables false
open Go Go.Ev
namespace Go.Ev
noncomputable section
/-! ### paling/palingref3.From -/
def sg_ref3_From : Sig := [(true, (.sl T_api_Ins)), (false, (.int .i64))]
noncomputable def t_ref3_From : Tbl := [(47, e_ref3_from), (19, e_ref3_List)]
theorem tk_ref3_From : ∀ p ∈ t_ref3_From, EntOK Go.Proofs.Tryd.prog p.1 p.2 := tbl_cons ok_ref3_from (tbl_cons ok_ref3_List (tbl_nil))
noncomputable def c_ref3_From : Code := Go.Proofs.Tryd.f31.body.getD .skip
def tb_ref3_From : Tb := []
def T_ref3_From (t : List (El T_api_Ins)) (i : Int) : Empty → JT Empty (List Int) := fun j => nomatch j
def T0_ref3_From (t : List (El T_api_Ins)) (i : Int) : JT Empty (List Int) :=
  .br (k_ref3_from t i)
    (.br (k_ref3_List (v_ref3_from t i))
      (.leaf (v_ref3_List (v_ref3_from t i)))
    (.no))
  (.no)
def v_ref3_From (t : List (El T_api_Ins)) (i : Int) : List Int :=
  bif (k_ref3_from t i) then
    bif (k_ref3_List (v_ref3_from t i)) then
      (v_ref3_List (v_ref3_from t i))
    else []
  else []
def k_ref3_From (t : List (El T_api_Ins)) (i : Int) : Bool :=
  bif (k_ref3_from t i) then
    bif (k_ref3_List (v_ref3_from t i)) then
      true
    else false
  else false
theorem g_ref3_From (t : List (El T_api_Ins)) (i : Int) (hk : k_ref3_From t i = true) : Goes (T_ref3_From t i) (T0_ref3_From t i) (v_ref3_From t i) :=
  Goes.brk hk (fun hk =>
    Goes.brk hk (fun hk =>
      Goes.leaf) (fun hk =>
      Goes.nok hk)) (fun hk =>
    Goes.nok hk)
def R_ref3_From : List Int → AV := fun (r : List Int) => .rw 3 (.int .i64) r
def S_ref3_From (t : List (El T_api_Ins)) (i : Int) : Empty → Nat × St := fun j => nomatch j
theorem en_ref3_From (t : List (El T_api_Ins)) (i : Int) (L : Lt) : entryA Go.Proofs.Tryd.prog (clOf t_ref3_From) tb_ref3_From Go.Proofs.Tryd.f31 c_ref3_From L (toForms sg_ref3_From (t, i, ())) = (T0_ref3_From t i).run (fun v => some (R_ref3_From v, tps (toForms sg_ref3_From (t, i, ())))) fun j => L (S_ref3_From t i j).1 (S_ref3_From t i j).2 := by kernel_rfl
theorem lp_ref3_From (t : List (El T_api_Ins)) (i : Int) : ∀ (L : Lt) (j : Empty), procOf (procsF Go.Proofs.Tryd.prog (clOf t_ref3_From) tb_ref3_From Go.Proofs.Tryd.f31 c_ref3_From (toForms sg_ref3_From (t, i, ()))) (S_ref3_From t i j).1 L (S_ref3_From t i j).2 = (T_ref3_From t i j).run (fun v => some (R_ref3_From v, tps (toForms sg_ref3_From (t, i, ())))) fun j => L (S_ref3_From t i j).1 (S_ref3_From t i j).2 := fun L j => nomatch j
noncomputable def e_ref3_From : Run := entG sg_ref3_From R_ref3_From (fun a => k_ref3_From a.1 a.2.1) (fun a => v_ref3_From a.1 a.2.1)
theorem ok_ref3_From : EntOK Go.Proofs.Tryd.prog 31 e_ref3_From := entG_ok (tb := tb_ref3_From) (c := c_ref3_From) tk_ref3_From (by kernel_rfl) (by kernel_rfl) (by kernel_rfl) (fun a => by kernel_rfl) fun ⟨t, i, _⟩ hk => evF_goes (c := c_ref3_From) (K := fun v => (R_ref3_From v, tps (toForms sg_ref3_From (t, i, ())))) (S := S_ref3_From t i) (by kernel_rfl) (en_ref3_From t i) (lp_ref3_From t i) (g_ref3_From t i hk)
end
end Go.Ev
end

section
set_option linter.unusedSectionVars false
set_option linter.unusedVariables false
set_option linter.unusedSimpArgs false
set_option maxRecDepth 100000
set_option linter.unusedVariables false
open Go Go.Ev
namespace Go.Ev
noncomputable section
noncomputable def e_ref3_Dead : Run := entG sg_ref3_Dead R_ref3_Dead (fun a => k_ref3_Dead a.1) (fun a => v_ref3_Dead a.1)
theorem ok_ref3_Dead : EntOK Go.Proofs.Tryd.prog 32 e_ref3_Dead := entG_ok (tb := tb_ref3_Dead) (c := c_ref3_Dead) tk_ref3_Dead (by kernel_rfl) (by kernel_rfl) (by kernel_rfl) (fun a => by kernel_rfl) fun ⟨t, _⟩ hk => evF_goes (c := c_ref3_Dead) (K := fun v => (R_ref3_Dead v, tps (toForms sg_ref3_Dead (t, ())))) (S := S_ref3_Dead t) (by kernel_rfl) (en_ref3_Dead t) (lp_ref3_Dead t) (g_ref3_Dead t hk)
end
end Go.Ev
end

section
set_option linter.unusedSectionVars false
set_option linter.unusedVariables false
set_option linter.unusedSimpArgs false
set_option maxRecDepth 100000
set_option linter.unusedVariables false
open Go Go.Ev
namespace Go.Ev
noncomputable section
/-! ### paling/palinglaw20.tells -/
def sg_law20_tells : Sig := [(true, (.sl T_api_Ins)), (false, (.int .i64))]
noncomputable def t_law20_tells : Tbl := [(16, e_flow_Next), (30, e_ref3_Next), (18, e_book_SameInts), (17, e_flow_From), (31, e_ref3_From), (20, e_flow_Dead), (32, e_ref3_Dead)]
theorem tk_law20_tells : ∀ p ∈ t_law20_tells, EntOK Go.Proofs.Tryd.prog p.1 p.2 := tbl_cons ok_flow_Next (tbl_cons ok_ref3_Next (tbl_cons ok_book_SameInts (tbl_cons ok_flow_From (tbl_cons ok_ref3_From (tbl_cons ok_flow_Dead (tbl_cons ok_ref3_Dead (tbl_nil)))))))
noncomputable def c_law20_tells : Code := Go.Proofs.Tryd.f13.body.getD .skip
def tb_law20_tells : Tb := []
def T_law20_tells (t : List (El T_api_Ins)) (i : Int) : Empty → JT Empty (Bool) := fun j => nomatch j
def T0_law20_tells (t : List (El T_api_Ins)) (i : Int) : JT Empty (Bool) :=
  .br (k_flow_Next t i)
    (.br (k_ref3_Next t i)
      (.br (k_book_SameInts (v_flow_Next t i) (v_ref3_Next t i))
        (.br (v_book_SameInts (v_flow_Next t i) (v_ref3_Next t i))
          (.br (k_flow_From t i)
            (.br (k_ref3_From t i)
              (.br (k_book_SameInts (v_flow_From t i) (v_ref3_From t i))
                (.br (v_book_SameInts (v_flow_From t i) (v_ref3_From t i))
                  (.br (k_flow_Dead t)
                    (.br (k_ref3_Dead t)
                      (.br (k_book_SameInts (v_flow_Dead t) (v_ref3_Dead t))
                        (.leaf (v_book_SameInts (v_flow_Dead t) (v_ref3_Dead t)))
                      (.no))
                    (.no))
                  (.no))
                (.leaf false))
              (.no))
            (.no))
          (.no))
        (.leaf false))
      (.no))
    (.no))
  (.no)
def v_law20_tells (t : List (El T_api_Ins)) (i : Int) : Bool :=
  bif (k_flow_Next t i) then
    bif (k_ref3_Next t i) then
      bif (k_book_SameInts (v_flow_Next t i) (v_ref3_Next t i)) then
        bif (v_book_SameInts (v_flow_Next t i) (v_ref3_Next t i)) then
          bif (k_flow_From t i) then
            bif (k_ref3_From t i) then
              bif (k_book_SameInts (v_flow_From t i) (v_ref3_From t i)) then
                bif (v_book_SameInts (v_flow_From t i) (v_ref3_From t i)) then
                  bif (k_flow_Dead t) then
                    bif (k_ref3_Dead t) then
                      bif (k_book_SameInts (v_flow_Dead t) (v_ref3_Dead t)) then
                        (v_book_SameInts (v_flow_Dead t) (v_ref3_Dead t))
                      else false
                    else false
                  else false
                else false
              else false
            else false
          else false
        else false
      else false
    else false
  else false
def k_law20_tells (t : List (El T_api_Ins)) (i : Int) : Bool :=
  bif (k_flow_Next t i) then
    bif (k_ref3_Next t i) then
      bif (k_book_SameInts (v_flow_Next t i) (v_ref3_Next t i)) then
        bif (v_book_SameInts (v_flow_Next t i) (v_ref3_Next t i)) then
          bif (k_flow_From t i) then
            bif (k_ref3_From t i) then
              bif (k_book_SameInts (v_flow_From t i) (v_ref3_From t i)) then
                bif (v_book_SameInts (v_flow_From t i) (v_ref3_From t i)) then
                  bif (k_flow_Dead t) then
                    bif (k_ref3_Dead t) then
                      bif (k_book_SameInts (v_flow_Dead t) (v_ref3_Dead t)) then
                        true
                      else false
                    else false
                  else false
                else true
              else false
            else false
          else false
        else true
      else false
    else false
  else false
theorem g_law20_tells (t : List (El T_api_Ins)) (i : Int) (hk : k_law20_tells t i = true) : Goes (T_law20_tells t i) (T0_law20_tells t i) (v_law20_tells t i) :=
  Goes.brk hk (fun hk =>
    Goes.brk hk (fun hk =>
      Goes.brk hk (fun hk =>
        Goes.brk hk (fun hk =>
          Goes.brk hk (fun hk =>
            Goes.brk hk (fun hk =>
              Goes.brk hk (fun hk =>
                Goes.brk hk (fun hk =>
                  Goes.brk hk (fun hk =>
                    Goes.brk hk (fun hk =>
                      Goes.brk hk (fun hk =>
                        Goes.leaf) (fun hk =>
                        Goes.nok hk)) (fun hk =>
                      Goes.nok hk)) (fun hk =>
                    Goes.nok hk)) (fun hk =>
                  Goes.leaf)) (fun hk =>
                Goes.nok hk)) (fun hk =>
              Goes.nok hk)) (fun hk =>
            Goes.nok hk)) (fun hk =>
          Goes.leaf)) (fun hk =>
        Goes.nok hk)) (fun hk =>
      Goes.nok hk)) (fun hk =>
    Goes.nok hk)
def R_law20_tells : Bool → AV := fun (r : Bool) => .d .bool r
def S_law20_tells (t : List (El T_api_Ins)) (i : Int) : Empty → Nat × St := fun j => nomatch j
theorem en_law20_tells (t : List (El T_api_Ins)) (i : Int) (L : Lt) : entryA Go.Proofs.Tryd.prog (clOf t_law20_tells) tb_law20_tells Go.Proofs.Tryd.f13 c_law20_tells L (toForms sg_law20_tells (t, i, ())) = (T0_law20_tells t i).run (fun v => some (R_law20_tells v, tps (toForms sg_law20_tells (t, i, ())))) fun j => L (S_law20_tells t i j).1 (S_law20_tells t i j).2 := by kernel_rfl
theorem lp_law20_tells (t : List (El T_api_Ins)) (i : Int) : ∀ (L : Lt) (j : Empty), procOf (procsF Go.Proofs.Tryd.prog (clOf t_law20_tells) tb_law20_tells Go.Proofs.Tryd.f13 c_law20_tells (toForms sg_law20_tells (t, i, ()))) (S_law20_tells t i j).1 L (S_law20_tells t i j).2 = (T_law20_tells t i j).run (fun v => some (R_law20_tells v, tps (toForms sg_law20_tells (t, i, ())))) fun j => L (S_law20_tells t i j).1 (S_law20_tells t i j).2 := fun L j => nomatch j
noncomputable def e_law20_tells : Run := entG sg_law20_tells R_law20_tells (fun a => k_law20_tells a.1 a.2.1) (fun a => v_law20_tells a.1 a.2.1)
theorem ok_law20_tells : EntOK Go.Proofs.Tryd.prog 13 e_law20_tells := entG_ok (tb := tb_law20_tells) (c := c_law20_tells) tk_law20_tells (by kernel_rfl) (by kernel_rfl) (by kernel_rfl) (fun a => by kernel_rfl) fun ⟨t, i, _⟩ hk => evF_goes (c := c_law20_tells) (K := fun v => (R_law20_tells v, tps (toForms sg_law20_tells (t, i, ())))) (S := S_law20_tells t i) (by kernel_rfl) (en_law20_tells t i) (lp_law20_tells t i) (g_law20_tells t i hk)
theorem co_law20_tells (t : List (El T_api_Ins)) (i : Int) (hk : k_law20_tells t i = true) : CallOK Go.Proofs.Tryd.prog 13 (toForms sg_law20_tells (t, i, ())) (R_law20_tells (v_law20_tells t i), tps (toForms sg_law20_tells (t, i, ()))) := by
  obtain ⟨h1, h2⟩ := clOf_ok tk_law20_tells
  obtain ⟨n, hn⟩ := evF_goes (c := c_law20_tells) (K := fun v => (R_law20_tells v, tps (toForms sg_law20_tells (t, i, ())))) (S := S_law20_tells t i) (by kernel_rfl) (en_law20_tells t i) (lp_law20_tells t i) (g_law20_tells t i hk)
  exact evF_sound (f := 13) (c := c_law20_tells) h1 h2 (by kernel_rfl) (by kernel_rfl) (by kernel_rfl) hn
end
end Go.Ev
end

section
set_option linter.unusedSectionVars false
set_option linter.unusedVariables false
set_option linter.unusedSimpArgs false
/- Chapter 20: both texts tell the same. -/
set_option maxRecDepth 100000
set_option linter.unusedVariables false
set_option linter.unusedSimpArgs false
open Go
namespace Go.Ev
theorem small_flow {t : List (El T_api_Ins)} (h : smallThread t = true) : flowOK t = true := by
  unfold smallThread at h
  simp only [Bool.and_eq_true, List.all_eq_true, decide_eq_true_eq] at h
  unfold flowOK
  simp only [Bool.and_eq_true, List.all_eq_true, decide_eq_true_eq]
  refine ⟨h.1, fun i hi => ⟨(h.2.2 i hi).1, ?_⟩⟩
  have := labels_mem hi
  omega
theorem refNext_eq {t : List (El T_api_Ins)} (h : flowOK t = true) (i : Int) : k_ref3_Next t i = true ∧ v_ref3_Next t i = v_flow_Next t i := by
  have k1 : k_ref3_next t i = true := h
  have k2 : k_ref3_List (v_ref3_next t i) = true := decide_eq_true (by unfold v_ref3_next; rw [rowOf_length]; exact flowOK_len h)
  unfold k_ref3_Next v_ref3_Next
  rw [k1, k2]
  exact ⟨rfl, list_row⟩
theorem refFrom_eq {t : List (El T_api_Ins)} (h : flowOK t = true) (i : Int) : k_ref3_From t i = true ∧ v_ref3_From t i = v_flow_From t i := by
  have k1 : k_ref3_from t i = true := h
  have k2 : k_ref3_List (v_ref3_from t i) = true := decide_eq_true (by unfold v_ref3_from; rw [rowOf_length]; exact flowOK_len h)
  unfold k_ref3_From v_ref3_From
  rw [k1, k2]
  exact ⟨rfl, list_row⟩
theorem same_ints {l : List Int} (h : l.length < 4611686018427387904) : k_book_SameInts l l = true ∧ v_book_SameInts l l = true := ⟨decide_eq_true h, decide_eq_true rfl⟩
theorem listOf_short {n : Nat} {M : Nat → Bool} : (listOf n M).length ≤ n := by rw [listOf_length]; exact card_le
theorem tells20 {t : List (El T_api_Ins)} (h : flowOK t = true) (i : Int) : k_law20_tells t i = true ∧ v_law20_tells t i = true := by
  have hl := flowOK_len h
  have a1 : k_flow_Next t i = true := h
  have a2 : k_flow_From t i = true := h
  have a3 : k_flow_Dead t = true := h
  have a4 : k_ref3_Dead t = true := h
  obtain ⟨b1, b2⟩ := refNext_eq h i
  obtain ⟨c1, c2⟩ := refFrom_eq h i
  have d : v_ref3_Dead t = v_flow_Dead t := rfl
  obtain ⟨e1, e2⟩ := @same_ints (v_flow_Next t i) (by have := @listOf_short t.length (nextB t i); unfold v_flow_Next; omega)
  obtain ⟨f1, f2⟩ := @same_ints (v_flow_From t i) (by have := @listOf_short t.length (fromB t i); unfold v_flow_From; omega)
  obtain ⟨g1, g2⟩ := @same_ints (v_flow_Dead t) (by have := @listOf_short t.length (deadB t); unfold v_flow_Dead; omega)
  unfold k_law20_tells v_law20_tells
  simp only [a1, a2, a3, a4, b1, b2, c1, c2, d, e1, e2, f1, f2, g1, g2, cond_true, and_self]
theorem alive20 : k_law20_alive = true ∧ v_law20_alive = true := by
  rw [ka_law20_alive_eq, va_law20_alive_eq]
  have hk : flowOK lit_law20_alive = true := by decide +kernel
  have a1 : k_flow_Next lit_law20_alive 1 = true := hk
  have a2 : k_flow_From lit_law20_alive 0 = true := hk
  have a3 : k_flow_Dead lit_law20_alive = true := hk
  have a4 : k_flow_Next lit_law20_alive 3 = true := hk
  have e1 : v_flow_Next lit_law20_alive 1 = [0] := by decide +kernel
  have e4 : v_flow_Next lit_law20_alive 3 = [] := by decide +kernel
  have n0 : ∀ j, j < 3 → nextB lit_law20_alive ((0 : Nat) : Int) j = decide (j = 1) := by decide +kernel
  have n1 : ∀ j, j < 3 → nextB lit_law20_alive ((1 : Nat) : Int) j = decide (j = 0) := by decide +kernel
  have n2 : ∀ j, j < 3 → nextB lit_law20_alive ((2 : Nat) : Int) j = false := by decide +kernel
  have hl3 : lit_law20_alive.length = 3 := rfl
  have hlt : ∀ (k j : Nat), nextB lit_law20_alive (k : Int) j = true → j < 3 ∧ k < 3 := fun k j h => by
    refine ⟨nextB_lt h, ?_⟩
    unfold nextB at h
    rw [Bool.and_eq_true] at h
    have := (of_decide_eq_true h.1).2.1
    rw [hl3] at this
    omega
  have hf : ∀ j, fromB lit_law20_alive 0 j = decide (j < 2) := fun j => by
    refine (comeB_eq (M := fun j => decide (j < 2)) (fun j hj => ?_) (fun k j hk hj => ?_) (fun j hj => ?_) j).symm
    · have h3 := (hlt 0 j hj).1
      have := n0 j h3
      rw [show nextB lit_law20_alive ((0 : Nat) : Int) j = true from hj] at this
      have : j = 1 := by simpa using this.symm
      subst this; rfl
    · have h3 := hlt k j hj
      have hk2 : k < 2 := of_decide_eq_true hk
      have : k = 0 ∨ k = 1 := by omega
      rcases this with rfl | rfl
      · rw [n0 j h3.1] at hj; have : j = 1 := of_decide_eq_true hj; subst this; rfl
      · rw [n1 j h3.1] at hj; have : j = 0 := of_decide_eq_true hj; subst this; rfl
    · have h2 : j < 2 := of_decide_eq_true hj
      have s1 : Come (fun k j => nextB lit_law20_alive (k : Int) j) (nextB lit_law20_alive 0) 1 := .start (n0 1 (by omega))
      have : j = 0 ∨ j = 1 := by omega
      rcases this with rfl | rfl
      · exact .step s1 (n1 0 (by omega))
      · exact s1
  have e2 : v_flow_From lit_law20_alive 0 = [0, 1] := by
    unfold v_flow_From
    rw [show fromB lit_law20_alive 0 = fun j => decide (j < 2) from funext hf, hl3]
    rfl
  have e3 : v_flow_Dead lit_law20_alive = [2] := by
    unfold v_flow_Dead
    rw [show deadB lit_law20_alive = fun j => decide (0 < j) && !decide (j < 2) from funext fun j => by unfold deadB; rw [hf j], hl3]
    rfl
  unfold ka_law20_alive va_law20_alive
  rw [a1, a2, a3, a4, e1, e2, e3, e4]
  exact ⟨by decide +kernel, by decide +kernel⟩
end Go.Ev
end

section
set_option linter.unusedSectionVars false
set_option linter.unusedVariables false
set_option linter.unusedSimpArgs false
/- The programs that the book makes may be. -/
set_option maxRecDepth 100000
set_option linter.unusedVariables false
set_option linter.unusedSimpArgs false
namespace Go.Ev
open Go
theorem setL_right (i : El T_api_Ins) (ls : List ByteArray) : v_ins_Right (setL i ls) = v_ins_Right i := rfl
theorem setL_to (i : El T_api_Ins) (ls : List ByteArray) : (setL i ls).2.2.2.2.2.1 = i.2.2.2.2.2.1 := rfl
theorem place_book {th : List (List (El T_api_Ins))} {k r s n : Int} (h : k = 3 ∨ k = 4 → placeOK k s n = true) : placeC (symsB, th) (k, (r, (s, n))) = 0 := by
  show placeN 3 _ k s n = 0
  unfold placeN
  by_cases hk : k = 3 ∨ k = 4
  · rw [if_pos hk]
    have := h hk
    unfold placeOK at this
    simp only [Bool.and_eq_true, decide_eq_true_eq, Bool.or_eq_true, beq_iff_eq] at this
    obtain ⟨h0, h3, hn⟩ := this
    rw [if_neg (by omega)]
    have hs : s = 0 ∨ s = 1 ∨ s = 2 := by omega
    rcases hs with rfl | rfl | rfl
    · rw [if_neg]
      rintro ⟨h1, h2⟩
      have h2 : (1 : Int) ≤ n := h2
      rcases hn with hn | hn
      · omega
      · have hn : n < (1 : Int) := hn
        omega
    · rw [if_neg]
      rintro ⟨h1, h2⟩
      have h2 : (2 : Int) ≤ n := h2
      rcases hn with hn | hn
      · omega
      · have hn : n < (2 : Int) := hn
        omega
    · rw [if_neg]
      rintro ⟨h1, h2⟩
      have h2 : (1 : Int) ≤ n := h2
      rcases hn with hn | hn
      · omega
      · have hn : n < (1 : Int) := hn
        omega
  · rw [if_neg hk]
theorem insC_book {th : List (List (El T_api_Ins))} {many : Int} {i : El T_api_Ins} (h : BookOK many i) (ls : List ByteArray) : insC (symsB, th) (setL i ls) = 0 := by
  have hA : placeC (symsB, th) i.2.2.2.1 = 0 := place_book (k := i.2.2.2.1.1) (r := i.2.2.2.1.2.1) (s := i.2.2.2.1.2.2.1) (n := i.2.2.2.1.2.2.2) h.placeA
  have hB : placeC (symsB, th) i.2.2.2.2.1 = 0 := place_book (k := i.2.2.2.2.1.1) (r := i.2.2.2.2.1.2.1) (s := i.2.2.2.2.1.2.2.1) (n := i.2.2.2.2.1.2.2.2) h.placeB
  unfold insC
  rw [setL_right, h.right]
  show (if (0 : Int) ≠ 0 then _ else if placeC (symsB, th) i.2.2.2.1 ≠ 0 then _ else placeC (symsB, th) i.2.2.2.2.1) = 0
  rw [hA, hB]
  rfl
theorem scanI_lab {p : El T_api_Prog} {K : List ByteArray → Int} : ∀ (x : List (El T_api_Ins)) (k : Nat) (seen : List ByteArray),
    (∀ (j : Nat) (i : El T_api_Ins), x[j]? = some i → (i.2.2.2.2.2.2 = [] ∨ i.2.2.2.2.2.2 = [v_book_label ((k + j : Nat) : Int)]) ∧ insC p i = 0) → (∀ l ∈ seen, ∃ k', k' < k ∧ l = v_book_label (k' : Int)) → k + x.length ≤ 100 → scanI p K seen x = K (seen ++ labels x)
  | [], k, seen, _, _, _ => by simp [scanI, labels]
  | i :: r, k, seen, h, hs, hk => by
    obtain ⟨hl, hi⟩ := h 0 i rfl
    rw [List.length_cons] at hk
    have hr := fun seen' hs' => scanI_lab (K := K) r (k + 1) seen' (fun j y hy => by
      have := h (j + 1) y (by simpa using hy)
      rwa [show k + (j + 1) = k + 1 + j by omega] at this) hs' (by omega)
    unfold scanI
    rcases hl with hl | hl
    · rw [hl]
      unfold scanL
      rw [hi]
      simp only [ne_eq, not_true_eq_false, if_false]
      rw [hr seen fun l hl => by obtain ⟨k', h1, h2⟩ := hs l hl; exact ⟨k', by omega, h2⟩]
      unfold labels
      rw [List.flatMap_cons, hl, List.nil_append]
    · rw [hl, Nat.add_zero]
      unfold scanL
      rw [if_neg (by rw [(label_right (k := (k : Int)) (by omega) (by omega)).1]; decide)]
      have hns : seen.contains (v_book_label (k : Int)) = false := by
        rw [Bool.eq_false_iff]
        intro hc
        rw [List.contains_iff_mem] at hc
        obtain ⟨k', h1, h2⟩ := hs _ hc
        have := label_inj (by omega) (by omega) h2
        omega
      rw [if_neg (by rw [hns]; decide)]
      unfold scanL
      rw [hi]
      simp only [ne_eq, not_true_eq_false, if_false]
      rw [hr _ fun l hl => by
        rcases List.mem_append.1 hl with hl | hl
        · obtain ⟨k', h1, h2⟩ := hs l hl; exact ⟨k', by omega, h2⟩
        · rw [List.mem_singleton] at hl; exact ⟨k, by omega, hl⟩]
      unfold labels
      rw [List.flatMap_cons, hl, Nat.add_zero, List.append_assoc]
theorem jumpC_lab {seen : List ByteArray} : ∀ {x : List (El T_api_Ins)}, (∀ i ∈ x, ((i.1 == (10 : Int)) || (i.1 == (11 : Int))) = true → seen.contains i.2.2.2.2.2.1 = true) → jumpC seen x = 0
  | [], _ => rfl
  | i :: r, h => by
    unfold jumpC
    have ih := jumpC_lab fun j hj => h j (List.mem_cons_of_mem _ hj)
    by_cases hj : ((i.1 == (10 : Int)) || (i.1 == (11 : Int))) = true
    · rw [if_pos hj, if_pos (h i (List.mem_cons_self ..) hj)]; exact ih
    · rw [if_neg hj]; exact ih
/-- What stands in a thread of the book. -/
theorem threadB_get {a : List (El T_book_Act)} {n : Nat} (hn : n ≤ 90) (ha : n ≤ a.length) {k : Nat} {i : El T_api_Ins} (h : (threadB a n)[k]? = some i) :
    (k < n ∧ ∃ x, (baseT a n)[k]? = some x ∧ BookOK ((n + 1 : Nat) : Int) x ∧ i = setL x (if sAt (baseT a n) n k then [v_book_label (k : Int)] else [])) ∨ (k = n ∧ i = setL (bare 14) (if sAt (baseT a n) n k then [v_book_label (k : Int)] else [])) := by
  have hl := baseT_len a n ha
  obtain ⟨hk, he⟩ := List.getElem?_eq_some_iff.1 h
  unfold threadB at hk he
  rw [withL_get hk] at he
  rw [withL_len, hl] at hk
  by_cases hkn : k < n
  · obtain ⟨x, h1, h2⟩ := baseT_book hn hkn ha
    obtain ⟨h3, h4⟩ := List.getElem?_eq_some_iff.1 h1
    rw [h4] at he
    exact .inl ⟨hkn, _, h1, h2, he.symm⟩
  · have hkn : k = n := by omega
    subst hkn
    have : (baseT a k)[k]'(by omega) = bare 14 := by
      unfold baseT
      rw [List.getElem_append_right (by simp; omega)]
      simp
    rw [this] at he
    exact .inr ⟨rfl, he.symm⟩
theorem bare14_book (many : Int) (ls : List ByteArray) {th : List (List (El T_api_Ins))} : insC (symsB, th) (setL (bare 14) ls) = 0 := by
  unfold insC
  rw [setL_right, bare_right (.inr (.inr rfl))]
  rfl
theorem labels_get {x : List (El T_api_Ins)} {k : Nat} {i : El T_api_Ins} {l : ByteArray} (h : x[k]? = some i) (hl : l ∈ i.2.2.2.2.2.2) : (labels x).contains l = true := by
  rw [List.contains_iff_mem]
  unfold labels
  exact List.mem_flatMap.2 ⟨i, List.mem_of_getElem? h, hl⟩
theorem threadC_book {a : List (El T_book_Act)} {n : Nat} (hn : n ≤ 90) (ha : n ≤ a.length) {th : List (List (El T_api_Ins))} : threadC (symsB, th) (threadB a n) = 0 := by
  have hlen : (threadB a n).length = n + 1 := by unfold threadB; rw [withL_len, baseT_len a n ha]
  unfold threadC
  have hc := countM_le (threadB a n)
  rw [if_neg (by omega), scanI_lab (threadB a n) 0 [] (fun j i h => by
    rw [Nat.zero_add]
    rcases threadB_get hn ha h with ⟨_, x, _, hx, rfl⟩ | ⟨_, rfl⟩
    · refine ⟨?_, insC_book hx _⟩
      show (if _ then [v_book_label (j : Int)] else []) = [] ∨ (if _ then [v_book_label (j : Int)] else []) = [v_book_label (j : Int)]
      split
      · exact .inr rfl
      · exact .inl rfl
    · refine ⟨?_, bare14_book 0 _⟩
      show (if _ then [v_book_label (j : Int)] else []) = [] ∨ (if _ then [v_book_label (j : Int)] else []) = [v_book_label (j : Int)]
      split
      · exact .inr rfl
      · exact .inl rfl) (fun l hl => by cases hl) (by omega)]
  rw [List.nil_append, endC_eq (by omega)]
  have hlast : (threadB a n)[(threadB a n).length - 1]? = some ((threadB a n)[(threadB a n).length - 1]'(by omega)) := List.getElem?_eq_getElem (by omega)
  have h14 : (((threadB a n)[(threadB a n).length - 1]'(by omega)).1 == (10 : Int) || ((threadB a n)[(threadB a n).length - 1]'(by omega)).1 == (14 : Int)) = true := by
    rcases threadB_get hn ha hlast with ⟨h1, _⟩ | ⟨_, h2⟩
    · omega
    · rw [h2]; rfl
  rw [if_pos h14]
  refine jumpC_lab fun i hi hj => ?_
  obtain ⟨k, hk⟩ := List.getElem?_of_mem hi
  rcases threadB_get hn ha hk with ⟨hkn, x, hx, hb, rfl⟩ | ⟨_, rfl⟩
  · rw [setL_to]
    rcases hb.to with ⟨h1, h2, _⟩ | ⟨_, m, m0, m1, e⟩
    · exfalso
      have hj : ((x.1 == (10 : Int)) || (x.1 == (11 : Int))) = true := hj
      simp only [Bool.or_eq_true, beq_iff_eq] at hj
      rcases hj with hj | hj
      · exact h1 hj
      · exact h2 hj
    · rw [e]
      obtain ⟨q, rfl⟩ : ∃ q : Nat, m = (q : Int) := ⟨m.toNat, by omega⟩
      have hqn : q < n + 1 := by omega
      have hq : (threadB a n)[q]? = some ((threadB a n)[q]'(by omega)) := List.getElem?_eq_getElem (by omega)
      have hs : sAt (baseT a n) n q = true := by
        unfold sAt
        rw [List.any_eq_true]
        exact ⟨x, List.mem_of_getElem? (i := k) (by rw [List.getElem?_take, if_pos hkn]; exact hx), decide_eq_true e⟩
      refine labels_get hq ?_
      rcases threadB_get hn ha hq with ⟨_, y, _, _, h2⟩ | ⟨_, h2⟩
      · rw [h2, hs]; exact List.mem_singleton.2 rfl
      · rw [h2, hs]; exact List.mem_singleton.2 rfl
  · cases hj
theorem small_book {a : List (El T_book_Act)} {n : Nat} (hn : n ≤ 90) (ha : n ≤ a.length) : smallThread (threadB a n) = true := by
  have hlen : (threadB a n).length = n + 1 := by unfold threadB; rw [withL_len, baseT_len a n ha]
  have hlab : ∀ i ∈ threadB a n, smallText i.2.2.2.2.2.1 = true ∧ i.2.2.2.2.2.2.length ≤ 1 ∧ ∀ l ∈ i.2.2.2.2.2.2, smallText l = true := fun i hi => by
    obtain ⟨k, hk⟩ := List.getElem?_of_mem hi
    have hkl := (List.getElem?_eq_some_iff.1 hk).1
    have hls : ∀ b : Bool, (if b = true then [v_book_label (k : Int)] else []).length ≤ 1 ∧ ∀ l ∈ (if b = true then [v_book_label (k : Int)] else []), smallText l = true := fun b => by
      cases b with
      | false => exact ⟨by simp, fun l hl => by simp at hl⟩
      | true => exact ⟨by simp, fun l hl => by
          rw [if_pos rfl, List.mem_singleton] at hl
          rw [hl]; exact (label_right (by omega) (by omega)).2⟩
    rcases threadB_get hn ha hk with ⟨hkn, x, hx, hb, rfl⟩ | ⟨_, rfl⟩
    · exact ⟨hb.small (by omega), hls _⟩
    · exact ⟨(by decide : smallText (bs []) = true), hls _⟩
  have := labels_le (t := threadB a n) (n := 1) fun i hi => (hlab i hi).2.1
  unfold smallThread
  simp only [Bool.and_eq_true, decide_eq_true_eq, List.all_eq_true]
  exact ⟨by omega, by omega, fun i hi => ⟨(hlab i hi).1, (hlab i hi).2.2⟩⟩
theorem symsC_book (K : Int) : symsC K [] symsB = K := by kernel_rfl
theorem thsC_zero {p : El T_api_Prog} : ∀ {th : List (List (El T_api_Ins))}, (∀ t ∈ th, threadC p t = 0) → thsC p th = 0
  | [], _ => rfl
  | t :: r, h => by
    unfold thsC
    rw [h t (List.mem_cons_self ..)]
    simp only [ne_eq, not_true_eq_false, if_false]
    exact thsC_zero fun x hx => h x (List.mem_cons_of_mem _ hx)
theorem book_valid (l : List (List (El T_book_Act))) {threads many : Int} (h0 : 0 ≤ threads) (h1 : threads ≤ 64) (m0 : 0 ≤ many) (m1 : many ≤ 90) : checkC (v_book_Prog l threads many) = 0 ∧ smallProg (v_book_Prog l threads many) = true ∧ k_book_Prog l threads many = true := by
  refine ⟨?_, ?_, ?_⟩
  · unfold checkC v_book_Prog
    show (if 64 < symsB.length ∨ 64 < ((l.take threads.toNat).map fun a => threadB a (min a.length many.toNat)).length then (10 : Int) else symsC (thsC _ ((l.take threads.toNat).map fun a => threadB a (min a.length many.toNat))) [] symsB) = 0
    rw [if_neg, symsC_book]
    · exact thsC_zero fun t ht => by
        obtain ⟨a, _, rfl⟩ := List.mem_map.1 ht
        exact threadC_book (by omega) (by omega)
    · rw [List.length_map, List.length_take]
      have : symsB.length = 3 := rfl
      omega
  · unfold smallProg v_book_Prog
    simp only [Bool.and_eq_true, List.all_eq_true]
    refine ⟨?_, fun t ht => ?_⟩
    · have : symsB.all (fun s => smallText s.1) = true := by decide +kernel
      rw [List.all_eq_true] at this
      exact this
    · obtain ⟨a, _, rfl⟩ := List.mem_map.1 ht
      exact small_book (by omega) (by omega)
  · unfold k_book_Prog
    simp only [Bool.and_eq_true, decide_eq_true_eq]
    omega
end Go.Ev
end

section
set_option linter.unusedSectionVars false
set_option linter.unusedVariables false
set_option linter.unusedSimpArgs false
/- The one thread that the book makes. -/
set_option maxRecDepth 100000
set_option linter.unusedVariables false
set_option linter.unusedSimpArgs false
open Go
namespace Go.Ev
theorem small_flow' {t : List (El T_api_Ins)} (h : smallThread t = true) : flowOK t = true := by
  unfold smallThread at h
  simp only [Bool.and_eq_true, List.all_eq_true, decide_eq_true_eq] at h
  unfold flowOK
  simp only [Bool.and_eq_true, List.all_eq_true, decide_eq_true_eq]
  refine ⟨h.1, fun i hi => ⟨(h.2.2 i hi).1, ?_⟩⟩
  have := labels_mem hi
  omega
theorem book_one (l : List (El T_book_Act)) {many : Int} (m0 : 0 ≤ many) (m1 : many ≤ 90) : ∃ t : List (El T_api_Ins), (v_book_Prog [l] (1 : Int) many).2 = [t] ∧ 1 ≤ t.length ∧ (t.length : Int) ≤ many + 1 ∧ smallThread t = true ∧ flowOK t = true ∧ k_book_Prog [l] (1 : Int) many = true := by
  obtain ⟨_, hs, hk⟩ := book_valid [l] (threads := 1) (many := many) (by omega) (by omega) m0 m1
  have e : (v_book_Prog [l] (1 : Int) many).2 = [threadB l (min l.length many.toNat)] := rfl
  have hl : (threadB l (min l.length many.toNat)).length = min l.length many.toNat + 1 := by unfold threadB; rw [withL_len, baseT_len l _ (Nat.min_le_left _ _)]
  have hsm : smallThread (threadB l (min l.length many.toNat)) = true := by
    unfold smallProg at hs
    rw [Bool.and_eq_true, e] at hs
    exact List.all_eq_true.1 hs.2 _ (by simp)
  exact ⟨_, e, by omega, by omega, hsm, small_flow' hsm, hk⟩
end Go.Ev
end

section
set_option linter.unusedSectionVars false
set_option linter.unusedVariables false
set_option linter.unusedSimpArgs false
set_option maxRecDepth 100000
set_option linter.unusedVariables false
set_option linter.unusedSimpArgs false
open Go
namespace Go.Ev
def v_law20_FlowJoins (l : List (El T_book_Act)) (i : Int) : Bool := true
def k_law20_FlowJoins (l : List (El T_book_Act)) (i : Int) : Bool := true
theorem from_join {t : List (El T_api_Ins)} {i : Int} {j : Nat} : fromB t i j = true ↔ ∃ x : Nat, nextB t i x = true ∧ (j = x ∨ fromB t (x : Int) j = true) := by
  unfold fromB
  rw [comeB_iff]
  constructor
  · intro h
    induction h with
    | @start j h => exact ⟨j, h, .inl rfl⟩
    | @step k j h hN ih =>
      obtain ⟨x, hx, hk⟩ := ih
      refine ⟨x, hx, .inr (comeB_iff.2 ?_)⟩
      rcases hk with rfl | hk
      · exact .start hN
      · exact .step (comeB_iff.1 hk) hN
  · rintro ⟨x, hx, rfl | h⟩
    · exact .start hx
    · have := comeB_iff.1 h
      clear h
      induction this with
      | start h => exact .step (.start hx) h
      | step _ h ih => exact .step ih h
theorem g_law20_FlowJoins (l : List (El T_book_Act)) (i : Int) (hk : k_law20_FlowJoins l i = true) : Goes (T_law20_FlowJoins l i) (T0_law20_FlowJoins l i) (v_law20_FlowJoins l i) := by
  obtain ⟨ka, va⟩ := alive20
  obtain ⟨t, hP, ht1, ht2, _, hf, kp⟩ := book_one l (many := 10) (by omega) (by omega)
  have hg : List.getD (v_book_Prog [l] (1 : Int) (10 : Int)).2 0 (dflt (.sl T_api_Ins)) = t := by rw [hP]; rfl
  have hlen := flowOK_len hf
  unfold T0_law20_FlowJoins v_law20_FlowJoins
  rw [hg, hP, goes_br, if_pos kp, goes_br, if_pos (by simp)]
  obtain ⟨kpk, _, _⟩ := pick_lt (n := i) (m := Int.ofNat t.length) (by simp; omega) (by simp; omega)
  rw [goes_br, if_pos kpk]
  generalize v_book_Pick i (Int.ofNat t.length) = i1
  have kn : k_flow_Next t i1 = true := hf
  rw [goes_br, if_pos (by unfold limit; simp; omega), goes_br, if_pos kn, rowOf_none]
  generalize hn : t.length = n at hlen
  have hnx : v_flow_Next t i1 = listOf n (nextB t i1) := by unfold v_flow_Next; rw [hn]
  rw [hnx]
  generalize hnl : listOf n (nextB t i1) = nl
  have hmemN : ∀ x, x ∈ nl → ∃ j : Nat, j < n ∧ nextB t i1 j = true ∧ x = (j : Int) := fun x hx => by rw [← hnl] at hx; exact listOf_mem.1 hx
  have hnlen : nl.length ≤ n := by rw [← hnl]; exact listOf_short
  -- what follows one
  have inner : ∀ (k : Nat) (more : List Int), more.length ≤ n → (∀ x ∈ more, ∃ j : Nat, j < n ∧ x = (j : Int)) → k < n → ∀ j, j ≤ more.length → ∀ M : Nat → Bool,
      (∀ M' : Nat → Bool, (∀ x : Nat, M' x = true ↔ M x = true ∨ (x : Int) ∈ more.drop j) → Goes (T_law20_FlowJoins l i) (.jmp (.l8 i1 t (rowOf n M') nl ((k + 1 : Nat) : Int))) true) →
      Goes (T_law20_FlowJoins l i) (.jmp (.l18 i1 t (rowOf n M) nl more (j : Int) (k : Int))) true := by
    intro k more hml hmm hkn
    refine down ?_ fun j hj ih => ?_
    · intro M h
      rw [goes_jmp, T_law20_FlowJoins, goes_br, if_neg (by rw [lt_len_not (Nat.lt_irrefl _)]; decide), wrap_succ (by omega)]
      exact h M fun x => by simp
    · intro M h
      obtain ⟨y, hy, hxy⟩ := hmm more[j] (List.getElem_mem hj)
      have hd : List.getD more j (dflt (.int .i64)) = (y : Int) := by rw [← hxy]; exact getD_lt hj
      rw [goes_jmp, T_law20_FlowJoins, goes_br, if_pos (lt_len hj), goes_br, if_pos (bound_len hj), goes_br, Int.toNat_natCast, hd, if_neg (by simp), goes_br, if_pos (bound_len hj), goes_br, rowOf_length, if_neg (by simp; omega), goes_br, if_pos (bound_len hj), goes_br, if_pos (bound_len hy), Int.toNat_natCast, rowOf_set, wrap_succ (by omega)]
      refine ih _ fun M' hM' => h M' fun x => ?_
      rw [hM', drop_cons hj, List.mem_cons, hxy]
      simp only [Bool.or_eq_true, beq_iff_eq]
      constructor
      · rintro ((h | h) | h)
        · exact .inl h
        · exact .inr (.inl (by omega))
        · exact .inr (.inr h)
      · rintro (h | h | h)
        · exact .inl (.inl h)
        · exact .inl (.inr (by omega))
        · exact .inr h
  have outer : ∀ k, k ≤ nl.length → ∀ M : Nat → Bool, (∀ j : Nat, (M j = true ∨ ∃ x : Nat, (x : Int) ∈ nl.drop k ∧ (j = x ∨ fromB t (x : Int) j = true)) ↔ fromB t i1 j = true) → Goes (T_law20_FlowJoins l i) (.jmp (.l8 i1 t (rowOf n M) nl (k : Int))) true := by
    refine down ?_ fun k hk ih => ?_
    · intro M hM
      have hMe : M = fromB t i1 := funext fun j => by
        rw [Bool.eq_iff_iff, ← hM j]
        constructor
        · exact .inl
        · rintro (h | ⟨x, hx, _⟩)
          · exact h
          · simp at hx
      subst hMe
      have kf : k_flow_From t i1 = true := hf
      have kl : k_ref3_List (rowOf n (fromB t i1)) = true := decide_eq_true (by rw [rowOf_length]; exact hlen)
      have e : v_ref3_List (rowOf n (fromB t i1)) = v_flow_From t i1 := by
        show listFrom 0 _ = _
        rw [list_row]
        unfold v_flow_From
        rw [hn]
      obtain ⟨s1, s2⟩ := @same_ints (v_flow_From t i1) (by have := @listOf_short t.length (fromB t i1); unfold v_flow_From; omega)
      rw [goes_jmp, T_law20_FlowJoins, goes_br, if_neg (by rw [lt_len_not (Nat.lt_irrefl _)]; decide), goes_br, if_pos kf, goes_br, if_pos kl, e, goes_br, if_pos s1, goes_br, if_pos s2, goes_br, if_pos ka, va]
      exact .leaf
    · intro M hM
      obtain ⟨y, hy, hyN, hxy⟩ := hmemN nl[k] (List.getElem_mem hk)
      have hd : List.getD nl k (dflt (.int .i64)) = (y : Int) := by rw [← hxy]; exact getD_lt hk
      have kf : k_flow_From t (y : Int) = true := hf
      rw [goes_jmp, T_law20_FlowJoins, goes_br, if_pos (lt_len hk), goes_br, if_pos (bound_len hk), goes_br, Int.toNat_natCast, hd, if_neg (by simp), goes_br, if_pos (bound_len hk), goes_br, rowOf_length, if_neg (by simp; omega), goes_br, if_pos (bound_len hk), goes_br, if_pos (bound_len hy), goes_br, if_pos (bound_len hk), goes_br, if_pos kf, Int.toNat_natCast, rowOf_set]
      refine inner k (v_flow_From t (y : Int)) (by have := @listOf_short t.length (fromB t (y : Int)); unfold v_flow_From; omega) (fun x hx => by
        obtain ⟨j, h1, _, h2⟩ := listOf_mem.1 hx
        exact ⟨j, by omega, h2⟩) (by omega) 0 (Nat.zero_le _) _ fun M' hM' => ih M' fun j => ?_
      rw [← hM j, hM', drop_cons hk]
      have hfm : ∀ j : Nat, (j : Int) ∈ (v_flow_From t (y : Int)).drop 0 ↔ fromB t (y : Int) j = true := fun j => by
        rw [List.drop_zero]
        unfold v_flow_From
        rw [listOf_mem]
        constructor
        · rintro ⟨i, _, h, e⟩
          have : j = i := by omega
          subst this; exact h
        · intro h; exact ⟨j, fromB_lt h, h, rfl⟩
      rw [hfm]
      simp only [Bool.or_eq_true, beq_iff_eq, List.mem_cons, hxy]
      constructor
      · rintro (((h | h) | h) | ⟨x, h1, h2⟩)
        · exact .inl h
        · exact .inr ⟨y, .inl rfl, .inl h⟩
        · exact .inr ⟨y, .inl rfl, .inr h⟩
        · exact .inr ⟨x, .inr h1, h2⟩
      · rintro (h | ⟨x, h1 | h1, h2⟩)
        · exact .inl (.inl (.inl h))
        · have : x = y := by omega
          subst this
          rcases h2 with h2 | h2
          · exact .inl (.inl (.inr h2))
          · exact .inl (.inr h2)
        · exact .inr ⟨x, h1, h2⟩
  have := outer 0 (Nat.zero_le _) (fun _ => false) fun j => by
    rw [from_join, List.drop_zero, ← hnl]
    constructor
    · rintro (h | ⟨x, hx, h⟩)
      · cases h
      · obtain ⟨z, _, hz, e⟩ := listOf_mem.1 hx
        have : x = z := by omega
        subst this
        exact ⟨x, hz, h⟩
    · rintro ⟨x, hx, h⟩
      exact .inr ⟨x, listOf_mem.2 ⟨x, by have := nextB_lt hx; omega, hx, rfl⟩, h⟩
  exact this
end Go.Ev
end

section
set_option linter.unusedSectionVars false
set_option linter.unusedVariables false
set_option linter.unusedSimpArgs false
set_option maxRecDepth 100000
set_option linter.unusedVariables false
open Go Go.Ev
namespace Go.Ev
noncomputable section
noncomputable def e_law20_FlowJoins : Run := entG sg_law20_FlowJoins R_law20_FlowJoins (fun a => k_law20_FlowJoins a.1 a.2.1) (fun a => v_law20_FlowJoins a.1 a.2.1)
theorem ok_law20_FlowJoins : EntOK Go.Proofs.Tryd.prog 5 e_law20_FlowJoins := entG_ok (tb := tb_law20_FlowJoins) (c := c_law20_FlowJoins) tk_law20_FlowJoins (by kernel_rfl) (by kernel_rfl) (by kernel_rfl) (fun a => by kernel_rfl) fun ⟨l, i, _⟩ hk => evF_goes (c := c_law20_FlowJoins) (K := fun v => (R_law20_FlowJoins v, tps (toForms sg_law20_FlowJoins (l, i, ())))) (S := S_law20_FlowJoins l i) (by kernel_rfl) (en_law20_FlowJoins l i) (lp_law20_FlowJoins l i) (g_law20_FlowJoins l i hk)
theorem co_law20_FlowJoins (l : List (El T_book_Act)) (i : Int) (hk : k_law20_FlowJoins l i = true) : CallOK Go.Proofs.Tryd.prog 5 (toForms sg_law20_FlowJoins (l, i, ())) (R_law20_FlowJoins (v_law20_FlowJoins l i), tps (toForms sg_law20_FlowJoins (l, i, ()))) := by
  obtain ⟨h1, h2⟩ := clOf_ok tk_law20_FlowJoins
  obtain ⟨n, hn⟩ := evF_goes (c := c_law20_FlowJoins) (K := fun v => (R_law20_FlowJoins v, tps (toForms sg_law20_FlowJoins (l, i, ())))) (S := S_law20_FlowJoins l i) (by kernel_rfl) (en_law20_FlowJoins l i) (lp_law20_FlowJoins l i) (g_law20_FlowJoins l i hk)
  exact evF_sound (f := 5) (c := c_law20_FlowJoins) h1 h2 (by kernel_rfl) (by kernel_rfl) (by kernel_rfl) hn
end
end Go.Ev
end

section
set_option linter.unusedSectionVars false
set_option linter.unusedVariables false
set_option linter.unusedSimpArgs false
set_option maxRecDepth 100000
set_option linter.unusedVariables false
namespace Go.Ev
open Go
theorem call_law20_FlowJoins (a : Args sg_law20_FlowJoins) (ha : smallArgs sg_law20_FlowJoins a) : CallOK Go.Proofs.Tryd.prog fid_law20_FlowJoins (toForms sg_law20_FlowJoins a) (.d .bool true, tps (toForms sg_law20_FlowJoins a)) := by
  obtain ⟨l, i, _⟩ := a
  exact co_law20_FlowJoins l i rfl
end Go.Ev
end

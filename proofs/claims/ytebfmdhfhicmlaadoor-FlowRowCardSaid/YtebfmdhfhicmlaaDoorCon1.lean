/- Part of the proof of: For every numbers: a row of instructions leads to all behind it, and with a jump back to all from there on. -/
import Derived.Shelf.Slices.In.SortNone
import Derived.Shelf.Sort.Plain
import Derived.Test.YtebfmdhfhicmlaaDoorCon0
section
set_option linter.unusedSectionVars false
set_option linter.unusedVariables false
set_option linter.unusedSimpArgs false
set_option maxRecDepth 100000
set_option linter.unusedVariables false
open Go Go.Ev
namespace Go.Ev
noncomputable section
/-! ### paling/palingref1.Leads -/
def sg_ref1_Leads : Sig := [(true, T_api_Ins)]
noncomputable def t_ref1_Leads : Tbl := [(44, e_ref1_InsRight), (57, e_ref1_Jumps)]
theorem tk_ref1_Leads : ∀ p ∈ t_ref1_Leads, EntOK Go.Proofs.Tryd.prog p.1 p.2 := tbl_cons ok_ref1_InsRight (tbl_cons ok_ref1_Jumps (tbl_nil))
noncomputable def c_ref1_Leads : Code := Go.Proofs.Tryd.f59.body.getD .skip
def tb_ref1_Leads : Tb := []
def T_ref1_Leads (i : El T_api_Ins) : Empty → JT Empty (Bool × Bool) := fun j => nomatch j
def T0_ref1_Leads (i : El T_api_Ins) : JT Empty (Bool × Bool) :=
  .br (k_ref1_InsRight i)
    (.br ((v_ref1_InsRight i) != (0 : Int))
      (.leaf (false, false))
    (.br (i.1 != (10 : Int))
      (.leaf ((i.1 != (14 : Int)), (v_ref1_Jumps i.1)))
    (.leaf (false, (v_ref1_Jumps i.1)))))
  (.no)
def v_ref1_Leads (i : El T_api_Ins) : Bool × Bool :=
  bif (k_ref1_InsRight i) then
    bif ((v_ref1_InsRight i) != (0 : Int)) then
      (false, false)
    else bif (i.1 != (10 : Int)) then
      ((i.1 != (14 : Int)), (v_ref1_Jumps i.1))
    else (false, (v_ref1_Jumps i.1))
  else (false, false)
def k_ref1_Leads (i : El T_api_Ins) : Bool :=
  bif (k_ref1_InsRight i) then
    bif ((v_ref1_InsRight i) != (0 : Int)) then
      true
    else bif (i.1 != (10 : Int)) then
      true
    else true
  else false
theorem g_ref1_Leads (i : El T_api_Ins) (hk : k_ref1_Leads i = true) : Goes (T_ref1_Leads i) (T0_ref1_Leads i) (v_ref1_Leads i) :=
  Goes.brk hk (fun hk =>
    Goes.brk hk (fun hk =>
      Goes.leaf) (fun hk =>
      Goes.brk hk (fun hk =>
        Goes.leaf) (fun hk =>
        Goes.leaf))) (fun hk =>
    Goes.nok hk)
def R_ref1_Leads : Bool × Bool → AV := fun (r : Bool × Bool) => .tu [.d .bool r.1, .d .bool r.2]
def S_ref1_Leads (i : El T_api_Ins) : Empty → Nat × St := fun j => nomatch j
theorem en_ref1_Leads (i : El T_api_Ins) (L : Lt) : entryA Go.Proofs.Tryd.prog (clOf t_ref1_Leads) tb_ref1_Leads Go.Proofs.Tryd.f59 c_ref1_Leads L (toForms sg_ref1_Leads (i, ())) = (T0_ref1_Leads i).run (fun v => some (R_ref1_Leads v, tps (toForms sg_ref1_Leads (i, ())))) fun j => L (S_ref1_Leads i j).1 (S_ref1_Leads i j).2 := by kernel_rfl
theorem lp_ref1_Leads (i : El T_api_Ins) : ∀ (L : Lt) (j : Empty), procOf (procsF Go.Proofs.Tryd.prog (clOf t_ref1_Leads) tb_ref1_Leads Go.Proofs.Tryd.f59 c_ref1_Leads (toForms sg_ref1_Leads (i, ()))) (S_ref1_Leads i j).1 L (S_ref1_Leads i j).2 = (T_ref1_Leads i j).run (fun v => some (R_ref1_Leads v, tps (toForms sg_ref1_Leads (i, ())))) fun j => L (S_ref1_Leads i j).1 (S_ref1_Leads i j).2 := fun L j => nomatch j
noncomputable def e_ref1_Leads : Run := entG sg_ref1_Leads R_ref1_Leads (fun a => k_ref1_Leads a.1) (fun a => v_ref1_Leads a.1)
theorem ok_ref1_Leads : EntOK Go.Proofs.Tryd.prog 59 e_ref1_Leads := entG_ok (tb := tb_ref1_Leads) (c := c_ref1_Leads) tk_ref1_Leads (by kernel_rfl) (by kernel_rfl) (by kernel_rfl) (fun a => by kernel_rfl) fun ⟨i, _⟩ hk => evF_goes (c := c_ref1_Leads) (K := fun v => (R_ref1_Leads v, tps (toForms sg_ref1_Leads (i, ())))) (S := S_ref1_Leads i) (by kernel_rfl) (en_ref1_Leads i) (lp_ref1_Leads i) (g_ref1_Leads i hk)
end
end Go.Ev
end

section
set_option linter.unusedSectionVars false
set_option linter.unusedVariables false
set_option linter.unusedSimpArgs false
/- What follows an instruction: over lists. -/
set_option maxRecDepth 100000
set_option linter.unusedVariables false
set_option linter.unusedSimpArgs false
open Go
namespace Go.Ev

def flowOK (t : List (El T_api_Ins)) : Bool := decide (t.length < 1099511627776) && t.all fun i => smallText i.2.2.2.2.2.1 && decide (i.2.2.2.2.2.2.length < 1099511627776)
theorem flowOK_len {t : List (El T_api_Ins)} (h : flowOK t = true) : t.length < 1099511627776 := by
  unfold flowOK at h; rw [Bool.and_eq_true] at h; exact of_decide_eq_true h.1
theorem flowOK_text {t : List (El T_api_Ins)} (h : flowOK t = true) {i : El T_api_Ins} (hi : i ∈ t) : smallText i.2.2.2.2.2.1 = true := by
  unfold flowOK at h
  rw [Bool.and_eq_true] at h
  have := List.all_eq_true.1 h.2 i hi
  rw [Bool.and_eq_true] at this
  exact this.1
theorem flowOK_find {t : List (El T_api_Ins)} (h : flowOK t = true) : (decide (t.length < 1099511627776) && t.all fun i => decide (i.2.2.2.2.2.2.length < 1099511627776)) = true := by
  unfold flowOK at h
  rw [Bool.and_eq_true] at h ⊢
  refine ⟨h.1, List.all_eq_true.2 fun i hi => ?_⟩
  have := List.all_eq_true.1 h.2 i hi
  rw [Bool.and_eq_true] at this
  exact this.2
theorem findI_lt {label : ByteArray} : ∀ {t : List (El T_api_Ins)} {k : Nat}, findI label t k < ((k + t.length : Nat) : Int) ∨ findI label t k = -1
  | [], k => .inr rfl
  | x :: r, k => by
    unfold findI
    split
    · left; simp; omega
    · rcases @findI_lt label r (k + 1) with h | h
      · left; simp only [List.length_cons]; omega
      · exact .inr h
theorem findI_ge {label : ByteArray} : ∀ {t : List (El T_api_Ins)} {k : Nat}, findI label t k = -1 ∨ (k : Int) ≤ findI label t k
  | [], k => .inl rfl
  | x :: r, k => by
    unfold findI
    split
    · right; omega
    · rcases @findI_ge label r (k + 1) with h | h
      · exact .inl h
      · right; omega

/-- Where one instruction leads: on, and to. -/
def onOf (t : List (El T_api_Ins)) (i : Nat) : Bool := (v_ins_Leads (t.getD i (dflt T_api_Ins))).1
def toOf (t : List (El T_api_Ins)) (i : Nat) : Int := if (v_ins_Leads (t.getD i (dflt T_api_Ins))).2 then findI (t.getD i (dflt T_api_Ins)).2.2.2.2.2.1 t 0 else -1
theorem toOf_lt {t : List (El T_api_Ins)} {i : Nat} : -1 ≤ toOf t i ∧ (toOf t i < (t.length : Int)) := by
  unfold toOf
  split
  · have h1 := @findI_lt (t.getD i (dflt T_api_Ins)).2.2.2.2.2.1 t 0
    have h2 := @findI_ge (t.getD i (dflt T_api_Ins)).2.2.2.2.2.1 t 0
    rw [Nat.zero_add] at h1
    omega
  · omega
/-- Does j follow i? -/
def nextB (t : List (El T_api_Ins)) (i : Int) (j : Nat) : Bool :=
  decide (0 ≤ i ∧ i < (t.length : Int) ∧ j < t.length) && ((onOf t i.toNat && decide ((j : Int) = i + 1)) || decide (toOf t i.toNat = (j : Int)))

theorem nextB_lt {t : List (El T_api_Ins)} {i : Int} {j : Nat} (h : nextB t i j = true) : j < t.length := by
  unfold nextB at h
  rw [Bool.and_eq_true] at h
  exact (of_decide_eq_true h.1).2.2

/-- The code's list. -/
def nextL (n : Nat) (on : Bool) (to i : Int) : List Int :=
  (if 0 ≤ to ∧ to ≤ i then [to] else []) ++ ((if on = true ∧ i + 1 < (n : Int) then [i + 1] else []) ++ (if to > i ∧ ¬ (on = true ∧ i + 1 < (n : Int) ∧ to = i + 1) then [to] else []))
theorem nextL_strict {n : Nat} {on : Bool} {to i : Int} : (nextL n on to i).Pairwise (· < ·) := by
  unfold nextL
  by_cases h1 : 0 ≤ to ∧ to ≤ i
  · rw [if_pos h1, if_neg (c := to > i ∧ _) (fun h => by omega)]
    by_cases h2 : on = true ∧ i + 1 < (n : Int)
    · rw [if_pos h2]; simp; omega
    · rw [if_neg h2]; simp
  · rw [if_neg h1]
    by_cases h2 : on = true ∧ i + 1 < (n : Int)
    · rw [if_pos h2]
      by_cases h3 : to > i ∧ ¬ (on = true ∧ i + 1 < (n : Int) ∧ to = i + 1)
      · rw [if_pos h3]
        have : to ≠ i + 1 := fun e => h3.2 ⟨h2.1, h2.2, e⟩
        simp; omega
      · rw [if_neg h3]; simp
    · rw [if_neg h2]
      by_cases h3 : to > i ∧ ¬ (on = true ∧ i + 1 < (n : Int) ∧ to = i + 1)
      · rw [if_pos h3]; simp
      · rw [if_neg h3]; simp
theorem nextL_eq {t : List (El T_api_Ins)} {i : Nat} (hi : i < t.length) : nextL t.length (onOf t i) (toOf t i) (i : Int) = listOf t.length (nextB t (i : Int)) := by
  refine strict_ext nextL_strict listOf_strict fun x => ?_
  rw [listOf_mem]
  have hb : ∀ j : Nat, nextB t (i : Int) j = true ↔ j < t.length ∧ ((onOf t i = true ∧ (j : Int) = (i : Int) + 1) ∨ toOf t i = (j : Int)) := fun j => by
    unfold nextB
    rw [Int.toNat_natCast]
    simp only [Bool.and_eq_true, Bool.or_eq_true, decide_eq_true_eq]
    constructor
    · rintro ⟨⟨_, _, h⟩, h2⟩; exact ⟨h, h2⟩
    · rintro ⟨h, h2⟩; exact ⟨⟨by omega, by omega, h⟩, h2⟩
  have ht := @toOf_lt t i
  unfold nextL
  constructor
  · intro h
    simp only [List.mem_append] at h
    rcases h with h | h | h
    · split at h
      · rename_i hc
        simp at h
        subst h
        exact ⟨(toOf t i).toNat, by omega, (hb _).2 ⟨by omega, .inr (by omega)⟩, by omega⟩
      · simp at h
    · split at h
      · rename_i hc
        simp at h
        subst h
        exact ⟨i + 1, by omega, (hb _).2 ⟨by omega, .inl ⟨hc.1, by omega⟩⟩, by omega⟩
      · simp at h
    · split at h
      · rename_i hc
        simp at h
        subst h
        exact ⟨(toOf t i).toNat, by omega, (hb _).2 ⟨by omega, .inr (by omega)⟩, by omega⟩
      · simp at h
  · rintro ⟨j, hj, hM, rfl⟩
    obtain ⟨_, h⟩ := (hb j).1 hM
    simp only [List.mem_append]
    rcases h with ⟨h1, h2⟩ | h
    · right; left
      rw [if_pos ⟨h1, by omega⟩]; simp; omega
    · by_cases hle : toOf t i ≤ (i : Int)
      · left; rw [if_pos ⟨by omega, hle⟩]; simp; omega
      · right
        by_cases hc : onOf t i = true ∧ (i : Int) + 1 < (t.length : Int) ∧ toOf t i = (i : Int) + 1
        · left; rw [if_pos ⟨hc.1, hc.2.1⟩]; simp; omega
        · right; rw [if_pos ⟨by omega, hc⟩]; simp; omega
end Go.Ev
end

section
set_option linter.unusedSectionVars false
set_option linter.unusedVariables false
set_option linter.unusedSimpArgs false
set_option maxRecDepth 100000
set_option linter.unusedVariables false
set_option linter.unusedSimpArgs false
open Go
namespace Go.Ev
def v_flow_Next (t : List (El T_api_Ins)) (i : Int) : List Int := listOf t.length (nextB t i)
def k_flow_Next (t : List (El T_api_Ins)) (i : Int) : Bool := flowOK t
theorem nextB_out {t : List (El T_api_Ins)} {i : Int} (h : ¬ (0 ≤ i ∧ i < (t.length : Int))) : listOf t.length (nextB t i) = [] := by
  unfold listOf
  rw [List.map_eq_nil_iff, List.filter_eq_nil_iff]
  intro j _ hb
  unfold nextB at hb
  rw [Bool.and_eq_true] at hb
  have := of_decide_eq_true hb.1
  exact h ⟨this.1, this.2.1⟩
theorem g_flow_Next (t : List (El T_api_Ins)) (i : Int) (hk : k_flow_Next t i = true) : Goes (T_flow_Next t i) (T0_flow_Next t i) (v_flow_Next t i) := by
  have hlen := flowOK_len hk
  unfold T0_flow_Next v_flow_Next
  rw [goes_br]
  by_cases h0 : i < 0
  · rw [if_pos (decide_eq_true h0), nextB_out (fun h => by omega)]; exact .leaf
  rw [if_neg (by simpa using h0), goes_br]
  obtain ⟨j, rfl⟩ := Int.eq_ofNat_of_zero_le (show 0 ≤ i by omega)
  by_cases h1 : (t.length : Int) ≤ (j : Int)
  · rw [if_pos (decide_eq_true (show (j : Int) ≥ Int.ofNat t.length from h1)), nextB_out (fun h => by omega)]; exact .leaf
  have hj : j < t.length := by omega
  rw [if_neg (by simp; omega), goes_br, if_pos (bound_len hj), goes_br, Int.toNat_natCast]
  rw [← nextL_eq hj]
  have hmem : t.getD j (dflt T_api_Ins) ∈ t := by rw [getD_lt hj]; exact List.getElem_mem hj
  have kl : k_ins_Leads (t.getD j (dflt T_api_Ins)) = true := k_leads (flowOK_text hk hmem)
  have kf : k_valid_Find t (t.getD j (dflt T_api_Ins)).2.2.2.2.2.1 = true := flowOK_find hk
  have vf : v_valid_Find t (t.getD j (dflt T_api_Ins)).2.2.2.2.2.1 = findI (t.getD j (dflt T_api_Ins)).2.2.2.2.2.1 t 0 := rfl
  rw [if_pos kl]
  have hw : IntKind.i64.wrap ((j : Int) + 1) = (j : Int) + 1 := by rw [wrap_i64 (by omega) (by omega)]
  -- the last label
  have l14 : ∀ (to : Int) (out : List Int) (h : Bool), out.length ≤ 3 → Goes (T_flow_Next t (j : Int)) (.jmp (.l14 to out h)) (out ++ if h = true then [to] else []) := by
    intro to out h ho
    rw [goes_jmp, T_flow_Next, goes_br]
    cases h with
    | true =>
      rw [if_pos rfl, goes_br, if_pos (Nat.ble_eq_true_of_le (by unfold limit; omega)), if_pos rfl]; exact .leaf
    | false => rw [if_neg (by decide), if_neg (by decide), List.append_nil]; exact .leaf
  have last : ∀ (out : List Int) (x : Int), out.length ≤ 1 → (decide ((0 : Int) ≤ IntKind.i64.wrap (Int.ofNat (out ++ [x]).length - 1)) && decide (IntKind.i64.wrap (Int.ofNat (out ++ [x]).length - 1) < Int.ofNat (out ++ [x]).length)) = true ∧ List.getD (out ++ [x]) (IntKind.i64.wrap (Int.ofNat (out ++ [x]).length - 1)).toNat (dflt (.int .i64)) = x := by
    intro out x ho
    have e : IntKind.i64.wrap (Int.ofNat (out ++ [x]).length - 1) = (out.length : Int) := by
      rw [List.length_append, List.length_singleton, wrap_i64 (by simp <;> omega) (by simp <;> omega)]
      simp
    rw [e]
    refine ⟨by simp; omega, ?_⟩
    rw [Int.toNat_natCast]
    simp [List.getD]
  have l12 : ∀ (to : Int) (h : Bool), -1 ≤ to → (h = true → (j : Int) + 1 < t.length) → Goes (T_flow_Next t (j : Int)) (.jmp (.l12 to (if 0 ≤ to ∧ to ≤ (j : Int) then [to] else []) h)) (nextL t.length h to (j : Int)) := by
    intro to h hto hh
    rw [goes_jmp, T_flow_Next]
    unfold nextL
    generalize hout : (if 0 ≤ to ∧ to ≤ (j : Int) then [to] else []) = out
    have hol : out.length ≤ 1 := by rw [← hout]; split <;> simp
    rw [goes_br]
    cases h with
    | true =>
      rw [if_pos rfl, goes_br, if_pos (Nat.ble_eq_true_of_le (by unfold limit; omega)), goes_br, hw]
      have hin := hh rfl
      obtain ⟨b1, b2⟩ := last out ((j : Int) + 1) hol
      rw [if_pos (show true = true ∧ (j : Int) + 1 < (t.length : Int) from ⟨rfl, hin⟩)]
      by_cases hgt : to > (j : Int)
      · rw [if_pos (decide_eq_true hgt), goes_br, if_neg (by simp; omega), goes_br, if_pos b1, b2]
        have := l14 to (out ++ [(j : Int) + 1]) ((j : Int) + 1 != to) (by simp; omega)
        rw [List.append_assoc] at this
        by_cases he : to = (j : Int) + 1
        · rw [if_neg (by simp [he]), List.append_nil] at this
          rw [if_neg (fun h => h.2 ⟨rfl, hin, he⟩), List.append_nil]
          exact this
        · rw [if_pos (by simp; omega)] at this
          rw [if_pos ⟨hgt, fun h => he h.2.2⟩]
          exact this
      · rw [if_neg (by simpa using hgt), if_neg (fun h => hgt h.1), List.append_nil]
        have := l14 to (out ++ [(j : Int) + 1]) false (by simp; omega)
        rwa [if_neg (by decide), List.append_nil] at this
    | false =>
      rw [if_neg (by decide), goes_br, if_neg (c := false = true ∧ (j : Int) + 1 < (t.length : Int)) (fun h => by cases h.1), List.nil_append]
      by_cases hgt : to > (j : Int)
      · have he : out = [] := by rw [← hout, if_neg (fun h => by omega)]
        subst he
        rw [if_pos (decide_eq_true hgt), goes_br, if_pos (show (Int.ofNat ([] : List Int).length == 0) = true from rfl), if_pos ⟨hgt, fun h => by cases h.1⟩]
        have := l14 to [] true (by simp)
        rwa [if_pos rfl] at this
      · rw [if_neg (by simpa using hgt), if_neg (fun h => hgt h.1), List.append_nil]
        have := l14 to out false (by omega)
        rwa [if_neg (by decide), List.append_nil] at this
  have key : ∀ (on : Bool) (to : Int), nextL t.length (bif on then decide ((j : Int) + 1 < Int.ofNat t.length) else false) to (j : Int) = nextL t.length on to (j : Int) := by
    intro on to
    cases on with
    | false => rfl
    | true =>
      show nextL t.length (decide ((j : Int) + 1 < Int.ofNat t.length)) to (j : Int) = nextL t.length true to (j : Int)
      by_cases hin : (j : Int) + 1 < (t.length : Int)
      · rw [decide_eq_true (show (j : Int) + 1 < Int.ofNat t.length from hin)]
      · rw [decide_eq_false (show ¬ (j : Int) + 1 < Int.ofNat t.length from hin)]
        unfold nextL
        rw [if_neg (c := false = true ∧ (j : Int) + 1 < (t.length : Int)) (fun h => by cases h.1), if_neg (c := true = true ∧ (j : Int) + 1 < (t.length : Int)) (fun h => hin h.2)]
        by_cases hgt : to > (j : Int)
        · rw [if_pos (c := to > (j : Int) ∧ ¬ (false = true ∧ (j : Int) + 1 < (t.length : Int) ∧ to = (j : Int) + 1)) ⟨hgt, fun h => by cases h.1⟩, if_pos (c := to > (j : Int) ∧ ¬ (true = true ∧ (j : Int) + 1 < (t.length : Int) ∧ to = (j : Int) + 1)) ⟨hgt, fun h => hin h.2.1⟩]
        · rw [if_neg (c := to > (j : Int) ∧ ¬ (false = true ∧ (j : Int) + 1 < (t.length : Int) ∧ to = (j : Int) + 1)) (fun h => hgt h.1), if_neg (c := to > (j : Int) ∧ ¬ (true = true ∧ (j : Int) + 1 < (t.length : Int) ∧ to = (j : Int) + 1)) (fun h => hgt h.1)]
  have both : ∀ (on : Bool) (to : Int) (out : List Int), -1 ≤ to → out = (if 0 ≤ to ∧ to ≤ (j : Int) then [to] else []) → Goes (T_flow_Next t (j : Int)) (.br on (.jmp (.l12 to out (decide (IntKind.i64.wrap ((j : Int) + 1) < Int.ofNat t.length)))) (.jmp (.l12 to out false))) (nextL t.length on to (j : Int)) := by
    intro on to out hto hout
    subst hout
    rw [goes_br, ← key, hw]
    cases on with
    | true =>
      rw [if_pos rfl, cond_true]
      exact l12 to _ hto fun h => of_decide_eq_true h
    | false =>
      rw [if_neg (by decide), cond_false]
      exact l12 to _ hto fun h => by cases h
  have hr := @toOf_lt t j
  rw [goes_br]
  unfold onOf
  by_cases hjmp : (v_ins_Leads (t.getD j (dflt T_api_Ins))).2 = true
  · have hto : toOf t j = findI (t.getD j (dflt T_api_Ins)).2.2.2.2.2.1 t 0 := by unfold toOf; rw [if_pos hjmp]
    rw [hto] at hr
    rw [if_pos hjmp, goes_br, if_pos (bound_len hj), goes_br, if_pos kf, goes_br, vf, hto]
    generalize findI (t.getD j (dflt T_api_Ins)).2.2.2.2.2.1 t 0 = to at hr
    by_cases h2 : to ≥ 0
    · rw [if_pos (decide_eq_true h2), goes_br]
      by_cases h3 : to ≤ (j : Int)
      · rw [if_pos (decide_eq_true h3)]
        exact both _ to _ hr.1 (by rw [if_pos ⟨h2, h3⟩])
      · rw [if_neg (by simpa using h3)]
        exact both _ to _ hr.1 (by rw [if_neg (fun h => h3 h.2)])
    · rw [if_neg (by simpa using h2)]
      exact both _ to _ hr.1 (by rw [if_neg (fun h => h2 h.1)])
  · have hto : toOf t j = -1 := by unfold toOf; rw [if_neg hjmp]
    rw [if_neg hjmp, hto]
    exact both _ (-1) _ (by omega) (by rw [if_neg (fun h => by omega)])
end Go.Ev
end

section
set_option linter.unusedSectionVars false
set_option linter.unusedVariables false
set_option linter.unusedSimpArgs false
set_option maxRecDepth 100000
set_option linter.unusedVariables false
open Go Go.Ev
namespace Go.Ev
noncomputable section
noncomputable def e_flow_Next : Run := entG sg_flow_Next R_flow_Next (fun a => k_flow_Next a.1 a.2.1) (fun a => v_flow_Next a.1 a.2.1)
theorem ok_flow_Next : EntOK Go.Proofs.Tryd.prog 16 e_flow_Next := entG_ok (tb := tb_flow_Next) (c := c_flow_Next) tk_flow_Next (by kernel_rfl) (by kernel_rfl) (by kernel_rfl) (fun a => by kernel_rfl) fun ⟨t, i, _⟩ hk => evF_goes (c := c_flow_Next) (K := fun v => (R_flow_Next v, tps (toForms sg_flow_Next (t, i, ())))) (S := S_flow_Next t i) (by kernel_rfl) (en_flow_Next t i) (lp_flow_Next t i) (g_flow_Next t i hk)
end
end Go.Ev
end

section
set_option linter.unusedSectionVars false
set_option linter.unusedVariables false
set_option linter.unusedSimpArgs false
set_option maxRecDepth 100000
set_option linter.unusedVariables false
open Go Go.Ev
namespace Go.Ev
noncomputable section
/-! ### (*paling/bits.Set).Size -/
noncomputable def t_bits_Set_Size : Tbl := []
theorem tk_bits_Set_Size : ∀ p ∈ t_bits_Set_Size, EntOK Go.Proofs.Tryd.prog p.1 p.2 := tbl_nil
noncomputable def c_bits_Set_Size : Code := Go.Proofs.Tryd.f52.body.getD .skip
noncomputable def e_bits_Set_Size : Run := entE Go.Proofs.Tryd.prog t_bits_Set_Size Go.Proofs.Tryd.f52 c_bits_Set_Size
theorem ok_bits_Set_Size : EntOK Go.Proofs.Tryd.prog 52 e_bits_Set_Size := entE_ok tk_bits_Set_Size (by kernel_rfl) (by kernel_rfl) (by kernel_rfl) (fun xs => by kernel_rfl)
end
end Go.Ev
end

section
set_option linter.unusedSectionVars false
set_option linter.unusedVariables false
set_option linter.unusedSimpArgs false
set_option maxRecDepth 100000
set_option linter.unusedVariables false
open Go Go.Ev
namespace Go.Ev
noncomputable section
/-! ### (*paling/bits.Set).Has -/
def sg_bits_Set_Has : PSig := [.obj 80 [(.d (.int .i64)), (.m (.int .i64) (.int .u64))], .dat false (.int .i64)]
noncomputable def t_bits_Set_Has : Tbl := [(52, e_bits_Set_Size)]
theorem tk_bits_Set_Has : ∀ p ∈ t_bits_Set_Has, EntOK Go.Proofs.Tryd.prog p.1 p.2 := tbl_cons ok_bits_Set_Size (tbl_nil)
noncomputable def c_bits_Set_Has : Code := Go.Proofs.Tryd.f40.body.getD .skip
def tb_bits_Set_Has : Tb := []
def T_bits_Set_Has (s : Int × List (Int × Int)) (i : Int) : Empty → JT Empty (Bool × Int × List (Int × Int)) := fun j => nomatch j
def T0_bits_Set_Has (s : Int × List (Int × Int)) (i : Int) : JT Empty (Bool × Int × List (Int × Int)) :=
  .br (decide (i ≥ (0 : Int)))
    (.br (decide (i < s.1))
      (.br (decide ((IntKind.u64.wrap (Int.tmod i (64 : Int))) < (0 : Int)))
        (.no)
      (.leaf (((bitAnd IntKind.u64 (Int.fdiv (Option.getD (mget (kt := (.int .i64)) (IntKind.i64.wrap (Int.tdiv i (64 : Int))) s.2) (0 : Int)) (2 ^ (min (Int.toNat (IntKind.u64.wrap (Int.tmod i (64 : Int)))) (IntKind.u64).bits))) (1 : Int)) == (1 : Int)), s)))
    (.leaf (false, s)))
  (.leaf (false, s))
def u_bits_Set_Has (s : Int × List (Int × Int)) (i : Int) : Bool × Int × List (Int × Int) :=
  bif (decide (i ≥ (0 : Int))) then
    bif (decide (i < s.1)) then
      bif (decide ((IntKind.u64.wrap (Int.tmod i (64 : Int))) < (0 : Int))) then
        (false, ((0 : Int), []))
      else (((bitAnd IntKind.u64 (Int.fdiv (Option.getD (mget (kt := (.int .i64)) (IntKind.i64.wrap (Int.tdiv i (64 : Int))) s.2) (0 : Int)) (2 ^ (min (Int.toNat (IntKind.u64.wrap (Int.tmod i (64 : Int)))) (IntKind.u64).bits))) (1 : Int)) == (1 : Int)), s)
    else (false, s)
  else (false, s)
def ku_bits_Set_Has (s : Int × List (Int × Int)) (i : Int) : Bool :=
  bif (decide (i ≥ (0 : Int))) then
    bif (decide (i < s.1)) then
      bif (decide ((IntKind.u64.wrap (Int.tmod i (64 : Int))) < (0 : Int))) then
        false
      else true
    else true
  else true
theorem gu_bits_Set_Has (s : Int × List (Int × Int)) (i : Int) (hk : ku_bits_Set_Has s i = true) : Goes (T_bits_Set_Has s i) (T0_bits_Set_Has s i) (u_bits_Set_Has s i) :=
  Goes.brk hk (fun hk =>
    Goes.brk hk (fun hk =>
      Goes.brk hk (fun hk =>
        Goes.nok hk) (fun hk =>
        Goes.leaf)) (fun hk =>
      Goes.leaf)) (fun hk =>
    Goes.leaf)
def K_bits_Set_Has : Bool × Int × List (Int × Int) → Ans := fun (r : Bool × Int × List (Int × Int)) => (.d .bool r.1, [.bx 80 [.d (.int .i64) r.2.1, .mv (.int .i64) (.int .u64) r.2.2], .top])
def S_bits_Set_Has (s : Int × List (Int × Int)) (i : Int) : Empty → Nat × St := fun j => nomatch j
theorem en_bits_Set_Has (s : Int × List (Int × Int)) (i : Int) (L : Lt) : entryA Go.Proofs.Tryd.prog (clOf t_bits_Set_Has) tb_bits_Set_Has Go.Proofs.Tryd.f40 c_bits_Set_Has L (toPs sg_bits_Set_Has (s, i, ())) = (T0_bits_Set_Has s i).run (fun v => some (K_bits_Set_Has v)) fun j => L (S_bits_Set_Has s i j).1 (S_bits_Set_Has s i j).2 := by kernel_rfl
theorem lp_bits_Set_Has (s : Int × List (Int × Int)) (i : Int) : ∀ (L : Lt) (j : Empty), procOf (procsF Go.Proofs.Tryd.prog (clOf t_bits_Set_Has) tb_bits_Set_Has Go.Proofs.Tryd.f40 c_bits_Set_Has (toPs sg_bits_Set_Has (s, i, ()))) (S_bits_Set_Has s i j).1 L (S_bits_Set_Has s i j).2 = (T_bits_Set_Has s i j).run (fun v => some (K_bits_Set_Has v)) fun j => L (S_bits_Set_Has s i j).1 (S_bits_Set_Has s i j).2 := fun L j => nomatch j
end
end Go.Ev
end

section
set_option linter.unusedSectionVars false
set_option linter.unusedVariables false
set_option linter.unusedSimpArgs false
set_option linter.unusedVariables false
open Go
namespace Go.Ev
def v_bits_Set_Has (s : Int × List (Int × Int)) (i : Int) : Bool × Int × List (Int × Int) := (hasS s i, s)
theorem g_bits_Set_Has (s : Int × List (Int × Int)) (i : Int) : Goes (T_bits_Set_Has s i) (T0_bits_Set_Has s i) (v_bits_Set_Has s i) := by
  unfold T0_bits_Set_Has v_bits_Set_Has hasS
  rw [goes_br]
  by_cases h0 : i ≥ 0
  · rw [if_pos (decide_eq_true h0), goes_br, decide_eq_true h0, Bool.true_and]
    by_cases h1 : i < s.1
    · rw [if_pos (decide_eq_true h1), goes_br, if_neg (by rw [wrapU_nonneg]; decide), decide_eq_true h1, Bool.true_and]
      exact .leaf
    · rw [if_neg (by simpa using h1), decide_eq_false h1, Bool.false_and]
      exact .leaf
  · rw [if_neg (by simpa using h0), decide_eq_false h0, Bool.false_and]
    exact .leaf
end Go.Ev
end

section
set_option linter.unusedSectionVars false
set_option linter.unusedVariables false
set_option linter.unusedSimpArgs false
set_option maxRecDepth 100000
set_option linter.unusedVariables false
open Go Go.Ev
namespace Go.Ev
noncomputable section
noncomputable def e_bits_Set_Has : Run := entO sg_bits_Set_Has K_bits_Set_Has (fun a => true) (fun a => v_bits_Set_Has a.1 a.2.1)
theorem ok_bits_Set_Has : EntOK Go.Proofs.Tryd.prog 40 e_bits_Set_Has := entO_ok (tb := tb_bits_Set_Has) (c := c_bits_Set_Has) (noRun_ok (known_of (fn := Go.Proofs.Tryd.f40) (c := c_bits_Set_Has) (by kernel_rfl) (by kernel_rfl) (by kernel_rfl))) tk_bits_Set_Has (by kernel_rfl) (by kernel_rfl) (fun a => by kernel_rfl) fun ⟨s, i, _⟩ hk => evF_goes (c := c_bits_Set_Has) (K := K_bits_Set_Has) (S := S_bits_Set_Has s i) (by kernel_rfl) (en_bits_Set_Has s i) (lp_bits_Set_Has s i) (g_bits_Set_Has s i)
end
end Go.Ev
end

section
set_option linter.unusedSectionVars false
set_option linter.unusedVariables false
set_option linter.unusedSimpArgs false
set_option maxRecDepth 100000
set_option linter.unusedVariables false
open Go Go.Ev
namespace Go.Ev
noncomputable section
/-! ### (*paling/bits.Set).Put -/
def sg_bits_Set_Put : PSig := [.obj 80 [(.d (.int .i64)), (.m (.int .i64) (.int .u64))], .dat false (.int .i64)]
noncomputable def t_bits_Set_Put : Tbl := [(52, e_bits_Set_Size), (40, e_bits_Set_Has)]
theorem tk_bits_Set_Put : ∀ p ∈ t_bits_Set_Put, EntOK Go.Proofs.Tryd.prog p.1 p.2 := tbl_cons ok_bits_Set_Size (tbl_cons ok_bits_Set_Has (tbl_nil))
noncomputable def c_bits_Set_Put : Code := Go.Proofs.Tryd.f38.body.getD .skip
def tb_bits_Set_Put : Tb := []
def T_bits_Set_Put (s : Int × List (Int × Int)) (i : Int) : Empty → JT Empty (Bool × Int × List (Int × Int)) := fun j => nomatch j
def T0_bits_Set_Put (s : Int × List (Int × Int)) (i : Int) : JT Empty (Bool × Int × List (Int × Int)) :=
  .br (decide (i < (0 : Int)))
    (.leaf (false, s))
  (.br (decide (i ≥ s.1))
    (.leaf (false, s))
  (.br (v_bits_Set_Has s i).1
    (.leaf (false, (v_bits_Set_Has s i).2))
  (.br (decide ((IntKind.u64.wrap (Int.tmod i (64 : Int))) < (0 : Int)))
    (.no)
  (.leaf (true, ((v_bits_Set_Has s i).2.1, (mput (kt := (.int .i64)) (IntKind.i64.wrap (Int.tdiv i (64 : Int))) (bitOr IntKind.u64 (Option.getD (mget (kt := (.int .i64)) (IntKind.i64.wrap (Int.tdiv i (64 : Int))) (v_bits_Set_Has s i).2.2) (0 : Int)) (IntKind.u64.wrap ((1 : Int) * (2 ^ (min (Int.toNat (IntKind.u64.wrap (Int.tmod i (64 : Int)))) (IntKind.u64).bits))))) (v_bits_Set_Has s i).2.2)))))))
def u_bits_Set_Put (s : Int × List (Int × Int)) (i : Int) : Bool × Int × List (Int × Int) :=
  bif (decide (i < (0 : Int))) then
    (false, s)
  else bif (decide (i ≥ s.1)) then
    (false, s)
  else bif (v_bits_Set_Has s i).1 then
    (false, (v_bits_Set_Has s i).2)
  else bif (decide ((IntKind.u64.wrap (Int.tmod i (64 : Int))) < (0 : Int))) then
    (false, ((0 : Int), []))
  else (true, ((v_bits_Set_Has s i).2.1, (mput (kt := (.int .i64)) (IntKind.i64.wrap (Int.tdiv i (64 : Int))) (bitOr IntKind.u64 (Option.getD (mget (kt := (.int .i64)) (IntKind.i64.wrap (Int.tdiv i (64 : Int))) (v_bits_Set_Has s i).2.2) (0 : Int)) (IntKind.u64.wrap ((1 : Int) * (2 ^ (min (Int.toNat (IntKind.u64.wrap (Int.tmod i (64 : Int)))) (IntKind.u64).bits))))) (v_bits_Set_Has s i).2.2)))
def ku_bits_Set_Put (s : Int × List (Int × Int)) (i : Int) : Bool :=
  bif (decide (i < (0 : Int))) then
    true
  else bif (decide (i ≥ s.1)) then
    true
  else bif (v_bits_Set_Has s i).1 then
    true
  else bif (decide ((IntKind.u64.wrap (Int.tmod i (64 : Int))) < (0 : Int))) then
    false
  else true
theorem gu_bits_Set_Put (s : Int × List (Int × Int)) (i : Int) (hk : ku_bits_Set_Put s i = true) : Goes (T_bits_Set_Put s i) (T0_bits_Set_Put s i) (u_bits_Set_Put s i) :=
  Goes.brk hk (fun hk =>
    Goes.leaf) (fun hk =>
    Goes.brk hk (fun hk =>
      Goes.leaf) (fun hk =>
      Goes.brk hk (fun hk =>
        Goes.leaf) (fun hk =>
        Goes.brk hk (fun hk =>
          Goes.nok hk) (fun hk =>
          Goes.leaf))))
def K_bits_Set_Put : Bool × Int × List (Int × Int) → Ans := fun (r : Bool × Int × List (Int × Int)) => (.d .bool r.1, [.bx 80 [.d (.int .i64) r.2.1, .mv (.int .i64) (.int .u64) r.2.2], .top])
def S_bits_Set_Put (s : Int × List (Int × Int)) (i : Int) : Empty → Nat × St := fun j => nomatch j
theorem en_bits_Set_Put (s : Int × List (Int × Int)) (i : Int) (L : Lt) : entryA Go.Proofs.Tryd.prog (clOf t_bits_Set_Put) tb_bits_Set_Put Go.Proofs.Tryd.f38 c_bits_Set_Put L (toPs sg_bits_Set_Put (s, i, ())) = (T0_bits_Set_Put s i).run (fun v => some (K_bits_Set_Put v)) fun j => L (S_bits_Set_Put s i j).1 (S_bits_Set_Put s i j).2 := by kernel_rfl
theorem lp_bits_Set_Put (s : Int × List (Int × Int)) (i : Int) : ∀ (L : Lt) (j : Empty), procOf (procsF Go.Proofs.Tryd.prog (clOf t_bits_Set_Put) tb_bits_Set_Put Go.Proofs.Tryd.f38 c_bits_Set_Put (toPs sg_bits_Set_Put (s, i, ()))) (S_bits_Set_Put s i j).1 L (S_bits_Set_Put s i j).2 = (T_bits_Set_Put s i j).run (fun v => some (K_bits_Set_Put v)) fun j => L (S_bits_Set_Put s i j).1 (S_bits_Set_Put s i j).2 := fun L j => nomatch j
end
end Go.Ev
end

section
set_option linter.unusedSectionVars false
set_option linter.unusedVariables false
set_option linter.unusedSimpArgs false
set_option linter.unusedVariables false
open Go
namespace Go.Ev
def v_bits_Set_Put (s : Int × List (Int × Int)) (i : Int) : Bool × Int × List (Int × Int) := putS s i
theorem g_bits_Set_Put (s : Int × List (Int × Int)) (i : Int) : Goes (T_bits_Set_Put s i) (T0_bits_Set_Put s i) (v_bits_Set_Put s i) := by
  unfold T0_bits_Set_Put v_bits_Set_Put putS
  simp only [v_bits_Set_Has]
  rw [goes_br]
  by_cases h0 : i < 0
  · rw [if_pos (decide_eq_true h0), if_pos (.inl h0)]; exact .leaf
  · rw [if_neg (by simpa using h0), goes_br]
    by_cases h1 : i ≥ s.1
    · rw [if_pos (decide_eq_true h1), if_pos (.inr (.inl h1))]; exact .leaf
    · rw [if_neg (by simpa using h1), goes_br]
      by_cases h2 : hasS s i = true
      · rw [if_pos h2, if_pos (.inr (.inr h2))]; exact .leaf
      · rw [if_neg h2, goes_br, if_neg (by rw [wrapU_nonneg]; decide), if_neg (by intro h; rcases h with h | h | h <;> first | exact h0 h | exact h1 h | exact h2 h)]
        exact .leaf
end Go.Ev
end

section
set_option linter.unusedSectionVars false
set_option linter.unusedVariables false
set_option linter.unusedSimpArgs false
set_option maxRecDepth 100000
set_option linter.unusedVariables false
open Go Go.Ev
namespace Go.Ev
noncomputable section
noncomputable def e_bits_Set_Put : Run := entO sg_bits_Set_Put K_bits_Set_Put (fun a => true) (fun a => v_bits_Set_Put a.1 a.2.1)
theorem ok_bits_Set_Put : EntOK Go.Proofs.Tryd.prog 38 e_bits_Set_Put := entO_ok (tb := tb_bits_Set_Put) (c := c_bits_Set_Put) (noRun_ok (known_of (fn := Go.Proofs.Tryd.f38) (c := c_bits_Set_Put) (by kernel_rfl) (by kernel_rfl) (by kernel_rfl))) tk_bits_Set_Put (by kernel_rfl) (by kernel_rfl) (fun a => by kernel_rfl) fun ⟨s, i, _⟩ hk => evF_goes (c := c_bits_Set_Put) (K := K_bits_Set_Put) (S := S_bits_Set_Put s i) (by kernel_rfl) (en_bits_Set_Put s i) (lp_bits_Set_Put s i) (g_bits_Set_Put s i)
end
end Go.Ev
end

section
set_option linter.unusedSectionVars false
set_option linter.unusedVariables false
set_option linter.unusedSimpArgs false
set_option maxRecDepth 100000
set_option linter.unusedVariables false
open Go Go.Ev
namespace Go.Ev
noncomputable section
/-! ### (*paling/bits.Set).List -/
def sg_bits_Set_List_t : PSig := [.obj 80 [(.d (.int .i64)), (.m (.int .i64) (.int .u64))]]
noncomputable def t_bits_Set_List_t : Tbl := []
theorem tk_bits_Set_List_t : ∀ p ∈ t_bits_Set_List_t, EntOK Go.Proofs.Tryd.prog p.1 p.2 := tbl_nil
noncomputable def c_bits_Set_List_t : Code := match Go.Proofs.Tryd.f39.body with
  | some (.seq _ (.seq _ (.seq _ (.seq _ (.seq _ d))))) => d
  | _ => .skip
def tb_bits_Set_List_t : Tb := [(2, ⟨[0, 4, 26, 27, 28], [(5, 76)]⟩), (8, ⟨[0, 4, 7, 8, 26, 27, 28], [(5, 76)]⟩)]
inductive J_bits_Set_List_t where
  | l2 (h : Int) (h1 : List Int) (h2 : Int) (out : List Int)
  | l8 (k : Int) (h : Int) (h1 : List Int) (i : Int) (out : List Int) (h2 : Int)
def T_bits_Set_List_t (s : Int × List (Int × Int)) (places : List Int) : J_bits_Set_List_t → JT J_bits_Set_List_t ((List Int) × Int × List (Int × Int))
  | .l2 h h1 h2 out =>
    .br (decide (h2 < h))
      (.br ((decide ((0 : Int) ≤ h2)) && (decide (h2 < (Int.ofNat (List.length h1)))))
        (.jmp (.l8 (List.getD h1 (Int.toNat h2) (dflt (.int .i64))) h h1 (0 : Int) out h2))
      (.no))
    (.leaf (out, s))
  | .l8 k h h1 i out h2 =>
    .br (decide (i < (64 : Int)))
      (.br (decide ((IntKind.u64.wrap i) < (0 : Int)))
        (.no)
      (.br ((bitAnd IntKind.u64 (Int.fdiv (Option.getD (mget (kt := (.int .i64)) k s.2) (0 : Int)) (2 ^ (min (Int.toNat (IntKind.u64.wrap i)) (IntKind.u64).bits))) (1 : Int)) == (1 : Int))
        (.br (Nat.ble (((List.length out) + 1) * 8) limit)
          (.jmp (.l8 k h h1 (IntKind.i64.wrap (i + (1 : Int))) (out ++ [(IntKind.i64.wrap ((IntKind.i64.wrap (k * (64 : Int))) + i))]) h2))
        (.no))
      (.jmp (.l8 k h h1 (IntKind.i64.wrap (i + (1 : Int))) out h2))))
    (.jmp (.l2 h h1 (IntKind.i64.wrap (h2 + (1 : Int))) out))
def T0_bits_Set_List_t (s : Int × List (Int × Int)) (places : List Int) : JT J_bits_Set_List_t ((List Int) × Int × List (Int × Int)) :=
  .jmp (.l2 (Int.ofNat (List.length places)) places (0 : Int) [])
def K_bits_Set_List_t : (List Int) × Int × List (Int × Int) → Ans := fun (r : (List Int) × Int × List (Int × Int)) => (.rw 3 (.int .i64) r.1, [.bx 80 [.d (.int .i64) r.2.1, .mv (.int .i64) (.int .u64) r.2.2]])
def S_bits_Set_List_t (s : Int × List (Int × Int)) (places : List Int) : J_bits_Set_List_t → Nat × St
  | .l2 h h1 h2 out => (2, ⟨mkTm 56 [(0, .pt 1 0 0), (4, .own 5 0 none), (26, .own 27 0 none), (27, .d (.int .i64) h), (28, .d (.int .i64) h2)], [(1, 0, .box 80 [.d (.int .i64) s.1, .mp 1026 0] (some 0)), (5, 0, .row 3 (.int .i64) out false), (27, 0, .row 3 (.int .i64) h1 false), (1026, 0, .map (.int .i64) (.int .u64) s.2)]⟩)
  | .l8 k h h1 i out h2 => (8, ⟨mkTm 56 [(0, .pt 1 0 0), (4, .own 5 0 none), (7, .d (.int .i64) k), (8, .d (.int .i64) i), (26, .own 27 0 none), (27, .d (.int .i64) h), (28, .d (.int .i64) h2)], [(1, 0, .box 80 [.d (.int .i64) s.1, .mp 1026 0] (some 0)), (5, 0, .row 3 (.int .i64) out false), (27, 0, .row 3 (.int .i64) h1 false), (1026, 0, .map (.int .i64) (.int .u64) s.2)]⟩)
def S0_bits_Set_List_t (s : Int × List (Int × Int)) (places : List Int) : St := ⟨mkTm 56 [(0, .pt 1 0 0), (3, .own 4 0 none), (4, .nil)], [(1, 0, .box 80 [.d (.int .i64) s.1, .mp 1026 0] (some 0)), (4, 0, .row 3 (.int .i64) places false), (1026, 0, .map (.int .i64) (.int .u64) s.2)]⟩
theorem en_bits_Set_List_t (s : Int × List (Int × Int)) (places : List Int) (L : Lt) : evC Go.Proofs.Tryd.prog (clOf t_bits_Set_List_t) tb_bits_Set_List_t L c_bits_Set_List_t 0 (finA Go.Proofs.Tryd.prog tb_bits_Set_List_t Go.Proofs.Tryd.f39 (toPs sg_bits_Set_List_t (s, ()))) (fun _ _ => none) (finA Go.Proofs.Tryd.prog tb_bits_Set_List_t Go.Proofs.Tryd.f39 (toPs sg_bits_Set_List_t (s, ()))) (S0_bits_Set_List_t s places) = (T0_bits_Set_List_t s places).run (fun v => some (K_bits_Set_List_t v)) fun j => L (S_bits_Set_List_t s places j).1 (S_bits_Set_List_t s places j).2 := by kernel_rfl
noncomputable def ps_bits_Set_List_t (s : Int × List (Int × Int)) (places : List Int) : List (Nat × (Lt → Kt)) := procs Go.Proofs.Tryd.prog (clOf t_bits_Set_List_t) tb_bits_Set_List_t c_bits_Set_List_t 0 (fun _ => (finA Go.Proofs.Tryd.prog tb_bits_Set_List_t Go.Proofs.Tryd.f39 (toPs sg_bits_Set_List_t (s, ())))) (fun _ _ _ => none) (fun _ => (finA Go.Proofs.Tryd.prog tb_bits_Set_List_t Go.Proofs.Tryd.f39 (toPs sg_bits_Set_List_t (s, ()))))
theorem lp_bits_Set_List_t (s : Int × List (Int × Int)) (places : List Int) : ∀ (L : Lt) (j : J_bits_Set_List_t), procOf (ps_bits_Set_List_t s places) (S_bits_Set_List_t s places j).1 L (S_bits_Set_List_t s places j).2 = (T_bits_Set_List_t s places j).run (fun v => some (K_bits_Set_List_t v)) fun j => L (S_bits_Set_List_t s places j).1 (S_bits_Set_List_t s places j).2
  | L, .l2 h h1 h2 out => by kernel_rfl
  | L, .l8 k h h1 i out h2 => by kernel_rfl
end
end Go.Ev
end

section
set_option linter.unusedSectionVars false
set_option linter.unusedVariables false
set_option linter.unusedSimpArgs false
set_option linter.unusedVariables false
set_option linter.unusedSimpArgs false
open Go
namespace Go.Ev
theorem g_bits_Set_List_t (s : Int × List (Int × Int)) (places : List Int) (hk : Nat.ble (places.length * 512) limit = true) : Goes (T_bits_Set_List_t s places) (T0_bits_Set_List_t s places) (listAt s.2 places, s) := by
  have hlim : places.length * 512 ≤ limit := Nat.le_of_ble_eq_true hk
  have hn : places.length < 4611686018427387904 := by unfold limit at hlim; omega
  -- within a word
  have inner : ∀ (k : Int) (j : Nat), j < places.length → ∀ (i : Nat), i ≤ 64 → ∀ (out : List Int) r, (out.length + (64 - i)) * 8 ≤ limit →
      Goes (T_bits_Set_List_t s places) (.jmp (.l2 (Int.ofNat (List.length places)) places ((j + 1 : Nat) : Int) (out ++ wordList s.2 k i (64 - i)))) r →
      Goes (T_bits_Set_List_t s places) (.jmp (.l8 k (Int.ofNat (List.length places)) places (i : Int) out (j : Int))) r := by
    intro k j hj
    refine down ?_ fun i hi ih => ?_
    · intro out r _ h
      rw [goes_jmp]
      have e : decide (((64 : Nat) : Int) < (64 : Int)) = false := by decide
      simp only [T_bits_Set_List_t, goes_br, e, Bool.false_eq_true, if_false, wrap_succ (k := j) (by omega)]
      simpa [wordList] using h
    · intro out r hl h
      rw [goes_jmp]
      have e : decide ((i : Int) < (64 : Int)) = true := decide_eq_true (by omega)
      have hw := wrapU_small hi
      have e2 : decide ((i : Int) < (0 : Int)) = false := decide_eq_false (by omega)
      have hcons : wordList s.2 k i (64 - i) = (if bitE (wordAt s.2 k) (i : Nat) then [numE k (i : Nat)] else []) ++ wordList s.2 k (i + 1) (64 - (i + 1)) := by
        unfold wordList
        rw [show 64 - i = (64 - (i + 1)) + 1 by omega, List.range'_succ, List.filter_cons]
        split <;> simp
      rw [hcons] at h
      have hb : ((bitAnd IntKind.u64 (Int.fdiv (Option.getD (mget (kt := (.int .i64)) k s.2) (0 : Int)) (2 ^ (min (Int.toNat (IntKind.u64.wrap (i : Int))) (IntKind.u64).bits))) (1 : Int)) == (1 : Int)) = bitE (wordAt s.2 k) (i : Nat) := rfl
      unfold T_bits_Set_List_t
      rw [goes_br, if_pos e, goes_br, if_neg (by rw [hw, e2]; decide), goes_br, hb, wrap_succ (k := i) (by omega)]
      by_cases hbit : bitE (wordAt s.2 k) (i : Nat) = true
      · rw [if_pos hbit]
        rw [if_pos hbit] at h
        rw [goes_br, if_pos (Nat.ble_eq_true_of_le (by omega))]
        refine ih (out ++ [numE k (i : Nat)]) r (by simp; omega) ?_
        simpa using h
      · rw [if_neg hbit]
        rw [if_neg hbit, List.nil_append] at h
        exact ih out r (by omega) h
  have outer : ∀ j, j ≤ places.length → ∀ out : List Int, (out.length + (places.length - j) * 64) * 8 ≤ limit →
      Goes (T_bits_Set_List_t s places) (.jmp (.l2 (Int.ofNat (List.length places)) places (j : Int) out)) (out ++ listAt s.2 (places.drop j), s) := by
    refine down ?_ fun j hj ih => ?_
    · intro out _
      rw [goes_jmp]
      simp only [T_bits_Set_List_t, goes_br, lt_len_not (Nat.lt_irrefl _), List.drop_length, Bool.false_eq_true, if_false]
      rw [show out ++ listAt s.2 [] = out by simp [listAt]]
      exact .leaf
    · intro out hl
      rw [goes_jmp, drop_cons hj]
      simp only [T_bits_Set_List_t, goes_br, lt_len hj, nng, Bool.and_self, if_true, Int.toNat_natCast, getD_lt hj]
      have hwl := wordList_length s.2 places[j] 0 64
      refine inner places[j] j hj 0 (by omega) out _ (by omega) ?_
      have := ih (out ++ wordList s.2 places[j] 0 64) (by rw [List.length_append]; omega)
      rw [show out ++ listAt s.2 (places[j] :: places.drop (j + 1)) = (out ++ wordList s.2 places[j] 0 64) ++ listAt s.2 (places.drop (j + 1)) by simp only [listAt, List.flatMap_cons, List.append_assoc]]
      exact this
  have := outer 0 (Nat.zero_le _) [] (by simp; omega)
  simpa [T0_bits_Set_List_t] using this
end Go.Ev
end

section
set_option linter.unusedSectionVars false
set_option linter.unusedVariables false
set_option linter.unusedSimpArgs false
set_option maxRecDepth 100000
set_option linter.unusedVariables false
open Go Go.Ev
namespace Go.Ev
/-! ### slices.Sort of numbers: by the library's contract -/
def renSort : Go.Shelf.Ren := ⟨fun n => if n = 189 then 53 else if n = 125 then 64 else if n = 257 then 63 else if n = 128 then 91 else if n = 129 then 92 else if n = 294 then 82 else if n = 295 then 83 else if n = 296 then 84 else if n = 297 then 85 else if n = 298 then 86 else if n = 299 then 87 else if n = 216 then 88 else if n = 300 then 89 else if n = 301 then 90 else if n = 328 then 104 else if n = 329 then 105 else if n = 330 then 106 else if n = 331 then 107 else if n = 332 then 108 else if n = 215 then 109 else if n = 343 then 115 else n,
  fun n => if n = 28 then 38 else if n = 46 then 83 else if n = 51 then 109 else if n = 53 then 82 else if n = 183 then 101 else if n = 182 then 100 else if n = 131 then 106 else if n = 218 then 128 else if n = 222 then 132 else if n = 228 then 142 else if n = 229 then 123 else n,
  fun n => n⟩
theorem renSort_lays : Go.Proofs.Lays.n189 Go.Proofs.Tryd.prog renSort where
  mixed := by kernel_rfl
  f125 := by kernel_rfl
  f128 := by kernel_rfl
  f129 := by kernel_rfl
  f189 := by kernel_rfl
  f215 := by kernel_rfl
  f216 := by kernel_rfl
  f257 := by kernel_rfl
  f294 := by kernel_rfl
  f295 := by kernel_rfl
  f296 := by kernel_rfl
  f297 := by kernel_rfl
  f298 := by kernel_rfl
  f299 := by kernel_rfl
  f300 := by kernel_rfl
  f301 := by kernel_rfl
  f328 := by kernel_rfl
  f329 := by kernel_rfl
  f330 := by kernel_rfl
  f331 := by kernel_rfl
  f332 := by kernel_rfl
  f343 := by kernel_rfl
  t0 := by kernel_rfl
  a0 := fun w => by kernel_rfl
  z0 := fun w => by kernel_rfl
  v0 := fun w => by kernel_rfl
  t3 := by kernel_rfl
  a3 := fun w => by kernel_rfl
  z3 := fun w => by kernel_rfl
  v3 := fun w => by kernel_rfl
  t4 := by kernel_rfl
  a4 := fun w => by kernel_rfl
  z4 := fun w => by kernel_rfl
  v4 := fun w => by kernel_rfl
  t5 := by kernel_rfl
  a5 := fun w => by kernel_rfl
  z5 := fun w => by kernel_rfl
  v5 := fun w => by kernel_rfl
  t9 := by kernel_rfl
  a9 := fun w => by kernel_rfl
  z9 := fun w => by kernel_rfl
  v9 := fun w => by kernel_rfl
  t28 := by kernel_rfl
  a28 := fun w => by kernel_rfl
  z28 := fun w => by kernel_rfl
  v28 := fun w => by kernel_rfl
  t46 := by kernel_rfl
  a46 := fun w => by kernel_rfl
  z46 := fun w => by kernel_rfl
  v46 := fun w => by kernel_rfl
  t51 := by kernel_rfl
  a51 := fun w => by kernel_rfl
  z51 := fun w => by kernel_rfl
  v51 := fun w => by kernel_rfl
  t53 := by kernel_rfl
  a53 := fun w => by kernel_rfl
  z53 := fun w => by kernel_rfl
  v53 := fun w => by kernel_rfl
  t131 := by kernel_rfl
  a131 := fun w => by kernel_rfl
  z131 := fun w => by kernel_rfl
  v131 := fun w => by kernel_rfl
  t182 := by kernel_rfl
  a182 := fun w => by kernel_rfl
  z182 := fun w => by kernel_rfl
  v182 := fun w => by kernel_rfl
  t183 := by kernel_rfl
  a183 := fun w => by kernel_rfl
  z183 := fun w => by kernel_rfl
  v183 := fun w => by kernel_rfl
  t218 := by kernel_rfl
  a218 := fun w => by kernel_rfl
  z218 := fun w => by kernel_rfl
  v218 := fun w => by kernel_rfl
  t222 := by kernel_rfl
  a222 := fun w => by kernel_rfl
  z222 := fun w => by kernel_rfl
  v222 := fun w => by kernel_rfl
  t228 := by kernel_rfl
  a228 := fun w => by kernel_rfl
  z228 := fun w => by kernel_rfl
  v228 := fun w => by kernel_rfl
  t229 := by kernel_rfl
  a229 := fun w => by kernel_rfl
  z229 := fun w => by kernel_rfl
  v229 := fun w => by kernel_rfl

theorem sortOK : SortOK Go.Proofs.Tryd.prog 53 := ⟨fun blk off cap zs w h1 h2 h3 => Go.Proofs.Any.slices_Sort_int renSort_lays blk off cap zs w h1 h2 h3, fun p cap w => Go.Proofs.Any.slices_Sort_int_none renSort_lays p cap w⟩
end Go.Ev
end

section
set_option linter.unusedSectionVars false
set_option linter.unusedVariables false
set_option linter.unusedSimpArgs false
set_option maxRecDepth 100000
set_option linter.unusedVariables false
open Go Go.Ev
namespace Go.Ev
/-! ### (*bits.Set).List: by hand: the keys in whatever order, sorted -/
def sg_bits_Set_List : PSig := [.obj 80 [(.d (.int .i64)), (.m (.int .i64) (.int .u64))]]
def v_bits_Set_List (s : Int × List (Int × Int)) : (List Int) × Int × List (Int × Int) := (listS s, s)
def k_bits_Set_List (s : Int × List (Int × Int)) : Bool := Nat.ble (s.2.length * 512) limit
def K_bits_Set_List : (List Int) × Int × List (Int × Int) → Ans := K_bits_Set_List_t

section
abbrev SetL := List (El (.int .i64) × El (.int .u64))
noncomputable def setListBody : Code := Go.Proofs.Tryd.f39.body.getD .skip
noncomputable def setListR : Code := fstC (sndC (sndC (sndC setListBody)))
noncomputable def setListX : RangeText := rangeText (sndC setListR)
noncomputable def setListSort : Code := fstC (sndC (sndC (sndC (sndC setListBody))))
def setLab1 : Lab := ⟨[0, 3, 4], []⟩
def setLab2 : Lab := ⟨[0, 3, 4, 15], [(4, 76)]⟩
def setObs (s : Int × SetL) (ps : List (El (.int .i64))) : List (Id × Nat × Obj) := [(1, 0, .box 80 [.d (.int .i64) s.1, .mp 1026 0] (some 0)), (4, 0, .row 3 (.int .i64) ps false), (1026, 0, .gone (some 1000))]
def setK (s : Int × SetL) (v : Value) (ps : List (El (.int .i64))) : St := ⟨mkTm 56 [(0, .pt 1 0 0), (3, .own 4 0 none), (4, .nil), (15, .cst v)], setObs s ps⟩
def setI (s : Int × SetL) (v : Value) (done : SetL) : St := setK s v (done.map Prod.fst)
def setT (s : Int × SetL) (v : Value) (done : SetL) (e : El (.int .i64) × El (.int .u64)) : St := ((setI s v done).put (some 16) (.tu [mkB true, .d (.int .i64) e.1, .d (.int .u64) e.2])).put (some 17) (mkB true)
def setU (s : Int × SetL) (v : Value) (done : SetL) (e : El (.int .i64) × El (.int .u64)) : St := (((setT s v done e).put (some 18) (.tu [.d (.int .i64) e.1, .d (.int .u64) e.2])).put (some 19) (.d (.int .i64) e.1)).put (some 5) (.d (.int .i64) e.1)
def setE (s : Int × SetL) (v : Value) (done : SetL) : St := ((setI s v done).put (some 16) (.tu [mkB false])).put (some 17) (mkB false)
/-- ahead of the range: after the first parts; with the map at hand -/
def setA (s : Int × SetL) : St := ⟨mkTm 56 [(0, .pt 1 0 0)], [(1, 0, .box 80 [.d (.int .i64) s.1, .mp 1026 0] (some 0)), (1026, 0, .map (.int .i64) (.int .u64) s.2)]⟩
def setC (s : Int × SetL) : St := ⟨mkTm 56 [(0, .pt 1 0 0), (3, .nil), (4, .nil)], [(1, 0, .box 80 [.d (.int .i64) s.1, .mp 1026 0] (some 0)), (1026, 0, .map (.int .i64) (.int .u64) s.2)]⟩
def setM (s : Int × SetL) : St := ((((setC s).put (some 11) (.pt 1 0 0)).put (some 12) (.pt 1 0 0)).put (some 13) (.pt 1 0 1)).put (some 14) (.mp 1026 0)

theorem setListX_ok : setListX.OK := ⟨by kernel_rfl, by kernel_rfl, by kernel_rfl, by kernel_rfl, by kernel_rfl, by kernel_rfl, by kernel_rfl, by kernel_rfl, by kernel_rfl⟩
theorem setList_round (s : Int × SetL) (v : Value) (done : SetL) (e : El (.int .i64) × El (.int .u64)) (L : Lt) (k : Kt) (x : Nat → Kt) (r : Kt) :
    evC Go.Proofs.Tryd.prog (clOf []) [] L setListX.cr 0 (fun t => k (norm Go.Proofs.Tryd.prog setLab2 t)) x r (setU s v done e) = bif Nat.ble (((done.map Prod.fst).length + 1) * 8) limit then k (setK s v (done.map Prod.fst ++ [e.1])) else none := by kernel_rfl
theorem setList_ev (s : Int × SetL) (hk : k_bits_Set_List s = true) : RangeEv Go.Proofs.Tryd.prog (clOf []) setListX s.2 setLab2 1026 1000 (setI s) (setE s) (setT s) (setU s) where
  it := fun v done => by kernel_rfl
  r1 := fun v done e k => by kernel_rfl
  rt := fun v done e => by kernel_rfl
  re := fun v done e => by kernel_rfl
  r2 := fun v done e k => by kernel_rfl
  r3 := fun v done e rest hp L k x r => by
    have hl := hp.length_eq
    simp only [List.length_append, List.length_cons] at hl
    have hlim : s.2.length * 512 ≤ limit := Nat.le_of_ble_eq_true hk
    rw [setList_round, List.length_map, Nat.ble_eq_true_of_le (by omega), cond_true]
    unfold setI
    rw [List.map_append]
    rfl
  f1 := fun v done k => by kernel_rfl
  ft := fun v done => by kernel_rfl
theorem setList_body : setListBody = .seq (fstC setListBody) (.seq (fstC (sndC setListBody)) (.seq (fstC (sndC (sndC setListBody))) (.seq (.seq (.region (ridC (fstC setListR)) (ropsC (fstC setListR)) false) setListX.code) (.seq (.region (ridC setListSort) (ropsC setListSort) false) c_bits_Set_List_t)))) := by kernel_rfl
theorem setList_a (s : Int × SetL) (L : Lt) (k : Kt) (x : Nat → Kt) (r : Kt) : evC Go.Proofs.Tryd.prog (clOf []) [] L (fstC setListBody) 0 (fun t => k (norm Go.Proofs.Tryd.prog setLab1 t)) x r (setA s) = k (setA s) := by kernel_rfl
theorem setList_b (s : Int × SetL) (L : Lt) (k : Kt) (x : Nat → Kt) (r : Kt) : evC Go.Proofs.Tryd.prog (clOf []) [] L (fstC (sndC setListBody)) 0 (fun t => k (norm Go.Proofs.Tryd.prog setLab1 t)) x r (setA s) = k (setA s) := by kernel_rfl
theorem setList_c (s : Int × SetL) (L : Lt) (k : Kt) (x : Nat → Kt) (r : Kt) : evC Go.Proofs.Tryd.prog (clOf []) [] L (fstC (sndC (sndC setListBody))) 0 (fun t => k (norm Go.Proofs.Tryd.prog setLab1 t)) x r (setA s) = k (setC s) := by kernel_rfl
def mapKV (P : Program) (T : TypeId) : TypeId × TypeId := match P.underlying T with | some (.map K V) => (K, V) | _ => (0, 0)

theorem callOK_bits_Set_List (s : Int × SetL) (hk : k_bits_Set_List s = true) : CallOK Go.Proofs.Tryd.prog 39 (toPs sg_bits_Set_List (s, ())) (K_bits_Set_List (v_bits_Set_List s)) := by
  obtain ⟨hcl, hdet⟩ := clOf_ok (P := Go.Proofs.Tryd.prog) tbl_nil
  have hlim : s.2.length * 512 ≤ limit := Nat.le_of_ble_eq_true hk
  refine callOK_of_wp (tb := tb_bits_Set_List_t) (fn := Go.Proofs.Tryd.f39) (c := setListBody) (vs := [.pt 1 0 0]) (st := ⟨[], [(1, 0, .box 80 [.d (.int .i64) s.1, .mp 1026 0] (some 0)), (1026, 0, .map (.int .i64) (.int .u64) s.2)]⟩) (by kernel_rfl) (by kernel_rfl) (by kernel_rfl) ?_
  intro _ Mod F0 w0 a w hr
  have hr : Rel Mod F0 w0 (setA s) a w := hr
  rw [setList_body]
  refine wp_seq (piece hcl hdet (norm Go.Proofs.Tryd.prog setLab1) (fun h => norm_rel h) (setList_a s) hr fun a w hr => ?_)
  refine wp_seq (piece hcl hdet (norm Go.Proofs.Tryd.prog setLab1) (fun h => norm_rel h) (setList_b s) hr fun a w hr => ?_)
  refine wp_seq (piece hcl hdet (norm Go.Proofs.Tryd.prog setLab1) (fun h => norm_rel h) (setList_c s) hr fun a w hr => ?_)
  -- the range
  refine wp_seq (wp_seq (wp_region ?_))
  rw [show List.range (ropsC (fstC setListR)).size = [0, 1, 2, 3, 4] from by kernel_rfl]
  refine evOp hcl (o := opC (fstC setListR) 0) (st1 := (setC s).put (some 11) (.pt 1 0 0)) (by kernel_rfl) (by kernel_rfl) (fun k => by kernel_rfl) hr fun a w hr => ?_
  refine evOp hcl (o := opC (fstC setListR) 1) (st1 := ((setC s).put (some 11) (.pt 1 0 0)).put (some 12) (.pt 1 0 0)) (by kernel_rfl) (by kernel_rfl) (fun k => by kernel_rfl) hr fun a w hr => ?_
  refine evOp hcl (o := opC (fstC setListR) 2) (st1 := (((setC s).put (some 11) (.pt 1 0 0)).put (some 12) (.pt 1 0 0)).put (some 13) (.pt 1 0 1)) (by kernel_rfl) (by kernel_rfl) (fun k => by kernel_rfl) hr fun a w hr => ?_
  refine evOp hcl (o := opC (fstC setListR) 3) (st1 := setM s) (by kernel_rfl) (by kernel_rfl) (fun k => by kernel_rfl) hr fun a w hr => ?_
  refine handOp (o := opC (fstC setListR) 4) (by kernel_rfl) (by kernel_rfl) ?_
  refine rangeLoop (tm := 14) (idm0 := 1026) (ver0 := 0) (T := (match (opC (fstC setListR) 4).op with | .range T _ => T | _ => 0)) (K := (mapKV Go.Proofs.Tryd.prog (match (opC (fstC setListR) 4).op with | .range T _ => T | _ => 0)).1) (V := (mapKV Go.Proofs.Tryd.prog (match (opC (fstC setListR) 4).op with | .range T _ => T | _ => 0)).2)
    hcl hdet setListX_ok rfl rfl (setList_ev s hk) (by kernel_rfl) (by kernel_rfl) (by kernel_rfl) (by kernel_rfl) (by kernel_rfl) (by kernel_rfl) (fun v => by kernel_rfl) (fun v done => by kernel_rfl) (fun v done => by kernel_rfl) hr ?_
  intro v done a w hperm hr
  -- the sort
  have hr : Rel Mod F0 w0 (S0_bits_Set_List_t s (done.map Prod.fst)) a w := norm_rel (P := Go.Proofs.Tryd.prog) (lab := setLab1) hr
  refine wp_seq (wp_region ?_)
  rw [show List.range (ropsC setListSort).size = [0, 1] from by kernel_rfl]
  refine evOp hcl (o := opC setListSort 0) (st1 := (S0_bits_Set_List_t s (done.map Prod.fst)).put (some 24) (.own 4 0 none)) (by kernel_rfl) (by kernel_rfl) (fun k => by kernel_rfl) hr fun a w hr => ?_
  refine handOp (o := opC setListSort 1) (by kernel_rfl) (by kernel_rfl) ?_
  refine sortStep (ts := 24) (id := 4) (ver := 0) (E := 3) (l := done.map Prod.fst) (c := (match (opC setListSort 1).op with | .call c => c | _ => default)) (fn := Go.Proofs.Tryd.f53) (body := Go.Proofs.Tryd.f53.body.getD .skip) (by kernel_rfl) (by kernel_rfl) (by kernel_rfl) (by kernel_rfl) (by kernel_rfl) (by kernel_rfl) (by kernel_rfl) (by kernel_rfl) sortOK (by
    rw [List.length_map, hperm.length_eq]
    unfold limit at hlim
    omega) hr fun a w hr => ?_
  have hr : Rel Mod F0 w0 (S0_bits_Set_List_t s (sorted (done.map Prod.fst))) a w := norm_rel (P := Go.Proofs.Tryd.prog) (lab := setLab1) hr
  rw [sorted_perm (hperm.map Prod.fst)] at hr
  have hg := g_bits_Set_List_t s (sorted (s.2.map Prod.fst)) (by rw [List.length_mergeSort, List.length_map]; exact hk)
  exact tailStep hcl hdet (ps := ps_bits_Set_List_t s (sorted (s.2.map Prod.fst))) rfl (by kernel_rfl) (en_bits_Set_List_t s _) (lp_bits_Set_List_t s _) hg hr
end
noncomputable def e_bits_Set_List : Run := entO sg_bits_Set_List K_bits_Set_List (fun a => k_bits_Set_List a.1) (fun a => v_bits_Set_List a.1)
theorem ok_bits_Set_List : EntOK Go.Proofs.Tryd.prog 39 e_bits_Set_List := entO_hand (noRun_ok (known_of (fn := Go.Proofs.Tryd.f39) (c := setListBody) (by kernel_rfl) (by kernel_rfl) (by kernel_rfl))) fun a h => callOK_bits_Set_List a.1 h
end Go.Ev
end

section
set_option linter.unusedSectionVars false
set_option linter.unusedVariables false
set_option linter.unusedSimpArgs false
set_option maxRecDepth 100000
set_option linter.unusedVariables false
open Go Go.Ev
namespace Go.Ev
noncomputable section
/-! ### paling/flow.From -/
def sg_flow_From : Sig := [(true, (.sl T_api_Ins)), (false, (.int .i64))]
noncomputable def t_flow_From : Tbl := [(37, e_bits_New), (16, e_flow_Next), (38, e_bits_Set_Put), (39, e_bits_Set_List)]
theorem tk_flow_From : ∀ p ∈ t_flow_From, EntOK Go.Proofs.Tryd.prog p.1 p.2 := tbl_cons ok_bits_New (tbl_cons ok_flow_Next (tbl_cons ok_bits_Set_Put (tbl_cons ok_bits_Set_List (tbl_nil))))
noncomputable def c_flow_From : Code := Go.Proofs.Tryd.f17.body.getD .skip
def tb_flow_From : Tb := [(4, ⟨[2, 5, 6], [(1000000000000000000000000000000000000000000000000000000000007, 1)]⟩)]
inductive J_flow_From where
  | l4 (len : Nat) (seen : Int) (open_ : List Int) (seen1 : List (Int × Int))
def T_flow_From (t : List (El T_api_Ins)) (i : Int) : J_flow_From → JT J_flow_From (List Int)
  | .l4 len seen open_ seen1 =>
    .br (decide ((Int.ofNat len) > (0 : Int)))
      (.br ((decide ((0 : Int) ≤ (IntKind.i64.wrap ((Int.ofNat len) - (1 : Int))))) && (decide ((IntKind.i64.wrap ((Int.ofNat len) - (1 : Int))) < (Int.ofNat len))))
        (.br ((decide ((0 : Int) ≤ (IntKind.i64.wrap ((Int.ofNat len) - (1 : Int))))) && (decide ((IntKind.i64.wrap ((Int.ofNat len) - (1 : Int))) ≤ (Int.ofNat len))))
          (.br (v_bits_Set_Put (seen, seen1) (List.getD open_ (Int.toNat (IntKind.i64.wrap ((Int.ofNat len) - (1 : Int)))) (dflt (.int .i64)))).1
            (.br (k_flow_Next t (List.getD open_ (Int.toNat (IntKind.i64.wrap ((Int.ofNat len) - (1 : Int)))) (dflt (.int .i64))))
              (.br (Nat.ble (((List.length (List.take (Int.toNat (IntKind.i64.wrap ((Int.ofNat len) - (1 : Int)))) open_)) + (List.length (v_flow_Next t (List.getD open_ (Int.toNat (IntKind.i64.wrap ((Int.ofNat len) - (1 : Int)))) (dflt (.int .i64)))))) * 8) limit)
                (.jmp (.l4 (List.length ((List.take (Int.toNat (IntKind.i64.wrap ((Int.ofNat len) - (1 : Int)))) open_) ++ (v_flow_Next t (List.getD open_ (Int.toNat (IntKind.i64.wrap ((Int.ofNat len) - (1 : Int)))) (dflt (.int .i64)))))) (v_bits_Set_Put (seen, seen1) (List.getD open_ (Int.toNat (IntKind.i64.wrap ((Int.ofNat len) - (1 : Int)))) (dflt (.int .i64)))).2.1 ((List.take (Int.toNat (IntKind.i64.wrap ((Int.ofNat len) - (1 : Int)))) open_) ++ (v_flow_Next t (List.getD open_ (Int.toNat (IntKind.i64.wrap ((Int.ofNat len) - (1 : Int)))) (dflt (.int .i64))))) (v_bits_Set_Put (seen, seen1) (List.getD open_ (Int.toNat (IntKind.i64.wrap ((Int.ofNat len) - (1 : Int)))) (dflt (.int .i64)))).2.2))
              (.no))
            (.no))
          (.jmp (.l4 (Int.toNat (IntKind.i64.wrap ((Int.ofNat len) - (1 : Int)))) (v_bits_Set_Put (seen, seen1) (List.getD open_ (Int.toNat (IntKind.i64.wrap ((Int.ofNat len) - (1 : Int)))) (dflt (.int .i64)))).2.1 open_ (v_bits_Set_Put (seen, seen1) (List.getD open_ (Int.toNat (IntKind.i64.wrap ((Int.ofNat len) - (1 : Int)))) (dflt (.int .i64)))).2.2)))
        (.no))
      (.no))
    (.br (k_bits_Set_List (seen, seen1))
      (.leaf (v_bits_Set_List (seen, seen1)).1)
    (.no))
def T0_flow_From (t : List (El T_api_Ins)) (i : Int) : JT J_flow_From (List Int) :=
  .br (k_flow_Next t i)
    (.jmp (.l4 (List.length (v_flow_Next t i)) (v_bits_New (Int.ofNat (List.length t))).1 (v_flow_Next t i) (v_bits_New (Int.ofNat (List.length t))).2))
  (.no)
def R_flow_From : List Int → AV := fun (r : List Int) => .rw 3 (.int .i64) r
def S_flow_From (t : List (El T_api_Ins)) (i : Int) : J_flow_From → Nat × St
  | .l4 len seen open_ seen1 => (4, ⟨mkTm 39 [(2, .pt 3 0 0), (5, .pt 6 0 0), (6, .own 7 0 (some len))], [(3, 0, .box 24 [.d (.sl T_api_Ins) t] none), (6, 0, .box 80 [.d (.int .i64) seen, .mp 6146 0] none), (7, 0, .row 3 (.int .i64) open_ false), (6146, 0, .map (.int .i64) (.int .u64) seen1)]⟩)
theorem en_flow_From (t : List (El T_api_Ins)) (i : Int) (L : Lt) : entryA Go.Proofs.Tryd.prog (clOf t_flow_From) tb_flow_From Go.Proofs.Tryd.f17 c_flow_From L (toForms sg_flow_From (t, i, ())) = (T0_flow_From t i).run (fun v => some (R_flow_From v, tps (toForms sg_flow_From (t, i, ())))) fun j => L (S_flow_From t i j).1 (S_flow_From t i j).2 := by kernel_rfl
theorem lp_flow_From (t : List (El T_api_Ins)) (i : Int) : ∀ (L : Lt) (j : J_flow_From), procOf (procsF Go.Proofs.Tryd.prog (clOf t_flow_From) tb_flow_From Go.Proofs.Tryd.f17 c_flow_From (toForms sg_flow_From (t, i, ()))) (S_flow_From t i j).1 L (S_flow_From t i j).2 = (T_flow_From t i j).run (fun v => some (R_flow_From v, tps (toForms sg_flow_From (t, i, ())))) fun j => L (S_flow_From t i j).1 (S_flow_From t i j).2
  | L, .l4 len seen open_ seen1 => by kernel_rfl
end
end Go.Ev
end

section
set_option linter.unusedSectionVars false
set_option linter.unusedVariables false
set_option linter.unusedSimpArgs false
/- Where one comes to, over steps of numbers. -/
set_option linter.unusedVariables false
open Go
namespace Go.Ev

inductive Come (N : Nat → Nat → Bool) (A : Nat → Bool) : Nat → Prop
  | start {j : Nat} : A j = true → Come N A j
  | step {k j : Nat} : Come N A k → N k j = true → Come N A j
noncomputable def comeB (N : Nat → Nat → Bool) (A : Nat → Bool) (j : Nat) : Bool := @decide (Come N A j) (Classical.propDecidable _)
theorem comeB_iff {N : Nat → Nat → Bool} {A : Nat → Bool} {j : Nat} : comeB N A j = true ↔ Come N A j := @decide_eq_true_iff _ (Classical.propDecidable _)
/-- What holds the start, is closed, and is come to, is it. -/
theorem comeB_eq {N : Nat → Nat → Bool} {A M : Nat → Bool} (h1 : ∀ j, A j = true → M j = true) (h2 : ∀ k j, M k = true → N k j = true → M j = true) (h3 : ∀ j, M j = true → Come N A j) (j : Nat) : M j = comeB N A j := by
  rw [Bool.eq_iff_iff, comeB_iff]
  refine ⟨h3 j, fun h => ?_⟩
  induction h with
  | start h => exact h1 _ h
  | step _ h ih => exact h2 _ _ ih h
theorem come_lt {N : Nat → Nat → Bool} {A : Nat → Bool} {n : Nat} (hA : ∀ j, A j = true → j < n) (hN : ∀ k j, N k j = true → j < n) {j : Nat} (h : Come N A j) : j < n := by
  cases h with
  | start h => exact hA _ h
  | step _ h => exact hN _ _ h
theorem come_mono {N N' : Nat → Nat → Bool} {A A' : Nat → Bool} (hA : ∀ j, A j = true → A' j = true) (hN : ∀ k j, N k j = true → N' k j = true) {j : Nat} (h : Come N A j) : Come N' A' j := by
  induction h with
  | start h => exact .start (hA _ h)
  | step _ h ih => exact .step ih (hN _ _ h)

/-- How many. -/
def card (n : Nat) (M : Nat → Bool) : Nat := (List.range n).countP M
theorem card_le {n : Nat} {M : Nat → Bool} : card n M ≤ n := by
  have := List.countP_le_length (p := M) (l := List.range n)
  simpa [card] using this
theorem card_add {M : Nat → Bool} {i : Nat} (hM : M i = false) : ∀ {n : Nat}, i < n → card n (fun j => M j || (j == i)) = card n M + 1 := by
  intro n
  induction n with
  | zero => intro h; omega
  | succ n ih =>
    intro h
    unfold card at *
    rw [List.range_succ, List.countP_append, List.countP_append]
    by_cases hi : i = n
    · subst hi
      have e : (List.range i).countP (fun j => M j || (j == i)) = (List.range i).countP M := List.countP_congr fun j hj => by
        have := List.mem_range.1 hj
        have : (j == i) = false := by simp; omega
        rw [this, Bool.or_false]
      rw [e]
      simp [hM]
    · rw [ih (by omega)]
      have : (n == i) = false := by simp; omega
      simp [this]
      omega
theorem listOf_length {n : Nat} {M : Nat → Bool} : (listOf n M).length = card n M := by
  unfold listOf card
  rw [List.length_map, List.countP_eq_length_filter]
end Go.Ev
end

section
set_option linter.unusedSectionVars false
set_option linter.unusedVariables false
set_option linter.unusedSimpArgs false
/- To which instructions one comes. -/
set_option linter.unusedVariables false
open Go
namespace Go.Ev
/-- Does one come from i to j? -/
noncomputable def fromB (t : List (El T_api_Ins)) (i : Int) (j : Nat) : Bool := comeB (fun k j => nextB t (k : Int) j) (nextB t i) j
theorem fromB_lt {t : List (El T_api_Ins)} {i : Int} {j : Nat} (h : fromB t i j = true) : j < t.length := come_lt (fun j => nextB_lt) (fun k j => nextB_lt) (comeB_iff.1 h)
end Go.Ev
end

section
set_option linter.unusedSectionVars false
set_option linter.unusedVariables false
set_option linter.unusedSimpArgs false
set_option maxRecDepth 100000
set_option linter.unusedVariables false
set_option linter.unusedSimpArgs false
open Go
namespace Go.Ev
noncomputable def v_flow_From (t : List (El T_api_Ins)) (i : Int) : List Int := listOf t.length (fromB t i)
def k_flow_From (t : List (El T_api_Ins)) (i : Int) : Bool := flowOK t
theorem next_short (t : List (El T_api_Ins)) (i : Int) : (v_flow_Next t i).length ≤ 3 := by
  unfold v_flow_Next
  by_cases h : 0 ≤ i ∧ i < (t.length : Int)
  · obtain ⟨j, rfl⟩ := Int.eq_ofNat_of_zero_le h.1
    rw [← nextL_eq (by omega)]
    unfold nextL
    simp only [List.length_append]
    split <;> split <;> split <;> simp
  · rw [nextB_out h]; simp
theorem take_pred {l : List Int} {n : Nat} (h : n + 1 ≤ l.length) : l.take (n + 1) = l.take n ++ [l.getD n 0] := by
  have hn : n < l.length := by omega
  rw [List.take_succ_eq_append_getElem hn, getD_lt hn]
theorem g_flow_From (t : List (El T_api_Ins)) (i : Int) (hk : k_flow_From t i = true) : Goes (T_flow_From t i) (T0_flow_From t i) (v_flow_From t i) := by
  have hlen := flowOK_len hk
  generalize hn : t.length = n at hlen
  have loop : ∀ m, ∀ (M : Nat → Bool) (s : Int × List (Int × Int)) (open_ : List Int) (len : Nat), len ≤ open_.length → 4 * (n - card n M) + len = m → SetOK s n M → (∀ j, M j = true → Come (fun k j => nextB t (k : Int) j) (nextB t i) j) →
      (∀ x ∈ open_.take len, ∃ j : Nat, x = (j : Int) ∧ Come (fun k j => nextB t (k : Int) j) (nextB t i) j) → (∀ j, nextB t i j = true → M j = true ∨ (j : Int) ∈ open_.take len) → (∀ k j, M k = true → nextB t (k : Int) j = true → M j = true ∨ (j : Int) ∈ open_.take len) →
      len ≤ 3 * (card n M + 1) → Goes (T_flow_From t i) (.jmp (.l4 len s.1 open_ s.2)) (v_flow_From t i) := by
    intro m
    induction m using Nat.strongRecOn with
    | _ m ih =>
    intro M s open_ len hl hm hs h1 h2 h3 h4 h5
    cases len with
    | zero =>
      rw [goes_jmp, T_flow_From, goes_br, if_neg (by decide)]
      have hkl : k_bits_Set_List (s.1, s.2) = true := Nat.ble_eq_true_of_le (by have := hs.few; unfold limit; show s.2.length * 512 ≤ _; omega)
      rw [goes_br, if_pos hkl]
      have hv : (v_bits_Set_List (s.1, s.2)).1 = v_flow_From t i := by
        show listS s = _
        rw [hs.list (by omega)]
        unfold v_flow_From fromB
        rw [hn]
        refine listOf_congr fun j _ => comeB_eq (fun j hj => ?_) (fun k j hk hj => ?_) h1 j
        · simpa using h3 j hj
        · simpa using h4 k j hk hj
      rw [hv]; exact .leaf
    | succ len =>
      have hc := @card_le n M
      have e : IntKind.i64.wrap (Int.ofNat (len + 1) - 1) = (len : Int) := by
        rw [wrap_i64 (by simp <;> omega) (by simp <;> omega)]; simp
      have g1 : decide (Int.ofNat (len + 1) > (0 : Int)) = true := decide_eq_true (by simp <;> omega)
      have g2 : (decide ((0 : Int) ≤ (len : Int)) && decide ((len : Int) < Int.ofNat (len + 1))) = true := bound_len (by omega)
      have g3 : (decide ((0 : Int) ≤ (len : Int)) && decide ((len : Int) ≤ Int.ofNat (len + 1))) = true := by simp; omega
      rw [goes_jmp, T_flow_From, e, goes_br, if_pos g1, goes_br, if_pos g2, goes_br, if_pos g3, goes_br, Int.toNat_natCast]
      have htk := take_pred hl
      obtain ⟨j, hj, hcj⟩ := h2 (open_.getD len 0) (by rw [htk]; simp)
      have hjn : j < n := by
        have := come_lt (n := t.length) (fun j => nextB_lt) (fun k j => nextB_lt) hcj
        omega
      have hd : open_.getD len (dflt (.int .i64)) = (j : Int) := hj
      rw [hd]
      have hput : v_bits_Set_Put (s.1, s.2) (j : Int) = putS s (j : Int) := rfl
      rw [hput]
      have sub : ∀ x, x ∈ open_.take len → x ∈ open_.take (len + 1) := fun x hx => by rw [htk]; simp [hx]
      cases hMj : M j with
      | true =>
        have hno := hs.put_no (by omega) (i := (j : Int)) (fun h => by rw [Int.toNat_natCast, hMj] at h; cases h.2.2)
        rw [hno, if_neg (by simp)]
        have lose : ∀ k : Nat, (M k = true ∨ (k : Int) ∈ open_.take (len + 1)) → (M k = true ∨ (k : Int) ∈ open_.take len) := fun k h => by
          rcases h with h | h
          · exact .inl h
          · rw [htk, List.mem_append] at h
            rcases h with h | h
            · exact .inr h
            · simp only [List.mem_singleton] at h
              rw [hj] at h
              have : k = j := by omega
              subst this
              exact .inl hMj
        exact ih (m - 1) (by omega) M s open_ len (by omega) (by omega) hs h1 (fun x hx => h2 x (sub x hx)) (fun k hk => lose k (h3 k hk)) (fun k k' hk hk' => lose k' (h4 k k' hk hk')) (by omega)
      | false =>
        obtain ⟨p1, p2⟩ := hs.put (by omega) hjn hMj
        have hsh := next_short t (j : Int)
        have hkn : k_flow_Next t (j : Int) = true := hk
        rw [p1, if_pos rfl, goes_br, if_pos hkn, goes_br, if_pos (Nat.ble_eq_true_of_le (by
          rw [List.length_take]; unfold limit; omega))]
        have hcard := card_add hMj hjn
        have hcl2 := @card_le n (fun k => M k || (k == j))
        have hnl : ∀ k : Nat, nextB t (j : Int) k = true → (k : Int) ∈ v_flow_Next t (j : Int) := fun k hk => listOf_mem.2 ⟨k, nextB_lt hk, hk, rfl⟩
        have htake : (open_.take len ++ v_flow_Next t (j : Int)).take (open_.take len ++ v_flow_Next t (j : Int)).length = open_.take len ++ v_flow_Next t (j : Int) := List.take_length
        have hlen2 : (open_.take len ++ v_flow_Next t (j : Int)).length ≤ len + 3 := by rw [List.length_append, List.length_take]; omega
        have keep : ∀ k : Nat, (M k = true ∨ (k : Int) ∈ open_.take (len + 1)) → ((M k || (k == j)) = true ∨ (k : Int) ∈ open_.take len ++ v_flow_Next t (j : Int)) := fun k h => by
          rcases h with h | h
          · exact .inl (by rw [h]; rfl)
          · rw [htk, List.mem_append] at h
            rcases h with h | h
            · exact .inr (List.mem_append_left _ h)
            · simp only [List.mem_singleton] at h
              rw [hj] at h
              have : k = j := by omega
              subst this
              exact .inl (by simp)
        refine ih _ (by omega) (fun k => M k || (k == j)) (putS s (j : Int)).2 (open_.take len ++ v_flow_Next t (j : Int)) (open_.take len ++ v_flow_Next t (j : Int)).length (Nat.le_refl _) rfl p2 (fun k hk => ?_) (fun x hx => ?_) (fun k hk => ?_) (fun k k' hk hk' => ?_) (by omega)
        · simp only [Bool.or_eq_true, beq_iff_eq] at hk
          rcases hk with hk | hk
          · exact h1 k hk
          · subst hk; exact hcj
        · rw [htake, List.mem_append] at hx
          rcases hx with hx | hx
          · exact h2 x (sub x hx)
          · obtain ⟨k, _, hk, rfl⟩ := listOf_mem.1 hx
            exact ⟨k, rfl, .step hcj hk⟩
        · rw [htake]; exact keep k (h3 k hk)
        · rw [htake]
          simp only [Bool.or_eq_true, beq_iff_eq] at hk
          rcases hk with hk | hk
          · exact keep k' (h4 k k' hk hk')
          · subst hk
            exact .inr (List.mem_append_right _ (hnl k' hk'))
  have hkn : k_flow_Next t i = true := hk
  unfold T0_flow_From
  rw [goes_br, if_pos hkn]
  have hnew : v_bits_New (Int.ofNat (List.length t)) = ((n : Int), []) := by
    rw [hn]
    unfold v_bits_New
    simp
    omega
  rw [hnew]
  refine loop _ (fun _ => false) ((n : Int), []) (v_flow_Next t i) _ (Nat.le_refl _) rfl (SetOK.new n) (fun j h => by cases h) (fun x hx => ?_) (fun j hj => .inr ?_) (fun k j h => by cases h) (by have := next_short t i; omega)
  · rw [List.take_length] at hx
    obtain ⟨k, _, hk, rfl⟩ := listOf_mem.1 hx
    exact ⟨k, rfl, .start hk⟩
  · rw [List.take_length]; exact listOf_mem.2 ⟨j, nextB_lt hj, hj, rfl⟩
end Go.Ev
end

section
set_option linter.unusedSectionVars false
set_option linter.unusedVariables false
set_option linter.unusedSimpArgs false
set_option maxRecDepth 100000
set_option linter.unusedVariables false
open Go Go.Ev
namespace Go.Ev
noncomputable section
noncomputable def e_flow_From : Run := entG sg_flow_From R_flow_From (fun a => k_flow_From a.1 a.2.1) (fun a => v_flow_From a.1 a.2.1)
theorem ok_flow_From : EntOK Go.Proofs.Tryd.prog 17 e_flow_From := entG_ok (tb := tb_flow_From) (c := c_flow_From) tk_flow_From (by kernel_rfl) (by kernel_rfl) (by kernel_rfl) (fun a => by kernel_rfl) fun ⟨t, i, _⟩ hk => evF_goes (c := c_flow_From) (K := fun v => (R_flow_From v, tps (toForms sg_flow_From (t, i, ())))) (S := S_flow_From t i) (by kernel_rfl) (en_flow_From t i) (lp_flow_From t i) (g_flow_From t i hk)
end
end Go.Ev
end

section
set_option linter.unusedSectionVars false
set_option linter.unusedVariables false
set_option linter.unusedSimpArgs false
set_option maxRecDepth 100000
set_option linter.unusedVariables false
open Go Go.Ev
namespace Go.Ev
noncomputable section
/-! ### paling/palingbook.SameInts -/
def sg_book_SameInts : Sig := [(false, (.sl (.int .i64))), (false, (.sl (.int .i64)))]
noncomputable def t_book_SameInts : Tbl := []
theorem tk_book_SameInts : ∀ p ∈ t_book_SameInts, EntOK Go.Proofs.Tryd.prog p.1 p.2 := tbl_nil
noncomputable def c_book_SameInts : Code := Go.Proofs.Tryd.f18.body.getD .skip
def tb_book_SameInts : Tb := [(6, ⟨[0, 1, 5], []⟩)]
inductive J_book_SameInts where
  | l6 (i : Int)
def T_book_SameInts (a : List Int) (b : List Int) : J_book_SameInts → JT J_book_SameInts (Bool)
  | .l6 i =>
    .br (decide (i < (Int.ofNat (List.length a))))
      (.br ((decide ((0 : Int) ≤ i)) && (decide (i < (Int.ofNat (List.length a)))))
        (.br ((decide ((0 : Int) ≤ i)) && (decide (i < (Int.ofNat (List.length b)))))
          (.br ((List.getD a (Int.toNat i) (dflt (.int .i64))) != (List.getD b (Int.toNat i) (dflt (.int .i64))))
            (.leaf false)
          (.jmp (.l6 (IntKind.i64.wrap (i + (1 : Int))))))
        (.no))
      (.no))
    (.leaf true)
def T0_book_SameInts (a : List Int) (b : List Int) : JT J_book_SameInts (Bool) :=
  .br ((Int.ofNat (List.length a)) != (Int.ofNat (List.length b)))
    (.leaf false)
  (.jmp (.l6 (0 : Int)))
def R_book_SameInts : Bool → AV := fun (r : Bool) => .d .bool r
def S_book_SameInts (a : List Int) (b : List Int) : J_book_SameInts → Nat × St
  | .l6 i => (6, ⟨mkTm 26 [(0, .d (.sl (.int .i64)) a), (1, .d (.sl (.int .i64)) b), (5, .d (.int .i64) i)], []⟩)
theorem en_book_SameInts (a : List Int) (b : List Int) (L : Lt) : entryA Go.Proofs.Tryd.prog (clOf t_book_SameInts) tb_book_SameInts Go.Proofs.Tryd.f18 c_book_SameInts L (toForms sg_book_SameInts (a, b, ())) = (T0_book_SameInts a b).run (fun v => some (R_book_SameInts v, tps (toForms sg_book_SameInts (a, b, ())))) fun j => L (S_book_SameInts a b j).1 (S_book_SameInts a b j).2 := by kernel_rfl
theorem lp_book_SameInts (a : List Int) (b : List Int) : ∀ (L : Lt) (j : J_book_SameInts), procOf (procsF Go.Proofs.Tryd.prog (clOf t_book_SameInts) tb_book_SameInts Go.Proofs.Tryd.f18 c_book_SameInts (toForms sg_book_SameInts (a, b, ()))) (S_book_SameInts a b j).1 L (S_book_SameInts a b j).2 = (T_book_SameInts a b j).run (fun v => some (R_book_SameInts v, tps (toForms sg_book_SameInts (a, b, ())))) fun j => L (S_book_SameInts a b j).1 (S_book_SameInts a b j).2
  | L, .l6 i => by kernel_rfl
end
end Go.Ev
end

section
set_option linter.unusedSectionVars false
set_option linter.unusedVariables false
set_option linter.unusedSimpArgs false
set_option linter.unusedVariables false
set_option linter.unusedSimpArgs false
open Go
namespace Go.Ev
theorem intB_eq {a b : Int} : (a == b) = decide (a = b) := by rw [Bool.eq_iff_iff]; simp

def v_book_SameInts (a b : List Int) : Bool := decide (a = b)
def k_book_SameInts (a b : List Int) : Bool := decide (a.length < 4611686018427387904)
theorem g_book_SameInts (a b : List Int) (hk : k_book_SameInts a b = true) : Goes (T_book_SameInts a b) (T0_book_SameInts a b) (v_book_SameInts a b) := by
  have hn : a.length < 4611686018427387904 := of_decide_eq_true hk
  have loop : a.length = b.length → ∀ k, k ≤ a.length → Goes (T_book_SameInts a b) (.jmp (.l6 (k : Int))) (decide (a.drop k = b.drop k)) := by
    intro he
    refine down ?_ fun k hk ih => ?_
    · rw [goes_jmp]
      simp [T_book_SameInts, goes_br, goes_leaf, he]
    · rw [goes_jmp]
      have hkb : k < b.length := he ▸ hk
      simp only [T_book_SameInts, goes_br, lt_len hk, lt_len hkb, nng, Bool.and_self, if_true, Int.toNat_natCast, getD_lt hk, getD_lt hkb, wrap_succ (k := k) (by omega)]
      rw [drop_cons hk, drop_cons hkb]
      split
      · rename_i h1
        have h2 : (! decide (a[k] = b[k])) = true := (congrArg Bool.not intB_eq).symm.trans h1
        have h3 : ¬ a[k] = b[k] := by simpa using h2
        rw [decide_eq_false (fun e => h3 (List.cons.inj e).1)]
        exact .leaf
      · rename_i h1
        have h2 : ¬ (! decide (a[k] = b[k])) = true := fun h => h1 ((congrArg Bool.not intB_eq).trans h)
        have h3 : a[k] = b[k] := by simpa using h2
        rw [show decide (a[k] :: List.drop (k + 1) a = b[k] :: List.drop (k + 1) b) = decide (List.drop (k + 1) a = List.drop (k + 1) b) from decide_eq_decide.2 ⟨fun e => (List.cons.inj e).2, fun e => by rw [h3, e]⟩]
        exact ih
  unfold T0_book_SameInts v_book_SameInts
  rw [goes_br]
  by_cases h : a.length = b.length
  · have := loop h 0 (Nat.zero_le _)
    simpa [h] using this
  · have : a ≠ b := fun e => h (congrArg _ e)
    rw [if_pos (by simp; omega), decide_eq_false this]
    exact .leaf

end Go.Ev
end

section
set_option linter.unusedSectionVars false
set_option linter.unusedVariables false
set_option linter.unusedSimpArgs false
set_option maxRecDepth 100000
set_option linter.unusedVariables false
open Go Go.Ev
namespace Go.Ev
noncomputable section
noncomputable def e_book_SameInts : Run := entG sg_book_SameInts R_book_SameInts (fun a => k_book_SameInts a.1 a.2.1) (fun a => v_book_SameInts a.1 a.2.1)
theorem ok_book_SameInts : EntOK Go.Proofs.Tryd.prog 18 e_book_SameInts := entG_ok (tb := tb_book_SameInts) (c := c_book_SameInts) tk_book_SameInts (by kernel_rfl) (by kernel_rfl) (by kernel_rfl) (fun a => by kernel_rfl) fun ⟨a, b, _⟩ hk => evF_goes (c := c_book_SameInts) (K := fun v => (R_book_SameInts v, tps (toForms sg_book_SameInts (a, b, ())))) (S := S_book_SameInts a b) (by kernel_rfl) (en_book_SameInts a b) (lp_book_SameInts a b) (g_book_SameInts a b hk)
end
end Go.Ev
end

section
set_option linter.unusedSectionVars false
set_option linter.unusedVariables false
set_option linter.unusedSimpArgs false
set_option maxRecDepth 100000
set_option linter.unusedVariables false
open Go Go.Ev
namespace Go.Ev
noncomputable section
/-! ### paling/flow.Dead -/
def sg_flow_Dead : Sig := [(true, (.sl T_api_Ins))]
noncomputable def t_flow_Dead : Tbl := [(37, e_bits_New), (17, e_flow_From), (38, e_bits_Set_Put), (40, e_bits_Set_Has)]
theorem tk_flow_Dead : ∀ p ∈ t_flow_Dead, EntOK Go.Proofs.Tryd.prog p.1 p.2 := tbl_cons ok_bits_New (tbl_cons ok_flow_From (tbl_cons ok_bits_Set_Put (tbl_cons ok_bits_Set_Has (tbl_nil))))
noncomputable def c_flow_Dead : Code := Go.Proofs.Tryd.f20.body.getD .skip
def tb_flow_Dead : Tb := [(4, ⟨[1, 3, 13, 14, 15], []⟩), (12, ⟨[1, 3, 6, 7], [(7, 76)]⟩)]
inductive J_flow_Dead where
  | l4 (h : Int) (live : Int) (live1 : List (Int × Int))
  | l12 (live : Int) (live1 : List (Int × Int)) (k : Int) (out : List Int)
def T_flow_Dead (t : List (El T_api_Ins)) : J_flow_Dead → JT J_flow_Dead (List Int)
  | .l4 h live live1 =>
    .br (decide (h < (Int.ofNat (List.length (v_flow_From t (0 : Int))))))
      (.br ((decide ((0 : Int) ≤ h)) && (decide (h < (Int.ofNat (List.length (v_flow_From t (0 : Int)))))))
        (.jmp (.l4 (IntKind.i64.wrap (h + (1 : Int))) (v_bits_Set_Put (live, live1) (List.getD (v_flow_From t (0 : Int)) (Int.toNat h) (dflt (.int .i64)))).2.1 (v_bits_Set_Put (live, live1) (List.getD (v_flow_From t (0 : Int)) (Int.toNat h) (dflt (.int .i64)))).2.2))
      (.no))
    (.jmp (.l12 live live1 (1 : Int) []))
  | .l12 live live1 k out =>
    .br (decide (k < (Int.ofNat (List.length t))))
      (.br (! (v_bits_Set_Has (live, live1) k).1)
        (.br (Nat.ble (((List.length out) + 1) * 8) limit)
          (.jmp (.l12 (v_bits_Set_Has (live, live1) k).2.1 (v_bits_Set_Has (live, live1) k).2.2 (IntKind.i64.wrap (k + (1 : Int))) (out ++ [k])))
        (.no))
      (.jmp (.l12 (v_bits_Set_Has (live, live1) k).2.1 (v_bits_Set_Has (live, live1) k).2.2 (IntKind.i64.wrap (k + (1 : Int))) out)))
    (.leaf out)
def T0_flow_Dead (t : List (El T_api_Ins)) : JT J_flow_Dead (List Int) :=
  .br (k_flow_From t (0 : Int))
    (.jmp (.l4 (0 : Int) (v_bits_New (Int.ofNat (List.length t))).1 (v_bits_New (Int.ofNat (List.length t))).2))
  (.no)
def R_flow_Dead : List Int → AV := fun (r : List Int) => .rw 3 (.int .i64) r
def S_flow_Dead (t : List (El T_api_Ins)) : J_flow_Dead → Nat × St
  | .l4 h live live1 => (4, ⟨mkTm 39 [(1, .pt 2 0 0), (3, .pt 4 0 0), (13, .own 14 0 none), (14, .d (.int .i64) (Int.ofNat (List.length (v_flow_From t (0 : Int))))), (15, .d (.int .i64) h)], [(2, 0, .box 24 [.d (.sl T_api_Ins) t] none), (4, 0, .box 80 [.d (.int .i64) live, .mp 4098 0] none), (14, 0, .row 3 (.int .i64) (v_flow_From t (0 : Int)) false), (4098, 0, .map (.int .i64) (.int .u64) live1)]⟩)
  | .l12 live live1 k out => (12, ⟨mkTm 39 [(1, .pt 2 0 0), (3, .pt 4 0 0), (6, .own 7 0 none), (7, .d (.int .i64) k)], [(2, 0, .box 24 [.d (.sl T_api_Ins) t] none), (4, 0, .box 80 [.d (.int .i64) live, .mp 4098 0] none), (7, 0, .row 3 (.int .i64) out false), (4098, 0, .map (.int .i64) (.int .u64) live1)]⟩)
theorem en_flow_Dead (t : List (El T_api_Ins)) (L : Lt) : entryA Go.Proofs.Tryd.prog (clOf t_flow_Dead) tb_flow_Dead Go.Proofs.Tryd.f20 c_flow_Dead L (toForms sg_flow_Dead (t, ())) = (T0_flow_Dead t).run (fun v => some (R_flow_Dead v, tps (toForms sg_flow_Dead (t, ())))) fun j => L (S_flow_Dead t j).1 (S_flow_Dead t j).2 := by kernel_rfl
theorem lp_flow_Dead (t : List (El T_api_Ins)) : ∀ (L : Lt) (j : J_flow_Dead), procOf (procsF Go.Proofs.Tryd.prog (clOf t_flow_Dead) tb_flow_Dead Go.Proofs.Tryd.f20 c_flow_Dead (toForms sg_flow_Dead (t, ()))) (S_flow_Dead t j).1 L (S_flow_Dead t j).2 = (T_flow_Dead t j).run (fun v => some (R_flow_Dead v, tps (toForms sg_flow_Dead (t, ())))) fun j => L (S_flow_Dead t j).1 (S_flow_Dead t j).2
  | L, .l4 h live live1 => by kernel_rfl
  | L, .l12 live live1 k out => by kernel_rfl
end
end Go.Ev
end

section
set_option linter.unusedSectionVars false
set_option linter.unusedVariables false
set_option linter.unusedSimpArgs false
set_option maxRecDepth 100000
set_option linter.unusedVariables false
set_option linter.unusedSimpArgs false
open Go
namespace Go.Ev
noncomputable def deadB (t : List (El T_api_Ins)) (k : Nat) : Bool := decide (0 < k) && !fromB t 0 k
noncomputable def v_flow_Dead (t : List (El T_api_Ins)) : List Int := listOf t.length (deadB t)
def k_flow_Dead (t : List (El T_api_Ins)) : Bool := flowOK t
theorem listOf_from {n : Nat} {M : Nat → Bool} {k : Nat} (h : k < n) : ((List.range' k (n - k)).filter M).map Int.ofNat = (if M k then [(k : Int)] else []) ++ ((List.range' (k + 1) (n - (k + 1))).filter M).map Int.ofNat := by
  rw [show n - k = (n - (k + 1)) + 1 by omega, List.range'_succ, List.filter_cons]
  split <;> simp
theorem g_flow_Dead (t : List (El T_api_Ins)) (hk : k_flow_Dead t = true) : Goes (T_flow_Dead t) (T0_flow_Dead t) (v_flow_Dead t) := by
  have hlen := flowOK_len hk
  have kf : k_flow_From t 0 = true := hk
  generalize hn : t.length = n at hlen
  generalize hl : v_flow_From t (0 : Int) = l
  have hmem : ∀ j : Nat, (j : Int) ∈ l ↔ fromB t 0 j = true := fun j => by
    rw [← hl]
    unfold v_flow_From
    rw [listOf_mem]
    constructor
    · rintro ⟨i, _, h, e⟩
      have : j = i := by omega
      subst this; exact h
    · intro h; exact ⟨j, fromB_lt h, h, rfl⟩
  have hll : l.length ≤ n := by
    rw [← hl]; unfold v_flow_From
    rw [listOf_length, hn]; exact card_le
  have second : ∀ k, k ≤ n → 1 ≤ k → ∀ (s : Int × List (Int × Int)) (out : List Int), SetOK s n (fromB t 0) → out.length ≤ k → Goes (T_flow_Dead t) (.jmp (.l12 s.1 s.2 (k : Int) out)) (out ++ ((List.range' k (n - k)).filter (deadB t)).map Int.ofNat) := by
    refine down ?_ fun k hkn ih => ?_
    · intro _ s out hs _
      rw [goes_jmp, T_flow_Dead, goes_br, hn, if_neg (by rw [lt_len_not (Nat.lt_irrefl _)]; decide)]
      simp only [Nat.sub_self, List.range'_zero, List.filter_nil, List.map_nil, List.append_nil]
      exact .leaf
    · intro h1 s out hs ho
      rw [goes_jmp, T_flow_Dead, goes_br, hn, if_pos (lt_len hkn), goes_br, listOf_from hkn]
      have hh : (v_bits_Set_Has (s.1, s.2) (k : Int)).1 = fromB t 0 k := by
        show hasS s (k : Int) = _
        rw [hs.has (by omega), Int.toNat_natCast, decide_eq_true (by omega), Bool.true_and]
      have h2 : (v_bits_Set_Has (s.1, s.2) (k : Int)).2 = s := rfl
      rw [hh, h2, wrap_succ (by omega)]
      have hd : deadB t k = !fromB t 0 k := by unfold deadB; rw [decide_eq_true (by omega), Bool.true_and]
      rw [hd]
      cases hf : fromB t 0 k with
      | true =>
        rw [if_neg (by decide), if_neg (by decide), List.nil_append]
        exact ih (by omega) s out hs (by omega)
      | false =>
        rw [if_pos (by decide), if_pos (by decide), goes_br, if_pos (Nat.ble_eq_true_of_le (by unfold limit; omega)), ← List.append_assoc]
        exact ih (by omega) s (out ++ [(k : Int)]) hs (by simp; omega)
  have first : ∀ h, h ≤ l.length → ∀ (M : Nat → Bool) (s : Int × List (Int × Int)), SetOK s n M → (∀ j : Nat, (M j = true ∨ (j : Int) ∈ l.drop h) ↔ fromB t 0 j = true) → Goes (T_flow_Dead t) (.jmp (.l4 (h : Int) s.1 s.2)) (v_flow_Dead t) := by
    refine down ?_ fun h hh ih => ?_
    · intro M s hs hM
      rw [goes_jmp, T_flow_Dead, goes_br, hl, if_neg (by rw [lt_len_not (Nat.lt_irrefl _)]; decide)]
      have hMe : M = fromB t 0 := by
        funext j
        rw [Bool.eq_iff_iff, ← hM j]; simp
      subst hMe
      have e : v_flow_Dead t = [] ++ ((List.range' 1 (n - 1)).filter (deadB t)).map Int.ofNat := by
        unfold v_flow_Dead listOf
        rw [hn, List.nil_append, List.range_eq_range']
        cases n with
        | zero => rfl
        | succ n =>
          rw [List.range'_succ, List.filter_cons, if_neg (by unfold deadB; simp)]
          rfl
      by_cases h0 : n = 0
      · rw [goes_jmp, T_flow_Dead, goes_br, hn, if_neg (by simp; omega), e]
        rw [show n - 1 = 0 by omega]
        exact .leaf
      · rw [e]
        exact second 1 (by omega) (Nat.le_refl _) s [] hs (by simp)
    · intro M s hs hM
      rw [goes_jmp, T_flow_Dead, goes_br, hl, if_pos (lt_len hh), goes_br, if_pos (bound_len hh), Int.toNat_natCast, wrap_succ (by omega)]
      have hd : l.getD h (dflt (.int .i64)) = l[h] := getD_lt hh
      rw [hd]
      have hput : v_bits_Set_Put (s.1, s.2) l[h] = putS s l[h] := rfl
      rw [hput]
      obtain ⟨j, hjn, hj⟩ : ∃ j : Nat, j < n ∧ l[h] = (j : Int) := by
        have : l[h] ∈ v_flow_From t 0 := by rw [hl]; exact List.getElem_mem hh
        obtain ⟨j, h1, _, h2⟩ := listOf_mem.1 this
        exact ⟨j, by omega, h2⟩
      have hdrop : ∀ x, x ∈ l.drop h ↔ x = (j : Int) ∨ x ∈ l.drop (h + 1) := fun x => by rw [drop_cons hh, List.mem_cons, hj]
      rw [hj]
      cases hMj : M j with
      | true =>
        have hno := hs.put_no (by omega) (i := (j : Int)) (fun h => by rw [Int.toNat_natCast, hMj] at h; cases h.2.2)
        rw [hno]
        refine ih M s hs fun k => ?_
        rw [← hM k, hdrop]
        constructor
        · rintro (h | h)
          · exact .inl h
          · exact .inr (.inr h)
        · rintro (h | h | h)
          · exact .inl h
          · have : k = j := by omega
            subst this; exact .inl hMj
          · exact .inr h
      | false =>
        obtain ⟨_, p2⟩ := hs.put (by omega) hjn hMj
        refine ih _ _ p2 fun k => ?_
        rw [← hM k, hdrop]
        simp only [Bool.or_eq_true, beq_iff_eq]
        constructor
        · rintro ((h | h) | h)
          · exact .inl h
          · exact .inr (.inl (by omega))
          · exact .inr (.inr h)
        · rintro (h | h | h)
          · exact .inl (.inl h)
          · exact .inl (.inr (by omega))
          · exact .inr h
  unfold T0_flow_Dead
  rw [goes_br, if_pos kf]
  have hnew : v_bits_New (Int.ofNat (List.length t)) = ((n : Int), []) := by
    rw [hn]
    unfold v_bits_New
    simp
    omega
  rw [hnew]
  exact first 0 (Nat.zero_le _) (fun _ => false) ((n : Int), []) (SetOK.new n) fun j => by
    rw [← hmem j]; simp
end Go.Ev
end

section
set_option linter.unusedSectionVars false
set_option linter.unusedVariables false
set_option linter.unusedSimpArgs false
set_option maxRecDepth 100000
set_option linter.unusedVariables false
open Go Go.Ev
namespace Go.Ev
noncomputable section
noncomputable def e_flow_Dead : Run := entG sg_flow_Dead R_flow_Dead (fun a => k_flow_Dead a.1) (fun a => v_flow_Dead a.1)
theorem ok_flow_Dead : EntOK Go.Proofs.Tryd.prog 20 e_flow_Dead := entG_ok (tb := tb_flow_Dead) (c := c_flow_Dead) tk_flow_Dead (by kernel_rfl) (by kernel_rfl) (by kernel_rfl) (fun a => by kernel_rfl) fun ⟨t, _⟩ hk => evF_goes (c := c_flow_Dead) (K := fun v => (R_flow_Dead v, tps (toForms sg_flow_Dead (t, ())))) (S := S_flow_Dead t) (by kernel_rfl) (en_flow_Dead t) (lp_flow_Dead t) (g_flow_Dead t hk)
end
end Go.Ev
end

section
set_option linter.unusedSectionVars false
set_option linter.unusedVariables false
set_option linter.unusedSimpArgs false
set_option maxRecDepth 100000
set_option linter.unusedVariables false
open Go Go.Ev
namespace Go.Ev
noncomputable section
/-! ### paling/palinglaw20.alive -/
def sg_law20_alive : Sig := []
noncomputable def t_law20_alive : Tbl := [(16, e_flow_Next), (18, e_book_SameInts), (17, e_flow_From), (20, e_flow_Dead)]
theorem tk_law20_alive : ∀ p ∈ t_law20_alive, EntOK Go.Proofs.Tryd.prog p.1 p.2 := tbl_cons ok_flow_Next (tbl_cons ok_book_SameInts (tbl_cons ok_flow_From (tbl_cons ok_flow_Dead (tbl_nil))))
noncomputable def c_law20_alive : Code := Go.Proofs.Tryd.f12.body.getD .skip
def tb_law20_alive : Tb := []
def T_law20_alive : Empty → JT Empty (Bool) := fun j => nomatch j
def T0_law20_alive : JT Empty (Bool) :=
  .br (k_flow_Next [((13 : Int), (false, ((0 : Int), (((0 : Int), ((0 : Int), ((0 : Int), (0 : Int)))), (((0 : Int), ((0 : Int), ((0 : Int), (0 : Int)))), ((bs []), [(bs [97])])))))), ((10 : Int), (false, ((0 : Int), (((0 : Int), ((0 : Int), ((0 : Int), (0 : Int)))), (((0 : Int), ((0 : Int), ((0 : Int), (0 : Int)))), ((bs [97]), [])))))), ((14 : Int), (false, ((0 : Int), (((0 : Int), ((0 : Int), ((0 : Int), (0 : Int)))), (((0 : Int), ((0 : Int), ((0 : Int), (0 : Int)))), ((bs []), []))))))] (1 : Int))
    (.br (k_book_SameInts (v_flow_Next [((13 : Int), (false, ((0 : Int), (((0 : Int), ((0 : Int), ((0 : Int), (0 : Int)))), (((0 : Int), ((0 : Int), ((0 : Int), (0 : Int)))), ((bs []), [(bs [97])])))))), ((10 : Int), (false, ((0 : Int), (((0 : Int), ((0 : Int), ((0 : Int), (0 : Int)))), (((0 : Int), ((0 : Int), ((0 : Int), (0 : Int)))), ((bs [97]), [])))))), ((14 : Int), (false, ((0 : Int), (((0 : Int), ((0 : Int), ((0 : Int), (0 : Int)))), (((0 : Int), ((0 : Int), ((0 : Int), (0 : Int)))), ((bs []), []))))))] (1 : Int)) [(0 : Int)])
      (.br (v_book_SameInts (v_flow_Next [((13 : Int), (false, ((0 : Int), (((0 : Int), ((0 : Int), ((0 : Int), (0 : Int)))), (((0 : Int), ((0 : Int), ((0 : Int), (0 : Int)))), ((bs []), [(bs [97])])))))), ((10 : Int), (false, ((0 : Int), (((0 : Int), ((0 : Int), ((0 : Int), (0 : Int)))), (((0 : Int), ((0 : Int), ((0 : Int), (0 : Int)))), ((bs [97]), [])))))), ((14 : Int), (false, ((0 : Int), (((0 : Int), ((0 : Int), ((0 : Int), (0 : Int)))), (((0 : Int), ((0 : Int), ((0 : Int), (0 : Int)))), ((bs []), []))))))] (1 : Int)) [(0 : Int)])
        (.br (k_flow_From [((13 : Int), (false, ((0 : Int), (((0 : Int), ((0 : Int), ((0 : Int), (0 : Int)))), (((0 : Int), ((0 : Int), ((0 : Int), (0 : Int)))), ((bs []), [(bs [97])])))))), ((10 : Int), (false, ((0 : Int), (((0 : Int), ((0 : Int), ((0 : Int), (0 : Int)))), (((0 : Int), ((0 : Int), ((0 : Int), (0 : Int)))), ((bs [97]), [])))))), ((14 : Int), (false, ((0 : Int), (((0 : Int), ((0 : Int), ((0 : Int), (0 : Int)))), (((0 : Int), ((0 : Int), ((0 : Int), (0 : Int)))), ((bs []), []))))))] (0 : Int))
          (.br (k_book_SameInts (v_flow_From [((13 : Int), (false, ((0 : Int), (((0 : Int), ((0 : Int), ((0 : Int), (0 : Int)))), (((0 : Int), ((0 : Int), ((0 : Int), (0 : Int)))), ((bs []), [(bs [97])])))))), ((10 : Int), (false, ((0 : Int), (((0 : Int), ((0 : Int), ((0 : Int), (0 : Int)))), (((0 : Int), ((0 : Int), ((0 : Int), (0 : Int)))), ((bs [97]), [])))))), ((14 : Int), (false, ((0 : Int), (((0 : Int), ((0 : Int), ((0 : Int), (0 : Int)))), (((0 : Int), ((0 : Int), ((0 : Int), (0 : Int)))), ((bs []), []))))))] (0 : Int)) [(0 : Int), (1 : Int)])
            (.br (v_book_SameInts (v_flow_From [((13 : Int), (false, ((0 : Int), (((0 : Int), ((0 : Int), ((0 : Int), (0 : Int)))), (((0 : Int), ((0 : Int), ((0 : Int), (0 : Int)))), ((bs []), [(bs [97])])))))), ((10 : Int), (false, ((0 : Int), (((0 : Int), ((0 : Int), ((0 : Int), (0 : Int)))), (((0 : Int), ((0 : Int), ((0 : Int), (0 : Int)))), ((bs [97]), [])))))), ((14 : Int), (false, ((0 : Int), (((0 : Int), ((0 : Int), ((0 : Int), (0 : Int)))), (((0 : Int), ((0 : Int), ((0 : Int), (0 : Int)))), ((bs []), []))))))] (0 : Int)) [(0 : Int), (1 : Int)])
              (.br (k_flow_Dead [((13 : Int), (false, ((0 : Int), (((0 : Int), ((0 : Int), ((0 : Int), (0 : Int)))), (((0 : Int), ((0 : Int), ((0 : Int), (0 : Int)))), ((bs []), [(bs [97])])))))), ((10 : Int), (false, ((0 : Int), (((0 : Int), ((0 : Int), ((0 : Int), (0 : Int)))), (((0 : Int), ((0 : Int), ((0 : Int), (0 : Int)))), ((bs [97]), [])))))), ((14 : Int), (false, ((0 : Int), (((0 : Int), ((0 : Int), ((0 : Int), (0 : Int)))), (((0 : Int), ((0 : Int), ((0 : Int), (0 : Int)))), ((bs []), []))))))])
                (.br (k_book_SameInts (v_flow_Dead [((13 : Int), (false, ((0 : Int), (((0 : Int), ((0 : Int), ((0 : Int), (0 : Int)))), (((0 : Int), ((0 : Int), ((0 : Int), (0 : Int)))), ((bs []), [(bs [97])])))))), ((10 : Int), (false, ((0 : Int), (((0 : Int), ((0 : Int), ((0 : Int), (0 : Int)))), (((0 : Int), ((0 : Int), ((0 : Int), (0 : Int)))), ((bs [97]), [])))))), ((14 : Int), (false, ((0 : Int), (((0 : Int), ((0 : Int), ((0 : Int), (0 : Int)))), (((0 : Int), ((0 : Int), ((0 : Int), (0 : Int)))), ((bs []), []))))))]) [(2 : Int)])
                  (.br (v_book_SameInts (v_flow_Dead [((13 : Int), (false, ((0 : Int), (((0 : Int), ((0 : Int), ((0 : Int), (0 : Int)))), (((0 : Int), ((0 : Int), ((0 : Int), (0 : Int)))), ((bs []), [(bs [97])])))))), ((10 : Int), (false, ((0 : Int), (((0 : Int), ((0 : Int), ((0 : Int), (0 : Int)))), (((0 : Int), ((0 : Int), ((0 : Int), (0 : Int)))), ((bs [97]), [])))))), ((14 : Int), (false, ((0 : Int), (((0 : Int), ((0 : Int), ((0 : Int), (0 : Int)))), (((0 : Int), ((0 : Int), ((0 : Int), (0 : Int)))), ((bs []), []))))))]) [(2 : Int)])
                    (.br (k_flow_Next [((13 : Int), (false, ((0 : Int), (((0 : Int), ((0 : Int), ((0 : Int), (0 : Int)))), (((0 : Int), ((0 : Int), ((0 : Int), (0 : Int)))), ((bs []), [(bs [97])])))))), ((10 : Int), (false, ((0 : Int), (((0 : Int), ((0 : Int), ((0 : Int), (0 : Int)))), (((0 : Int), ((0 : Int), ((0 : Int), (0 : Int)))), ((bs [97]), [])))))), ((14 : Int), (false, ((0 : Int), (((0 : Int), ((0 : Int), ((0 : Int), (0 : Int)))), (((0 : Int), ((0 : Int), ((0 : Int), (0 : Int)))), ((bs []), []))))))] (3 : Int))
                      (.leaf ((Int.ofNat (List.length (v_flow_Next [((13 : Int), (false, ((0 : Int), (((0 : Int), ((0 : Int), ((0 : Int), (0 : Int)))), (((0 : Int), ((0 : Int), ((0 : Int), (0 : Int)))), ((bs []), [(bs [97])])))))), ((10 : Int), (false, ((0 : Int), (((0 : Int), ((0 : Int), ((0 : Int), (0 : Int)))), (((0 : Int), ((0 : Int), ((0 : Int), (0 : Int)))), ((bs [97]), [])))))), ((14 : Int), (false, ((0 : Int), (((0 : Int), ((0 : Int), ((0 : Int), (0 : Int)))), (((0 : Int), ((0 : Int), ((0 : Int), (0 : Int)))), ((bs []), []))))))] (3 : Int)))) == (0 : Int)))
                    (.no))
                  (.leaf false))
                (.no))
              (.no))
            (.leaf false))
          (.no))
        (.no))
      (.leaf false))
    (.no))
  (.no)
def v_law20_alive : Bool :=
  bif (k_flow_Next [((13 : Int), (false, ((0 : Int), (((0 : Int), ((0 : Int), ((0 : Int), (0 : Int)))), (((0 : Int), ((0 : Int), ((0 : Int), (0 : Int)))), ((bs []), [(bs [97])])))))), ((10 : Int), (false, ((0 : Int), (((0 : Int), ((0 : Int), ((0 : Int), (0 : Int)))), (((0 : Int), ((0 : Int), ((0 : Int), (0 : Int)))), ((bs [97]), [])))))), ((14 : Int), (false, ((0 : Int), (((0 : Int), ((0 : Int), ((0 : Int), (0 : Int)))), (((0 : Int), ((0 : Int), ((0 : Int), (0 : Int)))), ((bs []), []))))))] (1 : Int)) then
    bif (k_book_SameInts (v_flow_Next [((13 : Int), (false, ((0 : Int), (((0 : Int), ((0 : Int), ((0 : Int), (0 : Int)))), (((0 : Int), ((0 : Int), ((0 : Int), (0 : Int)))), ((bs []), [(bs [97])])))))), ((10 : Int), (false, ((0 : Int), (((0 : Int), ((0 : Int), ((0 : Int), (0 : Int)))), (((0 : Int), ((0 : Int), ((0 : Int), (0 : Int)))), ((bs [97]), [])))))), ((14 : Int), (false, ((0 : Int), (((0 : Int), ((0 : Int), ((0 : Int), (0 : Int)))), (((0 : Int), ((0 : Int), ((0 : Int), (0 : Int)))), ((bs []), []))))))] (1 : Int)) [(0 : Int)]) then
      bif (v_book_SameInts (v_flow_Next [((13 : Int), (false, ((0 : Int), (((0 : Int), ((0 : Int), ((0 : Int), (0 : Int)))), (((0 : Int), ((0 : Int), ((0 : Int), (0 : Int)))), ((bs []), [(bs [97])])))))), ((10 : Int), (false, ((0 : Int), (((0 : Int), ((0 : Int), ((0 : Int), (0 : Int)))), (((0 : Int), ((0 : Int), ((0 : Int), (0 : Int)))), ((bs [97]), [])))))), ((14 : Int), (false, ((0 : Int), (((0 : Int), ((0 : Int), ((0 : Int), (0 : Int)))), (((0 : Int), ((0 : Int), ((0 : Int), (0 : Int)))), ((bs []), []))))))] (1 : Int)) [(0 : Int)]) then
        bif (k_flow_From [((13 : Int), (false, ((0 : Int), (((0 : Int), ((0 : Int), ((0 : Int), (0 : Int)))), (((0 : Int), ((0 : Int), ((0 : Int), (0 : Int)))), ((bs []), [(bs [97])])))))), ((10 : Int), (false, ((0 : Int), (((0 : Int), ((0 : Int), ((0 : Int), (0 : Int)))), (((0 : Int), ((0 : Int), ((0 : Int), (0 : Int)))), ((bs [97]), [])))))), ((14 : Int), (false, ((0 : Int), (((0 : Int), ((0 : Int), ((0 : Int), (0 : Int)))), (((0 : Int), ((0 : Int), ((0 : Int), (0 : Int)))), ((bs []), []))))))] (0 : Int)) then
          bif (k_book_SameInts (v_flow_From [((13 : Int), (false, ((0 : Int), (((0 : Int), ((0 : Int), ((0 : Int), (0 : Int)))), (((0 : Int), ((0 : Int), ((0 : Int), (0 : Int)))), ((bs []), [(bs [97])])))))), ((10 : Int), (false, ((0 : Int), (((0 : Int), ((0 : Int), ((0 : Int), (0 : Int)))), (((0 : Int), ((0 : Int), ((0 : Int), (0 : Int)))), ((bs [97]), [])))))), ((14 : Int), (false, ((0 : Int), (((0 : Int), ((0 : Int), ((0 : Int), (0 : Int)))), (((0 : Int), ((0 : Int), ((0 : Int), (0 : Int)))), ((bs []), []))))))] (0 : Int)) [(0 : Int), (1 : Int)]) then
            bif (v_book_SameInts (v_flow_From [((13 : Int), (false, ((0 : Int), (((0 : Int), ((0 : Int), ((0 : Int), (0 : Int)))), (((0 : Int), ((0 : Int), ((0 : Int), (0 : Int)))), ((bs []), [(bs [97])])))))), ((10 : Int), (false, ((0 : Int), (((0 : Int), ((0 : Int), ((0 : Int), (0 : Int)))), (((0 : Int), ((0 : Int), ((0 : Int), (0 : Int)))), ((bs [97]), [])))))), ((14 : Int), (false, ((0 : Int), (((0 : Int), ((0 : Int), ((0 : Int), (0 : Int)))), (((0 : Int), ((0 : Int), ((0 : Int), (0 : Int)))), ((bs []), []))))))] (0 : Int)) [(0 : Int), (1 : Int)]) then
              bif (k_flow_Dead [((13 : Int), (false, ((0 : Int), (((0 : Int), ((0 : Int), ((0 : Int), (0 : Int)))), (((0 : Int), ((0 : Int), ((0 : Int), (0 : Int)))), ((bs []), [(bs [97])])))))), ((10 : Int), (false, ((0 : Int), (((0 : Int), ((0 : Int), ((0 : Int), (0 : Int)))), (((0 : Int), ((0 : Int), ((0 : Int), (0 : Int)))), ((bs [97]), [])))))), ((14 : Int), (false, ((0 : Int), (((0 : Int), ((0 : Int), ((0 : Int), (0 : Int)))), (((0 : Int), ((0 : Int), ((0 : Int), (0 : Int)))), ((bs []), []))))))]) then
                bif (k_book_SameInts (v_flow_Dead [((13 : Int), (false, ((0 : Int), (((0 : Int), ((0 : Int), ((0 : Int), (0 : Int)))), (((0 : Int), ((0 : Int), ((0 : Int), (0 : Int)))), ((bs []), [(bs [97])])))))), ((10 : Int), (false, ((0 : Int), (((0 : Int), ((0 : Int), ((0 : Int), (0 : Int)))), (((0 : Int), ((0 : Int), ((0 : Int), (0 : Int)))), ((bs [97]), [])))))), ((14 : Int), (false, ((0 : Int), (((0 : Int), ((0 : Int), ((0 : Int), (0 : Int)))), (((0 : Int), ((0 : Int), ((0 : Int), (0 : Int)))), ((bs []), []))))))]) [(2 : Int)]) then
                  bif (v_book_SameInts (v_flow_Dead [((13 : Int), (false, ((0 : Int), (((0 : Int), ((0 : Int), ((0 : Int), (0 : Int)))), (((0 : Int), ((0 : Int), ((0 : Int), (0 : Int)))), ((bs []), [(bs [97])])))))), ((10 : Int), (false, ((0 : Int), (((0 : Int), ((0 : Int), ((0 : Int), (0 : Int)))), (((0 : Int), ((0 : Int), ((0 : Int), (0 : Int)))), ((bs [97]), [])))))), ((14 : Int), (false, ((0 : Int), (((0 : Int), ((0 : Int), ((0 : Int), (0 : Int)))), (((0 : Int), ((0 : Int), ((0 : Int), (0 : Int)))), ((bs []), []))))))]) [(2 : Int)]) then
                    bif (k_flow_Next [((13 : Int), (false, ((0 : Int), (((0 : Int), ((0 : Int), ((0 : Int), (0 : Int)))), (((0 : Int), ((0 : Int), ((0 : Int), (0 : Int)))), ((bs []), [(bs [97])])))))), ((10 : Int), (false, ((0 : Int), (((0 : Int), ((0 : Int), ((0 : Int), (0 : Int)))), (((0 : Int), ((0 : Int), ((0 : Int), (0 : Int)))), ((bs [97]), [])))))), ((14 : Int), (false, ((0 : Int), (((0 : Int), ((0 : Int), ((0 : Int), (0 : Int)))), (((0 : Int), ((0 : Int), ((0 : Int), (0 : Int)))), ((bs []), []))))))] (3 : Int)) then
                      ((Int.ofNat (List.length (v_flow_Next [((13 : Int), (false, ((0 : Int), (((0 : Int), ((0 : Int), ((0 : Int), (0 : Int)))), (((0 : Int), ((0 : Int), ((0 : Int), (0 : Int)))), ((bs []), [(bs [97])])))))), ((10 : Int), (false, ((0 : Int), (((0 : Int), ((0 : Int), ((0 : Int), (0 : Int)))), (((0 : Int), ((0 : Int), ((0 : Int), (0 : Int)))), ((bs [97]), [])))))), ((14 : Int), (false, ((0 : Int), (((0 : Int), ((0 : Int), ((0 : Int), (0 : Int)))), (((0 : Int), ((0 : Int), ((0 : Int), (0 : Int)))), ((bs []), []))))))] (3 : Int)))) == (0 : Int))
                    else false
                  else false
                else false
              else false
            else false
          else false
        else false
      else false
    else false
  else false
def k_law20_alive : Bool :=
  bif (k_flow_Next [((13 : Int), (false, ((0 : Int), (((0 : Int), ((0 : Int), ((0 : Int), (0 : Int)))), (((0 : Int), ((0 : Int), ((0 : Int), (0 : Int)))), ((bs []), [(bs [97])])))))), ((10 : Int), (false, ((0 : Int), (((0 : Int), ((0 : Int), ((0 : Int), (0 : Int)))), (((0 : Int), ((0 : Int), ((0 : Int), (0 : Int)))), ((bs [97]), [])))))), ((14 : Int), (false, ((0 : Int), (((0 : Int), ((0 : Int), ((0 : Int), (0 : Int)))), (((0 : Int), ((0 : Int), ((0 : Int), (0 : Int)))), ((bs []), []))))))] (1 : Int)) then
    bif (k_book_SameInts (v_flow_Next [((13 : Int), (false, ((0 : Int), (((0 : Int), ((0 : Int), ((0 : Int), (0 : Int)))), (((0 : Int), ((0 : Int), ((0 : Int), (0 : Int)))), ((bs []), [(bs [97])])))))), ((10 : Int), (false, ((0 : Int), (((0 : Int), ((0 : Int), ((0 : Int), (0 : Int)))), (((0 : Int), ((0 : Int), ((0 : Int), (0 : Int)))), ((bs [97]), [])))))), ((14 : Int), (false, ((0 : Int), (((0 : Int), ((0 : Int), ((0 : Int), (0 : Int)))), (((0 : Int), ((0 : Int), ((0 : Int), (0 : Int)))), ((bs []), []))))))] (1 : Int)) [(0 : Int)]) then
      bif (v_book_SameInts (v_flow_Next [((13 : Int), (false, ((0 : Int), (((0 : Int), ((0 : Int), ((0 : Int), (0 : Int)))), (((0 : Int), ((0 : Int), ((0 : Int), (0 : Int)))), ((bs []), [(bs [97])])))))), ((10 : Int), (false, ((0 : Int), (((0 : Int), ((0 : Int), ((0 : Int), (0 : Int)))), (((0 : Int), ((0 : Int), ((0 : Int), (0 : Int)))), ((bs [97]), [])))))), ((14 : Int), (false, ((0 : Int), (((0 : Int), ((0 : Int), ((0 : Int), (0 : Int)))), (((0 : Int), ((0 : Int), ((0 : Int), (0 : Int)))), ((bs []), []))))))] (1 : Int)) [(0 : Int)]) then
        bif (k_flow_From [((13 : Int), (false, ((0 : Int), (((0 : Int), ((0 : Int), ((0 : Int), (0 : Int)))), (((0 : Int), ((0 : Int), ((0 : Int), (0 : Int)))), ((bs []), [(bs [97])])))))), ((10 : Int), (false, ((0 : Int), (((0 : Int), ((0 : Int), ((0 : Int), (0 : Int)))), (((0 : Int), ((0 : Int), ((0 : Int), (0 : Int)))), ((bs [97]), [])))))), ((14 : Int), (false, ((0 : Int), (((0 : Int), ((0 : Int), ((0 : Int), (0 : Int)))), (((0 : Int), ((0 : Int), ((0 : Int), (0 : Int)))), ((bs []), []))))))] (0 : Int)) then
          bif (k_book_SameInts (v_flow_From [((13 : Int), (false, ((0 : Int), (((0 : Int), ((0 : Int), ((0 : Int), (0 : Int)))), (((0 : Int), ((0 : Int), ((0 : Int), (0 : Int)))), ((bs []), [(bs [97])])))))), ((10 : Int), (false, ((0 : Int), (((0 : Int), ((0 : Int), ((0 : Int), (0 : Int)))), (((0 : Int), ((0 : Int), ((0 : Int), (0 : Int)))), ((bs [97]), [])))))), ((14 : Int), (false, ((0 : Int), (((0 : Int), ((0 : Int), ((0 : Int), (0 : Int)))), (((0 : Int), ((0 : Int), ((0 : Int), (0 : Int)))), ((bs []), []))))))] (0 : Int)) [(0 : Int), (1 : Int)]) then
            bif (v_book_SameInts (v_flow_From [((13 : Int), (false, ((0 : Int), (((0 : Int), ((0 : Int), ((0 : Int), (0 : Int)))), (((0 : Int), ((0 : Int), ((0 : Int), (0 : Int)))), ((bs []), [(bs [97])])))))), ((10 : Int), (false, ((0 : Int), (((0 : Int), ((0 : Int), ((0 : Int), (0 : Int)))), (((0 : Int), ((0 : Int), ((0 : Int), (0 : Int)))), ((bs [97]), [])))))), ((14 : Int), (false, ((0 : Int), (((0 : Int), ((0 : Int), ((0 : Int), (0 : Int)))), (((0 : Int), ((0 : Int), ((0 : Int), (0 : Int)))), ((bs []), []))))))] (0 : Int)) [(0 : Int), (1 : Int)]) then
              bif (k_flow_Dead [((13 : Int), (false, ((0 : Int), (((0 : Int), ((0 : Int), ((0 : Int), (0 : Int)))), (((0 : Int), ((0 : Int), ((0 : Int), (0 : Int)))), ((bs []), [(bs [97])])))))), ((10 : Int), (false, ((0 : Int), (((0 : Int), ((0 : Int), ((0 : Int), (0 : Int)))), (((0 : Int), ((0 : Int), ((0 : Int), (0 : Int)))), ((bs [97]), [])))))), ((14 : Int), (false, ((0 : Int), (((0 : Int), ((0 : Int), ((0 : Int), (0 : Int)))), (((0 : Int), ((0 : Int), ((0 : Int), (0 : Int)))), ((bs []), []))))))]) then
                bif (k_book_SameInts (v_flow_Dead [((13 : Int), (false, ((0 : Int), (((0 : Int), ((0 : Int), ((0 : Int), (0 : Int)))), (((0 : Int), ((0 : Int), ((0 : Int), (0 : Int)))), ((bs []), [(bs [97])])))))), ((10 : Int), (false, ((0 : Int), (((0 : Int), ((0 : Int), ((0 : Int), (0 : Int)))), (((0 : Int), ((0 : Int), ((0 : Int), (0 : Int)))), ((bs [97]), [])))))), ((14 : Int), (false, ((0 : Int), (((0 : Int), ((0 : Int), ((0 : Int), (0 : Int)))), (((0 : Int), ((0 : Int), ((0 : Int), (0 : Int)))), ((bs []), []))))))]) [(2 : Int)]) then
                  bif (v_book_SameInts (v_flow_Dead [((13 : Int), (false, ((0 : Int), (((0 : Int), ((0 : Int), ((0 : Int), (0 : Int)))), (((0 : Int), ((0 : Int), ((0 : Int), (0 : Int)))), ((bs []), [(bs [97])])))))), ((10 : Int), (false, ((0 : Int), (((0 : Int), ((0 : Int), ((0 : Int), (0 : Int)))), (((0 : Int), ((0 : Int), ((0 : Int), (0 : Int)))), ((bs [97]), [])))))), ((14 : Int), (false, ((0 : Int), (((0 : Int), ((0 : Int), ((0 : Int), (0 : Int)))), (((0 : Int), ((0 : Int), ((0 : Int), (0 : Int)))), ((bs []), []))))))]) [(2 : Int)]) then
                    bif (k_flow_Next [((13 : Int), (false, ((0 : Int), (((0 : Int), ((0 : Int), ((0 : Int), (0 : Int)))), (((0 : Int), ((0 : Int), ((0 : Int), (0 : Int)))), ((bs []), [(bs [97])])))))), ((10 : Int), (false, ((0 : Int), (((0 : Int), ((0 : Int), ((0 : Int), (0 : Int)))), (((0 : Int), ((0 : Int), ((0 : Int), (0 : Int)))), ((bs [97]), [])))))), ((14 : Int), (false, ((0 : Int), (((0 : Int), ((0 : Int), ((0 : Int), (0 : Int)))), (((0 : Int), ((0 : Int), ((0 : Int), (0 : Int)))), ((bs []), []))))))] (3 : Int)) then
                      true
                    else false
                  else true
                else false
              else false
            else true
          else false
        else false
      else true
    else false
  else false
theorem g_law20_alive (hk : k_law20_alive = true) : Goes (T_law20_alive) (T0_law20_alive) (v_law20_alive) :=
  Goes.brk hk (fun hk =>
    Goes.brk hk (fun hk =>
      Goes.brk hk (fun hk =>
        Goes.brk hk (fun hk =>
          Goes.brk hk (fun hk =>
            Goes.brk hk (fun hk =>
              Goes.brk hk (fun hk =>
                Goes.brk hk (fun hk =>
                  Goes.brk hk (fun hk =>
                    Goes.brk hk (fun hk =>
                      Goes.leaf) (fun hk =>
                      Goes.nok hk)) (fun hk =>
                    Goes.leaf)) (fun hk =>
                  Goes.nok hk)) (fun hk =>
                Goes.nok hk)) (fun hk =>
              Goes.leaf)) (fun hk =>
            Goes.nok hk)) (fun hk =>
          Goes.nok hk)) (fun hk =>
        Goes.leaf)) (fun hk =>
      Goes.nok hk)) (fun hk =>
    Goes.nok hk)
def R_law20_alive : Bool → AV := fun (r : Bool) => .d .bool r
def S_law20_alive : Empty → Nat × St := fun j => nomatch j
theorem en_law20_alive (L : Lt) : entryA Go.Proofs.Tryd.prog (clOf t_law20_alive) tb_law20_alive Go.Proofs.Tryd.f12 c_law20_alive L (toForms sg_law20_alive (())) = (T0_law20_alive).run (fun v => some (R_law20_alive v, tps (toForms sg_law20_alive (())))) fun j => L (S_law20_alive j).1 (S_law20_alive j).2 := by kernel_rfl
theorem lp_law20_alive : ∀ (L : Lt) (j : Empty), procOf (procsF Go.Proofs.Tryd.prog (clOf t_law20_alive) tb_law20_alive Go.Proofs.Tryd.f12 c_law20_alive (toForms sg_law20_alive (()))) (S_law20_alive j).1 L (S_law20_alive j).2 = (T_law20_alive j).run (fun v => some (R_law20_alive v, tps (toForms sg_law20_alive (())))) fun j => L (S_law20_alive j).1 (S_law20_alive j).2 := fun L j => nomatch j
noncomputable def e_law20_alive : Run := entG sg_law20_alive R_law20_alive (fun a => k_law20_alive) (fun a => v_law20_alive)
theorem ok_law20_alive : EntOK Go.Proofs.Tryd.prog 12 e_law20_alive := entG_ok (tb := tb_law20_alive) (c := c_law20_alive) tk_law20_alive (by kernel_rfl) (by kernel_rfl) (by kernel_rfl) (fun a => by kernel_rfl) fun _ hk => evF_goes (c := c_law20_alive) (K := fun v => (R_law20_alive v, tps (toForms sg_law20_alive (())))) (S := S_law20_alive) (by kernel_rfl) (en_law20_alive) (lp_law20_alive) (g_law20_alive hk)
theorem co_law20_alive (hk : k_law20_alive = true) : CallOK Go.Proofs.Tryd.prog 12 (toForms sg_law20_alive (())) (R_law20_alive (v_law20_alive), tps (toForms sg_law20_alive (()))) := by
  obtain ⟨h1, h2⟩ := clOf_ok tk_law20_alive
  obtain ⟨n, hn⟩ := evF_goes (c := c_law20_alive) (K := fun v => (R_law20_alive v, tps (toForms sg_law20_alive (())))) (S := S_law20_alive) (by kernel_rfl) (en_law20_alive) (lp_law20_alive) (g_law20_alive hk)
  exact evF_sound (f := 12) (c := c_law20_alive) h1 h2 (by kernel_rfl) (by kernel_rfl) (by kernel_rfl) hn
end
end Go.Ev
end

section
set_option linter.unusedSectionVars false
set_option linter.unusedVariables false
set_option linter.unusedSimpArgs false
set_option maxRecDepth 100000
set_option linter.unusedVariables false
open Go Go.Ev
namespace Go.Ev
noncomputable section
/-! ### paling/palinglaw20.FlowRow -/
def sg_law20_FlowRow : Sig := [(false, (.int .i64)), (false, (.int .i64)), (false, .bool)]
noncomputable def t_law20_FlowRow : Tbl := [(15, e_book_Pick), (17, e_flow_From), (18, e_book_SameInts), (20, e_flow_Dead), (12, e_law20_alive)]
theorem tk_law20_FlowRow : ∀ p ∈ t_law20_FlowRow, EntOK Go.Proofs.Tryd.prog p.1 p.2 := tbl_cons ok_book_Pick (tbl_cons ok_flow_From (tbl_cons ok_book_SameInts (tbl_cons ok_flow_Dead (tbl_cons ok_law20_alive (tbl_nil)))))
noncomputable def c_law20_FlowRow : Code := Go.Proofs.Tryd.f6.body.getD .skip
def tb_law20_FlowRow : Tb := [(6, ⟨[0, 1, 2, 7, 8], [(8193, 44)]⟩), (17, ⟨[0, 1, 2, 7, 10], []⟩), (29, ⟨[0, 1, 2, 7, 10, 12, 13], [(13, 76)]⟩)]
inductive J_law20_FlowRow where
  | l6 (i : Int) (t : List (El T_api_Ins))
  | l17 (t : List (El T_api_Ins)) (i : Int)
  | l29 (t : List (El T_api_Ins)) (k : Int) (want : List Int) (i : Int)
def T_law20_FlowRow (n : Int) (to_ : Int) (jump : Bool) : J_law20_FlowRow → JT J_law20_FlowRow (Bool)
  | .l6 i t =>
    .br (decide (i < (IntKind.i64.wrap ((1 : Int) + (v_book_Pick n (12 : Int))))))
      (.br (Nat.ble (((List.length t) + 1) * 128) limit)
        (.jmp (.l6 (IntKind.i64.wrap (i + (1 : Int))) (t ++ [((13 : Int), (false, ((0 : Int), (((0 : Int), ((0 : Int), ((0 : Int), (0 : Int)))), (((0 : Int), ((0 : Int), ((0 : Int), (0 : Int)))), ((bs []), []))))))])))
      (.no))
    (.br ((decide ((0 : Int) ≤ (v_book_Pick to_ (IntKind.i64.wrap ((1 : Int) + (v_book_Pick n (12 : Int))))))) && (decide ((v_book_Pick to_ (IntKind.i64.wrap ((1 : Int) + (v_book_Pick n (12 : Int))))) < (Int.ofNat (List.length t)))))
      (.br jump
        (.br (Nat.ble (((List.length (List.set t (Int.toNat (v_book_Pick to_ (IntKind.i64.wrap ((1 : Int) + (v_book_Pick n (12 : Int)))))) ((List.getD t (Int.toNat (v_book_Pick to_ (IntKind.i64.wrap ((1 : Int) + (v_book_Pick n (12 : Int)))))) (dflt T_api_Ins)).1, ((List.getD t (Int.toNat (v_book_Pick to_ (IntKind.i64.wrap ((1 : Int) + (v_book_Pick n (12 : Int)))))) (dflt T_api_Ins)).2.1, ((List.getD t (Int.toNat (v_book_Pick to_ (IntKind.i64.wrap ((1 : Int) + (v_book_Pick n (12 : Int)))))) (dflt T_api_Ins)).2.2.1, ((List.getD t (Int.toNat (v_book_Pick to_ (IntKind.i64.wrap ((1 : Int) + (v_book_Pick n (12 : Int)))))) (dflt T_api_Ins)).2.2.2.1, ((List.getD t (Int.toNat (v_book_Pick to_ (IntKind.i64.wrap ((1 : Int) + (v_book_Pick n (12 : Int)))))) (dflt T_api_Ins)).2.2.2.2.1, ((List.getD t (Int.toNat (v_book_Pick to_ (IntKind.i64.wrap ((1 : Int) + (v_book_Pick n (12 : Int)))))) (dflt T_api_Ins)).2.2.2.2.2.1, [(bs [97])])))))))) + 1) * 128) limit)
          (.jmp (.l17 ((List.set t (Int.toNat (v_book_Pick to_ (IntKind.i64.wrap ((1 : Int) + (v_book_Pick n (12 : Int)))))) ((List.getD t (Int.toNat (v_book_Pick to_ (IntKind.i64.wrap ((1 : Int) + (v_book_Pick n (12 : Int)))))) (dflt T_api_Ins)).1, ((List.getD t (Int.toNat (v_book_Pick to_ (IntKind.i64.wrap ((1 : Int) + (v_book_Pick n (12 : Int)))))) (dflt T_api_Ins)).2.1, ((List.getD t (Int.toNat (v_book_Pick to_ (IntKind.i64.wrap ((1 : Int) + (v_book_Pick n (12 : Int)))))) (dflt T_api_Ins)).2.2.1, ((List.getD t (Int.toNat (v_book_Pick to_ (IntKind.i64.wrap ((1 : Int) + (v_book_Pick n (12 : Int)))))) (dflt T_api_Ins)).2.2.2.1, ((List.getD t (Int.toNat (v_book_Pick to_ (IntKind.i64.wrap ((1 : Int) + (v_book_Pick n (12 : Int)))))) (dflt T_api_Ins)).2.2.2.2.1, ((List.getD t (Int.toNat (v_book_Pick to_ (IntKind.i64.wrap ((1 : Int) + (v_book_Pick n (12 : Int)))))) (dflt T_api_Ins)).2.2.2.2.2.1, [(bs [97])]))))))) ++ [((10 : Int), (false, ((0 : Int), (((0 : Int), ((0 : Int), ((0 : Int), (0 : Int)))), (((0 : Int), ((0 : Int), ((0 : Int), (0 : Int)))), ((bs [97]), []))))))]) (0 : Int)))
        (.no))
      (.br (Nat.ble (((List.length (List.set t (Int.toNat (v_book_Pick to_ (IntKind.i64.wrap ((1 : Int) + (v_book_Pick n (12 : Int)))))) ((List.getD t (Int.toNat (v_book_Pick to_ (IntKind.i64.wrap ((1 : Int) + (v_book_Pick n (12 : Int)))))) (dflt T_api_Ins)).1, ((List.getD t (Int.toNat (v_book_Pick to_ (IntKind.i64.wrap ((1 : Int) + (v_book_Pick n (12 : Int)))))) (dflt T_api_Ins)).2.1, ((List.getD t (Int.toNat (v_book_Pick to_ (IntKind.i64.wrap ((1 : Int) + (v_book_Pick n (12 : Int)))))) (dflt T_api_Ins)).2.2.1, ((List.getD t (Int.toNat (v_book_Pick to_ (IntKind.i64.wrap ((1 : Int) + (v_book_Pick n (12 : Int)))))) (dflt T_api_Ins)).2.2.2.1, ((List.getD t (Int.toNat (v_book_Pick to_ (IntKind.i64.wrap ((1 : Int) + (v_book_Pick n (12 : Int)))))) (dflt T_api_Ins)).2.2.2.2.1, ((List.getD t (Int.toNat (v_book_Pick to_ (IntKind.i64.wrap ((1 : Int) + (v_book_Pick n (12 : Int)))))) (dflt T_api_Ins)).2.2.2.2.2.1, [(bs [97])])))))))) + 1) * 128) limit)
        (.jmp (.l17 ((List.set t (Int.toNat (v_book_Pick to_ (IntKind.i64.wrap ((1 : Int) + (v_book_Pick n (12 : Int)))))) ((List.getD t (Int.toNat (v_book_Pick to_ (IntKind.i64.wrap ((1 : Int) + (v_book_Pick n (12 : Int)))))) (dflt T_api_Ins)).1, ((List.getD t (Int.toNat (v_book_Pick to_ (IntKind.i64.wrap ((1 : Int) + (v_book_Pick n (12 : Int)))))) (dflt T_api_Ins)).2.1, ((List.getD t (Int.toNat (v_book_Pick to_ (IntKind.i64.wrap ((1 : Int) + (v_book_Pick n (12 : Int)))))) (dflt T_api_Ins)).2.2.1, ((List.getD t (Int.toNat (v_book_Pick to_ (IntKind.i64.wrap ((1 : Int) + (v_book_Pick n (12 : Int)))))) (dflt T_api_Ins)).2.2.2.1, ((List.getD t (Int.toNat (v_book_Pick to_ (IntKind.i64.wrap ((1 : Int) + (v_book_Pick n (12 : Int)))))) (dflt T_api_Ins)).2.2.2.2.1, ((List.getD t (Int.toNat (v_book_Pick to_ (IntKind.i64.wrap ((1 : Int) + (v_book_Pick n (12 : Int)))))) (dflt T_api_Ins)).2.2.2.2.2.1, [(bs [97])]))))))) ++ [((14 : Int), (false, ((0 : Int), (((0 : Int), ((0 : Int), ((0 : Int), (0 : Int)))), (((0 : Int), ((0 : Int), ((0 : Int), (0 : Int)))), ((bs []), []))))))]) (0 : Int)))
      (.no)))
    (.no))
  | .l17 t i =>
    .br (decide (i ≤ (IntKind.i64.wrap ((1 : Int) + (v_book_Pick n (12 : Int))))))
      (.br jump
        (.br (decide (i < (v_book_Pick to_ (IntKind.i64.wrap ((1 : Int) + (v_book_Pick n (12 : Int)))))))
          (.jmp (.l29 t (IntKind.i64.wrap (i + (1 : Int))) [] i))
        (.jmp (.l29 t (minI (IntKind.i64.wrap (i + (1 : Int))) (v_book_Pick to_ (IntKind.i64.wrap ((1 : Int) + (v_book_Pick n (12 : Int)))))) [] i)))
      (.jmp (.l29 t (IntKind.i64.wrap (i + (1 : Int))) [] i)))
    (.br (k_flow_Dead t)
      (.br ((Int.ofNat (List.length (v_flow_Dead t))) == (0 : Int))
        (.br k_law20_alive
          (.leaf v_law20_alive)
        (.no))
      (.leaf false))
    (.no))
  | .l29 t k want i =>
    .br (decide (k ≤ (IntKind.i64.wrap ((1 : Int) + (v_book_Pick n (12 : Int))))))
      (.br (Nat.ble (((List.length want) + 1) * 8) limit)
        (.jmp (.l29 t (IntKind.i64.wrap (k + (1 : Int))) (want ++ [k]) i))
      (.no))
    (.br (k_flow_From t i)
      (.br (k_book_SameInts (v_flow_From t i) want)
        (.br (! (v_book_SameInts (v_flow_From t i) want))
          (.leaf false)
        (.jmp (.l17 t (IntKind.i64.wrap (i + (1 : Int))))))
      (.no))
    (.no))
def T0_law20_FlowRow (n : Int) (to_ : Int) (jump : Bool) : JT J_law20_FlowRow (Bool) :=
  .br (k_book_Pick n (12 : Int))
    (.br (k_book_Pick to_ (IntKind.i64.wrap ((1 : Int) + (v_book_Pick n (12 : Int)))))
      (.jmp (.l6 (0 : Int) []))
    (.no))
  (.no)
def R_law20_FlowRow : Bool → AV := fun (r : Bool) => .d .bool r
def S_law20_FlowRow (n : Int) (to_ : Int) (jump : Bool) : J_law20_FlowRow → Nat × St
  | .l6 i t => (6, ⟨mkTm 85 [(0, .d (.int .i64) (IntKind.i64.wrap ((1 : Int) + (v_book_Pick n (12 : Int))))), (1, .d (.int .i64) (v_book_Pick to_ (IntKind.i64.wrap ((1 : Int) + (v_book_Pick n (12 : Int)))))), (2, .d .bool jump), (7, .pt 8 0 0), (8, .d (.int .i64) i)], [(8, 0, .box 24 [.own 8193 0 none] none), (8193, 0, .row 47 T_api_Ins t false)]⟩)
  | .l17 t i => (17, ⟨mkTm 85 [(0, .d (.int .i64) (IntKind.i64.wrap ((1 : Int) + (v_book_Pick n (12 : Int))))), (1, .d (.int .i64) (v_book_Pick to_ (IntKind.i64.wrap ((1 : Int) + (v_book_Pick n (12 : Int)))))), (2, .d .bool jump), (7, .pt 8 0 0), (10, .d (.int .i64) i)], [(8, 0, .box 24 [.own 8193 0 none] none), (8193, 0, .row 47 T_api_Ins t false)]⟩)
  | .l29 t k want i => (29, ⟨mkTm 85 [(0, .d (.int .i64) (IntKind.i64.wrap ((1 : Int) + (v_book_Pick n (12 : Int))))), (1, .d (.int .i64) (v_book_Pick to_ (IntKind.i64.wrap ((1 : Int) + (v_book_Pick n (12 : Int)))))), (2, .d .bool jump), (7, .pt 8 0 0), (10, .d (.int .i64) i), (12, .own 13 0 none), (13, .d (.int .i64) k)], [(8, 0, .box 24 [.own 8193 0 none] none), (13, 0, .row 3 (.int .i64) want false), (8193, 0, .row 47 T_api_Ins t false)]⟩)
theorem en_law20_FlowRow (n : Int) (to_ : Int) (jump : Bool) (L : Lt) : entryA Go.Proofs.Tryd.prog (clOf t_law20_FlowRow) tb_law20_FlowRow Go.Proofs.Tryd.f6 c_law20_FlowRow L (toForms sg_law20_FlowRow (n, to_, jump, ())) = (T0_law20_FlowRow n to_ jump).run (fun v => some (R_law20_FlowRow v, tps (toForms sg_law20_FlowRow (n, to_, jump, ())))) fun j => L (S_law20_FlowRow n to_ jump j).1 (S_law20_FlowRow n to_ jump j).2 := by kernel_rfl
theorem lp_law20_FlowRow (n : Int) (to_ : Int) (jump : Bool) : ∀ (L : Lt) (j : J_law20_FlowRow), procOf (procsF Go.Proofs.Tryd.prog (clOf t_law20_FlowRow) tb_law20_FlowRow Go.Proofs.Tryd.f6 c_law20_FlowRow (toForms sg_law20_FlowRow (n, to_, jump, ()))) (S_law20_FlowRow n to_ jump j).1 L (S_law20_FlowRow n to_ jump j).2 = (T_law20_FlowRow n to_ jump j).run (fun v => some (R_law20_FlowRow v, tps (toForms sg_law20_FlowRow (n, to_, jump, ())))) fun j => L (S_law20_FlowRow n to_ jump j).1 (S_law20_FlowRow n to_ jump j).2
  | L, .l6 i t => by kernel_rfl
  | L, .l17 t i => by kernel_rfl
  | L, .l29 t k want i => by kernel_rfl
end
end Go.Ev
end

section
set_option linter.unusedSectionVars false
set_option linter.unusedVariables false
set_option linter.unusedSimpArgs false
set_option maxRecDepth 100000
set_option linter.unusedVariables false
open Go Go.Ev
namespace Go.Ev
noncomputable section
/-! ### paling/palingbook.GreatIns -/
def sg_book_GreatIns : Sig := [(true, T_api_Ins)]
noncomputable def t_book_GreatIns : Tbl := []
theorem tk_book_GreatIns : ∀ p ∈ t_book_GreatIns, EntOK Go.Proofs.Tryd.prog p.1 p.2 := tbl_nil
noncomputable def c_book_GreatIns : Code := Go.Proofs.Tryd.f29.body.getD .skip
def tb_book_GreatIns : Tb := [(6, ⟨[1, 3], []⟩)]
inductive J_book_GreatIns where
  | l6 (k : Int)
def T_book_GreatIns (i : El T_api_Ins) : J_book_GreatIns → JT J_book_GreatIns (Bool)
  | .l6 k =>
    .br (decide (k < (Int.ofNat (List.length i.2.2.2.2.2.2))))
      (.br ((decide ((0 : Int) ≤ k)) && (decide (k < (Int.ofNat (List.length i.2.2.2.2.2.2)))))
        (.br (decide ((Int.ofNat (ByteArray.size (List.getD i.2.2.2.2.2.2 (Int.toNat k) (dflt .str)))) > (60 : Int)))
          (.leaf true)
        (.jmp (.l6 (IntKind.i64.wrap (k + (1 : Int))))))
      (.no))
    (.leaf false)
def T0_book_GreatIns (i : El T_api_Ins) : JT J_book_GreatIns (Bool) :=
  .br (decide ((Int.ofNat (List.length i.2.2.2.2.2.2)) > (6 : Int)))
    (.leaf true)
  (.br (decide ((Int.ofNat (ByteArray.size i.2.2.2.2.2.1)) > (60 : Int)))
    (.leaf true)
  (.jmp (.l6 (0 : Int))))
def R_book_GreatIns : Bool → AV := fun (r : Bool) => .d .bool r
def S_book_GreatIns (i : El T_api_Ins) : J_book_GreatIns → Nat × St
  | .l6 k => (6, ⟨mkTm 28 [(1, .pt 2 0 0), (3, .d (.int .i64) k)], [(2, 0, .box 47 [.d (.int .i64) i.1, .d .bool i.2.1, .d (.int .i64) i.2.2.1, .d (.int .i64) i.2.2.2.1.1, .d (.int .i64) i.2.2.2.1.2.1, .d (.int .i64) i.2.2.2.1.2.2.1, .d (.int .i64) i.2.2.2.1.2.2.2, .d (.int .i64) i.2.2.2.2.1.1, .d (.int .i64) i.2.2.2.2.1.2.1, .d (.int .i64) i.2.2.2.2.1.2.2.1, .d (.int .i64) i.2.2.2.2.1.2.2.2, .d .str i.2.2.2.2.2.1, .d (.sl .str) i.2.2.2.2.2.2] none)]⟩)
theorem en_book_GreatIns (i : El T_api_Ins) (L : Lt) : entryA Go.Proofs.Tryd.prog (clOf t_book_GreatIns) tb_book_GreatIns Go.Proofs.Tryd.f29 c_book_GreatIns L (toForms sg_book_GreatIns (i, ())) = (T0_book_GreatIns i).run (fun v => some (R_book_GreatIns v, tps (toForms sg_book_GreatIns (i, ())))) fun j => L (S_book_GreatIns i j).1 (S_book_GreatIns i j).2 := by kernel_rfl
theorem lp_book_GreatIns (i : El T_api_Ins) : ∀ (L : Lt) (j : J_book_GreatIns), procOf (procsF Go.Proofs.Tryd.prog (clOf t_book_GreatIns) tb_book_GreatIns Go.Proofs.Tryd.f29 c_book_GreatIns (toForms sg_book_GreatIns (i, ()))) (S_book_GreatIns i j).1 L (S_book_GreatIns i j).2 = (T_book_GreatIns i j).run (fun v => some (R_book_GreatIns v, tps (toForms sg_book_GreatIns (i, ())))) fun j => L (S_book_GreatIns i j).1 (S_book_GreatIns i j).2
  | L, .l6 k => by kernel_rfl
end
end Go.Ev
end

section
set_option linter.unusedSectionVars false
set_option linter.unusedVariables false
set_option linter.unusedSimpArgs false
set_option linter.unusedVariables false
set_option linter.unusedSimpArgs false
open Go
namespace Go.Ev

def v_book_GreatIns (i : El T_api_Ins) : Bool := decide (6 < i.2.2.2.2.2.2.length) || (decide (60 < i.2.2.2.2.2.1.size) || i.2.2.2.2.2.2.any fun l => decide (60 < l.size))
theorem g_book_GreatIns (i : El T_api_Ins) : Goes (T_book_GreatIns i) (T0_book_GreatIns i) (v_book_GreatIns i) := by
  obtain ⟨op, lock, cond, A, B, to, ls⟩ := i
  have loop : ls.length ≤ 6 → ∀ k, k ≤ ls.length → Goes (T_book_GreatIns (op, lock, cond, A, B, to, ls)) (.jmp (.l6 (k : Int))) ((ls.drop k).any fun l => decide (60 < l.size)) := by
    intro hn
    refine down ?_ fun k hk ih => ?_
    · rw [goes_jmp]
      simp [T_book_GreatIns, goes_br, goes_leaf]
    · rw [goes_jmp]
      simp only [T_book_GreatIns, goes_br, lt_len hk, nng, Bool.and_self, if_true, Int.toNat_natCast, getD_lt hk, wrap_succ (k := k) (by omega)]
      rw [drop_cons hk, List.any_cons]
      by_cases h : 60 < ls[k].size
      · rw [if_pos (by simp; omega), decide_eq_true h, Bool.true_or]
        exact .leaf
      · rw [if_neg (by simp; omega), decide_eq_false h, Bool.false_or]
        exact ih
  unfold T0_book_GreatIns v_book_GreatIns
  simp only [goes_br]
  by_cases h : 6 < ls.length
  · rw [if_pos (by simp; omega), decide_eq_true h, Bool.true_or]
    exact .leaf
  rw [if_neg (by simp; omega), decide_eq_false h, Bool.false_or]
  by_cases h2 : 60 < to.size
  · rw [if_pos (by simp; omega), decide_eq_true h2, Bool.true_or]
    exact .leaf
  rw [if_neg (by simp; omega), decide_eq_false h2, Bool.false_or]
  exact loop (by omega) 0 (Nat.zero_le _)

end Go.Ev
end

section
set_option linter.unusedSectionVars false
set_option linter.unusedVariables false
set_option linter.unusedSimpArgs false
set_option maxRecDepth 100000
set_option linter.unusedVariables false
open Go Go.Ev
namespace Go.Ev
noncomputable section
noncomputable def e_book_GreatIns : Run := entT sg_book_GreatIns R_book_GreatIns (fun a => v_book_GreatIns a.1)
theorem ok_book_GreatIns : EntOK Go.Proofs.Tryd.prog 29 e_book_GreatIns := entT_ok (tb := tb_book_GreatIns) (c := c_book_GreatIns) tk_book_GreatIns (by kernel_rfl) (by kernel_rfl) (by kernel_rfl) (fun a => by kernel_rfl) fun ⟨i, _⟩ => evF_goes (c := c_book_GreatIns) (K := fun v => (R_book_GreatIns v, tps (toForms sg_book_GreatIns (i, ())))) (S := S_book_GreatIns i) (by kernel_rfl) (en_book_GreatIns i) (lp_book_GreatIns i) (g_book_GreatIns i)
end
end Go.Ev
end

section
set_option linter.unusedSectionVars false
set_option linter.unusedVariables false
set_option linter.unusedSimpArgs false
set_option maxRecDepth 100000
set_option linter.unusedVariables false
open Go Go.Ev
namespace Go.Ev
noncomputable section
/-! ### paling/palingbook.GreatThread -/
def sg_book_GreatThread : Sig := [(true, (.sl T_api_Ins))]
noncomputable def t_book_GreatThread : Tbl := [(29, e_book_GreatIns)]
theorem tk_book_GreatThread : ∀ p ∈ t_book_GreatThread, EntOK Go.Proofs.Tryd.prog p.1 p.2 := tbl_cons ok_book_GreatIns (tbl_nil)
noncomputable def c_book_GreatThread : Code := Go.Proofs.Tryd.f11.body.getD .skip
def tb_book_GreatThread : Tb := [(6, ⟨[1, 3], []⟩)]
inductive J_book_GreatThread where
  | l6 (i : Int)
def T_book_GreatThread (t : List (El T_api_Ins)) : J_book_GreatThread → JT J_book_GreatThread (Bool)
  | .l6 i =>
    .br (decide (i < (Int.ofNat (List.length t))))
      (.br ((decide ((0 : Int) ≤ i)) && (decide (i < (Int.ofNat (List.length t)))))
        (.br (v_book_GreatIns (List.getD t (Int.toNat i) (dflt T_api_Ins)))
          (.leaf true)
        (.jmp (.l6 (IntKind.i64.wrap (i + (1 : Int))))))
      (.no))
    (.leaf false)
def T0_book_GreatThread (t : List (El T_api_Ins)) : JT J_book_GreatThread (Bool) :=
  .br (decide ((Int.ofNat (List.length t)) > (12 : Int)))
    (.leaf true)
  (.jmp (.l6 (0 : Int)))
def R_book_GreatThread : Bool → AV := fun (r : Bool) => .d .bool r
def S_book_GreatThread (t : List (El T_api_Ins)) : J_book_GreatThread → Nat × St
  | .l6 i => (6, ⟨mkTm 21 [(1, .pt 2 0 0), (3, .d (.int .i64) i)], [(2, 0, .box 24 [.d (.sl T_api_Ins) t] none)]⟩)
theorem en_book_GreatThread (t : List (El T_api_Ins)) (L : Lt) : entryA Go.Proofs.Tryd.prog (clOf t_book_GreatThread) tb_book_GreatThread Go.Proofs.Tryd.f11 c_book_GreatThread L (toForms sg_book_GreatThread (t, ())) = (T0_book_GreatThread t).run (fun v => some (R_book_GreatThread v, tps (toForms sg_book_GreatThread (t, ())))) fun j => L (S_book_GreatThread t j).1 (S_book_GreatThread t j).2 := by kernel_rfl
theorem lp_book_GreatThread (t : List (El T_api_Ins)) : ∀ (L : Lt) (j : J_book_GreatThread), procOf (procsF Go.Proofs.Tryd.prog (clOf t_book_GreatThread) tb_book_GreatThread Go.Proofs.Tryd.f11 c_book_GreatThread (toForms sg_book_GreatThread (t, ()))) (S_book_GreatThread t j).1 L (S_book_GreatThread t j).2 = (T_book_GreatThread t j).run (fun v => some (R_book_GreatThread v, tps (toForms sg_book_GreatThread (t, ())))) fun j => L (S_book_GreatThread t j).1 (S_book_GreatThread t j).2
  | L, .l6 i => by kernel_rfl
end
end Go.Ev
end

section
set_option linter.unusedSectionVars false
set_option linter.unusedVariables false
set_option linter.unusedSimpArgs false
set_option linter.unusedVariables false
set_option linter.unusedSimpArgs false
open Go
namespace Go.Ev
def v_book_GreatThread (t : List (El T_api_Ins)) : Bool := decide (12 < t.length) || t.any v_book_GreatIns
theorem g_book_GreatThread (t : List (El T_api_Ins)) : Goes (T_book_GreatThread t) (T0_book_GreatThread t) (v_book_GreatThread t) := by
  have loop : t.length ≤ 12 → ∀ k, k ≤ t.length → Goes (T_book_GreatThread t) (.jmp (.l6 (k : Int))) ((t.drop k).any v_book_GreatIns) := by
    intro hn
    refine down ?_ fun k hk ih => ?_
    · rw [goes_jmp]
      simp [T_book_GreatThread, goes_br, goes_leaf]
    · rw [goes_jmp]
      simp only [T_book_GreatThread, goes_br, lt_len hk, nng, Bool.and_self, if_true, Int.toNat_natCast, getD_lt hk, wrap_succ (k := k) (by omega)]
      rw [drop_cons hk, List.any_cons]
      cases v_book_GreatIns t[k] with
      | true => simp [goes_leaf]
      | false => simpa using ih
  unfold T0_book_GreatThread v_book_GreatThread
  simp only [goes_br]
  by_cases h : 12 < t.length
  · rw [if_pos (by simp; omega), decide_eq_true h, Bool.true_or]
    exact .leaf
  rw [if_neg (by simp; omega), decide_eq_false h, Bool.false_or]
  exact loop (by omega) 0 (Nat.zero_le _)
end Go.Ev
end

section
set_option linter.unusedSectionVars false
set_option linter.unusedVariables false
set_option linter.unusedSimpArgs false
set_option maxRecDepth 100000
set_option linter.unusedVariables false
open Go Go.Ev
namespace Go.Ev
noncomputable section
noncomputable def e_book_GreatThread : Run := entT sg_book_GreatThread R_book_GreatThread (fun a => v_book_GreatThread a.1)
theorem ok_book_GreatThread : EntOK Go.Proofs.Tryd.prog 11 e_book_GreatThread := entT_ok (tb := tb_book_GreatThread) (c := c_book_GreatThread) tk_book_GreatThread (by kernel_rfl) (by kernel_rfl) (by kernel_rfl) (fun a => by kernel_rfl) fun ⟨t, _⟩ => evF_goes (c := c_book_GreatThread) (K := fun v => (R_book_GreatThread v, tps (toForms sg_book_GreatThread (t, ())))) (S := S_book_GreatThread t) (by kernel_rfl) (en_book_GreatThread t) (lp_book_GreatThread t) (g_book_GreatThread t)
end
end Go.Ev
end

section
set_option linter.unusedSectionVars false
set_option linter.unusedVariables false
set_option linter.unusedSimpArgs false
/- A thread that is not great is small. -/
set_option maxRecDepth 100000
set_option linter.unusedVariables false
set_option linter.unusedSimpArgs false
namespace Go.Ev
open Go
theorem smallText_of {s : ByteArray} (h : s.size ≤ 60) : smallText s = true := decide_eq_true (by omega)
theorem great_ins {i : El T_api_Ins} (h : v_book_GreatIns i = false) : i.2.2.2.2.2.2.length ≤ 6 ∧ smallText i.2.2.2.2.2.1 = true ∧ ∀ l ∈ i.2.2.2.2.2.2, smallText l = true := by
  unfold v_book_GreatIns at h
  simp only [Bool.or_eq_false_iff, decide_eq_false_iff_not, List.any_eq_false, decide_eq_true_eq] at h
  exact ⟨by omega, smallText_of (by omega), fun l hl => smallText_of (by have := h.2.2 l hl; omega)⟩
theorem labels_le {t : List (El T_api_Ins)} {n : Nat} (h : ∀ i ∈ t, i.2.2.2.2.2.2.length ≤ n) : (labels t).length ≤ n * t.length := by
  unfold labels
  induction t with
  | nil => simp
  | cons i t ih =>
    rw [List.flatMap_cons, List.length_append, List.length_cons, Nat.mul_add, Nat.mul_one]
    have h1 := h i (List.mem_cons_self ..)
    have h2 := ih fun j hj => h j (List.mem_cons_of_mem _ hj)
    omega
theorem great_thread {t : List (El T_api_Ins)} (h : v_book_GreatThread t = false) : smallThread t = true := by
  unfold v_book_GreatThread at h
  simp only [Bool.or_eq_false_iff, decide_eq_false_iff_not, List.any_eq_false, Bool.not_eq_true] at h
  have hl := labels_le (t := t) (n := 6) fun i hi => (great_ins (h.2 i hi)).1
  unfold smallThread
  simp only [Bool.and_eq_true, decide_eq_true_eq, List.all_eq_true]
  exact ⟨by omega, by omega, fun i hi => ⟨(great_ins (h.2 i hi)).2.1, (great_ins (h.2 i hi)).2.2⟩⟩
end Go.Ev
end

section
set_option linter.unusedSectionVars false
set_option linter.unusedVariables false
set_option linter.unusedSimpArgs false
set_option maxRecDepth 100000
set_option linter.unusedVariables false
open Go Go.Ev
namespace Go.Ev
noncomputable section
/-! ### paling/palingref1.Find -/
def sg_ref1_Find : Sig := [(true, (.sl T_api_Ins)), (false, .str)]
noncomputable def t_ref1_Find : Tbl := [(73, e_ref1_index)]
theorem tk_ref1_Find : ∀ p ∈ t_ref1_Find, EntOK Go.Proofs.Tryd.prog p.1 p.2 := tbl_cons ok_ref1_index (tbl_nil)
noncomputable def c_ref1_Find : Code := Go.Proofs.Tryd.f60.body.getD .skip
def tb_ref1_Find : Tb := [(3, ⟨[1, 2, 5], []⟩)]
inductive J_ref1_Find where
  | l3 (i : Int)
def T_ref1_Find (t : List (El T_api_Ins)) (label : ByteArray) : J_ref1_Find → JT J_ref1_Find (Int)
  | .l3 i =>
    .br (decide (i < (Int.ofNat (List.length t))))
      (.br ((decide ((0 : Int) ≤ i)) && (decide (i < (Int.ofNat (List.length t)))))
        (.br (k_ref1_index (List.getD t (Int.toNat i) (dflt T_api_Ins)).2.2.2.2.2.2 label)
          (.br (decide ((v_ref1_index (List.getD t (Int.toNat i) (dflt T_api_Ins)).2.2.2.2.2.2 label) ≥ (0 : Int)))
            (.leaf i)
          (.jmp (.l3 (IntKind.i64.wrap (i + (1 : Int))))))
        (.no))
      (.no))
    (.leaf (-1 : Int))
def T0_ref1_Find (t : List (El T_api_Ins)) (label : ByteArray) : JT J_ref1_Find (Int) :=
  .jmp (.l3 (0 : Int))
def R_ref1_Find : Int → AV := fun (r : Int) => .d (.int .i64) r
def S_ref1_Find (t : List (El T_api_Ins)) (label : ByteArray) : J_ref1_Find → Nat × St
  | .l3 i => (3, ⟨mkTm 23 [(1, .d .str label), (2, .pt 3 0 0), (5, .d (.int .i64) i)], [(3, 0, .box 24 [.d (.sl T_api_Ins) t] none)]⟩)
theorem en_ref1_Find (t : List (El T_api_Ins)) (label : ByteArray) (L : Lt) : entryA Go.Proofs.Tryd.prog (clOf t_ref1_Find) tb_ref1_Find Go.Proofs.Tryd.f60 c_ref1_Find L (toForms sg_ref1_Find (t, label, ())) = (T0_ref1_Find t label).run (fun v => some (R_ref1_Find v, tps (toForms sg_ref1_Find (t, label, ())))) fun j => L (S_ref1_Find t label j).1 (S_ref1_Find t label j).2 := by kernel_rfl
theorem lp_ref1_Find (t : List (El T_api_Ins)) (label : ByteArray) : ∀ (L : Lt) (j : J_ref1_Find), procOf (procsF Go.Proofs.Tryd.prog (clOf t_ref1_Find) tb_ref1_Find Go.Proofs.Tryd.f60 c_ref1_Find (toForms sg_ref1_Find (t, label, ()))) (S_ref1_Find t label j).1 L (S_ref1_Find t label j).2 = (T_ref1_Find t label j).run (fun v => some (R_ref1_Find v, tps (toForms sg_ref1_Find (t, label, ())))) fun j => L (S_ref1_Find t label j).1 (S_ref1_Find t label j).2
  | L, .l3 i => by kernel_rfl
end
end Go.Ev
end

section
set_option linter.unusedSectionVars false
set_option linter.unusedVariables false
set_option linter.unusedSimpArgs false
set_option linter.unusedVariables false
set_option linter.unusedSimpArgs false
open Go
namespace Go.Ev
def v_ref1_Find (t : List (El T_api_Ins)) (label : ByteArray) : Int := findI label t 0
def k_ref1_Find (t : List (El T_api_Ins)) (label : ByteArray) : Bool := decide (t.length < 1099511627776) && t.all fun i => decide (i.2.2.2.2.2.2.length < 1099511627776)
theorem g_ref1_Find (t : List (El T_api_Ins)) (label : ByteArray) (hk : k_ref1_Find t label = true) : Goes (T_ref1_Find t label) (T0_ref1_Find t label) (v_ref1_Find t label) := by
  unfold k_ref1_Find at hk
  simp only [Bool.and_eq_true, decide_eq_true_eq, List.all_eq_true] at hk
  obtain ⟨hn, hl⟩ := hk
  have loop : ∀ k, k ≤ t.length → Goes (T_ref1_Find t label) (.jmp (.l3 (k : Int))) (findI label (t.drop k) k) := by
    refine down ?_ fun k hk ih => ?_
    · rw [goes_jmp]
      simp only [T_ref1_Find, goes_br, lt_len_not (Nat.lt_irrefl _), goes_leaf, List.drop_length]
      simp [findI]
    · have hli := hl t[k] (List.getElem_mem hk)
      have hki : k_ref1_index t[k].2.2.2.2.2.2 label = true := decide_eq_true (by omega)
      rw [goes_jmp]
      simp only [T_ref1_Find, goes_br, lt_len hk, nng, Bool.and_self, if_true, Int.toNat_natCast, getD_lt hk, wrap_succ (k := k) (by omega), hki]
      rw [drop_cons hk]
      unfold findI
      have hi : decide (v_ref1_index t[k].2.2.2.2.2.2 label ≥ 0) = t[k].2.2.2.2.2.2.contains label := by
        rw [← findFrom_contains (k := 0)]
        unfold v_ref1_index
        cases h : findFrom label t[k].2.2.2.2.2.2 0 with
        | none => rfl
        | some n => simp
      rw [hi]
      split
      · exact .leaf
      · exact ih
  unfold T0_ref1_Find v_ref1_Find
  simpa using loop 0 (Nat.zero_le _)
end Go.Ev
end

section
set_option linter.unusedSectionVars false
set_option linter.unusedVariables false
set_option linter.unusedSimpArgs false
set_option maxRecDepth 100000
set_option linter.unusedVariables false
open Go Go.Ev
namespace Go.Ev
noncomputable section
noncomputable def e_ref1_Find : Run := entG sg_ref1_Find R_ref1_Find (fun a => k_ref1_Find a.1 a.2.1) (fun a => v_ref1_Find a.1 a.2.1)
theorem ok_ref1_Find : EntOK Go.Proofs.Tryd.prog 60 e_ref1_Find := entG_ok (tb := tb_ref1_Find) (c := c_ref1_Find) tk_ref1_Find (by kernel_rfl) (by kernel_rfl) (by kernel_rfl) (fun a => by kernel_rfl) fun ⟨t, label, _⟩ hk => evF_goes (c := c_ref1_Find) (K := fun v => (R_ref1_Find v, tps (toForms sg_ref1_Find (t, label, ())))) (S := S_ref1_Find t label) (by kernel_rfl) (en_ref1_Find t label) (lp_ref1_Find t label) (g_ref1_Find t label hk)
end
end Go.Ev
end

section
set_option linter.unusedSectionVars false
set_option linter.unusedVariables false
set_option linter.unusedSimpArgs false
set_option maxRecDepth 100000
set_option linter.unusedVariables false
open Go Go.Ev
namespace Go.Ev
noncomputable section
/-! ### paling/palingref3.next -/
def sg_ref3_next : Sig := [(true, (.sl T_api_Ins)), (false, (.int .i64))]
noncomputable def t_ref3_next : Tbl := [(59, e_ref1_Leads), (60, e_ref1_Find)]
theorem tk_ref3_next : ∀ p ∈ t_ref3_next, EntOK Go.Proofs.Tryd.prog p.1 p.2 := tbl_cons ok_ref1_Leads (tbl_cons ok_ref1_Find (tbl_nil))
noncomputable def c_ref3_next : Code := Go.Proofs.Tryd.f46.body.getD .skip
def tb_ref3_next : Tb := [(6, ⟨[1, 2, 5, 7], []⟩)]
inductive J_ref3_next where
  | l6 (jumps : Bool) (is : List Bool)
def T_ref3_next (t : List (El T_api_Ins)) (i : Int) : J_ref3_next → JT J_ref3_next (List Bool)
  | .l6 jumps is =>
    .br jumps
      (.br ((decide ((0 : Int) ≤ i)) && (decide (i < (Int.ofNat (List.length t)))))
        (.br (k_ref1_Find t (List.getD t (Int.toNat i) (dflt T_api_Ins)).2.2.2.2.2.1)
          (.br (decide ((v_ref1_Find t (List.getD t (Int.toNat i) (dflt T_api_Ins)).2.2.2.2.2.1) ≥ (0 : Int)))
            (.br ((decide ((0 : Int) ≤ (v_ref1_Find t (List.getD t (Int.toNat i) (dflt T_api_Ins)).2.2.2.2.2.1))) && (decide ((v_ref1_Find t (List.getD t (Int.toNat i) (dflt T_api_Ins)).2.2.2.2.2.1) < (Int.ofNat (List.length is)))))
              (.leaf (List.set is (Int.toNat (v_ref1_Find t (List.getD t (Int.toNat i) (dflt T_api_Ins)).2.2.2.2.2.1)) true))
            (.no))
          (.leaf is))
        (.no))
      (.no))
    (.leaf is)
def T0_ref3_next (t : List (El T_api_Ins)) (i : Int) : JT J_ref3_next (List Bool) :=
  .br ((((Int.ofNat (List.length t)) == (Int.ofNat (List.length t))) && (decide ((0 : Int) ≤ (Int.ofNat (List.length t))))) && (decide (((Int.ofNat (List.length t)) * (1 : Int)) ≤ (limit : Int))))
    (.br (decide (i < (0 : Int)))
      (.leaf (List.replicate (List.length t) false))
    (.br (decide (i ≥ (Int.ofNat (List.length t))))
      (.leaf (List.replicate (List.length t) false))
    (.br ((decide ((0 : Int) ≤ i)) && (decide (i < (Int.ofNat (List.length t)))))
      (.br (k_ref1_Leads (List.getD t (Int.toNat i) (dflt T_api_Ins)))
        (.br (v_ref1_Leads (List.getD t (Int.toNat i) (dflt T_api_Ins))).1
          (.br (decide ((IntKind.i64.wrap (i + (1 : Int))) < (Int.ofNat (List.length t))))
            (.br ((decide ((0 : Int) ≤ (IntKind.i64.wrap (i + (1 : Int))))) && (decide ((IntKind.i64.wrap (i + (1 : Int))) < (Int.ofNat (List.length (List.replicate (List.length t) false))))))
              (.jmp (.l6 (v_ref1_Leads (List.getD t (Int.toNat i) (dflt T_api_Ins))).2 (List.set (List.replicate (List.length t) false) (Int.toNat (IntKind.i64.wrap (i + (1 : Int)))) true)))
            (.no))
          (.jmp (.l6 (v_ref1_Leads (List.getD t (Int.toNat i) (dflt T_api_Ins))).2 (List.replicate (List.length t) false))))
        (.jmp (.l6 (v_ref1_Leads (List.getD t (Int.toNat i) (dflt T_api_Ins))).2 (List.replicate (List.length t) false))))
      (.no))
    (.no))))
  (.no)
def v_ref3_next_l6 (t : List (El T_api_Ins)) (i : Int) (jumps : Bool) (is : List Bool) : List Bool :=
  bif jumps then
    bif ((decide ((0 : Int) ≤ i)) && (decide (i < (Int.ofNat (List.length t))))) then
      bif (k_ref1_Find t (List.getD t (Int.toNat i) (dflt T_api_Ins)).2.2.2.2.2.1) then
        bif (decide ((v_ref1_Find t (List.getD t (Int.toNat i) (dflt T_api_Ins)).2.2.2.2.2.1) ≥ (0 : Int))) then
          bif ((decide ((0 : Int) ≤ (v_ref1_Find t (List.getD t (Int.toNat i) (dflt T_api_Ins)).2.2.2.2.2.1))) && (decide ((v_ref1_Find t (List.getD t (Int.toNat i) (dflt T_api_Ins)).2.2.2.2.2.1) < (Int.ofNat (List.length is))))) then
            (List.set is (Int.toNat (v_ref1_Find t (List.getD t (Int.toNat i) (dflt T_api_Ins)).2.2.2.2.2.1)) true)
          else []
        else is
      else []
    else []
  else is
def k_ref3_next_l6 (t : List (El T_api_Ins)) (i : Int) (jumps : Bool) (is : List Bool) : Bool :=
  bif jumps then
    bif ((decide ((0 : Int) ≤ i)) && (decide (i < (Int.ofNat (List.length t))))) then
      bif (k_ref1_Find t (List.getD t (Int.toNat i) (dflt T_api_Ins)).2.2.2.2.2.1) then
        bif (decide ((v_ref1_Find t (List.getD t (Int.toNat i) (dflt T_api_Ins)).2.2.2.2.2.1) ≥ (0 : Int))) then
          bif ((decide ((0 : Int) ≤ (v_ref1_Find t (List.getD t (Int.toNat i) (dflt T_api_Ins)).2.2.2.2.2.1))) && (decide ((v_ref1_Find t (List.getD t (Int.toNat i) (dflt T_api_Ins)).2.2.2.2.2.1) < (Int.ofNat (List.length is))))) then
            true
          else false
        else true
      else false
    else false
  else true
theorem g_ref3_next_l6 (t : List (El T_api_Ins)) (i : Int) (jumps : Bool) (is : List Bool) (hk : k_ref3_next_l6 t i jumps is = true) : Goes (T_ref3_next t i) (.jmp (.l6 jumps is)) (v_ref3_next_l6 t i jumps is) :=
  Goes.jmp (Goes.brk hk (fun hk =>
    Goes.brk hk (fun hk =>
      Goes.brk hk (fun hk =>
        Goes.brk hk (fun hk =>
          Goes.brk hk (fun hk =>
            Goes.leaf) (fun hk =>
            Goes.nok hk)) (fun hk =>
          Goes.leaf)) (fun hk =>
        Goes.nok hk)) (fun hk =>
      Goes.nok hk)) (fun hk =>
    Goes.leaf))
def u_ref3_next (t : List (El T_api_Ins)) (i : Int) : List Bool :=
  bif ((((Int.ofNat (List.length t)) == (Int.ofNat (List.length t))) && (decide ((0 : Int) ≤ (Int.ofNat (List.length t))))) && (decide (((Int.ofNat (List.length t)) * (1 : Int)) ≤ (limit : Int)))) then
    bif (decide (i < (0 : Int))) then
      (List.replicate (List.length t) false)
    else bif (decide (i ≥ (Int.ofNat (List.length t)))) then
      (List.replicate (List.length t) false)
    else bif ((decide ((0 : Int) ≤ i)) && (decide (i < (Int.ofNat (List.length t))))) then
      bif (k_ref1_Leads (List.getD t (Int.toNat i) (dflt T_api_Ins))) then
        bif (v_ref1_Leads (List.getD t (Int.toNat i) (dflt T_api_Ins))).1 then
          bif (decide ((IntKind.i64.wrap (i + (1 : Int))) < (Int.ofNat (List.length t)))) then
            bif ((decide ((0 : Int) ≤ (IntKind.i64.wrap (i + (1 : Int))))) && (decide ((IntKind.i64.wrap (i + (1 : Int))) < (Int.ofNat (List.length (List.replicate (List.length t) false)))))) then
              v_ref3_next_l6 t i (v_ref1_Leads (List.getD t (Int.toNat i) (dflt T_api_Ins))).2 (List.set (List.replicate (List.length t) false) (Int.toNat (IntKind.i64.wrap (i + (1 : Int)))) true)
            else []
          else v_ref3_next_l6 t i (v_ref1_Leads (List.getD t (Int.toNat i) (dflt T_api_Ins))).2 (List.replicate (List.length t) false)
        else v_ref3_next_l6 t i (v_ref1_Leads (List.getD t (Int.toNat i) (dflt T_api_Ins))).2 (List.replicate (List.length t) false)
      else []
    else []
  else []
def ku_ref3_next (t : List (El T_api_Ins)) (i : Int) : Bool :=
  bif ((((Int.ofNat (List.length t)) == (Int.ofNat (List.length t))) && (decide ((0 : Int) ≤ (Int.ofNat (List.length t))))) && (decide (((Int.ofNat (List.length t)) * (1 : Int)) ≤ (limit : Int)))) then
    bif (decide (i < (0 : Int))) then
      true
    else bif (decide (i ≥ (Int.ofNat (List.length t)))) then
      true
    else bif ((decide ((0 : Int) ≤ i)) && (decide (i < (Int.ofNat (List.length t))))) then
      bif (k_ref1_Leads (List.getD t (Int.toNat i) (dflt T_api_Ins))) then
        bif (v_ref1_Leads (List.getD t (Int.toNat i) (dflt T_api_Ins))).1 then
          bif (decide ((IntKind.i64.wrap (i + (1 : Int))) < (Int.ofNat (List.length t)))) then
            bif ((decide ((0 : Int) ≤ (IntKind.i64.wrap (i + (1 : Int))))) && (decide ((IntKind.i64.wrap (i + (1 : Int))) < (Int.ofNat (List.length (List.replicate (List.length t) false)))))) then
              k_ref3_next_l6 t i (v_ref1_Leads (List.getD t (Int.toNat i) (dflt T_api_Ins))).2 (List.set (List.replicate (List.length t) false) (Int.toNat (IntKind.i64.wrap (i + (1 : Int)))) true)
            else false
          else k_ref3_next_l6 t i (v_ref1_Leads (List.getD t (Int.toNat i) (dflt T_api_Ins))).2 (List.replicate (List.length t) false)
        else k_ref3_next_l6 t i (v_ref1_Leads (List.getD t (Int.toNat i) (dflt T_api_Ins))).2 (List.replicate (List.length t) false)
      else false
    else false
  else false
theorem gu_ref3_next (t : List (El T_api_Ins)) (i : Int) (hk : ku_ref3_next t i = true) : Goes (T_ref3_next t i) (T0_ref3_next t i) (u_ref3_next t i) :=
  Goes.brk hk (fun hk =>
    Goes.brk hk (fun hk =>
      Goes.leaf) (fun hk =>
      Goes.brk hk (fun hk =>
        Goes.leaf) (fun hk =>
        Goes.brk hk (fun hk =>
          Goes.brk hk (fun hk =>
            Goes.brk hk (fun hk =>
              Goes.brk hk (fun hk =>
                Goes.brk hk (fun hk =>
                  g_ref3_next_l6 t i (v_ref1_Leads (List.getD t (Int.toNat i) (dflt T_api_Ins))).2 (List.set (List.replicate (List.length t) false) (Int.toNat (IntKind.i64.wrap (i + (1 : Int)))) true) hk) (fun hk =>
                  Goes.nok hk)) (fun hk =>
                g_ref3_next_l6 t i (v_ref1_Leads (List.getD t (Int.toNat i) (dflt T_api_Ins))).2 (List.replicate (List.length t) false) hk)) (fun hk =>
              g_ref3_next_l6 t i (v_ref1_Leads (List.getD t (Int.toNat i) (dflt T_api_Ins))).2 (List.replicate (List.length t) false) hk)) (fun hk =>
            Goes.nok hk)) (fun hk =>
          Goes.nok hk)))) (fun hk =>
    Goes.nok hk)
def R_ref3_next : List Bool → AV := fun (r : List Bool) => .rw 4 .bool r
def S_ref3_next (t : List (El T_api_Ins)) (i : Int) : J_ref3_next → Nat × St
  | .l6 jumps is => (6, ⟨mkTm 60 [(1, .d (.int .i64) i), (2, .pt 3 0 0), (5, .own 6 0 none), (7, .d .bool jumps)], [(3, 0, .box 24 [.d (.sl T_api_Ins) t] none), (6, 0, .row 4 .bool is false)]⟩)
theorem en_ref3_next (t : List (El T_api_Ins)) (i : Int) (L : Lt) : entryA Go.Proofs.Tryd.prog (clOf t_ref3_next) tb_ref3_next Go.Proofs.Tryd.f46 c_ref3_next L (toForms sg_ref3_next (t, i, ())) = (T0_ref3_next t i).run (fun v => some (R_ref3_next v, tps (toForms sg_ref3_next (t, i, ())))) fun j => L (S_ref3_next t i j).1 (S_ref3_next t i j).2 := by kernel_rfl
theorem lp_ref3_next (t : List (El T_api_Ins)) (i : Int) : ∀ (L : Lt) (j : J_ref3_next), procOf (procsF Go.Proofs.Tryd.prog (clOf t_ref3_next) tb_ref3_next Go.Proofs.Tryd.f46 c_ref3_next (toForms sg_ref3_next (t, i, ()))) (S_ref3_next t i j).1 L (S_ref3_next t i j).2 = (T_ref3_next t i j).run (fun v => some (R_ref3_next v, tps (toForms sg_ref3_next (t, i, ())))) fun j => L (S_ref3_next t i j).1 (S_ref3_next t i j).2
  | L, .l6 jumps is => by kernel_rfl
end
end Go.Ev
end

section
set_option linter.unusedSectionVars false
set_option linter.unusedVariables false
set_option linter.unusedSimpArgs false
/- Both texts tell the same of where an instruction leads. -/
set_option maxRecDepth 100000
set_option linter.unusedVariables false
set_option linter.unusedSimpArgs false
open Go
namespace Go.Ev
theorem k_refLeads' {i : El T_api_Ins} (h : smallText i.2.2.2.2.2.1 = true) : k_ref1_Leads i = true := by
  have h1 : k_ref1_InsRight i = true := h
  unfold k_ref1_Leads
  simp only [h1, cond_true, Bool.cond_self]
theorem leads_eq' {i : El T_api_Ins} (h : smallText i.2.2.2.2.2.1 = true) : v_ref1_Leads i = v_ins_Leads i := by
  have h0 : k_ins_Right i = true := h
  have h1 : k_ref1_InsRight i = true := h
  unfold v_ref1_Leads v_ins_Leads v_ref1_InsRight v_ref1_Jumps
  simp only [h0, h1, cond_true]
  cases h10 : ((show Int from i.1) == 10) with
  | true => simp only [cond_true, bne, h10, Bool.not_true, cond_false]
  | false => simp only [cond_true, bne, h10, Bool.not_false, cond_false]
end Go.Ev
end

section
set_option linter.unusedSectionVars false
set_option linter.unusedVariables false
set_option linter.unusedSimpArgs false
set_option maxRecDepth 100000
set_option linter.unusedVariables false
set_option linter.unusedSimpArgs false
open Go
namespace Go.Ev
/-- What is so, as a row. -/
def rowOf (n : Nat) (M : Nat → Bool) : List Bool := (List.range n).map M
theorem rowOf_length {n : Nat} {M : Nat → Bool} : (rowOf n M).length = n := by simp [rowOf]
theorem rowOf_get {n : Nat} {M : Nat → Bool} {i : Nat} (h : i < n) : (rowOf n M)[i]? = some (M i) := by simp [rowOf, h]
theorem rowOf_set {n : Nat} {M : Nat → Bool} {i : Nat} : (rowOf n M).set i true = rowOf n fun j => M j || (j == i) := by
  apply List.ext_getElem?
  intro j
  rw [List.getElem?_set, rowOf_length]
  by_cases hj : j < n
  · rw [rowOf_get hj, rowOf_get hj]
    by_cases hi : i = j
    · subst hi; rw [if_pos rfl, if_pos hj]; simp
    · rw [if_neg hi]
      have : (j == i) = false := by simp; omega
      rw [this, Bool.or_false]
  · rw [List.getElem?_eq_none (by rw [rowOf_length]; omega), List.getElem?_eq_none (by rw [rowOf_length]; omega)]
    by_cases hi : i = j
    · rw [if_pos hi, if_neg (by omega)]
    · rw [if_neg hi]
theorem rowOf_congr {n : Nat} {M M' : Nat → Bool} (h : ∀ i, i < n → M i = M' i) : rowOf n M = rowOf n M' := List.map_congr_left fun i hi => h i (List.mem_range.1 hi)
theorem rowOf_none {n : Nat} : List.replicate n false = rowOf n fun _ => false := by
  apply List.ext_getElem?
  intro j
  by_cases hj : j < n
  · rw [rowOf_get hj]; simp [hj]
  · rw [List.getElem?_eq_none (by simp; omega), List.getElem?_eq_none (by rw [rowOf_length]; omega)]
def v_ref3_next (t : List (El T_api_Ins)) (i : Int) : List Bool := rowOf t.length (nextB t i)
def k_ref3_next (t : List (El T_api_Ins)) (i : Int) : Bool := flowOK t
theorem g_ref3_next (t : List (El T_api_Ins)) (i : Int) (hk : k_ref3_next t i = true) : Goes (T_ref3_next t i) (T0_ref3_next t i) (v_ref3_next t i) := by
  have hlen := flowOK_len hk
  have hout : ∀ i, ¬ (0 ≤ i ∧ i < (t.length : Int)) → List.replicate t.length false = rowOf t.length (nextB t i) := fun i h => by
    rw [rowOf_none]
    refine rowOf_congr fun j hj => ?_
    unfold nextB
    rw [decide_eq_false (fun hh => h ⟨hh.1, hh.2.1⟩), Bool.false_and]
  unfold T0_ref3_next v_ref3_next
  rw [goes_br, if_pos (by unfold limit; simp; omega), goes_br]
  by_cases h0 : i < 0
  · rw [if_pos (decide_eq_true h0), ← hout i (fun h => by omega)]; exact .leaf
  rw [if_neg (by simpa using h0), goes_br]
  obtain ⟨j, rfl⟩ := Int.eq_ofNat_of_zero_le (show 0 ≤ i by omega)
  by_cases h1 : (t.length : Int) ≤ (j : Int)
  · rw [if_pos (decide_eq_true (show (j : Int) ≥ Int.ofNat t.length from h1)), ← hout _ (fun h => by omega)]; exact .leaf
  have hj : j < t.length := by omega
  rw [if_neg (by simp; omega), goes_br, if_pos (bound_len hj), goes_br, Int.toNat_natCast]
  have hmem : t.getD j (dflt T_api_Ins) ∈ t := by rw [getD_lt hj]; exact List.getElem_mem hj
  have hsm := flowOK_text hk hmem
  rw [if_pos (k_refLeads' hsm), leads_eq' hsm]
  have kf : k_ref1_Find t (t.getD j (dflt T_api_Ins)).2.2.2.2.2.1 = true := flowOK_find hk
  have vf : v_ref1_Find t (t.getD j (dflt T_api_Ins)).2.2.2.2.2.1 = findI (t.getD j (dflt T_api_Ins)).2.2.2.2.2.1 t 0 := rfl
  have hw : IntKind.i64.wrap ((j : Int) + 1) = ((j + 1 : Nat) : Int) := wrap_succ (by omega)
  have hr := @toOf_lt t j
  -- the jump
  have l6 : ∀ (M : Nat → Bool), Goes (T_ref3_next t (j : Int)) (.jmp (.l6 (v_ins_Leads (t.getD j (dflt T_api_Ins))).2 (rowOf t.length M))) (rowOf t.length fun k => M k || decide (toOf t j = (k : Int))) := by
    intro M
    rw [goes_jmp, T_ref3_next, goes_br]
    by_cases hjmp : (v_ins_Leads (t.getD j (dflt T_api_Ins))).2 = true
    · have hto : toOf t j = findI (t.getD j (dflt T_api_Ins)).2.2.2.2.2.1 t 0 := by unfold toOf; rw [if_pos hjmp]
      rw [hto] at hr
      rw [if_pos hjmp, goes_br, if_pos (bound_len hj), goes_br, Int.toNat_natCast, if_pos kf, goes_br, vf, hto]
      generalize findI (t.getD j (dflt T_api_Ins)).2.2.2.2.2.1 t 0 = to at hr
      by_cases h2 : to ≥ 0
      · obtain ⟨k, rfl⟩ := Int.eq_ofNat_of_zero_le h2
        rw [if_pos (decide_eq_true h2), goes_br, if_pos (by rw [rowOf_length]; exact bound_len (by omega)), Int.toNat_natCast, rowOf_set]
        rw [show (rowOf t.length fun l => M l || decide ((k : Int) = (l : Int))) = rowOf t.length fun l => M l || (l == k) from rowOf_congr fun l _ => by
          congr 1
          rw [Bool.eq_iff_iff]; simp; omega]
        exact .leaf
      · rw [if_neg (by simpa using h2)]
        rw [show (rowOf t.length fun l => M l || decide (to = (l : Int))) = rowOf t.length M from rowOf_congr fun l _ => by
          rw [decide_eq_false (by omega), Bool.or_false]]
        exact .leaf
    · have hto : toOf t j = -1 := by unfold toOf; rw [if_neg hjmp]
      rw [if_neg hjmp, hto]
      rw [show (rowOf t.length fun l => M l || decide ((-1 : Int) = (l : Int))) = rowOf t.length M from rowOf_congr fun l _ => by
          rw [decide_eq_false (by omega), Bool.or_false]]
      exact .leaf
  have hB : ∀ k, k < t.length → nextB t (j : Int) k = ((onOf t j && decide ((k : Int) = (j : Int) + 1)) || decide (toOf t j = (k : Int))) := fun k hk => by
    unfold nextB
    rw [decide_eq_true (by omega), Bool.true_and, Int.toNat_natCast]
  rw [rowOf_none, goes_br]
  by_cases hon : (v_ins_Leads (t.getD j (dflt T_api_Ins))).1 = true
  · have hon' : onOf t j = true := hon
    rw [if_pos hon, goes_br, hw]
    by_cases hin : j + 1 < t.length
    · rw [if_pos (lt_len hin), goes_br, rowOf_length, if_pos (bound_len hin), Int.toNat_natCast, rowOf_set]
      have := l6 fun k => false || (k == j + 1)
      rw [show rowOf t.length (nextB t (j : Int)) = rowOf t.length fun k => (false || (k == j + 1)) || decide (toOf t j = (k : Int)) from rowOf_congr fun k hk => by
        rw [hB k hk, hon', Bool.true_and, Bool.false_or]
        congr 1
        rw [Bool.eq_iff_iff]; simp; omega]
      exact this
    · rw [if_neg (by rw [lt_len_not hin]; decide)]
      have := l6 fun _ => false
      rw [show rowOf t.length (nextB t (j : Int)) = rowOf t.length fun k => false || decide (toOf t j = (k : Int)) from rowOf_congr fun k hk => by
        rw [hB k hk, hon', Bool.true_and, decide_eq_false (show ¬ (k : Int) = (j : Int) + 1 by omega)]]
      exact this
  · have hon' : onOf t j = false := Bool.eq_false_iff.2 hon
    rw [if_neg hon]
    have := l6 fun _ => false
    rw [show rowOf t.length (nextB t (j : Int)) = rowOf t.length fun k => false || decide (toOf t j = (k : Int)) from rowOf_congr fun k hk => by
      rw [hB k hk, hon', Bool.false_and]]
    exact this
end Go.Ev
end

section
set_option linter.unusedSectionVars false
set_option linter.unusedVariables false
set_option linter.unusedSimpArgs false
set_option maxRecDepth 100000
set_option linter.unusedVariables false
open Go Go.Ev
namespace Go.Ev
noncomputable section
noncomputable def e_ref3_next : Run := entG sg_ref3_next R_ref3_next (fun a => k_ref3_next a.1 a.2.1) (fun a => v_ref3_next a.1 a.2.1)
theorem ok_ref3_next : EntOK Go.Proofs.Tryd.prog 46 e_ref3_next := entG_ok (tb := tb_ref3_next) (c := c_ref3_next) tk_ref3_next (by kernel_rfl) (by kernel_rfl) (by kernel_rfl) (fun a => by kernel_rfl) fun ⟨t, i, _⟩ hk => evF_goes (c := c_ref3_next) (K := fun v => (R_ref3_next v, tps (toForms sg_ref3_next (t, i, ())))) (S := S_ref3_next t i) (by kernel_rfl) (en_ref3_next t i) (lp_ref3_next t i) (g_ref3_next t i hk)
end
end Go.Ev
end

section
set_option linter.unusedSectionVars false
set_option linter.unusedVariables false
set_option linter.unusedSimpArgs false
set_option maxRecDepth 100000
set_option linter.unusedVariables false
open Go Go.Ev
namespace Go.Ev
noncomputable section
/-! ### paling/palingref3.from -/
def sg_ref3_from : Sig := [(true, (.sl T_api_Ins)), (false, (.int .i64))]
noncomputable def t_ref3_from : Tbl := [(46, e_ref3_next)]
theorem tk_ref3_from : ∀ p ∈ t_ref3_from, EntOK Go.Proofs.Tryd.prog p.1 p.2 := tbl_cons ok_ref3_next (tbl_nil)
noncomputable def c_ref3_from : Code := Go.Proofs.Tryd.f47.body.getD .skip
def tb_ref3_from : Tb := [(4, ⟨[2, 5, 6], []⟩), (9, ⟨[2, 5, 6, 7], []⟩), (17, ⟨[2, 5, 6, 7, 8, 9], []⟩)]
inductive J_ref3_from where
  | l4 (moved : Bool) (is : List Bool)
  | l9 (k : Int) (moved : Bool) (is : List Bool)
  | l17 (k : Int) (more : List Bool) (moved : Bool) (j_ : Int) (is : List Bool)
def T_ref3_from (t : List (El T_api_Ins)) (i : Int) : J_ref3_from → JT J_ref3_from (List Bool)
  | .l4 moved is =>
    .br moved
      (.jmp (.l9 (0 : Int) false is))
    (.leaf is)
  | .l9 k moved is =>
    .br (decide (k < (Int.ofNat (List.length is))))
      (.br ((decide ((0 : Int) ≤ k)) && (decide (k < (Int.ofNat (List.length is)))))
        (.br (! (List.getD is (Int.toNat k) (dflt .bool)))
          (.jmp (.l9 (IntKind.i64.wrap (k + (1 : Int))) moved is))
        (.br (k_ref3_next t k)
          (.jmp (.l17 k (v_ref3_next t k) moved (0 : Int) is))
        (.no)))
      (.no))
    (.jmp (.l4 moved is))
  | .l17 k more moved j_ is =>
    .br (decide (j_ < (Int.ofNat (List.length is))))
      (.br ((decide ((0 : Int) ≤ j_)) && (decide (j_ < (Int.ofNat (List.length more)))))
        (.br (List.getD more (Int.toNat j_) (dflt .bool))
          (.br ((decide ((0 : Int) ≤ j_)) && (decide (j_ < (Int.ofNat (List.length is)))))
            (.br (! (List.getD is (Int.toNat j_) (dflt .bool)))
              (.br ((decide ((0 : Int) ≤ j_)) && (decide (j_ < (Int.ofNat (List.length is)))))
                (.jmp (.l17 k more true (IntKind.i64.wrap (j_ + (1 : Int))) (List.set is (Int.toNat j_) true)))
              (.no))
            (.jmp (.l17 k more moved (IntKind.i64.wrap (j_ + (1 : Int))) is)))
          (.no))
        (.jmp (.l17 k more moved (IntKind.i64.wrap (j_ + (1 : Int))) is)))
      (.no))
    (.jmp (.l9 (IntKind.i64.wrap (k + (1 : Int))) moved is))
def T0_ref3_from (t : List (El T_api_Ins)) (i : Int) : JT J_ref3_from (List Bool) :=
  .br (k_ref3_next t i)
    (.jmp (.l4 true (v_ref3_next t i)))
  (.no)
def R_ref3_from : List Bool → AV := fun (r : List Bool) => .rw 4 .bool r
def S_ref3_from (t : List (El T_api_Ins)) (i : Int) : J_ref3_from → Nat × St
  | .l4 moved is => (4, ⟨mkTm 49 [(2, .pt 3 0 0), (5, .own 6 0 none), (6, .d .bool moved)], [(3, 0, .box 24 [.d (.sl T_api_Ins) t] none), (6, 0, .row 4 .bool is false)]⟩)
  | .l9 k moved is => (9, ⟨mkTm 49 [(2, .pt 3 0 0), (5, .own 6 0 none), (6, .d .bool moved), (7, .d (.int .i64) k)], [(3, 0, .box 24 [.d (.sl T_api_Ins) t] none), (6, 0, .row 4 .bool is false)]⟩)
  | .l17 k more moved j_ is => (17, ⟨mkTm 49 [(2, .pt 3 0 0), (5, .own 6 0 none), (6, .d .bool moved), (7, .d (.int .i64) k), (8, .own 9 0 none), (9, .d (.int .i64) j_)], [(3, 0, .box 24 [.d (.sl T_api_Ins) t] none), (6, 0, .row 4 .bool is false), (9, 0, .row 4 .bool more false)]⟩)
theorem en_ref3_from (t : List (El T_api_Ins)) (i : Int) (L : Lt) : entryA Go.Proofs.Tryd.prog (clOf t_ref3_from) tb_ref3_from Go.Proofs.Tryd.f47 c_ref3_from L (toForms sg_ref3_from (t, i, ())) = (T0_ref3_from t i).run (fun v => some (R_ref3_from v, tps (toForms sg_ref3_from (t, i, ())))) fun j => L (S_ref3_from t i j).1 (S_ref3_from t i j).2 := by kernel_rfl
theorem lp_ref3_from (t : List (El T_api_Ins)) (i : Int) : ∀ (L : Lt) (j : J_ref3_from), procOf (procsF Go.Proofs.Tryd.prog (clOf t_ref3_from) tb_ref3_from Go.Proofs.Tryd.f47 c_ref3_from (toForms sg_ref3_from (t, i, ()))) (S_ref3_from t i j).1 L (S_ref3_from t i j).2 = (T_ref3_from t i j).run (fun v => some (R_ref3_from v, tps (toForms sg_ref3_from (t, i, ())))) fun j => L (S_ref3_from t i j).1 (S_ref3_from t i j).2
  | L, .l4 moved is => by kernel_rfl
  | L, .l9 k moved is => by kernel_rfl
  | L, .l17 k more moved j_ is => by kernel_rfl
end
end Go.Ev
end

section
set_option linter.unusedSectionVars false
set_option linter.unusedVariables false
set_option linter.unusedSimpArgs false
/- Rows of what is so. -/
set_option linter.unusedVariables false
open Go
namespace Go.Ev
theorem rowOf_getD {n : Nat} {M : Nat → Bool} {i : Nat} (h : i < n) : List.getD (rowOf n M) i (dflt .bool) = M i := by
  simp [List.getD, rowOf_get h]
theorem rowOf_put {n : Nat} {M : Nat → Bool} {i : Nat} {b : Bool} : (rowOf n M).set i b = rowOf n fun j => if j = i then b else M j := by
  apply List.ext_getElem?
  intro j
  rw [List.getElem?_set, rowOf_length]
  by_cases hj : j < n
  · rw [rowOf_get hj, rowOf_get hj]
    by_cases hi : i = j
    · subst hi; rw [if_pos rfl, if_pos hj, if_pos rfl]
    · rw [if_neg hi, if_neg (fun e => hi e.symm)]
  · rw [List.getElem?_eq_none (by rw [rowOf_length]; omega), List.getElem?_eq_none (by rw [rowOf_length]; omega)]
    by_cases hi : i = j
    · rw [if_pos hi, if_neg (by omega)]
    · rw [if_neg hi]
end Go.Ev
end

section
set_option linter.unusedSectionVars false
set_option linter.unusedVariables false
set_option linter.unusedSimpArgs false
set_option maxRecDepth 100000
set_option linter.unusedVariables false
set_option linter.unusedSimpArgs false
open Go
namespace Go.Ev
noncomputable def v_ref3_from (t : List (El T_api_Ins)) (i : Int) : List Bool := rowOf t.length (fromB t i)
def k_ref3_from (t : List (El T_api_Ins)) (i : Int) : Bool := flowOK t
theorem g_ref3_from (t : List (El T_api_Ins)) (i : Int) (hk : k_ref3_from t i = true) : Goes (T_ref3_from t i) (T0_ref3_from t i) (v_ref3_from t i) := by
  have hlen := flowOK_len hk
  generalize hn : t.length = n at hlen
  -- what holds on the way
  let OK : (Nat → Bool) → (Nat → Bool) → Bool → Prop := fun M0 M moved => (∀ j, nextB t i j = true → M j = true) ∧ (∀ j, M j = true → Come (fun k j => nextB t (k : Int) j) (nextB t i) j) ∧ (moved = false → M = M0) ∧ (moved = true → card n M0 < card n M)
  have hltM : ∀ {M0 M moved}, OK M0 M moved → ∀ j, M j = true → j < n := fun h j hj => by
    have := come_lt (n := t.length) (fun j => nextB_lt) (fun k j => nextB_lt) (h.2.1 j hj)
    omega
  have loop : ∀ m, ∀ M : Nat → Bool, n - card n M = m → (∀ j, nextB t i j = true → M j = true) → (∀ j, M j = true → Come (fun k j => nextB t (k : Int) j) (nextB t i) j) → Goes (T_ref3_from t i) (.jmp (.l4 true (rowOf n M))) (v_ref3_from t i) := by
    intro m
    induction m using Nat.strongRecOn with
    | _ m ih =>
    intro M0 hm hA hC
    -- within an instruction's row
    have inner : ∀ k, k < n → ∀ Z : Prop, (∀ M moved, OK M0 M moved → (moved = false → Z ∧ ∀ j, nextB t (k : Int) j = true → M0 j = true) → Goes (T_ref3_from t i) (.jmp (.l9 ((k + 1 : Nat) : Int) moved (rowOf n M))) (v_ref3_from t i)) →
        ∀ j, j ≤ n → ∀ M moved, M k = true → OK M0 M moved → (moved = false → Z ∧ ∀ x, x < j → nextB t (k : Int) x = true → M0 x = true) → Goes (T_ref3_from t i) (.jmp (.l17 (k : Int) (rowOf n (nextB t (k : Int))) moved (j : Int) (rowOf n M))) (v_ref3_from t i) := by
      intro k hkn Z hz
      refine down ?_ fun j hj ih2 => ?_
      · intro M moved hMk hok hcl
        rw [goes_jmp, T_ref3_from, goes_br, rowOf_length, if_neg (by rw [lt_len_not (Nat.lt_irrefl _)]; decide), wrap_succ (by omega)]
        exact hz M moved hok fun hm => ⟨(hcl hm).1, fun j hj => (hcl hm).2 j (by have := nextB_lt hj; omega) hj⟩
      · intro M moved hMk hok hcl
        rw [goes_jmp, T_ref3_from, goes_br, rowOf_length, if_pos (lt_len hj), goes_br, rowOf_length, if_pos (bound_len hj), goes_br, Int.toNat_natCast, rowOf_getD hj, wrap_succ (by omega)]
        by_cases hN : nextB t (k : Int) j = true
        · rw [if_pos hN, goes_br, if_pos (bound_len hj), goes_br, rowOf_getD hj]
          cases hMj : M j with
          | true =>
            rw [if_neg (by decide)]
            refine ih2 M moved hMk hok fun hm => ⟨(hcl hm).1, fun x hx hxN => ?_⟩
            by_cases hxj : x = j
            · subst hxj; rw [← hok.2.2.1 hm]; exact hMj
            · exact (hcl hm).2 x (by omega) hxN
          | false =>
            rw [if_pos (by decide), goes_br, if_pos (bound_len hj), rowOf_set]
            have hca := card_add hMj hj
            refine ih2 (fun x => M x || (x == j)) true (by rw [hMk]; rfl) ⟨fun x hx => (show (M x || (x == j)) = true by rw [hok.1 x hx]; rfl), fun x hx => ?_, fun h => (by cases h), fun _ => ?_⟩ (fun h => by cases h)
            · simp only [Bool.or_eq_true, beq_iff_eq] at hx
              rcases hx with hx | hx
              · exact hok.2.1 x hx
              · subst hx; exact .step (hok.2.1 k hMk) hN
            · cases moved with
              | true => have := hok.2.2.2 rfl; omega
              | false => rw [hok.2.2.1 rfl] at hca; rw [hok.2.2.1 rfl]; omega
        · rw [if_neg hN]
          refine ih2 M moved hMk hok fun hm => ⟨(hcl hm).1, fun x hx hxN => ?_⟩
          by_cases hxj : x = j
          · subst hxj; exact absurd hxN hN
          · exact (hcl hm).2 x (by omega) hxN
    have pass : ∀ k, k ≤ n → ∀ M moved, OK M0 M moved → (moved = false → ∀ k' j, k' < k → M0 k' = true → nextB t (k' : Int) j = true → M0 j = true) → Goes (T_ref3_from t i) (.jmp (.l9 (k : Int) moved (rowOf n M))) (v_ref3_from t i) := by
      refine down ?_ fun k hkn ih2 => ?_
      · intro M moved hok hcl
        rw [goes_jmp, T_ref3_from, goes_br, rowOf_length, if_neg (by rw [lt_len_not (Nat.lt_irrefl _)]; decide)]
        cases moved with
        | true =>
          have h1 := hok.2.2.2 rfl
          have h2 := @card_le n M
          exact ih (n - card n M) (by omega) M rfl hok.1 hok.2.1
        | false =>
          have e := hok.2.2.1 rfl
          subst e
          rw [goes_jmp, T_ref3_from, goes_br, if_neg (by decide)]
          have hv : rowOf n M = v_ref3_from t i := by
            unfold v_ref3_from fromB
            rw [hn]
            exact rowOf_congr fun j _ => comeB_eq hok.1 (fun k j hk hj => hcl rfl k j (hltM hok k hk) hk hj) hok.2.1 j
          rw [hv]; exact .leaf
      · intro M moved hok hcl
        rw [goes_jmp, T_ref3_from, goes_br, rowOf_length, if_pos (lt_len hkn), goes_br, if_pos (bound_len hkn), goes_br, Int.toNat_natCast, rowOf_getD hkn]
        cases hMk : M k with
        | false =>
          rw [if_pos (by decide), wrap_succ (by omega)]
          refine ih2 M moved hok fun hm k' j hk' hk1 hj => ?_
          by_cases e : k' = k
          · subst e; rw [← hok.2.2.1 hm, hMk] at hk1; cases hk1
          · exact hcl hm k' j (by omega) hk1 hj
        | true =>
          have kn : k_ref3_next t (k : Int) = true := hk
          rw [if_neg (by decide), goes_br, if_pos kn]
          have hvn : v_ref3_next t (k : Int) = rowOf n (nextB t (k : Int)) := by unfold v_ref3_next; rw [hn]
          rw [hvn]
          refine inner k hkn (∀ k' j, k' < k → M0 k' = true → nextB t (k' : Int) j = true → M0 j = true) (fun M' moved' hok' hcl' => ih2 M' moved' hok' fun hm k' j hk' hk1 hj => ?_) 0 (Nat.zero_le _) M moved hMk hok (fun hm => ⟨hcl hm, fun x hx => by omega⟩)
          by_cases e : k' = k
          · subst e; exact (hcl' hm).2 j hj
          · exact (hcl' hm).1 k' j (by omega) hk1 hj
    rw [goes_jmp, T_ref3_from, goes_br, if_pos rfl]
    exact pass 0 (Nat.zero_le _) M0 false ⟨hA, hC, fun _ => rfl, fun h => by cases h⟩ fun _ k' j h => by omega
  have kn : k_ref3_next t i = true := hk
  unfold T0_ref3_from
  rw [goes_br, if_pos kn]
  have hvn : v_ref3_next t i = rowOf n (nextB t i) := by unfold v_ref3_next; rw [hn]
  rw [hvn]
  exact loop _ (nextB t i) rfl (fun j h => h) (fun j h => .start h)
end Go.Ev
end

section
set_option linter.unusedSectionVars false
set_option linter.unusedVariables false
set_option linter.unusedSimpArgs false
set_option maxRecDepth 100000
set_option linter.unusedVariables false
open Go Go.Ev
namespace Go.Ev
noncomputable section
noncomputable def e_ref3_from : Run := entG sg_ref3_from R_ref3_from (fun a => k_ref3_from a.1 a.2.1) (fun a => v_ref3_from a.1 a.2.1)
theorem ok_ref3_from : EntOK Go.Proofs.Tryd.prog 47 e_ref3_from := entG_ok (tb := tb_ref3_from) (c := c_ref3_from) tk_ref3_from (by kernel_rfl) (by kernel_rfl) (by kernel_rfl) (fun a => by kernel_rfl) fun ⟨t, i, _⟩ hk => evF_goes (c := c_ref3_from) (K := fun v => (R_ref3_from v, tps (toForms sg_ref3_from (t, i, ())))) (S := S_ref3_from t i) (by kernel_rfl) (en_ref3_from t i) (lp_ref3_from t i) (g_ref3_from t i hk)
end
end Go.Ev
end

section
set_option linter.unusedSectionVars false
set_option linter.unusedVariables false
set_option linter.unusedSimpArgs false
set_option maxRecDepth 100000
set_option linter.unusedVariables false
open Go Go.Ev
namespace Go.Ev
noncomputable section
/-! ### paling/palingref3.List -/
def sg_ref3_List : Sig := [(false, (.sl .bool))]
noncomputable def t_ref3_List : Tbl := []
theorem tk_ref3_List : ∀ p ∈ t_ref3_List, EntOK Go.Proofs.Tryd.prog p.1 p.2 := tbl_nil
noncomputable def c_ref3_List : Code := Go.Proofs.Tryd.f19.body.getD .skip
def tb_ref3_List : Tb := [(4, ⟨[0, 3, 4], [(4, 76)]⟩)]
inductive J_ref3_List where
  | l4 (i : Int) (out : List Int)
def T_ref3_List (is : List Bool) : J_ref3_List → JT J_ref3_List (List Int)
  | .l4 i out =>
    .br (decide (i < (Int.ofNat (List.length is))))
      (.br ((decide ((0 : Int) ≤ i)) && (decide (i < (Int.ofNat (List.length is)))))
        (.br (List.getD is (Int.toNat i) (dflt .bool))
          (.br (Nat.ble (((List.length out) + 1) * 8) limit)
            (.jmp (.l4 (IntKind.i64.wrap (i + (1 : Int))) (out ++ [i])))
          (.no))
        (.jmp (.l4 (IntKind.i64.wrap (i + (1 : Int))) out)))
      (.no))
    (.leaf out)
def T0_ref3_List (is : List Bool) : JT J_ref3_List (List Int) :=
  .jmp (.l4 (0 : Int) [])
def R_ref3_List : List Int → AV := fun (r : List Int) => .rw 3 (.int .i64) r
def S_ref3_List (is : List Bool) : J_ref3_List → Nat × St
  | .l4 i out => (4, ⟨mkTm 20 [(0, .d (.sl .bool) is), (3, .own 4 0 none), (4, .d (.int .i64) i)], [(4, 0, .row 3 (.int .i64) out false)]⟩)
theorem en_ref3_List (is : List Bool) (L : Lt) : entryA Go.Proofs.Tryd.prog (clOf t_ref3_List) tb_ref3_List Go.Proofs.Tryd.f19 c_ref3_List L (toForms sg_ref3_List (is, ())) = (T0_ref3_List is).run (fun v => some (R_ref3_List v, tps (toForms sg_ref3_List (is, ())))) fun j => L (S_ref3_List is j).1 (S_ref3_List is j).2 := by kernel_rfl
theorem lp_ref3_List (is : List Bool) : ∀ (L : Lt) (j : J_ref3_List), procOf (procsF Go.Proofs.Tryd.prog (clOf t_ref3_List) tb_ref3_List Go.Proofs.Tryd.f19 c_ref3_List (toForms sg_ref3_List (is, ()))) (S_ref3_List is j).1 L (S_ref3_List is j).2 = (T_ref3_List is j).run (fun v => some (R_ref3_List v, tps (toForms sg_ref3_List (is, ())))) fun j => L (S_ref3_List is j).1 (S_ref3_List is j).2
  | L, .l4 i out => by kernel_rfl
end
end Go.Ev
end

section
set_option linter.unusedSectionVars false
set_option linter.unusedVariables false
set_option linter.unusedSimpArgs false
/- Rising lists and lists of places: what chapters 19 to 26 say of them, over lists. -/
set_option linter.unusedVariables false
set_option linter.unusedSimpArgs false
namespace Go.Ev
open Go
/-- Which are so, rising, from k on. -/
def listFrom : Nat → List Bool → List Int
  | _, [] => []
  | k, b :: r => if b then (k : Int) :: listFrom (k + 1) r else listFrom (k + 1) r
theorem listFrom_len : ∀ (l : List Bool) (k : Nat), (listFrom k l).length ≤ l.length
  | [], _ => Nat.le_refl _
  | b :: r, k => by
    have := listFrom_len r (k + 1)
    unfold listFrom
    split <;> simp only [List.length_cons] <;> omega
theorem mem_listFrom : ∀ {l : List Bool} {k : Nat} {x : Int}, x ∈ listFrom k l ↔ ∃ i, l[i]? = some true ∧ x = ((k + i : Nat) : Int)
  | [], k, x => by simp [listFrom]
  | b :: r, k, x => by
    have ih := @mem_listFrom r (k + 1) x
    unfold listFrom
    constructor
    · intro h
      cases b with
      | true =>
        rw [if_pos rfl] at h
        rcases List.mem_cons.1 h with rfl | h
        · exact ⟨0, rfl, by simp⟩
        · obtain ⟨i, h1, h2⟩ := ih.1 h
          exact ⟨i + 1, by simpa using h1, by rw [h2]; omega⟩
      | false =>
        rw [if_neg (by decide)] at h
        obtain ⟨i, h1, h2⟩ := ih.1 h
        exact ⟨i + 1, by simpa using h1, by rw [h2]; omega⟩
    · rintro ⟨i, h1, h2⟩
      cases i with
      | zero =>
        have hb : b = true := by simpa using h1
        subst hb
        rw [if_pos rfl, h2]
        exact List.mem_cons_self ..
      | succ i =>
        have := ih.2 ⟨i, by simpa using h1, by rw [h2]; omega⟩
        split
        · exact List.mem_cons_of_mem _ this
        · exact this
/-- A list in order. -/
def risingFrom : Int → List Int → Bool
  | _, [] => true
  | p, n :: r => if n < 0 ∨ 2147483647 < n ∨ n ≤ p then false else risingFrom n r
def rising (l : List Int) : Bool := risingFrom (-1) l
theorem risingFrom_spec : ∀ {l : List Int} {p : Int}, risingFrom p l = true ↔ (∀ x ∈ l, 0 ≤ x ∧ x ≤ 2147483647 ∧ p < x) ∧ l.Pairwise (· < ·)
  | [], p => by simp [risingFrom]
  | n :: r, p => by
    have ih := @risingFrom_spec r n
    unfold risingFrom
    split
    · rename_i h
      constructor
      · intro e; cases e
      · rintro ⟨h1, _⟩
        have := h1 n (by simp)
        omega
    · rename_i h
      rw [ih, List.pairwise_cons]
      constructor
      · rintro ⟨h1, h2⟩
        refine ⟨fun x hx => ?_, fun x hx => (h1 x hx).2.2, h2⟩
        rcases List.mem_cons.1 hx with rfl | hx
        · omega
        · have := h1 x hx; omega
      · rintro ⟨h1, h2, h3⟩
        exact ⟨fun x hx => ⟨(h1 x (by simp [hx])).1, (h1 x (by simp [hx])).2.1, h2 x hx⟩, h3⟩
theorem rising_spec {l : List Int} : rising l = true ↔ (∀ x ∈ l, 0 ≤ x ∧ x ≤ 2147483647) ∧ l.Pairwise (· < ·) := by
  unfold rising
  rw [risingFrom_spec]
  constructor
  · rintro ⟨h1, h2⟩; exact ⟨fun x hx => ⟨(h1 x hx).1, (h1 x hx).2.1⟩, h2⟩
  · rintro ⟨h1, h2⟩; exact ⟨fun x hx => ⟨(h1 x hx).1, (h1 x hx).2, by have := h1 x hx; omega⟩, h2⟩
/-- A rising list is no longer than its numbers are great. -/
theorem rising_len : ∀ {l : List Int} {p : Int}, risingFrom p l = true → -1 ≤ p → p + l.length ≤ 2147483647 ∨ l = []
  | [], _, _, _ => .inr rfl
  | n :: r, p, h, hp => by
    unfold risingFrom at h
    split at h
    · cases h
    · rename_i h1
      rcases rising_len h (by omega) with h2 | h2
      · left; rw [List.length_cons]; omega
      · subst h2; left; simp; omega
theorem rising_length {l : List Int} (h : rising l = true) : l.length ≤ 2147483648 := by
  rcases rising_len h (by omega) with h | h
  · omega
  · subst h; simp
/-- Where fences come to stand. -/
def fencesFrom : Nat → List Int → List Int
  | _, [] => []
  | k, n :: r => (n + k) :: fencesFrom (k + 1) r
def fencesC (l : List Int) : List Int := if rising l then fencesFrom 0 l else []
theorem fencesFrom_len : ∀ (l : List Int) (k : Nat), (fencesFrom k l).length = l.length
  | [], _ => rfl
  | n :: r, k => by unfold fencesFrom; rw [List.length_cons, List.length_cons, fencesFrom_len r]
theorem fencesC_len (l : List Int) : (fencesC l).length ≤ l.length := by
  unfold fencesC
  split
  · rw [fencesFrom_len]; exact Nat.le_refl _
  · exact Nat.zero_le _
theorem mem_fencesFrom : ∀ {l : List Int} {k : Nat} {x : Int}, x ∈ fencesFrom k l ↔ ∃ i n, l[i]? = some n ∧ x = n + ((k + i : Nat) : Int)
  | [], k, x => by simp [fencesFrom]
  | b :: r, k, x => by
    have ih := @mem_fencesFrom r (k + 1) x
    unfold fencesFrom
    rw [List.mem_cons, ih]
    constructor
    · rintro (rfl | ⟨i, n, h1, h2⟩)
      · exact ⟨0, b, rfl, by simp⟩
      · exact ⟨i + 1, n, by simpa using h1, by rw [h2]; omega⟩
    · rintro ⟨i, n, h1, h2⟩
      cases i with
      | zero =>
        left
        have : b = n := by simpa using h1
        subst this
        rw [h2, Nat.add_zero]
      | succ i => right; exact ⟨i, n, by simpa using h1, by rw [h2]; omega⟩
/-- How many are below; how many are not above. -/
def below (l : List Int) (x : Int) : Nat := l.countP fun f => decide (f < x)
def upTo (l : List Int) (x : Int) : Nat := l.countP fun f => decide (f ≤ x)
def backC (l : List Int) (pc : Int) : Int := if pc < 0 ∨ 2147483647 < pc then pc else pc - below (fencesC l) pc
def thereC (l : List Int) (i : Int) : Int := if i < 0 ∨ 2147483647 < i ∨ rising l = false then i else i + upTo l i
end Go.Ev
end

section
set_option linter.unusedSectionVars false
set_option linter.unusedVariables false
set_option linter.unusedSimpArgs false
set_option linter.unusedVariables false
set_option linter.unusedSimpArgs false
open Go
namespace Go.Ev
def v_ref3_List (is : List Bool) : List Int := listFrom 0 is
def k_ref3_List (is : List Bool) : Bool := decide (is.length < 1099511627776)
theorem g_ref3_List (is : List Bool) (hk : k_ref3_List is = true) : Goes (T_ref3_List is) (T0_ref3_List is) (v_ref3_List is) := by
  have hn : is.length < 1099511627776 := of_decide_eq_true hk
  have loop : ∀ k, k ≤ is.length → ∀ out : List Int, out.length ≤ k → Goes (T_ref3_List is) (.jmp (.l4 (k : Int) out)) (out ++ listFrom k (is.drop k)) := by
    refine down ?_ fun k hk ih => ?_
    · intro out ho
      rw [goes_jmp]
      simp only [T_ref3_List, goes_br, lt_len_not (Nat.lt_irrefl _), List.drop_length]
      rw [show listFrom is.length [] = [] from rfl, List.append_nil]
      exact .leaf
    · intro out ho
      rw [goes_jmp, drop_cons hk]
      have b1 : Nat.ble ((out.length + 1) * 8) limit = true := Nat.ble_eq_true_of_le (by unfold limit; omega)
      simp only [T_ref3_List, goes_br, lt_len hk, nng, Bool.and_self, if_true, Int.toNat_natCast, getD_lt hk, wrap_succ (k := k) (by omega), b1]
      unfold listFrom
      split
      · have := ih (out ++ [(k : Int)]) (by rw [List.length_append, List.length_singleton]; omega)
        rw [List.append_assoc] at this
        exact this
      · exact ih out (by omega)
  have := loop 0 (Nat.zero_le _) [] (by simp)
  unfold T0_ref3_List v_ref3_List
  simpa using this
end Go.Ev
end

section
set_option linter.unusedSectionVars false
set_option linter.unusedVariables false
set_option linter.unusedSimpArgs false
set_option maxRecDepth 100000
set_option linter.unusedVariables false
open Go Go.Ev
namespace Go.Ev
noncomputable section
noncomputable def e_ref3_List : Run := entG sg_ref3_List R_ref3_List (fun a => k_ref3_List a.1) (fun a => v_ref3_List a.1)
theorem ok_ref3_List : EntOK Go.Proofs.Tryd.prog 19 e_ref3_List := entG_ok (tb := tb_ref3_List) (c := c_ref3_List) tk_ref3_List (by kernel_rfl) (by kernel_rfl) (by kernel_rfl) (fun a => by kernel_rfl) fun ⟨is, _⟩ hk => evF_goes (c := c_ref3_List) (K := fun v => (R_ref3_List v, tps (toForms sg_ref3_List (is, ())))) (S := S_ref3_List is) (by kernel_rfl) (en_ref3_List is) (lp_ref3_List is) (g_ref3_List is hk)
end
end Go.Ev
end

section
set_option linter.unusedSectionVars false
set_option linter.unusedVariables false
set_option linter.unusedSimpArgs false
set_option maxRecDepth 100000
set_option linter.unusedVariables false
open Go Go.Ev
namespace Go.Ev
noncomputable section
/-! ### paling/palingref3.Dead -/
def sg_ref3_Dead : Sig := [(true, (.sl T_api_Ins))]
noncomputable def t_ref3_Dead : Tbl := [(47, e_ref3_from), (19, e_ref3_List)]
theorem tk_ref3_Dead : ∀ p ∈ t_ref3_Dead, EntOK Go.Proofs.Tryd.prog p.1 p.2 := tbl_cons ok_ref3_from (tbl_cons ok_ref3_List (tbl_nil))
noncomputable def c_ref3_Dead : Code := Go.Proofs.Tryd.f32.body.getD .skip
def tb_ref3_Dead : Tb := [(4, ⟨[3, 4], []⟩)]
inductive J_ref3_Dead where
  | l4 (i : Int) (is : List Bool)
def T_ref3_Dead (t : List (El T_api_Ins)) : J_ref3_Dead → JT J_ref3_Dead (List Int)
  | .l4 i is =>
    .br (decide (i < (Int.ofNat (List.length is))))
      (.br (decide (i > (0 : Int)))
        (.br ((decide ((0 : Int) ≤ i)) && (decide (i < (Int.ofNat (List.length is)))))
          (.br ((decide ((0 : Int) ≤ i)) && (decide (i < (Int.ofNat (List.length is)))))
            (.jmp (.l4 (IntKind.i64.wrap (i + (1 : Int))) (List.set is (Int.toNat i) (! (List.getD is (Int.toNat i) (dflt .bool))))))
          (.no))
        (.no))
      (.br ((decide ((0 : Int) ≤ i)) && (decide (i < (Int.ofNat (List.length is)))))
        (.jmp (.l4 (IntKind.i64.wrap (i + (1 : Int))) (List.set is (Int.toNat i) false)))
      (.no)))
    (.br (k_ref3_List is)
      (.leaf (v_ref3_List is))
    (.no))
def T0_ref3_Dead (t : List (El T_api_Ins)) : JT J_ref3_Dead (List Int) :=
  .br (k_ref3_from t (0 : Int))
    (.jmp (.l4 (0 : Int) (v_ref3_from t (0 : Int))))
  (.no)
def R_ref3_Dead : List Int → AV := fun (r : List Int) => .rw 3 (.int .i64) r
def S_ref3_Dead (t : List (El T_api_Ins)) : J_ref3_Dead → Nat × St
  | .l4 i is => (4, ⟨mkTm 27 [(3, .own 4 0 none), (4, .d (.int .i64) i)], [(4, 0, .row 4 .bool is false)]⟩)
theorem en_ref3_Dead (t : List (El T_api_Ins)) (L : Lt) : entryA Go.Proofs.Tryd.prog (clOf t_ref3_Dead) tb_ref3_Dead Go.Proofs.Tryd.f32 c_ref3_Dead L (toForms sg_ref3_Dead (t, ())) = (T0_ref3_Dead t).run (fun v => some (R_ref3_Dead v, tps (toForms sg_ref3_Dead (t, ())))) fun j => L (S_ref3_Dead t j).1 (S_ref3_Dead t j).2 := by kernel_rfl
theorem lp_ref3_Dead (t : List (El T_api_Ins)) : ∀ (L : Lt) (j : J_ref3_Dead), procOf (procsF Go.Proofs.Tryd.prog (clOf t_ref3_Dead) tb_ref3_Dead Go.Proofs.Tryd.f32 c_ref3_Dead (toForms sg_ref3_Dead (t, ()))) (S_ref3_Dead t j).1 L (S_ref3_Dead t j).2 = (T_ref3_Dead t j).run (fun v => some (R_ref3_Dead v, tps (toForms sg_ref3_Dead (t, ())))) fun j => L (S_ref3_Dead t j).1 (S_ref3_Dead t j).2
  | L, .l4 i is => by kernel_rfl
end
end Go.Ev
end

section
set_option linter.unusedSectionVars false
set_option linter.unusedVariables false
set_option linter.unusedSimpArgs false
set_option maxRecDepth 100000
set_option linter.unusedVariables false
set_option linter.unusedSimpArgs false
open Go
namespace Go.Ev
theorem listFrom_row (M : Nat → Bool) : ∀ n k : Nat, listFrom k ((List.range' k n).map M) = ((List.range' k n).filter M).map Int.ofNat
  | 0, k => rfl
  | n + 1, k => by
    rw [List.range'_succ, List.map_cons, List.filter_cons]
    unfold listFrom
    rw [listFrom_row M n (k + 1)]
    cases M k <;> simp
theorem list_row {n : Nat} {M : Nat → Bool} : listFrom 0 (rowOf n M) = listOf n M := by
  have := listFrom_row M n 0
  unfold rowOf listOf
  rw [List.range_eq_range']
  exact this
noncomputable def v_ref3_Dead (t : List (El T_api_Ins)) : List Int := listOf t.length fun k => decide (0 < k) && !fromB t 0 k
def k_ref3_Dead (t : List (El T_api_Ins)) : Bool := flowOK t
theorem g_ref3_Dead (t : List (El T_api_Ins)) (hk : k_ref3_Dead t = true) : Goes (T_ref3_Dead t) (T0_ref3_Dead t) (v_ref3_Dead t) := by
  have hlen := flowOK_len hk
  have kf : k_ref3_from t 0 = true := hk
  generalize hn : t.length = n at hlen
  have loop : ∀ k, k ≤ n → Goes (T_ref3_Dead t) (.jmp (.l4 (k : Int) (rowOf n fun j => if j < k then (decide (0 < j) && !fromB t 0 j) else fromB t 0 j))) (v_ref3_Dead t) := by
    refine down ?_ fun k hkn ih => ?_
    · rw [goes_jmp, T_ref3_Dead, goes_br, rowOf_length, if_neg (by rw [lt_len_not (Nat.lt_irrefl _)]; decide)]
      have kl : k_ref3_List (rowOf n fun j => if j < n then (decide (0 < j) && !fromB t 0 j) else fromB t 0 j) = true := decide_eq_true (by rw [rowOf_length]; exact hlen)
      rw [goes_br, if_pos kl]
      have e : v_ref3_List (rowOf n fun j => if j < n then (decide (0 < j) && !fromB t 0 j) else fromB t 0 j) = v_ref3_Dead t := by
        show listFrom 0 _ = _
        rw [list_row]
        unfold v_ref3_Dead
        rw [hn]
        exact listOf_congr fun i hi => by rw [if_pos hi]
      rw [e]; exact .leaf
    · rw [goes_jmp, T_ref3_Dead, goes_br, rowOf_length, if_pos (lt_len hkn), goes_br, wrap_succ (by omega)]
      have nx : ∀ b, b = (decide (0 < k) && !fromB t 0 k) → Goes (T_ref3_Dead t) (.jmp (.l4 ((k + 1 : Nat) : Int) ((rowOf n fun j => if j < k then (decide (0 < j) && !fromB t 0 j) else fromB t 0 j).set k b))) (v_ref3_Dead t) := fun b hb => by
        rw [rowOf_put]
        rw [show (rowOf n fun j => if j = k then b else if j < k then (decide (0 < j) && !fromB t 0 j) else fromB t 0 j) = rowOf n fun j => if j < k + 1 then (decide (0 < j) && !fromB t 0 j) else fromB t 0 j from rowOf_congr fun j _ => by
          by_cases h1 : j = k
          · subst h1; rw [if_pos rfl, if_pos (by omega), hb]
          · rw [if_neg h1]
            by_cases h2 : j < k
            · rw [if_pos h2, if_pos (by omega)]
            · rw [if_neg h2, if_neg (by omega)]]
        exact ih
      by_cases h0 : k = 0
      · rw [if_neg (by simp; omega), goes_br, if_pos (bound_len hkn), Int.toNat_natCast]
        exact nx false (by simp [h0])
      · rw [if_pos (by simp; omega), goes_br, if_pos (bound_len hkn), goes_br, if_pos (bound_len hkn), Int.toNat_natCast, rowOf_getD hkn, if_neg (by omega)]
        exact nx _ (by rw [decide_eq_true (by omega), Bool.true_and])
  unfold T0_ref3_Dead
  rw [goes_br, if_pos kf]
  have hv : v_ref3_from t 0 = rowOf n fun j => if j < 0 then (decide (0 < j) && !fromB t 0 j) else fromB t 0 j := by
    unfold v_ref3_from
    rw [hn]
    exact rowOf_congr fun j _ => by rw [if_neg (by omega)]
  rw [hv]
  exact loop 0 (Nat.zero_le _)
end Go.Ev
end

section
set_option linter.unusedSectionVars false
set_option linter.unusedVariables false
set_option linter.unusedSimpArgs false
/- The first call's text of law20_alive. -/
set_option maxRecDepth 100000
open Go
namespace Go.Ev
noncomputable section
def lit_law20_alive : List (El T_api_Ins) := [((13 : Int), (false, ((0 : Int), (((0 : Int), ((0 : Int), ((0 : Int), (0 : Int)))), (((0 : Int), ((0 : Int), ((0 : Int), (0 : Int)))), ((bs []), [(bs [97])])))))), ((10 : Int), (false, ((0 : Int), (((0 : Int), ((0 : Int), ((0 : Int), (0 : Int)))), (((0 : Int), ((0 : Int), ((0 : Int), (0 : Int)))), ((bs [97]), [])))))), ((14 : Int), (false, ((0 : Int), (((0 : Int), ((0 : Int), ((0 : Int), (0 : Int)))), (((0 : Int), ((0 : Int), ((0 : Int), (0 : Int)))), ((bs []), []))))))]
def ka_law20_alive (t : List (El T_api_Ins)) : Bool :=
  bif (k_flow_Next t (1 : Int)) then
    bif (k_book_SameInts (v_flow_Next t (1 : Int)) [(0 : Int)]) then
      bif (v_book_SameInts (v_flow_Next t (1 : Int)) [(0 : Int)]) then
        bif (k_flow_From t (0 : Int)) then
          bif (k_book_SameInts (v_flow_From t (0 : Int)) [(0 : Int), (1 : Int)]) then
            bif (v_book_SameInts (v_flow_From t (0 : Int)) [(0 : Int), (1 : Int)]) then
              bif (k_flow_Dead t) then
                bif (k_book_SameInts (v_flow_Dead t) [(2 : Int)]) then
                  bif (v_book_SameInts (v_flow_Dead t) [(2 : Int)]) then
                    bif (k_flow_Next t (3 : Int)) then
                      true
                    else false
                  else true
                else false
              else false
            else true
          else false
        else false
      else true
    else false
  else false
def va_law20_alive (t : List (El T_api_Ins)) : Bool :=
  bif (k_flow_Next t (1 : Int)) then
    bif (k_book_SameInts (v_flow_Next t (1 : Int)) [(0 : Int)]) then
      bif (v_book_SameInts (v_flow_Next t (1 : Int)) [(0 : Int)]) then
        bif (k_flow_From t (0 : Int)) then
          bif (k_book_SameInts (v_flow_From t (0 : Int)) [(0 : Int), (1 : Int)]) then
            bif (v_book_SameInts (v_flow_From t (0 : Int)) [(0 : Int), (1 : Int)]) then
              bif (k_flow_Dead t) then
                bif (k_book_SameInts (v_flow_Dead t) [(2 : Int)]) then
                  bif (v_book_SameInts (v_flow_Dead t) [(2 : Int)]) then
                    bif (k_flow_Next t (3 : Int)) then
                      ((Int.ofNat (List.length (v_flow_Next t (3 : Int)))) == (0 : Int))
                    else false
                  else false
                else false
              else false
            else false
          else false
        else false
      else false
    else false
  else false
theorem ka_law20_alive_eq : k_law20_alive = ka_law20_alive lit_law20_alive := rfl
theorem va_law20_alive_eq : v_law20_alive = va_law20_alive lit_law20_alive := rfl
end
end Go.Ev
end

section
set_option linter.unusedSectionVars false
set_option linter.unusedVariables false
set_option linter.unusedSimpArgs false
set_option maxRecDepth 100000
set_option linter.unusedVariables false
open Go Go.Ev
namespace Go.Ev
noncomputable section
/-! ### paling/palingref3.Next -/
def sg_ref3_Next : Sig := [(true, (.sl T_api_Ins)), (false, (.int .i64))]
noncomputable def t_ref3_Next : Tbl := [(46, e_ref3_next), (19, e_ref3_List)]
theorem tk_ref3_Next : ∀ p ∈ t_ref3_Next, EntOK Go.Proofs.Tryd.prog p.1 p.2 := tbl_cons ok_ref3_next (tbl_cons ok_ref3_List (tbl_nil))
noncomputable def c_ref3_Next : Code := Go.Proofs.Tryd.f30.body.getD .skip
def tb_ref3_Next : Tb := []
def T_ref3_Next (t : List (El T_api_Ins)) (i : Int) : Empty → JT Empty (List Int) := fun j => nomatch j
def T0_ref3_Next (t : List (El T_api_Ins)) (i : Int) : JT Empty (List Int) :=
  .br (k_ref3_next t i)
    (.br (k_ref3_List (v_ref3_next t i))
      (.leaf (v_ref3_List (v_ref3_next t i)))
    (.no))
  (.no)
def v_ref3_Next (t : List (El T_api_Ins)) (i : Int) : List Int :=
  bif (k_ref3_next t i) then
    bif (k_ref3_List (v_ref3_next t i)) then
      (v_ref3_List (v_ref3_next t i))
    else []
  else []
def k_ref3_Next (t : List (El T_api_Ins)) (i : Int) : Bool :=
  bif (k_ref3_next t i) then
    bif (k_ref3_List (v_ref3_next t i)) then
      true
    else false
  else false
theorem g_ref3_Next (t : List (El T_api_Ins)) (i : Int) (hk : k_ref3_Next t i = true) : Goes (T_ref3_Next t i) (T0_ref3_Next t i) (v_ref3_Next t i) :=
  Goes.brk hk (fun hk =>
    Goes.brk hk (fun hk =>
      Goes.leaf) (fun hk =>
      Goes.nok hk)) (fun hk =>
    Goes.nok hk)
def R_ref3_Next : List Int → AV := fun (r : List Int) => .rw 3 (.int .i64) r
def S_ref3_Next (t : List (El T_api_Ins)) (i : Int) : Empty → Nat × St := fun j => nomatch j
theorem en_ref3_Next (t : List (El T_api_Ins)) (i : Int) (L : Lt) : entryA Go.Proofs.Tryd.prog (clOf t_ref3_Next) tb_ref3_Next Go.Proofs.Tryd.f30 c_ref3_Next L (toForms sg_ref3_Next (t, i, ())) = (T0_ref3_Next t i).run (fun v => some (R_ref3_Next v, tps (toForms sg_ref3_Next (t, i, ())))) fun j => L (S_ref3_Next t i j).1 (S_ref3_Next t i j).2 := by kernel_rfl
theorem lp_ref3_Next (t : List (El T_api_Ins)) (i : Int) : ∀ (L : Lt) (j : Empty), procOf (procsF Go.Proofs.Tryd.prog (clOf t_ref3_Next) tb_ref3_Next Go.Proofs.Tryd.f30 c_ref3_Next (toForms sg_ref3_Next (t, i, ()))) (S_ref3_Next t i j).1 L (S_ref3_Next t i j).2 = (T_ref3_Next t i j).run (fun v => some (R_ref3_Next v, tps (toForms sg_ref3_Next (t, i, ())))) fun j => L (S_ref3_Next t i j).1 (S_ref3_Next t i j).2 := fun L j => nomatch j
noncomputable def e_ref3_Next : Run := entG sg_ref3_Next R_ref3_Next (fun a => k_ref3_Next a.1 a.2.1) (fun a => v_ref3_Next a.1 a.2.1)
theorem ok_ref3_Next : EntOK Go.Proofs.Tryd.prog 30 e_ref3_Next := entG_ok (tb := tb_ref3_Next) (c := c_ref3_Next) tk_ref3_Next (by kernel_rfl) (by kernel_rfl) (by kernel_rfl) (fun a => by kernel_rfl) fun ⟨t, i, _⟩ hk => evF_goes (c := c_ref3_Next) (K := fun v => (R_ref3_Next v, tps (toForms sg_ref3_Next (t, i, ())))) (S := S_ref3_Next t i) (by kernel_rfl) (en_ref3_Next t i) (lp_ref3_Next t i) (g_ref3_Next t i hk)
end
end Go.Ev
end

section
set_option linter.unusedSectionVars false
set_option linter.unusedVariables false
set_option linter.unusedSimpArgs false
set_option maxRecDepth 100000
set_option linter.unusedVariables false
open Go Go.Ev
namespace Go.Ev
noncomputable section
/-! ### paling/palingref3.From -/
def sg_ref3_From : Sig := [(true, (.sl T_api_Ins)), (false, (.int .i64))]
noncomputable def t_ref3_From : Tbl := [(47, e_ref3_from), (19, e_ref3_List)]
theorem tk_ref3_From : ∀ p ∈ t_ref3_From, EntOK Go.Proofs.Tryd.prog p.1 p.2 := tbl_cons ok_ref3_from (tbl_cons ok_ref3_List (tbl_nil))
noncomputable def c_ref3_From : Code := Go.Proofs.Tryd.f31.body.getD .skip
def tb_ref3_From : Tb := []
def T_ref3_From (t : List (El T_api_Ins)) (i : Int) : Empty → JT Empty (List Int) := fun j => nomatch j
def T0_ref3_From (t : List (El T_api_Ins)) (i : Int) : JT Empty (List Int) :=
  .br (k_ref3_from t i)
    (.br (k_ref3_List (v_ref3_from t i))
      (.leaf (v_ref3_List (v_ref3_from t i)))
    (.no))
  (.no)
def v_ref3_From (t : List (El T_api_Ins)) (i : Int) : List Int :=
  bif (k_ref3_from t i) then
    bif (k_ref3_List (v_ref3_from t i)) then
      (v_ref3_List (v_ref3_from t i))
    else []
  else []
def k_ref3_From (t : List (El T_api_Ins)) (i : Int) : Bool :=
  bif (k_ref3_from t i) then
    bif (k_ref3_List (v_ref3_from t i)) then
      true
    else false
  else false
theorem g_ref3_From (t : List (El T_api_Ins)) (i : Int) (hk : k_ref3_From t i = true) : Goes (T_ref3_From t i) (T0_ref3_From t i) (v_ref3_From t i) :=
  Goes.brk hk (fun hk =>
    Goes.brk hk (fun hk =>
      Goes.leaf) (fun hk =>
      Goes.nok hk)) (fun hk =>
    Goes.nok hk)
def R_ref3_From : List Int → AV := fun (r : List Int) => .rw 3 (.int .i64) r
def S_ref3_From (t : List (El T_api_Ins)) (i : Int) : Empty → Nat × St := fun j => nomatch j
theorem en_ref3_From (t : List (El T_api_Ins)) (i : Int) (L : Lt) : entryA Go.Proofs.Tryd.prog (clOf t_ref3_From) tb_ref3_From Go.Proofs.Tryd.f31 c_ref3_From L (toForms sg_ref3_From (t, i, ())) = (T0_ref3_From t i).run (fun v => some (R_ref3_From v, tps (toForms sg_ref3_From (t, i, ())))) fun j => L (S_ref3_From t i j).1 (S_ref3_From t i j).2 := by kernel_rfl
theorem lp_ref3_From (t : List (El T_api_Ins)) (i : Int) : ∀ (L : Lt) (j : Empty), procOf (procsF Go.Proofs.Tryd.prog (clOf t_ref3_From) tb_ref3_From Go.Proofs.Tryd.f31 c_ref3_From (toForms sg_ref3_From (t, i, ()))) (S_ref3_From t i j).1 L (S_ref3_From t i j).2 = (T_ref3_From t i j).run (fun v => some (R_ref3_From v, tps (toForms sg_ref3_From (t, i, ())))) fun j => L (S_ref3_From t i j).1 (S_ref3_From t i j).2 := fun L j => nomatch j
noncomputable def e_ref3_From : Run := entG sg_ref3_From R_ref3_From (fun a => k_ref3_From a.1 a.2.1) (fun a => v_ref3_From a.1 a.2.1)
theorem ok_ref3_From : EntOK Go.Proofs.Tryd.prog 31 e_ref3_From := entG_ok (tb := tb_ref3_From) (c := c_ref3_From) tk_ref3_From (by kernel_rfl) (by kernel_rfl) (by kernel_rfl) (fun a => by kernel_rfl) fun ⟨t, i, _⟩ hk => evF_goes (c := c_ref3_From) (K := fun v => (R_ref3_From v, tps (toForms sg_ref3_From (t, i, ())))) (S := S_ref3_From t i) (by kernel_rfl) (en_ref3_From t i) (lp_ref3_From t i) (g_ref3_From t i hk)
end
end Go.Ev
end

section
set_option linter.unusedSectionVars false
set_option linter.unusedVariables false
set_option linter.unusedSimpArgs false
set_option maxRecDepth 100000
set_option linter.unusedVariables false
open Go Go.Ev
namespace Go.Ev
noncomputable section
noncomputable def e_ref3_Dead : Run := entG sg_ref3_Dead R_ref3_Dead (fun a => k_ref3_Dead a.1) (fun a => v_ref3_Dead a.1)
theorem ok_ref3_Dead : EntOK Go.Proofs.Tryd.prog 32 e_ref3_Dead := entG_ok (tb := tb_ref3_Dead) (c := c_ref3_Dead) tk_ref3_Dead (by kernel_rfl) (by kernel_rfl) (by kernel_rfl) (fun a => by kernel_rfl) fun ⟨t, _⟩ hk => evF_goes (c := c_ref3_Dead) (K := fun v => (R_ref3_Dead v, tps (toForms sg_ref3_Dead (t, ())))) (S := S_ref3_Dead t) (by kernel_rfl) (en_ref3_Dead t) (lp_ref3_Dead t) (g_ref3_Dead t hk)
end
end Go.Ev
end

section
set_option linter.unusedSectionVars false
set_option linter.unusedVariables false
set_option linter.unusedSimpArgs false
set_option maxRecDepth 100000
set_option linter.unusedVariables false
open Go Go.Ev
namespace Go.Ev
noncomputable section
/-! ### paling/palinglaw20.tells -/
def sg_law20_tells : Sig := [(true, (.sl T_api_Ins)), (false, (.int .i64))]
noncomputable def t_law20_tells : Tbl := [(16, e_flow_Next), (30, e_ref3_Next), (18, e_book_SameInts), (17, e_flow_From), (31, e_ref3_From), (20, e_flow_Dead), (32, e_ref3_Dead)]
theorem tk_law20_tells : ∀ p ∈ t_law20_tells, EntOK Go.Proofs.Tryd.prog p.1 p.2 := tbl_cons ok_flow_Next (tbl_cons ok_ref3_Next (tbl_cons ok_book_SameInts (tbl_cons ok_flow_From (tbl_cons ok_ref3_From (tbl_cons ok_flow_Dead (tbl_cons ok_ref3_Dead (tbl_nil)))))))
noncomputable def c_law20_tells : Code := Go.Proofs.Tryd.f13.body.getD .skip
def tb_law20_tells : Tb := []
def T_law20_tells (t : List (El T_api_Ins)) (i : Int) : Empty → JT Empty (Bool) := fun j => nomatch j
def T0_law20_tells (t : List (El T_api_Ins)) (i : Int) : JT Empty (Bool) :=
  .br (k_flow_Next t i)
    (.br (k_ref3_Next t i)
      (.br (k_book_SameInts (v_flow_Next t i) (v_ref3_Next t i))
        (.br (v_book_SameInts (v_flow_Next t i) (v_ref3_Next t i))
          (.br (k_flow_From t i)
            (.br (k_ref3_From t i)
              (.br (k_book_SameInts (v_flow_From t i) (v_ref3_From t i))
                (.br (v_book_SameInts (v_flow_From t i) (v_ref3_From t i))
                  (.br (k_flow_Dead t)
                    (.br (k_ref3_Dead t)
                      (.br (k_book_SameInts (v_flow_Dead t) (v_ref3_Dead t))
                        (.leaf (v_book_SameInts (v_flow_Dead t) (v_ref3_Dead t)))
                      (.no))
                    (.no))
                  (.no))
                (.leaf false))
              (.no))
            (.no))
          (.no))
        (.leaf false))
      (.no))
    (.no))
  (.no)
def v_law20_tells (t : List (El T_api_Ins)) (i : Int) : Bool :=
  bif (k_flow_Next t i) then
    bif (k_ref3_Next t i) then
      bif (k_book_SameInts (v_flow_Next t i) (v_ref3_Next t i)) then
        bif (v_book_SameInts (v_flow_Next t i) (v_ref3_Next t i)) then
          bif (k_flow_From t i) then
            bif (k_ref3_From t i) then
              bif (k_book_SameInts (v_flow_From t i) (v_ref3_From t i)) then
                bif (v_book_SameInts (v_flow_From t i) (v_ref3_From t i)) then
                  bif (k_flow_Dead t) then
                    bif (k_ref3_Dead t) then
                      bif (k_book_SameInts (v_flow_Dead t) (v_ref3_Dead t)) then
                        (v_book_SameInts (v_flow_Dead t) (v_ref3_Dead t))
                      else false
                    else false
                  else false
                else false
              else false
            else false
          else false
        else false
      else false
    else false
  else false
def k_law20_tells (t : List (El T_api_Ins)) (i : Int) : Bool :=
  bif (k_flow_Next t i) then
    bif (k_ref3_Next t i) then
      bif (k_book_SameInts (v_flow_Next t i) (v_ref3_Next t i)) then
        bif (v_book_SameInts (v_flow_Next t i) (v_ref3_Next t i)) then
          bif (k_flow_From t i) then
            bif (k_ref3_From t i) then
              bif (k_book_SameInts (v_flow_From t i) (v_ref3_From t i)) then
                bif (v_book_SameInts (v_flow_From t i) (v_ref3_From t i)) then
                  bif (k_flow_Dead t) then
                    bif (k_ref3_Dead t) then
                      bif (k_book_SameInts (v_flow_Dead t) (v_ref3_Dead t)) then
                        true
                      else false
                    else false
                  else false
                else true
              else false
            else false
          else false
        else true
      else false
    else false
  else false
theorem g_law20_tells (t : List (El T_api_Ins)) (i : Int) (hk : k_law20_tells t i = true) : Goes (T_law20_tells t i) (T0_law20_tells t i) (v_law20_tells t i) :=
  Goes.brk hk (fun hk =>
    Goes.brk hk (fun hk =>
      Goes.brk hk (fun hk =>
        Goes.brk hk (fun hk =>
          Goes.brk hk (fun hk =>
            Goes.brk hk (fun hk =>
              Goes.brk hk (fun hk =>
                Goes.brk hk (fun hk =>
                  Goes.brk hk (fun hk =>
                    Goes.brk hk (fun hk =>
                      Goes.brk hk (fun hk =>
                        Goes.leaf) (fun hk =>
                        Goes.nok hk)) (fun hk =>
                      Goes.nok hk)) (fun hk =>
                    Goes.nok hk)) (fun hk =>
                  Goes.leaf)) (fun hk =>
                Goes.nok hk)) (fun hk =>
              Goes.nok hk)) (fun hk =>
            Goes.nok hk)) (fun hk =>
          Goes.leaf)) (fun hk =>
        Goes.nok hk)) (fun hk =>
      Goes.nok hk)) (fun hk =>
    Goes.nok hk)
def R_law20_tells : Bool → AV := fun (r : Bool) => .d .bool r
def S_law20_tells (t : List (El T_api_Ins)) (i : Int) : Empty → Nat × St := fun j => nomatch j
theorem en_law20_tells (t : List (El T_api_Ins)) (i : Int) (L : Lt) : entryA Go.Proofs.Tryd.prog (clOf t_law20_tells) tb_law20_tells Go.Proofs.Tryd.f13 c_law20_tells L (toForms sg_law20_tells (t, i, ())) = (T0_law20_tells t i).run (fun v => some (R_law20_tells v, tps (toForms sg_law20_tells (t, i, ())))) fun j => L (S_law20_tells t i j).1 (S_law20_tells t i j).2 := by kernel_rfl
theorem lp_law20_tells (t : List (El T_api_Ins)) (i : Int) : ∀ (L : Lt) (j : Empty), procOf (procsF Go.Proofs.Tryd.prog (clOf t_law20_tells) tb_law20_tells Go.Proofs.Tryd.f13 c_law20_tells (toForms sg_law20_tells (t, i, ()))) (S_law20_tells t i j).1 L (S_law20_tells t i j).2 = (T_law20_tells t i j).run (fun v => some (R_law20_tells v, tps (toForms sg_law20_tells (t, i, ())))) fun j => L (S_law20_tells t i j).1 (S_law20_tells t i j).2 := fun L j => nomatch j
noncomputable def e_law20_tells : Run := entG sg_law20_tells R_law20_tells (fun a => k_law20_tells a.1 a.2.1) (fun a => v_law20_tells a.1 a.2.1)
theorem ok_law20_tells : EntOK Go.Proofs.Tryd.prog 13 e_law20_tells := entG_ok (tb := tb_law20_tells) (c := c_law20_tells) tk_law20_tells (by kernel_rfl) (by kernel_rfl) (by kernel_rfl) (fun a => by kernel_rfl) fun ⟨t, i, _⟩ hk => evF_goes (c := c_law20_tells) (K := fun v => (R_law20_tells v, tps (toForms sg_law20_tells (t, i, ())))) (S := S_law20_tells t i) (by kernel_rfl) (en_law20_tells t i) (lp_law20_tells t i) (g_law20_tells t i hk)
theorem co_law20_tells (t : List (El T_api_Ins)) (i : Int) (hk : k_law20_tells t i = true) : CallOK Go.Proofs.Tryd.prog 13 (toForms sg_law20_tells (t, i, ())) (R_law20_tells (v_law20_tells t i), tps (toForms sg_law20_tells (t, i, ()))) := by
  obtain ⟨h1, h2⟩ := clOf_ok tk_law20_tells
  obtain ⟨n, hn⟩ := evF_goes (c := c_law20_tells) (K := fun v => (R_law20_tells v, tps (toForms sg_law20_tells (t, i, ())))) (S := S_law20_tells t i) (by kernel_rfl) (en_law20_tells t i) (lp_law20_tells t i) (g_law20_tells t i hk)
  exact evF_sound (f := 13) (c := c_law20_tells) h1 h2 (by kernel_rfl) (by kernel_rfl) (by kernel_rfl) hn
end
end Go.Ev
end

section
set_option linter.unusedSectionVars false
set_option linter.unusedVariables false
set_option linter.unusedSimpArgs false
/- Chapter 20: both texts tell the same. -/
set_option maxRecDepth 100000
set_option linter.unusedVariables false
set_option linter.unusedSimpArgs false
open Go
namespace Go.Ev
theorem small_flow {t : List (El T_api_Ins)} (h : smallThread t = true) : flowOK t = true := by
  unfold smallThread at h
  simp only [Bool.and_eq_true, List.all_eq_true, decide_eq_true_eq] at h
  unfold flowOK
  simp only [Bool.and_eq_true, List.all_eq_true, decide_eq_true_eq]
  refine ⟨h.1, fun i hi => ⟨(h.2.2 i hi).1, ?_⟩⟩
  have := labels_mem hi
  omega
theorem refNext_eq {t : List (El T_api_Ins)} (h : flowOK t = true) (i : Int) : k_ref3_Next t i = true ∧ v_ref3_Next t i = v_flow_Next t i := by
  have k1 : k_ref3_next t i = true := h
  have k2 : k_ref3_List (v_ref3_next t i) = true := decide_eq_true (by unfold v_ref3_next; rw [rowOf_length]; exact flowOK_len h)
  unfold k_ref3_Next v_ref3_Next
  rw [k1, k2]
  exact ⟨rfl, list_row⟩
theorem refFrom_eq {t : List (El T_api_Ins)} (h : flowOK t = true) (i : Int) : k_ref3_From t i = true ∧ v_ref3_From t i = v_flow_From t i := by
  have k1 : k_ref3_from t i = true := h
  have k2 : k_ref3_List (v_ref3_from t i) = true := decide_eq_true (by unfold v_ref3_from; rw [rowOf_length]; exact flowOK_len h)
  unfold k_ref3_From v_ref3_From
  rw [k1, k2]
  exact ⟨rfl, list_row⟩
theorem same_ints {l : List Int} (h : l.length < 4611686018427387904) : k_book_SameInts l l = true ∧ v_book_SameInts l l = true := ⟨decide_eq_true h, decide_eq_true rfl⟩
theorem listOf_short {n : Nat} {M : Nat → Bool} : (listOf n M).length ≤ n := by rw [listOf_length]; exact card_le
theorem tells20 {t : List (El T_api_Ins)} (h : flowOK t = true) (i : Int) : k_law20_tells t i = true ∧ v_law20_tells t i = true := by
  have hl := flowOK_len h
  have a1 : k_flow_Next t i = true := h
  have a2 : k_flow_From t i = true := h
  have a3 : k_flow_Dead t = true := h
  have a4 : k_ref3_Dead t = true := h
  obtain ⟨b1, b2⟩ := refNext_eq h i
  obtain ⟨c1, c2⟩ := refFrom_eq h i
  have d : v_ref3_Dead t = v_flow_Dead t := rfl
  obtain ⟨e1, e2⟩ := @same_ints (v_flow_Next t i) (by have := @listOf_short t.length (nextB t i); unfold v_flow_Next; omega)
  obtain ⟨f1, f2⟩ := @same_ints (v_flow_From t i) (by have := @listOf_short t.length (fromB t i); unfold v_flow_From; omega)
  obtain ⟨g1, g2⟩ := @same_ints (v_flow_Dead t) (by have := @listOf_short t.length (deadB t); unfold v_flow_Dead; omega)
  unfold k_law20_tells v_law20_tells
  simp only [a1, a2, a3, a4, b1, b2, c1, c2, d, e1, e2, f1, f2, g1, g2, cond_true, and_self]
theorem alive20 : k_law20_alive = true ∧ v_law20_alive = true := by
  rw [ka_law20_alive_eq, va_law20_alive_eq]
  have hk : flowOK lit_law20_alive = true := by decide +kernel
  have a1 : k_flow_Next lit_law20_alive 1 = true := hk
  have a2 : k_flow_From lit_law20_alive 0 = true := hk
  have a3 : k_flow_Dead lit_law20_alive = true := hk
  have a4 : k_flow_Next lit_law20_alive 3 = true := hk
  have e1 : v_flow_Next lit_law20_alive 1 = [0] := by decide +kernel
  have e4 : v_flow_Next lit_law20_alive 3 = [] := by decide +kernel
  have n0 : ∀ j, j < 3 → nextB lit_law20_alive ((0 : Nat) : Int) j = decide (j = 1) := by decide +kernel
  have n1 : ∀ j, j < 3 → nextB lit_law20_alive ((1 : Nat) : Int) j = decide (j = 0) := by decide +kernel
  have n2 : ∀ j, j < 3 → nextB lit_law20_alive ((2 : Nat) : Int) j = false := by decide +kernel
  have hl3 : lit_law20_alive.length = 3 := rfl
  have hlt : ∀ (k j : Nat), nextB lit_law20_alive (k : Int) j = true → j < 3 ∧ k < 3 := fun k j h => by
    refine ⟨nextB_lt h, ?_⟩
    unfold nextB at h
    rw [Bool.and_eq_true] at h
    have := (of_decide_eq_true h.1).2.1
    rw [hl3] at this
    omega
  have hf : ∀ j, fromB lit_law20_alive 0 j = decide (j < 2) := fun j => by
    refine (comeB_eq (M := fun j => decide (j < 2)) (fun j hj => ?_) (fun k j hk hj => ?_) (fun j hj => ?_) j).symm
    · have h3 := (hlt 0 j hj).1
      have := n0 j h3
      rw [show nextB lit_law20_alive ((0 : Nat) : Int) j = true from hj] at this
      have : j = 1 := by simpa using this.symm
      subst this; rfl
    · have h3 := hlt k j hj
      have hk2 : k < 2 := of_decide_eq_true hk
      have : k = 0 ∨ k = 1 := by omega
      rcases this with rfl | rfl
      · rw [n0 j h3.1] at hj; have : j = 1 := of_decide_eq_true hj; subst this; rfl
      · rw [n1 j h3.1] at hj; have : j = 0 := of_decide_eq_true hj; subst this; rfl
    · have h2 : j < 2 := of_decide_eq_true hj
      have s1 : Come (fun k j => nextB lit_law20_alive (k : Int) j) (nextB lit_law20_alive 0) 1 := .start (n0 1 (by omega))
      have : j = 0 ∨ j = 1 := by omega
      rcases this with rfl | rfl
      · exact .step s1 (n1 0 (by omega))
      · exact s1
  have e2 : v_flow_From lit_law20_alive 0 = [0, 1] := by
    unfold v_flow_From
    rw [show fromB lit_law20_alive 0 = fun j => decide (j < 2) from funext hf, hl3]
    rfl
  have e3 : v_flow_Dead lit_law20_alive = [2] := by
    unfold v_flow_Dead
    rw [show deadB lit_law20_alive = fun j => decide (0 < j) && !decide (j < 2) from funext fun j => by unfold deadB; rw [hf j], hl3]
    rfl
  unfold ka_law20_alive va_law20_alive
  rw [a1, a2, a3, a4, e1, e2, e3, e4]
  exact ⟨by decide +kernel, by decide +kernel⟩
end Go.Ev
end

section
set_option linter.unusedSectionVars false
set_option linter.unusedVariables false
set_option linter.unusedSimpArgs false
/- A row without jumps, and one at its end: where it leads. -/
set_option maxRecDepth 100000
set_option linter.unusedVariables false
set_option linter.unusedSimpArgs false
open Go
namespace Go.Ev
def insP (op : Int) (to : ByteArray) (ls : List ByteArray) : El T_api_Ins := (op, false, (0 : Int), ((0 : Int), (0 : Int), (0 : Int), (0 : Int)), ((0 : Int), (0 : Int), (0 : Int), (0 : Int)), to, ls)
def nopI : El T_api_Ins := insP 13 (bs []) []
def labI : El T_api_Ins := insP 13 (bs []) [bs [97]]
def endI (jump : Bool) : El T_api_Ins := if jump then insP 10 (bs [97]) [] else insP 14 (bs []) []
def rowT (N p : Nat) (jump : Bool) : List (El T_api_Ins) := List.replicate p nopI ++ labI :: (List.replicate (N - 1 - p) nopI ++ [endI jump])
theorem rowT_len {N p : Nat} {jump : Bool} (h : p < N) : (rowT N p jump).length = N + 1 := by
  unfold rowT; simp; omega
theorem rowT_get {N p : Nat} {jump : Bool} (h : p < N) {i : Nat} (hi : i ≤ N) : (rowT N p jump).getD i (dflt T_api_Ins) = if i = N then endI jump else if i = p then labI else nopI := by
  unfold rowT
  rw [List.getD_eq_getElem?_getD]
  by_cases h1 : i < p
  · rw [List.getElem?_append_left (by simpa using h1), if_neg (by omega), if_neg (by omega)]
    simp [h1]
  · rw [List.getElem?_append_right (by simpa using h1), List.length_replicate]
    by_cases h2 : i = p
    · subst h2
      rw [if_neg (by omega), if_pos rfl, Nat.sub_self]; rfl
    · obtain ⟨d, hd⟩ : ∃ d, i - p = d + 1 := ⟨i - p - 1, by omega⟩
      rw [hd, List.getElem?_cons_succ]
      by_cases h3 : i = N
      · rw [if_pos h3, List.getElem?_append_right (by simp; omega), List.length_replicate, show d - (N - 1 - p) = 0 by omega]; rfl
      · rw [if_neg h3, if_neg h2, List.getElem?_append_left (by simp; omega), List.getElem?_replicate, if_pos (by omega)]
        rfl
theorem find_row {rest : List (El T_api_Ins)} : ∀ (p k : Nat), findI (bs [97]) (List.replicate p nopI ++ labI :: rest) k = ((k + p : Nat) : Int)
  | 0, k => by
    have e : labI.2.2.2.2.2.2.contains (bs [97]) = true := by decide +kernel
    rw [List.replicate_zero, List.nil_append, findI, if_pos e, Nat.add_zero]
  | p + 1, k => by
    have e : ¬ nopI.2.2.2.2.2.2.contains (bs [97]) = true := by decide +kernel
    rw [List.replicate_succ, List.cons_append, findI, if_neg e, find_row p (k + 1)]
    omega
theorem lead_nop : v_ins_Leads nopI = (true, false) := by decide +kernel
theorem lead_lab : v_ins_Leads labI = (true, false) := by decide +kernel
theorem lead_jmp : v_ins_Leads (endI true) = (false, true) := by decide +kernel
theorem lead_hlt : v_ins_Leads (endI false) = (false, false) := by decide +kernel
theorem rowT_ok {N p : Nat} {jump : Bool} (h : p < N) (hN : N ≤ 12) : flowOK (rowT N p jump) = true := by
  unfold flowOK
  rw [Bool.and_eq_true]
  refine ⟨decide_eq_true (by rw [rowT_len h]; omega), List.all_eq_true.2 fun i hi => ?_⟩
  have e1 : (smallText nopI.2.2.2.2.2.1 && decide (nopI.2.2.2.2.2.2.length < 1099511627776)) = true := by decide +kernel
  have e2 : (smallText labI.2.2.2.2.2.1 && decide (labI.2.2.2.2.2.2.length < 1099511627776)) = true := by decide +kernel
  have e3 : ∀ b, (smallText (endI b).2.2.2.2.2.1 && decide ((endI b).2.2.2.2.2.2.length < 1099511627776)) = true := by decide +kernel
  unfold rowT at hi
  simp only [List.mem_append, List.mem_cons, List.mem_singleton, List.not_mem_nil, or_false] at hi
  rcases hi with hi | rfl | hi | rfl
  · rw [List.eq_of_mem_replicate hi]; exact e1
  · exact e2
  · rw [List.eq_of_mem_replicate hi]; exact e1
  · exact e3 jump
theorem rowT_next {N p : Nat} {jump : Bool} (h : p < N) {i j : Nat} : nextB (rowT N p jump) (i : Int) j = true ↔ (i < N ∧ j = i + 1) ∨ (i = N ∧ jump = true ∧ j = p) := by
  unfold nextB
  rw [rowT_len h, Int.toNat_natCast]
  have ho : ∀ i, i ≤ N → onOf (rowT N p jump) i = decide (i < N) := fun i hi => by
    unfold onOf
    rw [rowT_get h hi]
    by_cases h1 : i = N
    · rw [if_pos h1, decide_eq_false (by omega)]
      cases jump
      · rw [lead_hlt]
      · rw [lead_jmp]
    · rw [if_neg h1, decide_eq_true (by omega)]
      split
      · rw [lead_lab]
      · rw [lead_nop]
  have ht : ∀ i, i ≤ N → toOf (rowT N p jump) i = if i = N ∧ jump = true then (p : Int) else -1 := fun i hi => by
    unfold toOf
    rw [rowT_get h hi]
    by_cases h1 : i = N
    · rw [if_pos h1]
      cases jump
      · rw [lead_hlt, if_neg (by decide), if_neg (by simp)]
      · rw [lead_jmp, if_pos rfl, if_pos ⟨h1, rfl⟩]
        have : (endI true).2.2.2.2.2.1 = bs [97] := rfl
        rw [this]
        unfold rowT
        rw [find_row p 0, Nat.zero_add]
    · rw [if_neg h1, if_neg (c := i = N ∧ _) (fun h => h1 h.1)]
      split
      · rw [lead_lab, if_neg (by decide)]
      · rw [lead_nop, if_neg (by decide)]
  simp only [Bool.and_eq_true, Bool.or_eq_true, decide_eq_true_eq]
  constructor
  · rintro ⟨⟨_, h1, h2⟩, h3⟩
    rw [ho i (by omega), ht i (by omega)] at h3
    rcases h3 with ⟨h3, h4⟩ | h3
    · exact .inl ⟨of_decide_eq_true h3, by omega⟩
    · split at h3
      · rename_i hc; exact .inr ⟨hc.1, hc.2, by omega⟩
      · omega
  · rintro (⟨h1, h2⟩ | ⟨h1, h2, h3⟩)
    · refine ⟨⟨by omega, by omega, by omega⟩, .inl ⟨?_, by omega⟩⟩
      rw [ho i (by omega)]; exact decide_eq_true h1
    · refine ⟨⟨by omega, by omega, by omega⟩, .inr ?_⟩
      rw [ht i (by omega), if_pos ⟨h1, h2⟩, h3]
/-- The first to which one comes. -/
def loR (p : Nat) (jump : Bool) (i : Nat) : Nat := if jump = true ∧ ¬ i < p then min (i + 1) p else i + 1
theorem rowT_from {N p : Nat} {jump : Bool} (h : p < N) {i : Nat} (hi : i ≤ N) (j : Nat) : fromB (rowT N p jump) (i : Int) j = (decide (loR p jump i ≤ j) && decide (j ≤ N)) := by
  unfold fromB
  refine (comeB_eq (M := fun j => decide (loR p jump i ≤ j) && decide (j ≤ N)) (fun j hj => ?_) (fun k j hk hj => ?_) (fun j hj => ?_) j).symm
  · simp only [Bool.and_eq_true, decide_eq_true_eq]
    unfold loR
    rcases (rowT_next h).1 hj with ⟨h1, h2⟩ | ⟨h1, h2, h3⟩
    · split <;> omega
    · rw [if_pos ⟨h2, by omega⟩]; omega
  · simp only [Bool.and_eq_true, decide_eq_true_eq] at hk ⊢
    unfold loR at *
    rcases (rowT_next h).1 hj with ⟨h1, h2⟩ | ⟨h1, h2, h3⟩
    · by_cases hc : jump = true ∧ ¬ i < p
      · rw [if_pos hc] at *; omega
      · rw [if_neg hc] at *; omega
    · by_cases hip : i < p
      · rw [if_neg (fun h => h.2 hip)] at *; omega
      · rw [if_pos ⟨h2, hip⟩] at *; omega
  · simp only [Bool.and_eq_true, decide_eq_true_eq] at hj
    -- upwards
    have up : ∀ a, Come (fun k j => nextB (rowT N p jump) (k : Int) j) (nextB (rowT N p jump) (i : Int)) a → ∀ d, a + d ≤ N → Come (fun k j => nextB (rowT N p jump) (k : Int) j) (nextB (rowT N p jump) (i : Int)) (a + d) := by
      intro a ha d
      induction d with
      | zero => intro _; exact ha
      | succ d ih =>
        intro hd
        exact .step (ih (by omega)) ((rowT_next h).2 (.inl ⟨by omega, by omega⟩))
    have above : ∀ j, i < j → j ≤ N → Come (fun k j => nextB (rowT N p jump) (k : Int) j) (nextB (rowT N p jump) (i : Int)) j := fun j h1 h2 => by
      have s : Come (fun k j => nextB (rowT N p jump) (k : Int) j) (nextB (rowT N p jump) (i : Int)) (i + 1) := .start ((rowT_next h).2 (.inl ⟨by omega, rfl⟩))
      have := up (i + 1) s (j - (i + 1)) (by omega)
      rwa [show i + 1 + (j - (i + 1)) = j by omega] at this
    unfold loR at hj
    split at hj
    · rename_i hc
      have hp : Come (fun k j => nextB (rowT N p jump) (k : Int) j) (nextB (rowT N p jump) (i : Int)) p := by
        by_cases hiN : i = N
        · exact .start ((rowT_next h).2 (.inr ⟨hiN, hc.1, rfl⟩))
        · exact .step (above N (by omega) (Nat.le_refl _)) ((rowT_next h).2 (.inr ⟨rfl, hc.1, rfl⟩))
      have := up p hp (j - p) (by omega)
      rwa [show p + (j - p) = j by omega] at this
    · exact above j (by omega) hj.2
end Go.Ev
end

section
set_option linter.unusedSectionVars false
set_option linter.unusedVariables false
set_option linter.unusedSimpArgs false
/- The helper Pick, and what is made with it. -/
set_option linter.unusedVariables false
namespace Go.Ev
open Go
theorem pick_lt {n m : Int} (h1 : 0 < m) (h2 : m < 9223372036854775808) : k_book_Pick n m = true ∧ 0 ≤ v_book_Pick n m ∧ v_book_Pick n m < m := by
  have h0 : (m == 0) = false := by simp; omega
  have hl : Int.tmod n m < m := Int.tmod_lt_of_pos n h1
  have hg : -m < Int.tmod n m := by have := Int.tmod_lt_of_pos (-n) h1; rw [Int.neg_tmod] at this; omega
  unfold k_book_Pick v_book_Pick
  simp only [h0, cond_false, Bool.cond_self, true_and]
  by_cases hn : Int.tmod n m < 0
  · simp only [hn, decide_true, cond_true]
    rw [wrap_i64 (by omega) (by omega)]
    omega
  · simp only [hn, decide_false, cond_false]
    omega
theorem pick_fin {P : Int → Prop} {n m : Int} (h1 : 0 < m) (h2 : m < 9223372036854775808) (h : ∀ k : Fin m.toNat, P (k.1 : Int)) : P (v_book_Pick n m) := by
  obtain ⟨_, h3, h4⟩ := pick_lt (n := n) h1 h2
  have := h ⟨(v_book_Pick n m).toNat, by omega⟩
  rwa [Int.toNat_of_nonneg h3] at this
end Go.Ev
end

section
set_option linter.unusedSectionVars false
set_option linter.unusedVariables false
set_option linter.unusedSimpArgs false
set_option maxRecDepth 100000
set_option linter.unusedVariables false
set_option linter.unusedSimpArgs false
open Go
namespace Go.Ev
def v_law20_FlowRow (n to_ : Int) (jump : Bool) : Bool := true
def k_law20_FlowRow (n to_ : Int) (jump : Bool) : Bool := true
theorem row_set {N p : Nat} {jump : Bool} (h : p < N) : List.set (List.replicate N nopI) p labI ++ [endI jump] = rowT N p jump := by
  unfold rowT
  rw [show List.replicate N nopI = List.replicate p nopI ++ nopI :: List.replicate (N - 1 - p) nopI by
    rw [← List.replicate_succ, List.replicate_append_replicate]; congr 1; omega]
  rw [List.set_append_right _ _ (by simp), List.length_replicate, Nat.sub_self, List.set_cons_zero, List.append_assoc, List.cons_append]
theorem g_law20_FlowRow (n to_ : Int) (jump : Bool) (hk : k_law20_FlowRow n to_ jump = true) : Goes (T_law20_FlowRow n to_ jump) (T0_law20_FlowRow n to_ jump) (v_law20_FlowRow n to_ jump) := by
  obtain ⟨ka, va⟩ := alive20
  obtain ⟨kn, n0, n1⟩ := pick_lt (n := n) (m := 12) (by omega) (by omega)
  obtain ⟨a, ha⟩ := Int.eq_ofNat_of_zero_le n0
  have hw : IntKind.i64.wrap (1 + v_book_Pick n 12) = ((a + 1 : Nat) : Int) := by rw [wrap_i64 (by omega) (by omega), ha]; omega
  generalize hN : a + 1 = N at hw
  have hN12 : N ≤ 12 := by omega
  obtain ⟨kt, t0, t1⟩ := pick_lt (n := to_) (m := ((N : Nat) : Int)) (by omega) (by omega)
  obtain ⟨p, hp⟩ := Int.eq_ofNat_of_zero_le t0
  have hpN : p < N := by omega
  unfold T0_law20_FlowRow v_law20_FlowRow
  rw [goes_br, if_pos kn, goes_br, hw, if_pos kt]
  have hf := rowT_ok (jump := jump) hpN hN12
  have hlen := rowT_len (jump := jump) hpN
  -- the rows' ends
  have want : ∀ (i k0 : Nat), i ≤ N → k0 = loR p jump i → Goes (T_law20_FlowRow n to_ jump) (.jmp (.l17 (rowT N p jump) ((i + 1 : Nat) : Int))) true → ∀ k, k ≤ N + 1 → k0 ≤ k → Goes (T_law20_FlowRow n to_ jump) (.jmp (.l29 (rowT N p jump) (k : Int) ((List.range' k0 (k - k0)).map Int.ofNat) (i : Int))) true := by
    intro i k0 hi hk0 hnext
    refine down ?_ fun k hk ih => ?_
    · intro _
      have kf : k_flow_From (rowT N p jump) (i : Int) = true := hf
      have e : v_flow_From (rowT N p jump) (i : Int) = (List.range' k0 (N + 1 - k0)).map Int.ofNat := by
        refine strict_ext listOf_strict ?_ fun x => ?_
        · rw [List.pairwise_map]
          exact (List.pairwise_lt_range' (step := 1) (by omega)).imp fun {a b} h => by show (a : Int) < (b : Int); omega
        · unfold v_flow_From
          rw [listOf_mem, List.mem_map]
          constructor
          · rintro ⟨j, hj, hb, rfl⟩
            rw [rowT_from hpN hi] at hb
            simp only [Bool.and_eq_true, decide_eq_true_eq] at hb
            exact ⟨j, List.mem_range'_1.2 ⟨by omega, by omega⟩, rfl⟩
          · rintro ⟨j, hj, rfl⟩
            have := List.mem_range'_1.1 hj
            refine ⟨j, by omega, ?_, rfl⟩
            rw [rowT_from hpN hi]
            simp only [Bool.and_eq_true, decide_eq_true_eq]
            omega
      obtain ⟨s1, s2⟩ := @same_ints ((List.range' k0 (N + 1 - k0)).map Int.ofNat) (by simp; omega)
      rw [goes_jmp, T_law20_FlowRow, goes_br, hw, if_neg (by simp <;> omega), goes_br, if_pos kf, e, goes_br, if_pos s1, goes_br, if_neg (by rw [s2]; decide), wrap_succ (by omega)]
      exact hnext
    · intro hle
      rw [goes_jmp, T_law20_FlowRow, goes_br, hw, if_pos (by simp; omega), goes_br, if_pos (Nat.ble_eq_true_of_le (by unfold limit; simp; omega)), wrap_succ (by omega)]
      have := ih (by omega)
      rw [show k + 1 - k0 = (k - k0) + 1 by omega, List.range'_concat, List.map_append] at this
      rw [show k0 + 1 * (k - k0) = k by omega] at this
      exact this
  have rows : ∀ i, i ≤ N + 1 → Goes (T_law20_FlowRow n to_ jump) (.jmp (.l17 (rowT N p jump) (i : Int))) true := by
    refine down ?_ fun i hi ih => ?_
    · have kd : k_flow_Dead (rowT N p jump) = true := hf
      have e : v_flow_Dead (rowT N p jump) = [] := by
        unfold v_flow_Dead listOf
        rw [List.map_eq_nil_iff, List.filter_eq_nil_iff]
        intro j hj hb
        have hj := List.mem_range.1 hj
        unfold deadB at hb
        rw [show (0 : Int) = ((0 : Nat) : Int) from rfl, rowT_from hpN (Nat.zero_le _)] at hb
        simp only [Bool.and_eq_true, decide_eq_true_eq, Bool.not_eq_true', Bool.and_eq_false_iff, decide_eq_false_iff_not] at hb
        unfold loR at hb
        split at hb <;> omega
      rw [goes_jmp, T_law20_FlowRow, goes_br, hw, if_neg (by simp <;> omega), goes_br, if_pos kd, e, goes_br, if_pos (by rfl), goes_br, if_pos ka, va]
      exact .leaf
    · rw [goes_jmp, T_law20_FlowRow, goes_br, hw, if_pos (by simp; omega), goes_br, hp, wrap_succ (by omega)]
      have w := want i (loR p jump i) (by omega) rfl ih (loR p jump i) (by unfold loR; split <;> omega) (Nat.le_refl _)
      rw [Nat.sub_self] at w
      have w : Goes (T_law20_FlowRow n to_ jump) (.jmp (.l29 (rowT N p jump) ((loR p jump i : Nat) : Int) [] (i : Int))) true := w
      unfold loR at w
      cases jump with
      | false =>
        rw [if_neg (by simp)] at w
        rw [if_neg (by decide)]
        exact w
      | true =>
        rw [if_pos rfl, goes_br]
        by_cases hip : i < p
        · rw [if_neg (fun h => h.2 hip)] at w
          rw [if_pos (decide_eq_true (show (i : Int) < (p : Int) by omega))]
          exact w
        · rw [if_pos ⟨rfl, hip⟩] at w
          rw [if_neg (by simp; omega)]
          rw [show minI ((i + 1 : Nat) : Int) (p : Int) = ((min (i + 1) p : Nat) : Int) by unfold minI; split <;> omega]
          exact w
  -- the thread
  have build : ∀ k, k ≤ N → Goes (T_law20_FlowRow n to_ jump) (.jmp (.l6 (k : Int) (List.replicate k nopI))) true := by
    refine down ?_ fun k hk ih => ?_
    · have hg : List.getD (List.replicate N nopI) p (dflt T_api_Ins) = nopI := by simp [List.getD, hpN]
      have h0 := rows 0 (by omega)
      rw [← row_set hpN] at h0
      rw [goes_jmp, T_law20_FlowRow, goes_br, hw, if_neg (by simp), goes_br, hp, if_pos (by simp; omega), goes_br, Int.toNat_natCast, hg]
      have hb : Nat.ble (((List.set (List.replicate N nopI) p labI).length + 1) * 128) limit = true := Nat.ble_eq_true_of_le (by unfold limit; simp; omega)
      cases jump with
      | true =>
        rw [if_pos rfl, goes_br]
        refine (if_pos (c := _ = true) hb) ▸ ?_
        exact h0
      | false =>
        rw [if_neg (by decide), goes_br]
        refine (if_pos (c := _ = true) hb) ▸ ?_
        exact h0
    · rw [goes_jmp, T_law20_FlowRow, goes_br, hw, if_pos (by simp; omega), goes_br, if_pos (Nat.ble_eq_true_of_le (by unfold limit; simp; omega)), wrap_succ (by omega)]
      rw [List.replicate_succ'] at ih
      exact ih
  exact build 0 (Nat.zero_le _)
end Go.Ev
end

section
set_option linter.unusedSectionVars false
set_option linter.unusedVariables false
set_option linter.unusedSimpArgs false
set_option maxRecDepth 100000
set_option linter.unusedVariables false
open Go Go.Ev
namespace Go.Ev
noncomputable section
noncomputable def e_law20_FlowRow : Run := entG sg_law20_FlowRow R_law20_FlowRow (fun a => k_law20_FlowRow a.1 a.2.1 a.2.2.1) (fun a => v_law20_FlowRow a.1 a.2.1 a.2.2.1)
theorem ok_law20_FlowRow : EntOK Go.Proofs.Tryd.prog 6 e_law20_FlowRow := entG_ok (tb := tb_law20_FlowRow) (c := c_law20_FlowRow) tk_law20_FlowRow (by kernel_rfl) (by kernel_rfl) (by kernel_rfl) (fun a => by kernel_rfl) fun ⟨n, to_, jump, _⟩ hk => evF_goes (c := c_law20_FlowRow) (K := fun v => (R_law20_FlowRow v, tps (toForms sg_law20_FlowRow (n, to_, jump, ())))) (S := S_law20_FlowRow n to_ jump) (by kernel_rfl) (en_law20_FlowRow n to_ jump) (lp_law20_FlowRow n to_ jump) (g_law20_FlowRow n to_ jump hk)
theorem co_law20_FlowRow (n : Int) (to_ : Int) (jump : Bool) (hk : k_law20_FlowRow n to_ jump = true) : CallOK Go.Proofs.Tryd.prog 6 (toForms sg_law20_FlowRow (n, to_, jump, ())) (R_law20_FlowRow (v_law20_FlowRow n to_ jump), tps (toForms sg_law20_FlowRow (n, to_, jump, ()))) := by
  obtain ⟨h1, h2⟩ := clOf_ok tk_law20_FlowRow
  obtain ⟨n, hn⟩ := evF_goes (c := c_law20_FlowRow) (K := fun v => (R_law20_FlowRow v, tps (toForms sg_law20_FlowRow (n, to_, jump, ())))) (S := S_law20_FlowRow n to_ jump) (by kernel_rfl) (en_law20_FlowRow n to_ jump) (lp_law20_FlowRow n to_ jump) (g_law20_FlowRow n to_ jump hk)
  exact evF_sound (f := 6) (c := c_law20_FlowRow) h1 h2 (by kernel_rfl) (by kernel_rfl) (by kernel_rfl) hn
end
end Go.Ev
end

section
set_option linter.unusedSectionVars false
set_option linter.unusedVariables false
set_option linter.unusedSimpArgs false
set_option maxRecDepth 100000
set_option linter.unusedVariables false
namespace Go.Ev
open Go
theorem call_law20_FlowRow (a : Args sg_law20_FlowRow) (ha : smallArgs sg_law20_FlowRow a) : CallOK Go.Proofs.Tryd.prog fid_law20_FlowRow (toForms sg_law20_FlowRow a) (.d .bool true, tps (toForms sg_law20_FlowRow a)) := by
  obtain ⟨n, to, jump, _⟩ := a
  exact co_law20_FlowRow n to jump rfl
end Go.Ev
end
